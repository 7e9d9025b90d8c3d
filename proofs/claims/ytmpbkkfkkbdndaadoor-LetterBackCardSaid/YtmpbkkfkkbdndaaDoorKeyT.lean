/- Words of texts, apart from their walks. -/
import Derived.Test.YtmpbkkfkkbdndaaDoorNumR
namespace Go.Lv
open Go Go.Proofs Go.IntWalk
theorem itoaD_len20 (n : Int) (h0 : 0 ≤ n) (h : n ≤ 4611686018427387904) : (itoaD n).length ≤ 20 := by
  rw [itoaD_eq (by omega) (by omega)]
  unfold Lib.itoa
  rw [if_neg (by omega)]
  exact dec_len _ (by omega)
theorem dec_isD {u : Nat} {x : UInt8} (h : x ∈ Lib.decDigits u) : 48 ≤ x.toNat := by
  have := List.all_eq_true.1 (dec_all u) x h
  exact (isD_iff.1 this).1
def splitGo (c : UInt8) : List UInt8 → List UInt8 → List (List UInt8)
  | cur, [] => [cur]
  | cur, x :: l => if x = c then cur :: splitGo c [] l else splitGo c (cur ++ [x]) l
end Go.Lv
