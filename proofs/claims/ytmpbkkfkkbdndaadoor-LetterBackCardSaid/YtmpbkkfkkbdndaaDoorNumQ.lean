/- Num: numbers of texts: their words alone. -/
import Derived.Test.YtmpbkkfkkbdndaaDoorNumF
namespace Go.Lv
open Go Go.Proofs Go.IntWalk
set_option maxRecDepth 100000
set_option linter.unusedSimpArgs false
theorem ty21 : ty Tryd.prog 21 = .int .i32 := by kernel_rfl
variable {E : Env}
def Hd (p : Prop) : Prop := p
theorem Hd.out {p : Prop} (h : Hd p) : p := h
def isD (b : UInt8) : Bool := decide (48 ≤ b.toNat) && decide (b.toNat ≤ 57)
theorem isD_iff {b : UInt8} : isD b = true ↔ 48 ≤ b.toNat ∧ b.toNat ≤ 57 := by simp [isD]
def numG : Int → List UInt8 → Option Int
  | n, [] => some n
  | n, b :: l => if (4611686018427387904 - ((b.toNat : Int) - 48)) / 10 < n then none else numG (n * 10 + ((b.toNat : Int) - 48)) l
def finP : Option Int → Int × Int
  | none => (0, 11)
  | some n => (n, 0)
def finN : Option Int → Int × Int
  | none => (0, 11)
  | some n => (-n, 0)
def numT (fin : Option Int → Int × Int) (ds : List UInt8) : Int × Int := if ds.all isD = true then fin (numG 0 ds) else (0, 7)
def numS (l : List UInt8) : Int × Int :=
  if l[0]? = some 45 then if l[1]? = none ∨ l[1]? = some 48 then (0, 7) else numT finN (l.drop 1)
  else if l[0]? = none ∨ (l[0]? = some 48 ∧ 1 < l.length) then (0, 7) else numT finP (l.drop 0)
theorem lt_get8 {xs : List UInt8} {i : Nat} (h : i < xs.length) : ∃ x, xs[i]? = some x ∧ xs.drop i = x :: xs.drop (i + 1) := ⟨xs[i], List.getElem?_eq_getElem h, List.drop_eq_getElem_cons h⟩
theorem mem_drop {xs : List UInt8} {f i : Nat} {x : UInt8} (hf : f ≤ i) (h : xs[i]? = some x) : x ∈ xs.drop f := by
  refine List.mem_of_getElem? (i := i - f) ?_
  rw [List.getElem?_drop, ← h]
  congr 1
  omega
theorem u8_ne {b c : UInt8} (h : b ≠ c) : ((b.toNat : Int) == (c.toNat : Int)) = false := by
  rw [beq_eq_false_iff_ne]
  intro e
  exact h (UInt8.toNat_inj.1 (by omega))
end Go.Lv
