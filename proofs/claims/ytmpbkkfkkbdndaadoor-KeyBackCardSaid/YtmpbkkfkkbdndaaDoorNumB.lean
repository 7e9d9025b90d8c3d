/- Num: the library, and the chapter's example. -/
import Derived.Test.YtmpbkkfkkbdndaaDoorLv6
import Derived.Test.YtmpbkkfkkbdndaaDoorNumA
import Derived.KernelRfl
import Derived.Shelf.Strconv.Itoa3
import Derived.Shelf.LaysM
namespace Go.Proofs
open Go.Shelf
def Tryd.laysM171_ren : Go.Shelf.Ren := ⟨fun | 171 => 53 | 243 => 67 | 246 => 77 | 283 => 82 | 284 => 83 | 285 => 84 | 286 => 85 | 129 => 93 | 317 => 92 | 318 => 94 | 319 => 95 | 320 => 96 | 337 => 99 | 338 => 100 | n => n, fun | 3 => 3 | 9 => 9 | 2 => 2 | 4 => 4 | 171 => 112 | 0 => 0 | 53 => 113 | 37 => 72 | 5 => 5 | 173 => 116 | 212 => 124 | 51 => 125 | 20 => 20 | 213 => 126 | 46 => 123 | 232 => 131 | 233 => 132 | n => n, fun | 17 => 1 | 18 => 2 | 19 => 3 | n => n⟩
theorem Tryd.laysM171 : Go.Proofs.LaysM.n171 Tryd.prog Tryd.laysM171_ren := {
  mixed := by kernel_rfl
  f129 := Tryd.func93.trans (congrArg some (by kernel_rfl))
  f171 := Tryd.func53.trans (congrArg some (by kernel_rfl))
  f243 := Tryd.func67.trans (congrArg some (by kernel_rfl))
  f246 := Tryd.func77.trans (congrArg some (by kernel_rfl))
  f283 := Tryd.func82.trans (congrArg some (by kernel_rfl))
  f284 := Tryd.func83.trans (congrArg some (by kernel_rfl))
  f285 := Tryd.func84.trans (congrArg some (by kernel_rfl))
  f286 := Tryd.func85.trans (congrArg some (by kernel_rfl))
  f317 := Tryd.func92.trans (congrArg some (by kernel_rfl))
  f318 := Tryd.func94.trans (congrArg some (by kernel_rfl))
  f319 := Tryd.func95.trans (congrArg some (by kernel_rfl))
  f320 := Tryd.func96.trans (congrArg some (by kernel_rfl))
  f337 := Tryd.func99.trans (congrArg some (by kernel_rfl))
  f338 := Tryd.func100.trans (congrArg some (by kernel_rfl))
  t0 := Tryd.underlying0
  a0 := Tryd.isAgg0
  z0 := Tryd.sizeOf0
  v0 := Tryd.zeroValue0
  t2 := Tryd.underlying2
  a2 := Tryd.isAgg2
  z2 := Tryd.sizeOf2
  v2 := Tryd.zeroValue2
  t3 := Tryd.underlying3
  a3 := Tryd.isAgg3
  z3 := Tryd.sizeOf3
  v3 := Tryd.zeroValue3
  t4 := Tryd.underlying4
  a4 := Tryd.isAgg4
  z4 := Tryd.sizeOf4
  v4 := Tryd.zeroValue4
  t5 := Tryd.underlying5
  a5 := Tryd.isAgg5
  z5 := Tryd.sizeOf5
  v5 := Tryd.zeroValue5
  t9 := Tryd.underlying9
  a9 := Tryd.isAgg9
  z9 := Tryd.sizeOf9
  v9 := Tryd.zeroValue9
  t20 := Tryd.underlying20
  a20 := Tryd.isAgg20
  z20 := Tryd.sizeOf20
  v20 := Tryd.zeroValue20
  t37 := Tryd.underlying72
  a37 := Tryd.isAgg72
  z37 := Tryd.sizeOf72
  v37 := Tryd.zeroValue72
  t46 := Tryd.underlying123
  a46 := Tryd.isAgg123
  z46 := Tryd.sizeOf123
  v46 := Tryd.zeroValue123
  t51 := Tryd.underlying125
  a51 := Tryd.isAgg125
  z51 := Tryd.sizeOf125
  v51 := Tryd.zeroValue125
  t53 := Tryd.underlying113
  a53 := Tryd.isAgg113
  z53 := Tryd.sizeOf113
  v53 := Tryd.zeroValue113
  t171 := Tryd.underlying112
  a171 := Tryd.isAgg112
  z171 := Tryd.sizeOf112
  v171 := Tryd.zeroValue112
  t173 := Tryd.underlying116
  a173 := Tryd.isAgg116
  z173 := Tryd.sizeOf116
  v173 := Tryd.zeroValue116
  t212 := Tryd.underlying124
  a212 := Tryd.isAgg124
  z212 := Tryd.sizeOf124
  v212 := Tryd.zeroValue124
  t213 := Tryd.underlying126
  a213 := Tryd.isAgg126
  z213 := Tryd.sizeOf126
  t232 := Tryd.underlying131
  a232 := Tryd.isAgg131
  z232 := Tryd.sizeOf131
  v232 := Tryd.zeroValue131
  t233 := Tryd.underlying132
  a233 := Tryd.isAgg132
  z233 := Tryd.sizeOf132
  v233 := Tryd.zeroValue132
  g17 := by kernel_rfl
  g18 := by kernel_rfl
  g19 := by kernel_rfl
  i0 := by kernel_rfl
  i2 := by kernel_rfl
  i3 := by kernel_rfl
  i4 := by kernel_rfl
  i5 := by kernel_rfl
  i9 := by kernel_rfl
  i20 := by kernel_rfl
  i37 := by kernel_rfl
  i46 := by kernel_rfl
  i51 := by kernel_rfl
  i53 := by kernel_rfl
  i171 := by kernel_rfl
  i173 := by kernel_rfl
  i212 := by kernel_rfl
  i232 := by kernel_rfl
  i233 := by kernel_rfl
  m17 := by kernel_rfl
  m18 := by kernel_rfl
  m19 := by kernel_rfl }
end Go.Proofs
namespace Go.Lv
open Go Go.Proofs
set_option maxRecDepth 1000000
def digs : Nat → Nat → List UInt8
  | 0, u => [UInt8.ofNat (48 + u)]
  | k + 1, u => if u < 10 then [UInt8.ofNat (48 + u)] else digs k (u / 10) ++ [UInt8.ofNat (48 + u % 10)]
theorem digs_eq : ∀ (k u : Nat), u < 10 ^ (k + 1) → digs k u = Lib.decDigits u
  | 0, u, h => by rw [Lib.decDigits, dif_pos (by omega)]; rfl
  | k + 1, u, h => by
    rw [Lib.decDigits, digs]
    split
    · rfl
    · rename_i hlt
      rw [digs_eq k (u / 10) (by rw [Nat.div_lt_iff_lt_mul (by omega)]; rwa [Nat.pow_succ] at h)]
def itoaD (n : Int) : List UInt8 := if n < 0 then 45 :: digs 19 n.natAbs else digs 19 n.toNat
theorem itoaD_eq {n : Int} (h0 : -9223372036854775808 ≤ n) (h1 : n ≤ 9223372036854775807) : itoaD n = Lib.itoa n := by
  unfold itoaD Lib.itoa
  rw [digs_eq 19 _ (by omega), digs_eq 19 _ (by omega)]
variable {E : Env}
theorem itoa (ht : Tab E.h0 1 .u64 Lib.pow10Tab) (n : Int) (h0 : -9223372036854775808 ≤ n) (h1 : n ≤ 9223372036854775807) : PDen Tryd.prog E 53 [.int .i64 n] (.str (itoaD n)) := by
  refine pden_lib rfl rfl fun h w vs hb hi hsz hrel => ?_
  obtain ⟨v, hv, rv⟩ := hrel 0 _ rfl
  cases rv
  obtain rfl : vs = #[.int .i64 n] := by
    cases vs with | mk l =>
    match l, hsz with
    | [x], _ => simp at hv; subst hv; rfl
  refine (Any.strconv_Itoa Tryd.laysM171 n h0 h1 w ((ht.mono hb).is (by kernel_rfl) hi)).mono fun e w' hh => ?_
  obtain ⟨rfl, k, os, rfl⟩ := hh
  exact ⟨_, k, os, rfl, rfl, .str _ _ (by simp [itoaD_eq h0 h1])⟩
def knownA (f : FuncId) (args : List D) (H : Hp) : Option (D × Hp) :=
  match f, args with
  | 53, [.int .i64 n] => if -9223372036854775808 ≤ n ∧ n ≤ 9223372036854775807 then some (.str (itoaD n), H) else none
  | _, _ => none
def knownOf (E : Env) (ht : Tab E.h0 1 .u64 Lib.pow10Tab) : Known Tryd.prog E where
  call := knownA
  ok := by
    intro g args H r H' h
    unfold knownA at h
    split at h
    · rename_i n
      split at h
      · rename_i hn
        cases h
        exact (itoa ht n hn.1 hn.2).fun H
      · cases h
    · cases h
def isTrue : Option (D × Hp) → Bool
  | some (.bool b, _) => b
  | _ => false
theorem isTrue_spec {x : Option (D × Hp)} (h : isTrue x = true) : ∃ H, x = some (.bool true, H) := by
  unfold isTrue at h
  split at h
  · subst h; exact ⟨_, rfl⟩
  · cases h
theorem awake_run : isTrue (run Tryd.prog (fun _ => .und) knownA 50 10 13 [] []) = true := by decide +kernel
theorem awake (ht : Tab E.h0 1 .u64 Lib.pow10Tab) (hg : E.g = fun _ => .und) : PDen Tryd.prog E 13 [] (.bool true) := by
  obtain ⟨H, hr⟩ := isTrue_spec awake_run
  have := (run_fun mixed (knownOf E ht) 50 10 13 [] [] _ _ (by rw [hg]; exact hr)).den
  exact ⟨rfl, rfl, fun h ρ w vs M hb hS hsz hrel => (this h ρ w vs M hb hS hsz hrel).mono fun e w' ⟨v, r, S', h', ρ', h1, h2, h3⟩ => ⟨v, r, S', h', ρ', h1, h2.1, h3⟩⟩
end Go.Lv
