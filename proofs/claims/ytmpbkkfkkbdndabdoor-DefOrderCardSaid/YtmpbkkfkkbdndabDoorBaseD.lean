/- BaseD: what the walks of this seat stand on. -/
import Derived.Test.YtmpbkkfkkbdndabDoorNvZ
import Derived.IntWalk
import Derived.KernelRfl
import Derived.Test.YtmpbkkfkkbdndabDoorProg
namespace Go.Lv
open Go Go.Proofs Go.IntWalk
set_option maxRecDepth 100000
theorem mixed : Tryd.prog.follows .mixedOrders = true := by kernel_rfl
theorem PDen.to {P : Program} {E : Env} {g : FuncId} {args : List D} {r : D} {H : Hp} {R : D → Hp → Prop} (h : PDen P E g args r) (hr : R r H) : Fun P E g args H R :=
  (h.fun H).mono fun d H' hh => by obtain ⟨rfl, rfl⟩ := hh; exact hr
def isTrue : Option (D × Hp) → Bool
  | some (.bool b, _) => b
  | _ => false
theorem isTrue_spec {x : Option (D × Hp)} (h : isTrue x = true) : ∃ H, x = some (.bool true, H) := by
  unfold isTrue at h
  split at h
  · subst h; exact ⟨_, rfl⟩
  · cases h
structure Sp where
  (o c t b p w : Int)
  deriving DecidableEq
def Sp.d (x : Sp) : D := .agg [.int .i64 x.o, .int .i64 x.c, .int .i64 x.t, .int .i64 x.b, .int .i64 x.p, .int .i64 x.w]
def fitB (t b p : Int) : Bool := decide (0 ≤ t) && (decide (t ≤ 5) && (decide (1 ≤ b) && (decide (b ≤ p) && decide (p ≤ 32))))
theorem fitB_iff {t b p : Int} : fitB t b p = true ↔ 0 ≤ t ∧ t ≤ 5 ∧ 1 ≤ b ∧ b ≤ p ∧ p ≤ 32 := by simp [fitB]
def srv (o : Int) : Int := if o = 2 then 1 else if o = 6 then 1 else if o = 4 then 2 else 0
def opOk (o c : Int) : Bool := if o = 1 then c == 1 else if o = 3 then c == 1 else if o = 5 then c != 1 else srv o != 0
def sFit (x : Sp) : Bool := fitB x.t x.b x.p && (decide (0 ≤ x.w) && (decide (x.w ≤ 100) && (decide (1 ≤ x.c) && (decide (x.c ≤ 3) && (!(x.c == 3 && decide (0 < x.w)) && opOk x.o x.c)))))
end Go.Lv
