/- Steps: the example; what is handed in. -/
import Derived.Test.YtmpbkkfkkbdndabDoorStepA
import Derived.Test.YtmpbkkfkkbdndabDoorStepB1
namespace Go.Lv
open Go Go.Proofs Go.IntWalk
set_option maxRecDepth 100000
set_option linter.unusedSimpArgs false
set_option linter.unusedVariables false
variable {E : Env}
theorem awake12_run : isTrue (run Tryd.prog (fun _ => .und) knownL 60 12 12 [] []) = true := by decide +kernel
theorem awake12 (ht : Tab E.h0 3 .u64 Lib.pow10Tab) (hg : E.g = fun _ => .und) : PDen Tryd.prog E 12 [] (.bool true) := by
  obtain ⟨H, hr⟩ := isTrue_spec awake12_run
  have := (run_fun mixed (knownLOf E ht) 60 12 12 [] [] _ _ (by rw [hg]; exact hr)).den
  exact ⟨rfl, rfl, fun h ρ w vs M hb hS hsz hrel => (this h ρ w vs M hb hS hsz hrel).mono fun e w' ⟨v, r, S', h', ρ', h1, h2, h3⟩ => ⟨v, r, S', h', ρ', h1, h2.1, h3⟩⟩
theorem sh29 : shOf Tryd.prog 4 29 = some (.st [.int .i64, .int .i64, .int .i64, .int .i64, .int .i64, .int .i64]) := by kernel_rfl
theorem sh3 : shOf Tryd.prog 4 3 = some (.int .i64) := by kernel_rfl
theorem viewIntB {ds : List D} (h : (Sh.int .i64).ok ds) : ∃ x : Int, (Sh.int .i64).mk ds = .int .i64 x ∧ x ≤ 9223372036854775807 := by
  simp only [Sh.ok] at h
  obtain ⟨s, rfl, hw⟩ := h
  refine ⟨s, rfl, ?_⟩
  have : -9223372036854775808 ≤ s ∧ s ≤ 9223372036854775807 := by simpa [Lit.wf, IntKind.min, IntKind.max, IntKind.signed, IntKind.bits] using hw
  exact this.2
theorem view29 {ds : List D} (h : (Sh.st [.int .i64, .int .i64, .int .i64, .int .i64, .int .i64, .int .i64]).ok ds) : ∃ x : Sp, (Sh.st [.int .i64, .int .i64, .int .i64, .int .i64, .int .i64, .int .i64]).mk ds = x.d ∧ True := by
  simp only [Sh.ok, Sh.okL] at h
  obtain ⟨_, _, rfl, ⟨e0, rfl, _⟩, _, _, rfl, ⟨e1, rfl, _⟩, _, _, rfl, ⟨e2, rfl, _⟩, _, _, rfl, ⟨e3, rfl, _⟩, _, _, rfl, ⟨e4, rfl, _⟩, _, _, rfl, ⟨e5, rfl, _⟩, rfl⟩ := h
  exact ⟨⟨e0, e1, e2, e3, e4, e5⟩, rfl, trivial⟩
theorem sh9 : shOf Tryd.prog 4 9 = some .str := by kernel_rfl
theorem viewStr {ds : List D} (h : (Sh.str).ok ds) : ∃ x : List UInt8, (Sh.str).mk ds = .str x ∧ x.length ≤ maxLen := by
  simp only [Sh.ok] at h
  obtain ⟨s, rfl, hl⟩ := h
  exact ⟨s, rfl, hl⟩
end Go.Lv
