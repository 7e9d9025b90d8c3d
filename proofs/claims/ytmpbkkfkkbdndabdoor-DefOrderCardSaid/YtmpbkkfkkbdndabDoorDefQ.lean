/- DefQ: DefOrder, of any argument. -/
import Derived.Test.YtmpbkkfkkbdndabDoorDefO
import Derived.Test.YtmpbkkfkkbdndabDoorAwD
namespace Go.Lv
open Go Go.Proofs Go.IntWalk
set_option maxRecDepth 100000
set_option linter.unusedSimpArgs false
set_option linter.unusedVariables false
variable {E : Env}
structure Df where
  nm : List UInt8
  l : List Sp
def Df.d (x : Df) : D := .agg [.str x.nm, .list false (x.l.map Sp.d)]
theorem orderLaw3 (hU : UT E) (hg : E.g = fun _ => .und) (x : Df) : PDen Tryd.prog E 3 [x.d] (.bool true) :=
  order x.nm x.l (awake10 hg hU) fun h1 h2 => fit x.nm x.l (by omega) (nfit hU x.nm (by omega))
theorem sh24 : shOf Tryd.prog 4 24 = some (.st [.str, .sl (.st [.int .i64, .int .i64, .int .i64, .int .i64, .int .i64, .int .i64])]) := by kernel_rfl
theorem view29 {ds : List D} (h : (Sh.st [.int .i64, .int .i64, .int .i64, .int .i64, .int .i64, .int .i64]).ok ds) : ∃ x : Sp, (Sh.st [.int .i64, .int .i64, .int .i64, .int .i64, .int .i64, .int .i64]).mk ds = x.d ∧ True := by
  simp only [Sh.ok, Sh.okL] at h
  obtain ⟨_, _, rfl, ⟨e0, rfl, _⟩, _, _, rfl, ⟨e1, rfl, _⟩, _, _, rfl, ⟨e2, rfl, _⟩, _, _, rfl, ⟨e3, rfl, _⟩, _, _, rfl, ⟨e4, rfl, _⟩, _, _, rfl, ⟨e5, rfl, _⟩, rfl⟩ := h
  exact ⟨⟨e0, e1, e2, e3, e4, e5⟩, rfl, trivial⟩
theorem sps_of : ∀ {ys : List (List D)}, (∀ y ∈ ys, (Sh.st [.int .i64, .int .i64, .int .i64, .int .i64, .int .i64, .int .i64]).ok y) → ∃ l : List Sp, ys.map (Sh.st [.int .i64, .int .i64, .int .i64, .int .i64, .int .i64, .int .i64]).mk = l.map Sp.d
  | [], _ => ⟨[], rfl⟩
  | y :: ys, h => by
    obtain ⟨x, hx, _⟩ := view29 (h y (by simp))
    obtain ⟨l, hl⟩ := sps_of (ys := ys) fun z hz => h z (by simp [hz])
    exact ⟨x :: l, by rw [List.map_cons, List.map_cons, hx, hl]⟩
theorem view24 {ds : List D} (h : (Sh.st [.str, .sl (.st [.int .i64, .int .i64, .int .i64, .int .i64, .int .i64, .int .i64])]).ok ds) : ∃ x : Df, (Sh.st [.str, .sl (.st [.int .i64, .int .i64, .int .i64, .int .i64, .int .i64, .int .i64])]).mk ds = x.d ∧ True := by
  simp only [Sh.ok, Sh.okL] at h
  obtain ⟨_, _, rfl, ⟨s, rfl, _⟩, _, _, rfl, ⟨ys, rfl, _, hy⟩, rfl⟩ := h
  obtain ⟨l, hl⟩ := sps_of (ys := ys) fun y hm => by simp only [Sh.ok, Sh.okL]; exact hy y hm
  refine ⟨⟨s, l⟩, ?_, trivial⟩
  show D.agg [D.str s, D.list false _] = _
  rw [hl]
  rfl
theorem ut_of {W : World} (h : Lib.Utf8Tabs (Tryd.lays196_ren.g 3) (Tryd.lays196_ren.g 4) W) : UT (envOf W) := fun w hw => by
  have up : ∀ (a : Addr) (v : Value), W.cell? a = some v → w.cell? a = some v := fun a v hc => by
    unfold World.cell? at hc ⊢
    cases ho : W.heap[a.block]? with
    | none => rw [ho] at hc; simp at hc
    | some o => rw [show w.heap[a.block]? = some o from hw a.block o ho]; rwa [ho] at hc
  exact ⟨fun c hc => up _ _ (h.1 c hc), fun i hi => ⟨up _ _ (h.2 i hi).1, up _ _ (h.2 i hi).2⟩⟩
end Go.Lv
