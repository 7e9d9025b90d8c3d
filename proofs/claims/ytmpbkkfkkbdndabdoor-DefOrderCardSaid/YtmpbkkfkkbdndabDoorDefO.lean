/- DefOrder: of a fit definition nothing stands out of its order. -/
import Derived.Test.YtmpbkkfkkbdndabDoorDefA
namespace Go.Lv
open Go Go.Proofs Go.IntWalk
set_option maxRecDepth 100000
set_option linter.unusedSimpArgs false
set_option linter.unusedVariables false
variable {E : Env}
theorem sFit_facts {x : Sp} (h : sFit x = true) : (x.o = 1 ∨ x.o = 2 ∨ x.o = 3 ∨ x.o = 4 ∨ x.o = 5 ∨ x.o = 6) ∧ 1 ≤ x.c ∧ x.c ≤ 3 ∧ ((x.o = 1 ∨ x.o = 3) → x.c = 1) ∧ (x.o = 5 → ¬ x.c = 1) := by
  simp only [sFit, opOk, srv, Bool.and_eq_true, decide_eq_true_eq] at h
  obtain ⟨_, _, _, h1, h2, _, h3⟩ := h
  split at h3
  · simp at h3; omega
  · split at h3
    · simp at h3; omega
    · split at h3
      · simp at h3; omega
      · simp at h3
        split at h3
        · omega
        · split at h3
          · omega
          · split at h3
            · omega
            · simp at h3
theorem dFit_facts {nm : List UInt8} {l : List Sp} (h : dFit nm l = true) : (∀ (i : Nat) x, l[i]? = some x → sFit x = true ∧ plc x.o l = i ∧ ((i : Int) = pvt l ∨ x.c = r4w (pvt l) i)) ∧ (plc 1 l < 0 ∧ plc 3 l < 0 ∧ plc 5 l < 0 ∨ 0 ≤ plc 1 l ∧ plc 1 l < plc 3 l ∧ plc 3 l < plc 5 l) ∧ (plc 6 l < 0 ∨ 0 ≤ plc 2 l ∧ plc 2 l < plc 6 l) := by
  simp only [dFit, Bool.and_eq_true, decide_eq_true_eq, Bool.not_eq_true', List.any_eq_false] at h
  obtain ⟨_, h2, h3, h4, h5, h6⟩ := h
  refine ⟨fun i x hx => ⟨?_, ?_, ?_⟩, h5, h6⟩
  · simpa using h2 x (List.mem_of_getElem? hx)
  · have := allF_iff.1 h3 i x hx
    simpa [r3f] using this
  · have := allF_iff.1 h4 i x hx
    simpa [r4f] using this
theorem plc_at {l : List Sp} {k : Int} {i : Nat} {x : Sp} (hx : l[i]? = some x) (h : ¬ x.o = k) : ¬ plc k l = i := fun hp => by
  obtain ⟨y, h1, h2, _⟩ := ixP_at hp
  rw [hx] at h1
  cases h1
  simp [opI] at h2
  exact h h2
theorem pvt_at {l : List Sp} {i : Nat} {x : Sp} (hx : l[i]? = some x) (h : (i : Int) = pvt l) : x.c = 2 := by
  obtain ⟨y, h1, h2, _⟩ := ixP_at (p := isP) (l := l) (i := i) h.symm
  rw [hx] at h1
  cases h1
  simpa [isP] using h2
set_option maxHeartbeats 8000000 in
theorem order (nm : List UInt8) (l : List Sp) (ha : PDen Tryd.prog E 10 [] (.bool true)) (hfit : nm.length ≤ 60 → l.length ≤ 10 → PDen Tryd.prog E 9 [.agg [.str nm, .list false (l.map Sp.d)]] (.bool (dFit nm l))) : PDen Tryd.prog E 3 [.agg [.str nm, .list false (l.map Sp.d)]] (.bool true) := by
  refine kden (fn := Tryd.f3) mixed Tryd.func3 rfl (rfl) (rfl) ?_
  have hfew := few (E := E) nm l
  by_cases hsz : ¬ (nm.length ≤ 60 ∧ l.length ≤ 10)
  · rw [decide_eq_false hsz] at hfew
    clear hfit hsz
    repeat' (conv => whnf
             first
      | refine KSeq.cons ?_
      | refine KSeq.nil ?_
      | refine KWp.seq ?_
      | refine KWp.region ?_
      | refine KWp.cond ?_
      | refine KWp.block ?_
      | refine KWp.ret ?_
      | refine KWp.exit ?_
      | refine KWp.skip ?_
      | refine KWp.loop ?_
      | refine KWp.scope ?_
      | refine KWp.label ?_
      | (refine KIf.yes (by first | assumption | omega) ?_)
      | (refine KIf.no (by first | assumption | omega) ?_)
      | (refine Does.body (by kernel_rfl) (PDen.to (hfew) ?_))
      | (refine PCall.to (by kernel_rfl) (hfew) ?_)
      | (refine Does.body (by kernel_rfl) (PDen.to (ha) ?_))
      | (refine PCall.to (by kernel_rfl) (ha) ?_)
      | (refine KB.yes (by assumption) ?_)
      | (refine KB.no (by assumption) ?_)
      | (refine KIf.split (fun _ => ?_) (fun _ => ?_))
      | (refine KB.split (fun _ => ?_) (fun _ => ?_))
      | (refine Exists.intro _ (And.intro (i64_in _ (by omega)) ?_))
      | (refine Exists.intro _ (And.intro (List.length_map ..) ?_))
      | (refine And.intro (by first | assumption | omega | rfl | decide) ?_)
      | (exact ⟨⟨_, rfl⟩⟩)
      | (refine Exists.intro _ (And.intro rfl ?_))
      | rfl)
  replace hsz := Decidable.not_not.1 hsz
  rw [decide_eq_true hsz] at hfew
  replace hfit := hfit hsz.1 hsz.2
  have hl : l.length ≤ 1000000 := by omega
  clear hsz
  cases hd : dFit nm l <;> rw [hd] at hfit
  · skip
    repeat' (conv => whnf
             first
      | refine KSeq.cons ?_
      | refine KSeq.nil ?_
      | refine KWp.seq ?_
      | refine KWp.region ?_
      | refine KWp.cond ?_
      | refine KWp.block ?_
      | refine KWp.ret ?_
      | refine KWp.exit ?_
      | refine KWp.skip ?_
      | refine KWp.loop ?_
      | refine KWp.scope ?_
      | refine KWp.label ?_
      | (refine KIf.yes (by first | assumption | omega) ?_)
      | (refine KIf.no (by first | assumption | omega) ?_)
      | (refine Does.body (by kernel_rfl) (PDen.to (hfew) ?_))
      | (refine PCall.to (by kernel_rfl) (hfew) ?_)
      | (refine Does.body (by kernel_rfl) (PDen.to (hfit) ?_))
      | (refine PCall.to (by kernel_rfl) (hfit) ?_)
      | (refine Does.body (by kernel_rfl) (PDen.to (ha) ?_))
      | (refine PCall.to (by kernel_rfl) (ha) ?_)
      | (refine KB.yes (by assumption) ?_)
      | (refine KB.no (by assumption) ?_)
      | (refine KIf.split (fun _ => ?_) (fun _ => ?_))
      | (refine KB.split (fun _ => ?_) (fun _ => ?_))
      | (refine Exists.intro _ (And.intro (i64_in _ (by omega)) ?_))
      | (refine Exists.intro _ (And.intro (List.length_map ..) ?_))
      | (refine And.intro (by first | assumption | omega | rfl | decide) ?_)
      | (exact ⟨⟨_, rfl⟩⟩)
      | (refine Exists.intro _ (And.intro rfl ?_))
      | rfl)
  obtain ⟨hall, h5, h6⟩ := dFit_facts hd
  clear hd
  repeat' (conv => whnf
           first
    | refine KSeq.cons ?_
    | refine KSeq.nil ?_
    | refine KWp.seq ?_
    | refine KWp.region ?_
    | refine KWp.cond ?_
    | refine KWp.block ?_
    | refine KWp.ret ?_
    | refine KWp.exit ?_
    | refine KWp.skip ?_
    | refine KWp.loop ?_
    | refine KWp.scope ?_
    | refine KWp.label ?_
    | (refine KIf.yes (by first | assumption | omega) ?_)
    | (refine KIf.no (by first | assumption | omega) ?_)
    | (refine Does.body (by kernel_rfl) (PDen.to (hfew) ?_))
    | (refine PCall.to (by kernel_rfl) (hfew) ?_)
    | (refine Does.body (by kernel_rfl) (PDen.to (hfit) ?_))
    | (refine PCall.to (by kernel_rfl) (hfit) ?_)
    | (refine Does.body (by kernel_rfl) (PDen.to (pivot nm l hl) ?_))
    | (refine PCall.to (by kernel_rfl) (pivot nm l hl) ?_)
    | (refine Does.body (by kernel_rfl) (PDen.to (ha) ?_))
    | (refine PCall.to (by kernel_rfl) (ha) ?_)
    | (refine KB.yes (by assumption) ?_)
    | (refine KB.no (by assumption) ?_)
    | (refine KIf.split (fun _ => ?_) (fun _ => ?_))
    | (refine KB.split (fun _ => ?_) (fun _ => ?_))
    | (refine Exists.intro _ (And.intro (i64_in _ (by omega)) ?_))
    | (refine Exists.intro _ (And.intro (List.length_map ..) ?_))
    | (refine And.intro (by first | assumption | omega | rfl | decide) ?_)
    | (refine Exists.intro _ (And.intro rfl ?_))
    | rfl)
  refine kloop_at (ι := Nat × Bool × Bool × Bool × Bool) [1, 3] 1 (fun s => [(4, .bool s.2.1), (5, .bool s.2.2.1), (6, .bool s.2.2.2.1), (7, .bool s.2.2.2.2), (8, .int .i64 (s.1 : Int))]) (fun _ => []) (fun s => l.length - s.1) (fun s => s.1 ≤ l.length ∧ (s.2.1 = true ↔ 0 ≤ plc 1 l ∧ plc 1 l < s.1) ∧ (s.2.2.1 = true ↔ 0 ≤ plc 3 l ∧ plc 3 l < s.1) ∧ (s.2.2.2.1 = true ↔ 0 ≤ plc 5 l ∧ plc 5 l < s.1) ∧ (s.2.2.2.2 = true ↔ 0 ≤ plc 2 l ∧ plc 2 l < s.1)) (0, false, false, false, false) (norm_to [1, 3, 4, 5, 6, 7, 8] 1 (by decide) rfl rfl rfl rfl) ⟨by show 0 ≤ l.length; omega, ⟨fun h => (by cases h), fun h => (by have := h.1; have := h.2; omega)⟩, ⟨fun h => (by cases h), fun h => (by have := h.1; have := h.2; omega)⟩, ⟨fun h => (by cases h), fun h => (by have := h.1; have := h.2; omega)⟩, ⟨fun h => (by cases h), fun h => (by have := h.1; have := h.2; omega)⟩⟩ ?_
  rintro ⟨i, hold, keep, send, auth⟩ ⟨hi, e1, e2, e3, e4⟩
  dsimp only at hi e1 e2 e3 e4
  by_cases hlt : i < l.length
  · obtain ⟨x, hx⟩ : ∃ x, l[i]? = some x := ⟨l[i], by simp [hlt]⟩
    have hx' := get_map (f := Sp.d) hx
    obtain ⟨hs, hpl, hr4⟩ := hall i x hx
    obtain ⟨hop, c1, c3, hk1, hk5⟩ := sFit_facts hs
    have hpc := pvt_at hx
    have hr4a : 0 ≤ pvt l ∧ pvt l < i → x.c = 3 := fun h => by
      rcases hr4 with h' | h'
      · omega
      · rw [h', r4w_a h.1 h.2]
    have hr4b : pvt l < 0 ∨ (i : Int) < pvt l → x.c = 1 := fun h => by
      rcases hr4 with h' | h'
      · omega
      · rw [h', r4w_b (by omega)]
    generalize pvt l = p at *
    have hreg : (p < 0 ∧ x.c = 1) ∨ (0 ≤ p ∧ (i : Int) < p ∧ x.c = 1) ∨ ((i : Int) = p ∧ x.c = 2) ∨ (0 ≤ p ∧ p < i ∧ x.c = 3) := by omega
    clear hr4 hs hall ha hfit hr4a hr4b hpc
    rcases hop with ho | ho | ho | ho | ho | ho
    · skip
      have hpo : plc 1 l = i := by rw [← ho]; exact hpl
      have n3 := plc_at (k := 3) hx (by omega)
      have n5 := plc_at (k := 5) hx (by omega)
      have n2 := plc_at (k := 2) hx (by omega)
      rcases hreg with ⟨hr, hcl⟩ | ⟨hr, hr', hcl⟩ | ⟨hr, hcl⟩ | ⟨hr, hr', hcl⟩
      · try (exfalso; omega)
        all_goals
          clear hk1 hk5 c1 c3 hpl
          obtain ⟨xo, xc, xt, xb, xp, xw⟩ := x
          dsimp only at ho hcl
          subst ho hcl
          repeat' (conv => whnf
                   first
            | refine KSeq.cons ?_
            | (refine Exists.intro _ (And.intro rfl (Exists.intro _ (And.intro hx' (And.intro rfl ?_)))))
            | refine KSeq.nil ?_
            | refine KWp.seq ?_
            | refine KWp.region ?_
            | refine KWp.cond ?_
            | refine KWp.block ?_
            | refine KWp.ret ?_
            | refine KWp.exit ?_
            | refine KWp.skip ?_
            | refine KWp.loop ?_
            | refine KWp.scope ?_
            | refine KWp.label ?_
            | (refine KIf.yes (by first | assumption | omega) ?_)
            | (refine KIf.no (by first | assumption | omega) ?_)
            | (refine KB.yes (by assumption) ?_)
            | (refine KB.no (by assumption) ?_)
            | (refine KIf.split (fun _ => ?_) (fun _ => ?_))
            | (refine KB.split (fun _ => ?_) (fun _ => ?_))
            | (refine Exists.intro _ (And.intro (i64_in _ (by omega)) ?_))
            | (refine Exists.intro _ (And.intro (List.length_map ..) ?_))
            | (refine And.intro (by first | assumption | omega | rfl | decide) ?_)
            | (exact less (i + 1, true, keep, send, auth) (by show l.length - (i + 1) < l.length - i; omega) ⟨(by omega), ⟨fun _ => (by omega), fun _ => rfl⟩, e2.trans (by omega), e3.trans (by omega), e4.trans (by omega)⟩ (norm_to [1, 3, 4, 5, 6, 7, 8] 1 (by decide) rfl rfl rfl rfl))
            | (refine Exists.intro _ (And.intro rfl ?_))
            | rfl)
      · try (exfalso; omega)
        all_goals
          clear hk1 hk5 c1 c3 hpl
          obtain ⟨xo, xc, xt, xb, xp, xw⟩ := x
          dsimp only at ho hcl
          subst ho hcl
          repeat' (conv => whnf
                   first
            | refine KSeq.cons ?_
            | (refine Exists.intro _ (And.intro rfl (Exists.intro _ (And.intro hx' (And.intro rfl ?_)))))
            | refine KSeq.nil ?_
            | refine KWp.seq ?_
            | refine KWp.region ?_
            | refine KWp.cond ?_
            | refine KWp.block ?_
            | refine KWp.ret ?_
            | refine KWp.exit ?_
            | refine KWp.skip ?_
            | refine KWp.loop ?_
            | refine KWp.scope ?_
            | refine KWp.label ?_
            | (refine KIf.yes (by first | assumption | omega) ?_)
            | (refine KIf.no (by first | assumption | omega) ?_)
            | (refine KB.yes (by assumption) ?_)
            | (refine KB.no (by assumption) ?_)
            | (refine KIf.split (fun _ => ?_) (fun _ => ?_))
            | (refine KB.split (fun _ => ?_) (fun _ => ?_))
            | (refine Exists.intro _ (And.intro (i64_in _ (by omega)) ?_))
            | (refine Exists.intro _ (And.intro (List.length_map ..) ?_))
            | (refine And.intro (by first | assumption | omega | rfl | decide) ?_)
            | (exact less (i + 1, true, keep, send, auth) (by show l.length - (i + 1) < l.length - i; omega) ⟨(by omega), ⟨fun _ => (by omega), fun _ => rfl⟩, e2.trans (by omega), e3.trans (by omega), e4.trans (by omega)⟩ (norm_to [1, 3, 4, 5, 6, 7, 8] 1 (by decide) rfl rfl rfl rfl))
            | (refine Exists.intro _ (And.intro rfl ?_))
            | rfl)
      · try (exfalso; omega)
        all_goals
          clear hk1 hk5 c1 c3 hpl
          obtain ⟨xo, xc, xt, xb, xp, xw⟩ := x
          dsimp only at ho hcl
          subst ho hcl
          repeat' (conv => whnf
                   first
            | refine KSeq.cons ?_
            | (refine Exists.intro _ (And.intro rfl (Exists.intro _ (And.intro hx' (And.intro rfl ?_)))))
            | refine KSeq.nil ?_
            | refine KWp.seq ?_
            | refine KWp.region ?_
            | refine KWp.cond ?_
            | refine KWp.block ?_
            | refine KWp.ret ?_
            | refine KWp.exit ?_
            | refine KWp.skip ?_
            | refine KWp.loop ?_
            | refine KWp.scope ?_
            | refine KWp.label ?_
            | (refine KIf.yes (by first | assumption | omega) ?_)
            | (refine KIf.no (by first | assumption | omega) ?_)
            | (refine KB.yes (by assumption) ?_)
            | (refine KB.no (by assumption) ?_)
            | (refine KIf.split (fun _ => ?_) (fun _ => ?_))
            | (refine KB.split (fun _ => ?_) (fun _ => ?_))
            | (refine Exists.intro _ (And.intro (i64_in _ (by omega)) ?_))
            | (refine Exists.intro _ (And.intro (List.length_map ..) ?_))
            | (refine And.intro (by first | assumption | omega | rfl | decide) ?_)
            | (exact less (i + 1, true, keep, send, auth) (by show l.length - (i + 1) < l.length - i; omega) ⟨(by omega), ⟨fun _ => (by omega), fun _ => rfl⟩, e2.trans (by omega), e3.trans (by omega), e4.trans (by omega)⟩ (norm_to [1, 3, 4, 5, 6, 7, 8] 1 (by decide) rfl rfl rfl rfl))
            | (refine Exists.intro _ (And.intro rfl ?_))
            | rfl)
      · try (exfalso; omega)
        all_goals
          clear hk1 hk5 c1 c3 hpl
          obtain ⟨xo, xc, xt, xb, xp, xw⟩ := x
          dsimp only at ho hcl
          subst ho hcl
          repeat' (conv => whnf
                   first
            | refine KSeq.cons ?_
            | (refine Exists.intro _ (And.intro rfl (Exists.intro _ (And.intro hx' (And.intro rfl ?_)))))
            | refine KSeq.nil ?_
            | refine KWp.seq ?_
            | refine KWp.region ?_
            | refine KWp.cond ?_
            | refine KWp.block ?_
            | refine KWp.ret ?_
            | refine KWp.exit ?_
            | refine KWp.skip ?_
            | refine KWp.loop ?_
            | refine KWp.scope ?_
            | refine KWp.label ?_
            | (refine KIf.yes (by first | assumption | omega) ?_)
            | (refine KIf.no (by first | assumption | omega) ?_)
            | (refine KB.yes (by assumption) ?_)
            | (refine KB.no (by assumption) ?_)
            | (refine KIf.split (fun _ => ?_) (fun _ => ?_))
            | (refine KB.split (fun _ => ?_) (fun _ => ?_))
            | (refine Exists.intro _ (And.intro (i64_in _ (by omega)) ?_))
            | (refine Exists.intro _ (And.intro (List.length_map ..) ?_))
            | (refine And.intro (by first | assumption | omega | rfl | decide) ?_)
            | (exact less (i + 1, true, keep, send, auth) (by show l.length - (i + 1) < l.length - i; omega) ⟨(by omega), ⟨fun _ => (by omega), fun _ => rfl⟩, e2.trans (by omega), e3.trans (by omega), e4.trans (by omega)⟩ (norm_to [1, 3, 4, 5, 6, 7, 8] 1 (by decide) rfl rfl rfl rfl))
            | (refine Exists.intro _ (And.intro rfl ?_))
            | rfl)

    · skip
      have hpo : plc 2 l = i := by rw [← ho]; exact hpl
      have n1 := plc_at (k := 1) hx (by omega)
      have n3 := plc_at (k := 3) hx (by omega)
      have n5 := plc_at (k := 5) hx (by omega)
      rcases hreg with ⟨hr, hcl⟩ | ⟨hr, hr', hcl⟩ | ⟨hr, hcl⟩ | ⟨hr, hr', hcl⟩
      · try (exfalso; omega)
        all_goals
          clear hk1 hk5 c1 c3 hpl
          obtain ⟨xo, xc, xt, xb, xp, xw⟩ := x
          dsimp only at ho hcl
          subst ho hcl
          repeat' (conv => whnf
                   first
            | refine KSeq.cons ?_
            | (refine Exists.intro _ (And.intro rfl (Exists.intro _ (And.intro hx' (And.intro rfl ?_)))))
            | refine KSeq.nil ?_
            | refine KWp.seq ?_
            | refine KWp.region ?_
            | refine KWp.cond ?_
            | refine KWp.block ?_
            | refine KWp.ret ?_
            | refine KWp.exit ?_
            | refine KWp.skip ?_
            | refine KWp.loop ?_
            | refine KWp.scope ?_
            | refine KWp.label ?_
            | (refine KIf.yes (by first | assumption | omega) ?_)
            | (refine KIf.no (by first | assumption | omega) ?_)
            | (refine KB.yes (by assumption) ?_)
            | (refine KB.no (by assumption) ?_)
            | (refine KIf.split (fun _ => ?_) (fun _ => ?_))
            | (refine KB.split (fun _ => ?_) (fun _ => ?_))
            | (refine Exists.intro _ (And.intro (i64_in _ (by omega)) ?_))
            | (refine Exists.intro _ (And.intro (List.length_map ..) ?_))
            | (refine And.intro (by first | assumption | omega | rfl | decide) ?_)
            | (exact less (i + 1, hold, keep, send, true) (by show l.length - (i + 1) < l.length - i; omega) ⟨(by omega), e1.trans (by omega), e2.trans (by omega), e3.trans (by omega), ⟨fun _ => (by omega), fun _ => rfl⟩⟩ (norm_to [1, 3, 4, 5, 6, 7, 8] 1 (by decide) rfl rfl rfl rfl))
            | (refine Exists.intro _ (And.intro rfl ?_))
            | rfl)
      · try (exfalso; omega)
        all_goals
          clear hk1 hk5 c1 c3 hpl
          obtain ⟨xo, xc, xt, xb, xp, xw⟩ := x
          dsimp only at ho hcl
          subst ho hcl
          repeat' (conv => whnf
                   first
            | refine KSeq.cons ?_
            | (refine Exists.intro _ (And.intro rfl (Exists.intro _ (And.intro hx' (And.intro rfl ?_)))))
            | refine KSeq.nil ?_
            | refine KWp.seq ?_
            | refine KWp.region ?_
            | refine KWp.cond ?_
            | refine KWp.block ?_
            | refine KWp.ret ?_
            | refine KWp.exit ?_
            | refine KWp.skip ?_
            | refine KWp.loop ?_
            | refine KWp.scope ?_
            | refine KWp.label ?_
            | (refine KIf.yes (by first | assumption | omega) ?_)
            | (refine KIf.no (by first | assumption | omega) ?_)
            | (refine KB.yes (by assumption) ?_)
            | (refine KB.no (by assumption) ?_)
            | (refine KIf.split (fun _ => ?_) (fun _ => ?_))
            | (refine KB.split (fun _ => ?_) (fun _ => ?_))
            | (refine Exists.intro _ (And.intro (i64_in _ (by omega)) ?_))
            | (refine Exists.intro _ (And.intro (List.length_map ..) ?_))
            | (refine And.intro (by first | assumption | omega | rfl | decide) ?_)
            | (exact less (i + 1, hold, keep, send, true) (by show l.length - (i + 1) < l.length - i; omega) ⟨(by omega), e1.trans (by omega), e2.trans (by omega), e3.trans (by omega), ⟨fun _ => (by omega), fun _ => rfl⟩⟩ (norm_to [1, 3, 4, 5, 6, 7, 8] 1 (by decide) rfl rfl rfl rfl))
            | (refine Exists.intro _ (And.intro rfl ?_))
            | rfl)
      · try (exfalso; omega)
        all_goals
          clear hk1 hk5 c1 c3 hpl
          obtain ⟨xo, xc, xt, xb, xp, xw⟩ := x
          dsimp only at ho hcl
          subst ho hcl
          repeat' (conv => whnf
                   first
            | refine KSeq.cons ?_
            | (refine Exists.intro _ (And.intro rfl (Exists.intro _ (And.intro hx' (And.intro rfl ?_)))))
            | refine KSeq.nil ?_
            | refine KWp.seq ?_
            | refine KWp.region ?_
            | refine KWp.cond ?_
            | refine KWp.block ?_
            | refine KWp.ret ?_
            | refine KWp.exit ?_
            | refine KWp.skip ?_
            | refine KWp.loop ?_
            | refine KWp.scope ?_
            | refine KWp.label ?_
            | (refine KIf.yes (by first | assumption | omega) ?_)
            | (refine KIf.no (by first | assumption | omega) ?_)
            | (refine KB.yes (by assumption) ?_)
            | (refine KB.no (by assumption) ?_)
            | (refine KIf.split (fun _ => ?_) (fun _ => ?_))
            | (refine KB.split (fun _ => ?_) (fun _ => ?_))
            | (refine Exists.intro _ (And.intro (i64_in _ (by omega)) ?_))
            | (refine Exists.intro _ (And.intro (List.length_map ..) ?_))
            | (refine And.intro (by first | assumption | omega | rfl | decide) ?_)
            | (exact less (i + 1, hold, keep, send, true) (by show l.length - (i + 1) < l.length - i; omega) ⟨(by omega), e1.trans (by omega), e2.trans (by omega), e3.trans (by omega), ⟨fun _ => (by omega), fun _ => rfl⟩⟩ (norm_to [1, 3, 4, 5, 6, 7, 8] 1 (by decide) rfl rfl rfl rfl))
            | (refine Exists.intro _ (And.intro rfl ?_))
            | rfl)
      · try (exfalso; omega)
        all_goals
          clear hk1 hk5 c1 c3 hpl
          obtain ⟨xo, xc, xt, xb, xp, xw⟩ := x
          dsimp only at ho hcl
          subst ho hcl
          repeat' (conv => whnf
                   first
            | refine KSeq.cons ?_
            | (refine Exists.intro _ (And.intro rfl (Exists.intro _ (And.intro hx' (And.intro rfl ?_)))))
            | refine KSeq.nil ?_
            | refine KWp.seq ?_
            | refine KWp.region ?_
            | refine KWp.cond ?_
            | refine KWp.block ?_
            | refine KWp.ret ?_
            | refine KWp.exit ?_
            | refine KWp.skip ?_
            | refine KWp.loop ?_
            | refine KWp.scope ?_
            | refine KWp.label ?_
            | (refine KIf.yes (by first | assumption | omega) ?_)
            | (refine KIf.no (by first | assumption | omega) ?_)
            | (refine KB.yes (by assumption) ?_)
            | (refine KB.no (by assumption) ?_)
            | (refine KIf.split (fun _ => ?_) (fun _ => ?_))
            | (refine KB.split (fun _ => ?_) (fun _ => ?_))
            | (refine Exists.intro _ (And.intro (i64_in _ (by omega)) ?_))
            | (refine Exists.intro _ (And.intro (List.length_map ..) ?_))
            | (refine And.intro (by first | assumption | omega | rfl | decide) ?_)
            | (exact less (i + 1, hold, keep, send, true) (by show l.length - (i + 1) < l.length - i; omega) ⟨(by omega), e1.trans (by omega), e2.trans (by omega), e3.trans (by omega), ⟨fun _ => (by omega), fun _ => rfl⟩⟩ (norm_to [1, 3, 4, 5, 6, 7, 8] 1 (by decide) rfl rfl rfl rfl))
            | (refine Exists.intro _ (And.intro rfl ?_))
            | rfl)

    · skip
      have hpo : plc 3 l = i := by rw [← ho]; exact hpl
      have n1 := plc_at (k := 1) hx (by omega)
      have n5 := plc_at (k := 5) hx (by omega)
      have n2 := plc_at (k := 2) hx (by omega)
      have hh : hold = true := e1.2 (by omega)
      subst hh
      rcases hreg with ⟨hr, hcl⟩ | ⟨hr, hr', hcl⟩ | ⟨hr, hcl⟩ | ⟨hr, hr', hcl⟩
      · try (exfalso; omega)
        all_goals
          clear hk1 hk5 c1 c3 hpl
          obtain ⟨xo, xc, xt, xb, xp, xw⟩ := x
          dsimp only at ho hcl
          subst ho hcl
          repeat' (conv => whnf
                   first
            | refine KSeq.cons ?_
            | (refine Exists.intro _ (And.intro rfl (Exists.intro _ (And.intro hx' (And.intro rfl ?_)))))
            | refine KSeq.nil ?_
            | refine KWp.seq ?_
            | refine KWp.region ?_
            | refine KWp.cond ?_
            | refine KWp.block ?_
            | refine KWp.ret ?_
            | refine KWp.exit ?_
            | refine KWp.skip ?_
            | refine KWp.loop ?_
            | refine KWp.scope ?_
            | refine KWp.label ?_
            | (refine KIf.yes (by first | assumption | omega) ?_)
            | (refine KIf.no (by first | assumption | omega) ?_)
            | (refine KB.yes (by assumption) ?_)
            | (refine KB.no (by assumption) ?_)
            | (refine KIf.split (fun _ => ?_) (fun _ => ?_))
            | (refine KB.split (fun _ => ?_) (fun _ => ?_))
            | (refine Exists.intro _ (And.intro (i64_in _ (by omega)) ?_))
            | (refine Exists.intro _ (And.intro (List.length_map ..) ?_))
            | (refine And.intro (by first | assumption | omega | rfl | decide) ?_)
            | (exact less (i + 1, true, true, send, auth) (by show l.length - (i + 1) < l.length - i; omega) ⟨(by omega), e1.trans (by omega), ⟨fun _ => (by omega), fun _ => rfl⟩, e3.trans (by omega), e4.trans (by omega)⟩ (norm_to [1, 3, 4, 5, 6, 7, 8] 1 (by decide) rfl rfl rfl rfl))
            | (refine Exists.intro _ (And.intro rfl ?_))
            | rfl)
      · try (exfalso; omega)
        all_goals
          clear hk1 hk5 c1 c3 hpl
          obtain ⟨xo, xc, xt, xb, xp, xw⟩ := x
          dsimp only at ho hcl
          subst ho hcl
          repeat' (conv => whnf
                   first
            | refine KSeq.cons ?_
            | (refine Exists.intro _ (And.intro rfl (Exists.intro _ (And.intro hx' (And.intro rfl ?_)))))
            | refine KSeq.nil ?_
            | refine KWp.seq ?_
            | refine KWp.region ?_
            | refine KWp.cond ?_
            | refine KWp.block ?_
            | refine KWp.ret ?_
            | refine KWp.exit ?_
            | refine KWp.skip ?_
            | refine KWp.loop ?_
            | refine KWp.scope ?_
            | refine KWp.label ?_
            | (refine KIf.yes (by first | assumption | omega) ?_)
            | (refine KIf.no (by first | assumption | omega) ?_)
            | (refine KB.yes (by assumption) ?_)
            | (refine KB.no (by assumption) ?_)
            | (refine KIf.split (fun _ => ?_) (fun _ => ?_))
            | (refine KB.split (fun _ => ?_) (fun _ => ?_))
            | (refine Exists.intro _ (And.intro (i64_in _ (by omega)) ?_))
            | (refine Exists.intro _ (And.intro (List.length_map ..) ?_))
            | (refine And.intro (by first | assumption | omega | rfl | decide) ?_)
            | (exact less (i + 1, true, true, send, auth) (by show l.length - (i + 1) < l.length - i; omega) ⟨(by omega), e1.trans (by omega), ⟨fun _ => (by omega), fun _ => rfl⟩, e3.trans (by omega), e4.trans (by omega)⟩ (norm_to [1, 3, 4, 5, 6, 7, 8] 1 (by decide) rfl rfl rfl rfl))
            | (refine Exists.intro _ (And.intro rfl ?_))
            | rfl)
      · try (exfalso; omega)
        all_goals
          clear hk1 hk5 c1 c3 hpl
          obtain ⟨xo, xc, xt, xb, xp, xw⟩ := x
          dsimp only at ho hcl
          subst ho hcl
          repeat' (conv => whnf
                   first
            | refine KSeq.cons ?_
            | (refine Exists.intro _ (And.intro rfl (Exists.intro _ (And.intro hx' (And.intro rfl ?_)))))
            | refine KSeq.nil ?_
            | refine KWp.seq ?_
            | refine KWp.region ?_
            | refine KWp.cond ?_
            | refine KWp.block ?_
            | refine KWp.ret ?_
            | refine KWp.exit ?_
            | refine KWp.skip ?_
            | refine KWp.loop ?_
            | refine KWp.scope ?_
            | refine KWp.label ?_
            | (refine KIf.yes (by first | assumption | omega) ?_)
            | (refine KIf.no (by first | assumption | omega) ?_)
            | (refine KB.yes (by assumption) ?_)
            | (refine KB.no (by assumption) ?_)
            | (refine KIf.split (fun _ => ?_) (fun _ => ?_))
            | (refine KB.split (fun _ => ?_) (fun _ => ?_))
            | (refine Exists.intro _ (And.intro (i64_in _ (by omega)) ?_))
            | (refine Exists.intro _ (And.intro (List.length_map ..) ?_))
            | (refine And.intro (by first | assumption | omega | rfl | decide) ?_)
            | (exact less (i + 1, true, true, send, auth) (by show l.length - (i + 1) < l.length - i; omega) ⟨(by omega), e1.trans (by omega), ⟨fun _ => (by omega), fun _ => rfl⟩, e3.trans (by omega), e4.trans (by omega)⟩ (norm_to [1, 3, 4, 5, 6, 7, 8] 1 (by decide) rfl rfl rfl rfl))
            | (refine Exists.intro _ (And.intro rfl ?_))
            | rfl)
      · try (exfalso; omega)
        all_goals
          clear hk1 hk5 c1 c3 hpl
          obtain ⟨xo, xc, xt, xb, xp, xw⟩ := x
          dsimp only at ho hcl
          subst ho hcl
          repeat' (conv => whnf
                   first
            | refine KSeq.cons ?_
            | (refine Exists.intro _ (And.intro rfl (Exists.intro _ (And.intro hx' (And.intro rfl ?_)))))
            | refine KSeq.nil ?_
            | refine KWp.seq ?_
            | refine KWp.region ?_
            | refine KWp.cond ?_
            | refine KWp.block ?_
            | refine KWp.ret ?_
            | refine KWp.exit ?_
            | refine KWp.skip ?_
            | refine KWp.loop ?_
            | refine KWp.scope ?_
            | refine KWp.label ?_
            | (refine KIf.yes (by first | assumption | omega) ?_)
            | (refine KIf.no (by first | assumption | omega) ?_)
            | (refine KB.yes (by assumption) ?_)
            | (refine KB.no (by assumption) ?_)
            | (refine KIf.split (fun _ => ?_) (fun _ => ?_))
            | (refine KB.split (fun _ => ?_) (fun _ => ?_))
            | (refine Exists.intro _ (And.intro (i64_in _ (by omega)) ?_))
            | (refine Exists.intro _ (And.intro (List.length_map ..) ?_))
            | (refine And.intro (by first | assumption | omega | rfl | decide) ?_)
            | (exact less (i + 1, true, true, send, auth) (by show l.length - (i + 1) < l.length - i; omega) ⟨(by omega), e1.trans (by omega), ⟨fun _ => (by omega), fun _ => rfl⟩, e3.trans (by omega), e4.trans (by omega)⟩ (norm_to [1, 3, 4, 5, 6, 7, 8] 1 (by decide) rfl rfl rfl rfl))
            | (refine Exists.intro _ (And.intro rfl ?_))
            | rfl)

    · skip
      have hpo : plc 4 l = i := by rw [← ho]; exact hpl
      have n1 := plc_at (k := 1) hx (by omega)
      have n3 := plc_at (k := 3) hx (by omega)
      have n5 := plc_at (k := 5) hx (by omega)
      have n2 := plc_at (k := 2) hx (by omega)
      rcases hreg with ⟨hr, hcl⟩ | ⟨hr, hr', hcl⟩ | ⟨hr, hcl⟩ | ⟨hr, hr', hcl⟩
      · try (exfalso; omega)
        all_goals
          clear hk1 hk5 c1 c3 hpl
          obtain ⟨xo, xc, xt, xb, xp, xw⟩ := x
          dsimp only at ho hcl
          subst ho hcl
          repeat' (conv => whnf
                   first
            | refine KSeq.cons ?_
            | (refine Exists.intro _ (And.intro rfl (Exists.intro _ (And.intro hx' (And.intro rfl ?_)))))
            | refine KSeq.nil ?_
            | refine KWp.seq ?_
            | refine KWp.region ?_
            | refine KWp.cond ?_
            | refine KWp.block ?_
            | refine KWp.ret ?_
            | refine KWp.exit ?_
            | refine KWp.skip ?_
            | refine KWp.loop ?_
            | refine KWp.scope ?_
            | refine KWp.label ?_
            | (refine KIf.yes (by first | assumption | omega) ?_)
            | (refine KIf.no (by first | assumption | omega) ?_)
            | (refine KB.yes (by assumption) ?_)
            | (refine KB.no (by assumption) ?_)
            | (refine KIf.split (fun _ => ?_) (fun _ => ?_))
            | (refine KB.split (fun _ => ?_) (fun _ => ?_))
            | (refine Exists.intro _ (And.intro (i64_in _ (by omega)) ?_))
            | (refine Exists.intro _ (And.intro (List.length_map ..) ?_))
            | (refine And.intro (by first | assumption | omega | rfl | decide) ?_)
            | (exact less (i + 1, hold, keep, send, auth) (by show l.length - (i + 1) < l.length - i; omega) ⟨(by omega), e1.trans (by omega), e2.trans (by omega), e3.trans (by omega), e4.trans (by omega)⟩ (norm_to [1, 3, 4, 5, 6, 7, 8] 1 (by decide) rfl rfl rfl rfl))
            | (refine Exists.intro _ (And.intro rfl ?_))
            | rfl)
      · try (exfalso; omega)
        all_goals
          clear hk1 hk5 c1 c3 hpl
          obtain ⟨xo, xc, xt, xb, xp, xw⟩ := x
          dsimp only at ho hcl
          subst ho hcl
          repeat' (conv => whnf
                   first
            | refine KSeq.cons ?_
            | (refine Exists.intro _ (And.intro rfl (Exists.intro _ (And.intro hx' (And.intro rfl ?_)))))
            | refine KSeq.nil ?_
            | refine KWp.seq ?_
            | refine KWp.region ?_
            | refine KWp.cond ?_
            | refine KWp.block ?_
            | refine KWp.ret ?_
            | refine KWp.exit ?_
            | refine KWp.skip ?_
            | refine KWp.loop ?_
            | refine KWp.scope ?_
            | refine KWp.label ?_
            | (refine KIf.yes (by first | assumption | omega) ?_)
            | (refine KIf.no (by first | assumption | omega) ?_)
            | (refine KB.yes (by assumption) ?_)
            | (refine KB.no (by assumption) ?_)
            | (refine KIf.split (fun _ => ?_) (fun _ => ?_))
            | (refine KB.split (fun _ => ?_) (fun _ => ?_))
            | (refine Exists.intro _ (And.intro (i64_in _ (by omega)) ?_))
            | (refine Exists.intro _ (And.intro (List.length_map ..) ?_))
            | (refine And.intro (by first | assumption | omega | rfl | decide) ?_)
            | (exact less (i + 1, hold, keep, send, auth) (by show l.length - (i + 1) < l.length - i; omega) ⟨(by omega), e1.trans (by omega), e2.trans (by omega), e3.trans (by omega), e4.trans (by omega)⟩ (norm_to [1, 3, 4, 5, 6, 7, 8] 1 (by decide) rfl rfl rfl rfl))
            | (refine Exists.intro _ (And.intro rfl ?_))
            | rfl)
      · try (exfalso; omega)
        all_goals
          clear hk1 hk5 c1 c3 hpl
          obtain ⟨xo, xc, xt, xb, xp, xw⟩ := x
          dsimp only at ho hcl
          subst ho hcl
          repeat' (conv => whnf
                   first
            | refine KSeq.cons ?_
            | (refine Exists.intro _ (And.intro rfl (Exists.intro _ (And.intro hx' (And.intro rfl ?_)))))
            | refine KSeq.nil ?_
            | refine KWp.seq ?_
            | refine KWp.region ?_
            | refine KWp.cond ?_
            | refine KWp.block ?_
            | refine KWp.ret ?_
            | refine KWp.exit ?_
            | refine KWp.skip ?_
            | refine KWp.loop ?_
            | refine KWp.scope ?_
            | refine KWp.label ?_
            | (refine KIf.yes (by first | assumption | omega) ?_)
            | (refine KIf.no (by first | assumption | omega) ?_)
            | (refine KB.yes (by assumption) ?_)
            | (refine KB.no (by assumption) ?_)
            | (refine KIf.split (fun _ => ?_) (fun _ => ?_))
            | (refine KB.split (fun _ => ?_) (fun _ => ?_))
            | (refine Exists.intro _ (And.intro (i64_in _ (by omega)) ?_))
            | (refine Exists.intro _ (And.intro (List.length_map ..) ?_))
            | (refine And.intro (by first | assumption | omega | rfl | decide) ?_)
            | (exact less (i + 1, hold, keep, send, auth) (by show l.length - (i + 1) < l.length - i; omega) ⟨(by omega), e1.trans (by omega), e2.trans (by omega), e3.trans (by omega), e4.trans (by omega)⟩ (norm_to [1, 3, 4, 5, 6, 7, 8] 1 (by decide) rfl rfl rfl rfl))
            | (refine Exists.intro _ (And.intro rfl ?_))
            | rfl)
      · try (exfalso; omega)
        all_goals
          clear hk1 hk5 c1 c3 hpl
          obtain ⟨xo, xc, xt, xb, xp, xw⟩ := x
          dsimp only at ho hcl
          subst ho hcl
          repeat' (conv => whnf
                   first
            | refine KSeq.cons ?_
            | (refine Exists.intro _ (And.intro rfl (Exists.intro _ (And.intro hx' (And.intro rfl ?_)))))
            | refine KSeq.nil ?_
            | refine KWp.seq ?_
            | refine KWp.region ?_
            | refine KWp.cond ?_
            | refine KWp.block ?_
            | refine KWp.ret ?_
            | refine KWp.exit ?_
            | refine KWp.skip ?_
            | refine KWp.loop ?_
            | refine KWp.scope ?_
            | refine KWp.label ?_
            | (refine KIf.yes (by first | assumption | omega) ?_)
            | (refine KIf.no (by first | assumption | omega) ?_)
            | (refine KB.yes (by assumption) ?_)
            | (refine KB.no (by assumption) ?_)
            | (refine KIf.split (fun _ => ?_) (fun _ => ?_))
            | (refine KB.split (fun _ => ?_) (fun _ => ?_))
            | (refine Exists.intro _ (And.intro (i64_in _ (by omega)) ?_))
            | (refine Exists.intro _ (And.intro (List.length_map ..) ?_))
            | (refine And.intro (by first | assumption | omega | rfl | decide) ?_)
            | (exact less (i + 1, hold, keep, send, auth) (by show l.length - (i + 1) < l.length - i; omega) ⟨(by omega), e1.trans (by omega), e2.trans (by omega), e3.trans (by omega), e4.trans (by omega)⟩ (norm_to [1, 3, 4, 5, 6, 7, 8] 1 (by decide) rfl rfl rfl rfl))
            | (refine Exists.intro _ (And.intro rfl ?_))
            | rfl)

    · skip
      have hpo : plc 5 l = i := by rw [← ho]; exact hpl
      have n1 := plc_at (k := 1) hx (by omega)
      have n3 := plc_at (k := 3) hx (by omega)
      have n2 := plc_at (k := 2) hx (by omega)
      have hh : keep = true := e2.2 (by omega)
      subst hh
      rcases hreg with ⟨hr, hcl⟩ | ⟨hr, hr', hcl⟩ | ⟨hr, hcl⟩ | ⟨hr, hr', hcl⟩
      · try (exfalso; omega)
        all_goals
          clear hk1 hk5 c1 c3 hpl
          obtain ⟨xo, xc, xt, xb, xp, xw⟩ := x
          dsimp only at ho hcl
          subst ho hcl
          repeat' (conv => whnf
                   first
            | refine KSeq.cons ?_
            | (refine Exists.intro _ (And.intro rfl (Exists.intro _ (And.intro hx' (And.intro rfl ?_)))))
            | refine KSeq.nil ?_
            | refine KWp.seq ?_
            | refine KWp.region ?_
            | refine KWp.cond ?_
            | refine KWp.block ?_
            | refine KWp.ret ?_
            | refine KWp.exit ?_
            | refine KWp.skip ?_
            | refine KWp.loop ?_
            | refine KWp.scope ?_
            | refine KWp.label ?_
            | (refine KIf.yes (by first | assumption | omega) ?_)
            | (refine KIf.no (by first | assumption | omega) ?_)
            | (refine KB.yes (by assumption) ?_)
            | (refine KB.no (by assumption) ?_)
            | (refine KIf.split (fun _ => ?_) (fun _ => ?_))
            | (refine KB.split (fun _ => ?_) (fun _ => ?_))
            | (refine Exists.intro _ (And.intro (i64_in _ (by omega)) ?_))
            | (refine Exists.intro _ (And.intro (List.length_map ..) ?_))
            | (refine And.intro (by first | assumption | omega | rfl | decide) ?_)
            | (exact less (i + 1, hold, true, true, auth) (by show l.length - (i + 1) < l.length - i; omega) ⟨(by omega), e1.trans (by omega), e2.trans (by omega), ⟨fun _ => (by omega), fun _ => rfl⟩, e4.trans (by omega)⟩ (norm_to [1, 3, 4, 5, 6, 7, 8] 1 (by decide) rfl rfl rfl rfl))
            | (refine Exists.intro _ (And.intro rfl ?_))
            | rfl)
      · try (exfalso; omega)
        all_goals
          clear hk1 hk5 c1 c3 hpl
          obtain ⟨xo, xc, xt, xb, xp, xw⟩ := x
          dsimp only at ho hcl
          subst ho hcl
          repeat' (conv => whnf
                   first
            | refine KSeq.cons ?_
            | (refine Exists.intro _ (And.intro rfl (Exists.intro _ (And.intro hx' (And.intro rfl ?_)))))
            | refine KSeq.nil ?_
            | refine KWp.seq ?_
            | refine KWp.region ?_
            | refine KWp.cond ?_
            | refine KWp.block ?_
            | refine KWp.ret ?_
            | refine KWp.exit ?_
            | refine KWp.skip ?_
            | refine KWp.loop ?_
            | refine KWp.scope ?_
            | refine KWp.label ?_
            | (refine KIf.yes (by first | assumption | omega) ?_)
            | (refine KIf.no (by first | assumption | omega) ?_)
            | (refine KB.yes (by assumption) ?_)
            | (refine KB.no (by assumption) ?_)
            | (refine KIf.split (fun _ => ?_) (fun _ => ?_))
            | (refine KB.split (fun _ => ?_) (fun _ => ?_))
            | (refine Exists.intro _ (And.intro (i64_in _ (by omega)) ?_))
            | (refine Exists.intro _ (And.intro (List.length_map ..) ?_))
            | (refine And.intro (by first | assumption | omega | rfl | decide) ?_)
            | (exact less (i + 1, hold, true, true, auth) (by show l.length - (i + 1) < l.length - i; omega) ⟨(by omega), e1.trans (by omega), e2.trans (by omega), ⟨fun _ => (by omega), fun _ => rfl⟩, e4.trans (by omega)⟩ (norm_to [1, 3, 4, 5, 6, 7, 8] 1 (by decide) rfl rfl rfl rfl))
            | (refine Exists.intro _ (And.intro rfl ?_))
            | rfl)
      · try (exfalso; omega)
        all_goals
          clear hk1 hk5 c1 c3 hpl
          obtain ⟨xo, xc, xt, xb, xp, xw⟩ := x
          dsimp only at ho hcl
          subst ho hcl
          repeat' (conv => whnf
                   first
            | refine KSeq.cons ?_
            | (refine Exists.intro _ (And.intro rfl (Exists.intro _ (And.intro hx' (And.intro rfl ?_)))))
            | refine KSeq.nil ?_
            | refine KWp.seq ?_
            | refine KWp.region ?_
            | refine KWp.cond ?_
            | refine KWp.block ?_
            | refine KWp.ret ?_
            | refine KWp.exit ?_
            | refine KWp.skip ?_
            | refine KWp.loop ?_
            | refine KWp.scope ?_
            | refine KWp.label ?_
            | (refine KIf.yes (by first | assumption | omega) ?_)
            | (refine KIf.no (by first | assumption | omega) ?_)
            | (refine KB.yes (by assumption) ?_)
            | (refine KB.no (by assumption) ?_)
            | (refine KIf.split (fun _ => ?_) (fun _ => ?_))
            | (refine KB.split (fun _ => ?_) (fun _ => ?_))
            | (refine Exists.intro _ (And.intro (i64_in _ (by omega)) ?_))
            | (refine Exists.intro _ (And.intro (List.length_map ..) ?_))
            | (refine And.intro (by first | assumption | omega | rfl | decide) ?_)
            | (exact less (i + 1, hold, true, true, auth) (by show l.length - (i + 1) < l.length - i; omega) ⟨(by omega), e1.trans (by omega), e2.trans (by omega), ⟨fun _ => (by omega), fun _ => rfl⟩, e4.trans (by omega)⟩ (norm_to [1, 3, 4, 5, 6, 7, 8] 1 (by decide) rfl rfl rfl rfl))
            | (refine Exists.intro _ (And.intro rfl ?_))
            | rfl)
      · try (exfalso; omega)
        all_goals
          clear hk1 hk5 c1 c3 hpl
          obtain ⟨xo, xc, xt, xb, xp, xw⟩ := x
          dsimp only at ho hcl
          subst ho hcl
          repeat' (conv => whnf
                   first
            | refine KSeq.cons ?_
            | (refine Exists.intro _ (And.intro rfl (Exists.intro _ (And.intro hx' (And.intro rfl ?_)))))
            | refine KSeq.nil ?_
            | refine KWp.seq ?_
            | refine KWp.region ?_
            | refine KWp.cond ?_
            | refine KWp.block ?_
            | refine KWp.ret ?_
            | refine KWp.exit ?_
            | refine KWp.skip ?_
            | refine KWp.loop ?_
            | refine KWp.scope ?_
            | refine KWp.label ?_
            | (refine KIf.yes (by first | assumption | omega) ?_)
            | (refine KIf.no (by first | assumption | omega) ?_)
            | (refine KB.yes (by assumption) ?_)
            | (refine KB.no (by assumption) ?_)
            | (refine KIf.split (fun _ => ?_) (fun _ => ?_))
            | (refine KB.split (fun _ => ?_) (fun _ => ?_))
            | (refine Exists.intro _ (And.intro (i64_in _ (by omega)) ?_))
            | (refine Exists.intro _ (And.intro (List.length_map ..) ?_))
            | (refine And.intro (by first | assumption | omega | rfl | decide) ?_)
            | (exact less (i + 1, hold, true, true, auth) (by show l.length - (i + 1) < l.length - i; omega) ⟨(by omega), e1.trans (by omega), e2.trans (by omega), ⟨fun _ => (by omega), fun _ => rfl⟩, e4.trans (by omega)⟩ (norm_to [1, 3, 4, 5, 6, 7, 8] 1 (by decide) rfl rfl rfl rfl))
            | (refine Exists.intro _ (And.intro rfl ?_))
            | rfl)

    · skip
      have hpo : plc 6 l = i := by rw [← ho]; exact hpl
      have n1 := plc_at (k := 1) hx (by omega)
      have n3 := plc_at (k := 3) hx (by omega)
      have n5 := plc_at (k := 5) hx (by omega)
      have n2 := plc_at (k := 2) hx (by omega)
      have hh : auth = true := e4.2 (by omega)
      subst hh
      rcases hreg with ⟨hr, hcl⟩ | ⟨hr, hr', hcl⟩ | ⟨hr, hcl⟩ | ⟨hr, hr', hcl⟩
      · try (exfalso; omega)
        all_goals
          clear hk1 hk5 c1 c3 hpl
          obtain ⟨xo, xc, xt, xb, xp, xw⟩ := x
          dsimp only at ho hcl
          subst ho hcl
          repeat' (conv => whnf
                   first
            | refine KSeq.cons ?_
            | (refine Exists.intro _ (And.intro rfl (Exists.intro _ (And.intro hx' (And.intro rfl ?_)))))
            | refine KSeq.nil ?_
            | refine KWp.seq ?_
            | refine KWp.region ?_
            | refine KWp.cond ?_
            | refine KWp.block ?_
            | refine KWp.ret ?_
            | refine KWp.exit ?_
            | refine KWp.skip ?_
            | refine KWp.loop ?_
            | refine KWp.scope ?_
            | refine KWp.label ?_
            | (refine KIf.yes (by first | assumption | omega) ?_)
            | (refine KIf.no (by first | assumption | omega) ?_)
            | (refine KB.yes (by assumption) ?_)
            | (refine KB.no (by assumption) ?_)
            | (refine KIf.split (fun _ => ?_) (fun _ => ?_))
            | (refine KB.split (fun _ => ?_) (fun _ => ?_))
            | (refine Exists.intro _ (And.intro (i64_in _ (by omega)) ?_))
            | (refine Exists.intro _ (And.intro (List.length_map ..) ?_))
            | (refine And.intro (by first | assumption | omega | rfl | decide) ?_)
            | (exact less (i + 1, hold, keep, send, true) (by show l.length - (i + 1) < l.length - i; omega) ⟨(by omega), e1.trans (by omega), e2.trans (by omega), e3.trans (by omega), e4.trans (by omega)⟩ (norm_to [1, 3, 4, 5, 6, 7, 8] 1 (by decide) rfl rfl rfl rfl))
            | (refine Exists.intro _ (And.intro rfl ?_))
            | rfl)
      · try (exfalso; omega)
        all_goals
          clear hk1 hk5 c1 c3 hpl
          obtain ⟨xo, xc, xt, xb, xp, xw⟩ := x
          dsimp only at ho hcl
          subst ho hcl
          repeat' (conv => whnf
                   first
            | refine KSeq.cons ?_
            | (refine Exists.intro _ (And.intro rfl (Exists.intro _ (And.intro hx' (And.intro rfl ?_)))))
            | refine KSeq.nil ?_
            | refine KWp.seq ?_
            | refine KWp.region ?_
            | refine KWp.cond ?_
            | refine KWp.block ?_
            | refine KWp.ret ?_
            | refine KWp.exit ?_
            | refine KWp.skip ?_
            | refine KWp.loop ?_
            | refine KWp.scope ?_
            | refine KWp.label ?_
            | (refine KIf.yes (by first | assumption | omega) ?_)
            | (refine KIf.no (by first | assumption | omega) ?_)
            | (refine KB.yes (by assumption) ?_)
            | (refine KB.no (by assumption) ?_)
            | (refine KIf.split (fun _ => ?_) (fun _ => ?_))
            | (refine KB.split (fun _ => ?_) (fun _ => ?_))
            | (refine Exists.intro _ (And.intro (i64_in _ (by omega)) ?_))
            | (refine Exists.intro _ (And.intro (List.length_map ..) ?_))
            | (refine And.intro (by first | assumption | omega | rfl | decide) ?_)
            | (exact less (i + 1, hold, keep, send, true) (by show l.length - (i + 1) < l.length - i; omega) ⟨(by omega), e1.trans (by omega), e2.trans (by omega), e3.trans (by omega), e4.trans (by omega)⟩ (norm_to [1, 3, 4, 5, 6, 7, 8] 1 (by decide) rfl rfl rfl rfl))
            | (refine Exists.intro _ (And.intro rfl ?_))
            | rfl)
      · try (exfalso; omega)
        all_goals
          clear hk1 hk5 c1 c3 hpl
          obtain ⟨xo, xc, xt, xb, xp, xw⟩ := x
          dsimp only at ho hcl
          subst ho hcl
          repeat' (conv => whnf
                   first
            | refine KSeq.cons ?_
            | (refine Exists.intro _ (And.intro rfl (Exists.intro _ (And.intro hx' (And.intro rfl ?_)))))
            | refine KSeq.nil ?_
            | refine KWp.seq ?_
            | refine KWp.region ?_
            | refine KWp.cond ?_
            | refine KWp.block ?_
            | refine KWp.ret ?_
            | refine KWp.exit ?_
            | refine KWp.skip ?_
            | refine KWp.loop ?_
            | refine KWp.scope ?_
            | refine KWp.label ?_
            | (refine KIf.yes (by first | assumption | omega) ?_)
            | (refine KIf.no (by first | assumption | omega) ?_)
            | (refine KB.yes (by assumption) ?_)
            | (refine KB.no (by assumption) ?_)
            | (refine KIf.split (fun _ => ?_) (fun _ => ?_))
            | (refine KB.split (fun _ => ?_) (fun _ => ?_))
            | (refine Exists.intro _ (And.intro (i64_in _ (by omega)) ?_))
            | (refine Exists.intro _ (And.intro (List.length_map ..) ?_))
            | (refine And.intro (by first | assumption | omega | rfl | decide) ?_)
            | (exact less (i + 1, hold, keep, send, true) (by show l.length - (i + 1) < l.length - i; omega) ⟨(by omega), e1.trans (by omega), e2.trans (by omega), e3.trans (by omega), e4.trans (by omega)⟩ (norm_to [1, 3, 4, 5, 6, 7, 8] 1 (by decide) rfl rfl rfl rfl))
            | (refine Exists.intro _ (And.intro rfl ?_))
            | rfl)
      · try (exfalso; omega)
        all_goals
          clear hk1 hk5 c1 c3 hpl
          obtain ⟨xo, xc, xt, xb, xp, xw⟩ := x
          dsimp only at ho hcl
          subst ho hcl
          repeat' (conv => whnf
                   first
            | refine KSeq.cons ?_
            | (refine Exists.intro _ (And.intro rfl (Exists.intro _ (And.intro hx' (And.intro rfl ?_)))))
            | refine KSeq.nil ?_
            | refine KWp.seq ?_
            | refine KWp.region ?_
            | refine KWp.cond ?_
            | refine KWp.block ?_
            | refine KWp.ret ?_
            | refine KWp.exit ?_
            | refine KWp.skip ?_
            | refine KWp.loop ?_
            | refine KWp.scope ?_
            | refine KWp.label ?_
            | (refine KIf.yes (by first | assumption | omega) ?_)
            | (refine KIf.no (by first | assumption | omega) ?_)
            | (refine KB.yes (by assumption) ?_)
            | (refine KB.no (by assumption) ?_)
            | (refine KIf.split (fun _ => ?_) (fun _ => ?_))
            | (refine KB.split (fun _ => ?_) (fun _ => ?_))
            | (refine Exists.intro _ (And.intro (i64_in _ (by omega)) ?_))
            | (refine Exists.intro _ (And.intro (List.length_map ..) ?_))
            | (refine And.intro (by first | assumption | omega | rfl | decide) ?_)
            | (exact less (i + 1, hold, keep, send, true) (by show l.length - (i + 1) < l.length - i; omega) ⟨(by omega), e1.trans (by omega), e2.trans (by omega), e3.trans (by omega), e4.trans (by omega)⟩ (norm_to [1, 3, 4, 5, 6, 7, 8] 1 (by decide) rfl rfl rfl rfl))
            | (refine Exists.intro _ (And.intro rfl ?_))
            | rfl)

  · have hil : i = l.length := by omega
    subst hil
    have q1 := (ixP_ge (opI 1) l).2
    have q3 := (ixP_ge (opI 3) l).2
    have q5 := (ixP_ge (opI 5) l).2
    have u1 : ixP (opI 1) l = plc 1 l := rfl
    have u3 : ixP (opI 3) l = plc 3 l := rfl
    have u5 : ixP (opI 5) l = plc 5 l := rfl
    rw [u1] at q1
    rw [u3] at q3
    rw [u5] at q5
    have hall2 : hold = send ∧ keep = send := by
      rcases h5 with h | h
      · have z1 : ¬ hold = true := fun hh => by have := e1.1 hh; omega
        have z2 : ¬ keep = true := fun hh => by have := e2.1 hh; omega
        have z3 : ¬ send = true := fun hh => by have := e3.1 hh; omega
        simp_all
      · have z1 : hold = true := e1.2 (by omega)
        have z2 : keep = true := e2.2 (by omega)
        have z3 : send = true := e3.2 (by omega)
        simp_all
    obtain ⟨a1, a2⟩ := hall2
    clear e1 e2 e3 e4 hall
    cases hold <;> cases keep <;> cases send <;> first | (cases a1; done) | (cases a2; done) | skip
    · skip
      repeat' (conv => whnf
               first
        | refine KSeq.cons ?_
        | refine KSeq.nil ?_
        | refine KWp.seq ?_
        | refine KWp.region ?_
        | refine KWp.cond ?_
        | refine KWp.block ?_
        | refine KWp.ret ?_
        | refine KWp.exit ?_
        | refine KWp.skip ?_
        | refine KWp.loop ?_
        | refine KWp.scope ?_
        | refine KWp.label ?_
        | (refine KIf.yes (by first | assumption | omega) ?_)
        | (refine KIf.no (by first | assumption | omega) ?_)
        | (refine Does.body (by kernel_rfl) (PDen.to (ha) ?_))
        | (refine PCall.to (by kernel_rfl) (ha) ?_)
        | (refine KB.yes (by assumption) ?_)
        | (refine KB.no (by assumption) ?_)
        | (refine KIf.split (fun _ => ?_) (fun _ => ?_))
        | (refine KB.split (fun _ => ?_) (fun _ => ?_))
        | (refine Exists.intro _ (And.intro (i64_in _ (by omega)) ?_))
        | (refine Exists.intro _ (And.intro (List.length_map ..) ?_))
        | (refine And.intro (by first | assumption | omega | rfl | decide) ?_)
        | (exact ⟨⟨_, rfl⟩⟩)
        | (refine Exists.intro _ (And.intro rfl ?_))
        | rfl)
    · skip
      repeat' (conv => whnf
               first
        | refine KSeq.cons ?_
        | refine KSeq.nil ?_
        | refine KWp.seq ?_
        | refine KWp.region ?_
        | refine KWp.cond ?_
        | refine KWp.block ?_
        | refine KWp.ret ?_
        | refine KWp.exit ?_
        | refine KWp.skip ?_
        | refine KWp.loop ?_
        | refine KWp.scope ?_
        | refine KWp.label ?_
        | (refine KIf.yes (by first | assumption | omega) ?_)
        | (refine KIf.no (by first | assumption | omega) ?_)
        | (refine Does.body (by kernel_rfl) (PDen.to (ha) ?_))
        | (refine PCall.to (by kernel_rfl) (ha) ?_)
        | (refine KB.yes (by assumption) ?_)
        | (refine KB.no (by assumption) ?_)
        | (refine KIf.split (fun _ => ?_) (fun _ => ?_))
        | (refine KB.split (fun _ => ?_) (fun _ => ?_))
        | (refine Exists.intro _ (And.intro (i64_in _ (by omega)) ?_))
        | (refine Exists.intro _ (And.intro (List.length_map ..) ?_))
        | (refine And.intro (by first | assumption | omega | rfl | decide) ?_)
        | (exact ⟨⟨_, rfl⟩⟩)
        | (refine Exists.intro _ (And.intro rfl ?_))
        | rfl)
end Go.Lv
