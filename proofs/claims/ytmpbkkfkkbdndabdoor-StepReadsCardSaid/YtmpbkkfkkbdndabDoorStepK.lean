/- Steps read: what is read and written. -/
import Derived.Test.YtmpbkkfkkbdndabDoorStepW
import Derived.Test.YtmpbkkfkkbdndabDoorStepI
namespace Go.Lv
open Go Go.Proofs Go.IntWalk
set_option maxRecDepth 100000
set_option linter.unusedSimpArgs false
set_option linter.unusedVariables false
variable {E : Env}
theorem dec_isD {u : Nat} {x : UInt8} (h : x ∈ Lib.decDigits u) : 48 ≤ x.toNat := by
  have := List.all_eq_true.1 (dec_all u) x h
  exact (isD_iff.1 this).1
theorem itoa_no47 {n : Int} (h0 : -9223372036854775808 ≤ n) (h1 : n ≤ 9223372036854775807) : (47 : UInt8) ∉ itoaD n := by
  rw [itoaD_eq h0 h1]
  unfold Lib.itoa
  split
  · intro h
    rcases List.mem_cons.1 h with h | h
    · exact absurd h (by decide)
    · have := dec_isD h
      exact absurd this (by decide)
  · intro h
    have := dec_isD h
    exact absurd this (by decide)
theorem opW_no47 (o : Int) : (47 : UInt8) ∉ opW o := by
  unfold opW
  repeat' split
  all_goals decide
theorem clW_no47 (o : Int) : (47 : UInt8) ∉ clW o := by
  unfold clW
  repeat' split
  all_goals decide
theorem opW_ix {a : List UInt8} (h : opIx a ≠ 0) : opW (opIx a) = a := by
  unfold opIx at h ⊢
  repeat' split
  all_goals first
    | (subst_vars; rfl)
    | simp_all
theorem clW_ix {a : List UInt8} (h : clIx a ≠ 0) : clW (clIx a) = a := by
  unfold clIx at h ⊢
  repeat' split
  all_goals first
    | (subst_vars; rfl)
    | simp_all
theorem ix_opW {o : Int} (h : o = 1 ∨ o = 2 ∨ o = 3 ∨ o = 4 ∨ o = 5 ∨ o = 6) : opIx (opW o) = o ∧ opW o ≠ [] := by
  rcases h with rfl | rfl | rfl | rfl | rfl | rfl <;> exact ⟨by decide, by decide⟩
theorem ix_clW {o : Int} (h : o = 1 ∨ o = 2 ∨ o = 3) : clIx (clW o) = o ∧ clW o ≠ [] := by
  rcases h with rfl | rfl | rfl <;> exact ⟨by decide, by decide⟩
theorem numS_ok {l : List UInt8} (h : (numS l).2 = 0) : itoaD (numS l).1 = l := (itoa_num l (numS l).1 (by rw [← h])).1
theorem sText_fit {x : Sp} (h : sFit x = true) : sText x = Lib.join (textW x) [47] := by simp [sText, h]
theorem sText_nofit {x : Sp} (h : sFit x = false) : sText x = [] := by simp [sText, h]
theorem textW_no {x : Sp} (h : sFit x = true) : ∀ p ∈ textW x, (47 : UInt8) ∉ p := by
  obtain ⟨_, _, h1, h2, h3, h4⟩ := sFit_in h
  intro p hp
  simp only [textW, List.mem_cons, List.not_mem_nil, or_false] at hp
  rcases hp with rfl | rfl | rfl | rfl | rfl | rfl
  · exact opW_no47 _
  · exact clW_no47 _
  all_goals exact itoa_no47 (by omega) (by omega)
theorem split_text {x : Sp} (h : sFit x = true) : splitC 47 (sText x) = textW x := by
  rw [sText_fit h]
  exact split_join _ (by simp [textW]) (textW_no h)
/-- A text that a step has is read as that step. -/
theorem read_text {x : Sp} (h : sFit x = true) : sRead (sText x) = (x, 0) := by
  have hs := split_text h
  obtain ⟨ho, hc, h1, h2, h3, h4⟩ := sFit_in h
  rw [textW] at hs
  rw [sRead_six hs]
  have n1 := num_itoa x.t (by omega) (by omega)
  have n2 := num_itoa x.b (by omega) (by omega)
  have n3 := num_itoa x.p (by omega) (by omega)
  have n4 := num_itoa x.w (by omega) (by omega)
  have hx : rd6 (opW x.o) (clW x.c) (itoaD x.t) (itoaD x.b) (itoaD x.p) (itoaD x.w) = x := by
    simp only [rd6, n1, n2, n3, n4, (ix_opW ho).1, (ix_clW hc).1]
  rw [hx, if_pos ⟨(ix_opW ho).2, (ix_clW hc).2, by rw [n1], by rw [n2], by rw [n3], by rw [n4], h⟩]
/-- What is read is fit, and has that text. -/
theorem read_ok {s : List UInt8} {x : Sp} (h : sRead s = (x, 0)) : sFit x = true ∧ sText x = s := by
  by_cases hl : (splitC 47 s).length = 6
  · obtain ⟨a, b, c, d, e, f, h6⟩ := len6 hl
    rw [sRead_six h6] at h
    split at h
    · rename_i hc
      obtain ⟨_, _, c1, c2, c3, c4, hf⟩ := hc
      simp only [Prod.mk.injEq, and_true] at h
      subst h
      refine ⟨hf, ?_⟩
      obtain ⟨ho, hcl, _⟩ := sFit_in hf
      rw [sText_fit hf]
      have : textW (rd6 a b c d e f) = [a, b, c, d, e, f] := by
        simp only [textW, rd6] at ho hcl ⊢
        rw [opW_ix (by omega), clW_ix (by omega), numS_ok c1, numS_ok c2, numS_ok c3, numS_ok c4]
      rw [this, ← h6, join_splitC]
    · simp at h
  · rw [sRead_ne hl] at h
    simp at h
theorem read_cases (s : List UInt8) : (∃ x, sRead s = (x, 0) ∧ sFit x = true ∧ sText x = s) ∨ sRead s = (zSp, 7) := by
  by_cases hl : (splitC 47 s).length = 6
  · obtain ⟨a, b, c, d, e, f, h6⟩ := len6 hl
    have hs := sRead_six h6
    split at hs
    · exact .inl ⟨_, hs, read_ok hs⟩
    · exact .inr hs
  · exact .inr (sRead_ne hl)
theorem sText_len {x : Sp} (hf : sFit x = true) : (sText x).length ≤ 200 := by
  obtain ⟨ho, hc, hi1, hi2, hi3, hi4⟩ := sFit_in hf
  rw [sText_fit hf]
  have l1 := opW_len x.o
  have l2 := clW_len x.c
  have l3 := itoa_l20 (n := x.t) (by omega) (by omega)
  have l4 := itoa_l20 (n := x.b) (by omega) (by omega)
  have l5 := itoa_l20 (n := x.p) (by omega) (by omega)
  have l6 := itoa_l20 (n := x.w) (by omega) (by omega)
  simp only [textW]
  rw [Lib.join_length]
  simp only [Lib.lens, List.map, List.sum_cons, List.sum_nil, List.length_cons, List.length_nil]
  omega
theorem read_nil : sRead [] = (zSp, 7) := by decide
theorem dEq6 (x : Sp) : dEqL [.int .i64 x.o, .int .i64 x.c, .int .i64 x.t, .int .i64 x.b, .int .i64 x.p, .int .i64 x.w] [.int .i64 x.o, .int .i64 x.c, .int .i64 x.t, .int .i64 x.b, .int .i64 x.p, .int .i64 x.w] = some true := by simp [dEqL, dEq]
theorem resS_mk (x : Sp) (e : Int) : resS (x, e) = .tup [.agg [.int .i64 x.o, .int .i64 x.c, .int .i64 x.t, .int .i64 x.b, .int .i64 x.p, .int .i64 x.w], .int .i64 e] := rfl
end Go.Lv
