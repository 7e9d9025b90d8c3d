/- Steps read: the document reads alike. -/
import Derived.Test.YtmpbkkfkkbdndabDoorStepK
import Derived.Test.YtmpbkkfkkbdndabDoorStepJ
namespace Go.Lv
open Go Go.Proofs Go.IntWalk
set_option maxRecDepth 100000
set_option linter.unusedSimpArgs false
set_option linter.unusedVariables false
variable {E : Env}
theorem opU_ix (a : List UInt8) : opU a 6 = opIx a := by
  by_cases h0 : a = [104, 111, 108, 100]
  · subst h0; decide
  by_cases h1 : a = [97, 117, 116, 104]
  · subst h1; decide
  by_cases h2 : a = [107, 101, 101, 112]
  · subst h2; decide
  by_cases h3 : a = [98, 111, 111, 107]
  · subst h3; decide
  by_cases h4 : a = [115, 101, 110, 100]
  · subst h4; decide
  by_cases h5 : a = [116, 97, 107, 101]
  · subst h5; decide
  simp [opU, opR, opIx, h0, h1, h2, h3, h4, h5]
theorem clU_ix (a : List UInt8) : clU a 3 = clIx a := by
  by_cases h0 : a = [115, 111, 102, 116]
  · subst h0; decide
  by_cases h1 : a = [112, 105, 118, 111, 116]
  · subst h1; decide
  by_cases h2 : a = [102, 105, 114, 109]
  · subst h2; decide
  simp [clU, clR, clIx, h0, h1, h2]
/-- They read alike. -/
theorem read_eq (s : List UInt8) : rRead s = sRead s := by
  by_cases hl : (splitC 47 s).length = 6
  · obtain ⟨a, b, c, d, e, f, h6⟩ := len6 hl
    have hr := rRead_six h6
    rw [opU_ix, clU_ix] at hr
    rcases read_cases s with ⟨x, h1, h2, h3⟩ | h1
    · have h4 := h1
      rw [sRead_six h6] at h1
      split at h1
      · simp only [Prod.mk.injEq, and_true] at h1
        rw [h4, hr]
        subst h1
        rw [if_pos ⟨h2, h3⟩]
        rfl
      · simp at h1
    · rw [h1, hr]
      split
      · rename_i hc
        have h2 := read_text hc.1
        rw [hc.2, h1] at h2
        simp at h2
      · rfl
  · rw [rRead_ne hl, sRead_ne hl]
end Go.Lv
