/- AwD: def.Awake, run. -/
import Derived.Test.YtmpbkkfkkbdndabDoorNameB
namespace Go.Lv
open Go Go.Proofs Go.IntWalk
set_option maxRecDepth 100000
set_option linter.unusedSimpArgs false
set_option linter.unusedVariables false
variable {E : Env}
def knownL (f : FuncId) (args : List D) (H : Hp) : Option (D × Hp) :=
  if f = 109 then
    match args with
    | [.str s] => if s.length ≤ 1000 then some (.bool (Lib.validD s), H) else none
    | _ => none
  else none
def knownLOf (E : Env) (hU : UT E) : Known Tryd.prog E where
  call := knownL
  ok := by
    intro g args H r H' h
    unfold knownL at h
    split at h
    · rename_i hg
      subst hg
      split at h
      · split at h
        · rename_i hn
          cases h
          exact (valid109 hU _ (by omega)).fun H
        · cases h
      · cases h
    · cases h
theorem awake10 (hg : E.g = fun _ => .und) (hU : UT E) : PDen Tryd.prog E 10 [] (.bool true) := by
  have hr : isTrue (run Tryd.prog (fun _ => .und) knownL 60 20 10 [] []) = true := by decide +kernel
  obtain ⟨H, hr⟩ := isTrue_spec hr
  have := run_fun mixed (knownLOf E hU) 60 20 10 [] [] (.bool true) H (by rw [hg]; exact hr)
  refine ⟨rfl, rfl, fun h ρ w vs M hb hS hsz hrel => ?_⟩
  refine (this.den h ρ w vs M hb hS hsz hrel).mono fun e w' ⟨v, r, S', h', ρ', h1, h2, h3, h4, h5, h6⟩ => ?_
  obtain ⟨rfl, rfl⟩ := h2
  exact ⟨v, _, _, h', ρ', h1, rfl, h3, h4, h5, h6⟩
end Go.Lv
