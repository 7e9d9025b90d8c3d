/- Letters: the chapter's example, run. -/
import Derived.Test.YtmpbkkfkkbdndaaDoorLetJ
namespace Go.Lv
open Go Go.Proofs Go.IntWalk
set_option linter.unusedVariables false
variable {E : Env}
def strsOf : List D → Option (List (List UInt8))
  | [] => some []
  | .str s :: l => match strsOf l with
    | some r => some (s :: r)
    | none => none
  | _ => none
theorem strsOf_spec : ∀ {cs : List D} {ws : List (List UInt8)}, strsOf cs = some ws → cs = strsD ws
  | [], ws, h => by cases h; rfl
  | .str s :: l, ws, h => by
    simp only [strsOf] at h
    split at h
    · rename_i r hr
      cases h
      rw [strsOf_spec hr]
      rfl
    · cases h
def knownL (f : FuncId) (args : List D) (H : Hp) : Option (D × Hp) :=
  if f = 58 then
    match args with
    | [.own i len n, .str sep] => match hget H i with
      | .row 1 false cs => match strsOf cs with
        | some ws => if len = ws.length ∧ n = ws.length ∧ ws.length ≤ 1000000 ∧ (Lib.join ws sep).length ≤ 140737488355328 then some (.str (Lib.join ws sep), H) else none
        | none => none
      | _ => none
    | _ => none
  else knownA f args H
def knownLOf (E : Env) (ht : Tab E.h0 1 .u64 Lib.pow10Tab) : Known Tryd.prog E where
  call := knownL
  ok := by
    intro g args H r H' h
    unfold knownL at h
    split at h
    · rename_i hg
      subst hg
      split at h
      · rename_i i len n sep
        split at h
        · rename_i cs hgt
          split at h
          · rename_i ws hw
            split at h
            · rename_i hh
              obtain ⟨rfl, rfl, hl, hj⟩ := hh
              cases h
              have := strsOf_spec hw
              subst this
              exact joinOwn H i ws sep hgt hl hj
            · cases h
          · cases h
        · cases h
      · cases h
    · exact (knownOf E ht).ok g args H r H' h
theorem awake28_run : isTrue (run Tryd.prog (fun _ => .und) knownL 50 10 28 [] []) = true := by decide +kernel
theorem awake28 (ht : Tab E.h0 1 .u64 Lib.pow10Tab) (hg : E.g = fun _ => .und) : PDen Tryd.prog E 28 [] (.bool true) := by
  obtain ⟨H, hr⟩ := isTrue_spec awake28_run
  have := (run_fun mixed (knownLOf E ht) 50 10 28 [] [] _ _ (by rw [hg]; exact hr)).den
  exact ⟨rfl, rfl, fun h ρ w vs M hb hS hsz hrel => (this h ρ w vs M hb hS hsz hrel).mono fun e w' ⟨v, r, S', h', ρ', h1, h2, h3⟩ => ⟨v, r, S', h', ρ', h1, h2.1, h3⟩⟩
end Go.Lv
