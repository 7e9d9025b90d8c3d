/- NumThere: its tied card is proved: whatever two whole numbers it is handed, it returns true. No conditions but the card's own. -/
import Derived.Test.YtmpbkkfkkbdndaaDoorRowThere
namespace Go.Proofs.YtmpbkkfkkbdndaaDoor
open Go
theorem NumThere : Rows.NumThereCardSaid :=
  Claim7.holds_tied_plain_at .later [] [.data, .data, .data] true (true, "ce972bb384f49b9f1d41f30cba177635cd666befa79370b099c5085025b86da4") true
    numThere.over (fun _ h => by cases h) (by kernel_rfl) (fun _ h => by cases h) numThere_row_tie rfl ⟨rfl, rfl⟩ (by kernel_rfl) rfl
    (fun f fn hf hfn => by
      obtain rfl : f = 5 := Option.some.inj ((show Tryd.prog.funcNamed "drayman/draymanlaw01.NumThere" = some 5 by kernel_rfl).symm.trans hf) |>.symm
      obtain rfl : fn = Tryd.f5 := (Option.some.inj (Tryd.func5.symm.trans hfn)).symm
      exact ⟨by kernel_rfl, fun j t ht => by
        rw [Tryd.params5] at ht
        have h3 : t = 3 := by
          rcases j with _ | _ | j
          · simpa using ht.symm
          · simpa using ht.symm
          · simp at ht
        subst h3
        exact (show Tryd.prog.wantsStandIn 3 = false by kernel_rfl)⟩)
    (by kernel_rfl)
#print axioms NumThere
end Go.Proofs.YtmpbkkfkkbdndaaDoor
