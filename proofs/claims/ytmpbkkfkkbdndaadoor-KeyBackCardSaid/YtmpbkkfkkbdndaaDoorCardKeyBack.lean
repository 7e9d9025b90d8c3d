/- KeyBack: its tied card is proved: whatever it is handed, it returns true. No conditions but the card's own. -/
import Derived.Test.YtmpbkkfkkbdndaaDoorRowKeyBack
namespace Go.Proofs.YtmpbkkfkkbdndaaDoor
open Go
theorem KeyBack : Rows.KeyBackCardSaid :=
  Claim7.holds_tied_plain_at .later [] [.data, .data, .data] true (true, "ce972bb384f49b9f1d41f30cba177635cd666befa79370b099c5085025b86da4") true
    keyBack.over (fun _ h => by cases h) (by kernel_rfl) (fun _ h => by cases h) keyBack_row_tie rfl ⟨rfl, rfl⟩ (by kernel_rfl) rfl
    (fun f fn hf hfn => by
      obtain rfl : f = 11 := Option.some.inj ((show Tryd.prog.funcNamed "drayman/draymanlaw22.KeyBack" = some 11 by kernel_rfl).symm.trans hf) |>.symm
      obtain rfl : fn = Tryd.f11 := (Option.some.inj (Tryd.func11.symm.trans hfn)).symm
      exact ⟨by kernel_rfl, fun j t ht => by
        rw [Tryd.params11] at ht
        have h3 : t = 9 ∨ t = 50 := by
          rcases j with _ | _ | _ | _ | j
          · have := ht.symm; simp at this; simp [this]
          · have := ht.symm; simp at this; simp [this]
          · have := ht.symm; simp at this; simp [this]
          · have := ht.symm; simp at this; simp [this]
          · simp at ht
        rcases h3 with rfl | rfl
        · exact (show Tryd.prog.wantsStandIn 9 = false by kernel_rfl)
        · exact (show Tryd.prog.wantsStandIn 50 = false by kernel_rfl)⟩)
    (by kernel_rfl)
#print axioms KeyBack
end Go.Proofs.YtmpbkkfkkbdndaaDoor
