/- DefOrder: its tied card is proved: whatever it is handed, it returns true. No conditions but the card's own. -/
import Derived.Test.YtmpbkkfkkbdndabDoorRowDefOrder
namespace Go.Proofs.YtmpbkkfkkbdndabDoor
open Go
theorem DefOrder : Rows.DefOrderCardSaid :=
  Claim7.holds_tied_plain_at .later [] [.data, .pinned] true (true, "301b5de399bb295de15acf2e0b64d2705f0f12740129c17b67b336a5cb43a128") false
    defOrder.over (fun _ h => by cases h) (by kernel_rfl) (fun _ h => by cases h) defOrder_row_tie rfl ⟨rfl, rfl⟩ (by kernel_rfl) rfl
    (fun f fn hf hfn => by
      obtain rfl : f = 3 := Option.some.inj ((show Tryd.prog.funcNamed "drayman/draymanlaw21.DefOrder" = some 3 by kernel_rfl).symm.trans hf) |>.symm
      obtain rfl : fn = Tryd.f3 := (Option.some.inj (Tryd.func3.symm.trans hfn)).symm
      exact ⟨by kernel_rfl, fun j t ht => by
        rw [Tryd.params3] at ht
        have h3 : t = 24 := by
          rcases j with _ | j
          · have := ht.symm; simp at this; simp [this]
          · simp at ht
        rcases h3 with rfl
        · exact (show Tryd.prog.wantsStandIn 24 = false by kernel_rfl)⟩)
    (by kernel_rfl)
#print axioms DefOrder
end Go.Proofs.YtmpbkkfkkbdndabDoor
