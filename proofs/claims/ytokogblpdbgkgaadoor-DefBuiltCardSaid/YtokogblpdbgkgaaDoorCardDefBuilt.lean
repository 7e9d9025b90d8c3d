/- DefBuilt: its tied card is proved: whatever it is handed, it returns true. No conditions but the card's own. -/
import Derived.Test.YtokogblpdbgkgaaDoorRowDefBuilt
namespace Go.Proofs.YtokogblpdbgkgaaDoor
open Go
theorem DefBuilt : Rows.DefBuiltCardSaid :=
  Claim7.holds_tied_plain_at .later [] [.data, .data, .data, .data, .pinned] true (true, "1173427fbc19a69a49e60295b5a8a6562f2f1a0fb5a14b65e0f0d6e365d0ee97") false
    defBuilt.over (fun _ h => by cases h) (by kernel_rfl) (fun _ h => by cases h) defBuilt_row_tie rfl ⟨rfl, rfl⟩ (by kernel_rfl) rfl
    (fun f fn hf hfn => by
      obtain rfl : f = 3 := Option.some.inj ((show Tryd.prog.funcNamed "drayman/draymanlaw21.DefBuilt" = some 3 by kernel_rfl).symm.trans hf) |>.symm
      obtain rfl : fn = Tryd.f3 := (Option.some.inj (Tryd.func3.symm.trans hfn)).symm
      exact ⟨by kernel_rfl, fun j t ht => by
        rw [Tryd.params3] at ht
        simp at ht⟩)
    (by kernel_rfl)
#print axioms DefBuilt
end Go.Proofs.YtokogblpdbgkgaaDoor
