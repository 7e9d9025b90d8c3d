/-
  DERIVED. GIVEN WITH THE SEED: THE CARDS: each row of YtmpbkkfkkbdndabDoorRows.lean that lists a variable, with what it lists TIED to the program's text (the seventh form; the later family's looks); each row that meets fmt, with fmt's text TOLD by the authors' own Lean function (tested against real Go, not proved from fmt's source: count such statements apart). THE CARD IS WHAT COUNTS. Prove the row's statement (the work); the ties are given (YtmpbkkfkkbdndabDoorTie.lean); close each card by the builder's one call (the guide's Derived/Test/ToyasCard.lean, 'card_holds'). Laid BY PROGRAM, IN A SANDBOX (cutbox-door.mjs). By AI agents, Wed Nov 11 2026. No macro, syntax, notation, axiom, sorry.
-/
import Derived.Test.YtmpbkkfkkbdndabDoorRows
import GoSem.ClaimSeven
namespace Go.Proofs.YtmpbkkfkkbdndabDoor
namespace Rows

/-- THE TIED CARD OF 'draymanlaw21.DefOrder'. -/
def defOrderCard : Claim7 := { stood := { row := defOrderRow, standIns := [], harness := (true, "301b5de399bb295de15acf2e0b64d2705f0f12740129c17b67b336a5cb43a128"), looks := false }, kinds := [], alts := [], laidByText := true, laidKinds := [.data, .pinned], laidTests := true, laidLooks := .later }
def DefOrderCardSaid : Prop := Claim7.holds Tryd.pinned (.plain (OpenSpec.ofChange defOrderSpec)) defOrderCard

/-- THE TIED CARD OF 'draymanlaw20.StepReads'. -/
def stepReadsCard : Claim7 := { stood := { row := stepReadsRow, standIns := [], harness := (true, "301b5de399bb295de15acf2e0b64d2705f0f12740129c17b67b336a5cb43a128"), looks := false }, kinds := [], alts := [], laidByText := true, laidKinds := [.data, .data, .data, .data, .pinned], laidTests := true, laidLooks := .later }
def StepReadsCardSaid : Prop := Claim7.holds Tryd.pinned (.plain (OpenSpec.ofChange stepReadsSpec)) stepReadsCard

/-- THE TIED CARD OF 'draymanlaw20.StepBack'. -/
def stepBackCard : Claim7 := { stood := { row := stepBackRow, standIns := [], harness := (true, "301b5de399bb295de15acf2e0b64d2705f0f12740129c17b67b336a5cb43a128"), looks := false }, kinds := [], alts := [], laidByText := true, laidKinds := [.data, .data, .data, .data, .pinned], laidTests := true, laidLooks := .later }
def StepBackCardSaid : Prop := Claim7.holds Tryd.pinned (.plain (OpenSpec.ofChange stepBackSpec)) stepBackCard

/-- THE TIED CARD OF 'draymanlaw20.StepTells'. -/
def stepTellsCard : Claim7 := { stood := { row := stepTellsRow, standIns := [], harness := (true, "301b5de399bb295de15acf2e0b64d2705f0f12740129c17b67b336a5cb43a128"), looks := false }, kinds := [], alts := [], laidByText := true, laidKinds := [.data, .data, .data, .data, .pinned], laidTests := true, laidLooks := .later }
def StepTellsCardSaid : Prop := Claim7.holds Tryd.pinned (.plain (OpenSpec.ofChange stepTellsSpec)) stepTellsCard

/-- THE TIED CARD OF 'draymanlaw21.DefReads'. -/
def defReadsCard : Claim7 := { stood := { row := defReadsRow, standIns := [], harness := (true, "301b5de399bb295de15acf2e0b64d2705f0f12740129c17b67b336a5cb43a128"), looks := false }, kinds := [], alts := [], laidByText := true, laidKinds := [.data, .pinned], laidTests := true, laidLooks := .later }
def DefReadsCardSaid : Prop := Claim7.holds Tryd.pinned (.plain (OpenSpec.ofChange defReadsSpec)) defReadsCard

/-- THE SECOND FORM's CARD OF 'draymanlaw21.DefOrder'. -/
def defOrderUptoCard : Claim7 := { stood := { row := defOrderUptoRow, standIns := [], harness := (true, "301b5de399bb295de15acf2e0b64d2705f0f12740129c17b67b336a5cb43a128"), looks := false }, kinds := [], alts := [], laidByText := true, laidKinds := [.data, .pinned], laidTests := true, laidLooks := .later }
def DefOrderUptoCardSaid : Prop := Claim7.holds Tryd.pinned (.plain (OpenSpec.upto defOrderSpec)) defOrderUptoCard

/-- THE SECOND FORM's CARD OF 'draymanlaw20.StepReads'. -/
def stepReadsUptoCard : Claim7 := { stood := { row := stepReadsUptoRow, standIns := [], harness := (true, "301b5de399bb295de15acf2e0b64d2705f0f12740129c17b67b336a5cb43a128"), looks := false }, kinds := [], alts := [], laidByText := true, laidKinds := [.data, .data, .data, .data, .pinned], laidTests := true, laidLooks := .later }
def StepReadsUptoCardSaid : Prop := Claim7.holds Tryd.pinned (.plain (OpenSpec.upto stepReadsSpec)) stepReadsUptoCard

/-- THE SECOND FORM's CARD OF 'draymanlaw20.StepBack'. -/
def stepBackUptoCard : Claim7 := { stood := { row := stepBackUptoRow, standIns := [], harness := (true, "301b5de399bb295de15acf2e0b64d2705f0f12740129c17b67b336a5cb43a128"), looks := false }, kinds := [], alts := [], laidByText := true, laidKinds := [.data, .data, .data, .data, .pinned], laidTests := true, laidLooks := .later }
def StepBackUptoCardSaid : Prop := Claim7.holds Tryd.pinned (.plain (OpenSpec.upto stepBackSpec)) stepBackUptoCard

/-- THE SECOND FORM's CARD OF 'draymanlaw20.StepTells'. -/
def stepTellsUptoCard : Claim7 := { stood := { row := stepTellsUptoRow, standIns := [], harness := (true, "301b5de399bb295de15acf2e0b64d2705f0f12740129c17b67b336a5cb43a128"), looks := false }, kinds := [], alts := [], laidByText := true, laidKinds := [.data, .data, .data, .data, .pinned], laidTests := true, laidLooks := .later }
def StepTellsUptoCardSaid : Prop := Claim7.holds Tryd.pinned (.plain (OpenSpec.upto stepTellsSpec)) stepTellsUptoCard

/-- THE SECOND FORM's CARD OF 'draymanlaw21.DefReads'. -/
def defReadsUptoCard : Claim7 := { stood := { row := defReadsUptoRow, standIns := [], harness := (true, "301b5de399bb295de15acf2e0b64d2705f0f12740129c17b67b336a5cb43a128"), looks := false }, kinds := [], alts := [], laidByText := true, laidKinds := [.data, .pinned], laidTests := true, laidLooks := .later }
def DefReadsUptoCardSaid : Prop := Claim7.holds Tryd.pinned (.plain (OpenSpec.upto defReadsSpec)) defReadsUptoCard
end Rows
end Go.Proofs.YtmpbkkfkkbdndabDoor
