/-
  DERIVED. GIVEN WITH THE SEED: THE CARDS: each row of YtokogblpdbgkgaaDoorRows.lean that lists a variable, with what it lists TIED to the program's text (the seventh form; the later family's looks); each row that meets fmt, with fmt's text TOLD by the authors' own Lean function (tested against real Go, not proved from fmt's source: count such statements apart). THE CARD IS WHAT COUNTS. Prove the row's statement (the work); the ties are given (YtokogblpdbgkgaaDoorTie.lean); close each card by the builder's one call (the guide's Derived/Test/ToyasCard.lean, 'card_holds'). Laid BY PROGRAM, IN A SANDBOX (cutbox-door.mjs). By AI agents, Wed Nov 11 2026. No macro, syntax, notation, axiom, sorry.
-/
import Derived.Test.YtokogblpdbgkgaaDoorRows
import GoSem.ClaimSeven
namespace Go.Proofs.YtokogblpdbgkgaaDoor
namespace Rows

/-- THE TIED CARD OF 'draymanlaw21.DefBuilt'. -/
def defBuiltCard : Claim7 := { stood := { row := defBuiltRow, standIns := [], harness := (true, "1173427fbc19a69a49e60295b5a8a6562f2f1a0fb5a14b65e0f0d6e365d0ee97"), looks := false }, kinds := [], alts := [], laidByText := true, laidKinds := [.data, .data, .data, .data, .pinned], laidTests := true, laidLooks := .later }
def DefBuiltCardSaid : Prop := Claim7.holds Tryd.pinned (.plain (OpenSpec.ofChange defBuiltSpec)) defBuiltCard

/-- THE SECOND FORM's CARD OF 'draymanlaw21.DefBuilt'. -/
def defBuiltUptoCard : Claim7 := { stood := { row := defBuiltUptoRow, standIns := [], harness := (true, "1173427fbc19a69a49e60295b5a8a6562f2f1a0fb5a14b65e0f0d6e365d0ee97"), looks := false }, kinds := [], alts := [], laidByText := true, laidKinds := [.data, .data, .data, .data, .pinned], laidTests := true, laidLooks := .later }
def DefBuiltUptoCardSaid : Prop := Claim7.holds Tryd.pinned (.plain (OpenSpec.upto defBuiltSpec)) defBuiltUptoCard
end Rows
end Go.Proofs.YtokogblpdbgkgaaDoor
