/-
  DERIVED. GIVEN WITH THE SEED: THE CARDS: each row of YtmpbkkfkkbdndaaDoorRows.lean that lists a variable, with what it lists TIED to the program's text (the seventh form; the later family's looks); each row that meets fmt, with fmt's text TOLD by the authors' own Lean function (tested against real Go, not proved from fmt's source: count such statements apart). THE CARD IS WHAT COUNTS. Prove the row's statement (the work); the ties are given (YtmpbkkfkkbdndaaDoorTie.lean); close each card by the builder's one call (the guide's Derived/Test/ToyasCard.lean, 'card_holds'). Laid BY PROGRAM, IN A SANDBOX (cutbox-door.mjs). By AI agents, Wed Nov 11 2026. No macro, syntax, notation, axiom, sorry.
-/
import Derived.Test.YtmpbkkfkkbdndaaDoorRows
import GoSem.ClaimSeven
namespace Go.Proofs.YtmpbkkfkkbdndaaDoor
namespace Rows

/-- THE TIED CARD OF 'draymanlaw01.NumDigits'. -/
def numDigitsCard : Claim7 := { stood := { row := numDigitsRow, standIns := [], harness := (true, "ce972bb384f49b9f1d41f30cba177635cd666befa79370b099c5085025b86da4"), looks := true }, kinds := [], alts := [], laidByText := true, laidKinds := [.data, .data, .data], laidTests := true, laidLooks := .later }
def NumDigitsCardSaid : Prop := Claim7.holds Tryd.pinned (.plain (OpenSpec.ofChange numDigitsSpec)) numDigitsCard

/-- THE TIED CARD OF 'draymanlaw01.NumBack'. -/
def numBackCard : Claim7 := { stood := { row := numBackRow, standIns := [], harness := (true, "ce972bb384f49b9f1d41f30cba177635cd666befa79370b099c5085025b86da4"), looks := true }, kinds := [], alts := [], laidByText := true, laidKinds := [.data, .data, .data], laidTests := true, laidLooks := .later }
def NumBackCardSaid : Prop := Claim7.holds Tryd.pinned (.plain (OpenSpec.ofChange numBackSpec)) numBackCard

/-- THE TIED CARD OF 'draymanlaw01.NumThere'. -/
def numThereCard : Claim7 := { stood := { row := numThereRow, standIns := [], harness := (true, "ce972bb384f49b9f1d41f30cba177635cd666befa79370b099c5085025b86da4"), looks := true }, kinds := [], alts := [], laidByText := true, laidKinds := [.data, .data, .data], laidTests := true, laidLooks := .later }
def NumThereCardSaid : Prop := Claim7.holds Tryd.pinned (.plain (OpenSpec.ofChange numThereSpec)) numThereCard

/-- THE TIED CARD OF 'draymanlaw01.NumSums'. -/
def numSumsCard : Claim7 := { stood := { row := numSumsRow, standIns := [], harness := (true, "ce972bb384f49b9f1d41f30cba177635cd666befa79370b099c5085025b86da4"), looks := true }, kinds := [], alts := [], laidByText := true, laidKinds := [.data, .data, .data], laidTests := true, laidLooks := .later }
def NumSumsCardSaid : Prop := Claim7.holds Tryd.pinned (.plain (OpenSpec.ofChange numSumsSpec)) numSumsCard

/-- THE TIED CARD OF 'draymanlaw19.LetterTells'. -/
def letterTellsCard : Claim7 := { stood := { row := letterTellsRow, standIns := [], harness := (true, "ce972bb384f49b9f1d41f30cba177635cd666befa79370b099c5085025b86da4"), looks := true }, kinds := [], alts := [], laidByText := true, laidKinds := [.data, .data, .data], laidTests := true, laidLooks := .later }
def LetterTellsCardSaid : Prop := Claim7.holds Tryd.pinned (.plain (OpenSpec.ofChange letterTellsSpec)) letterTellsCard

/-- THE TIED CARD OF 'draymanlaw19.LetterTurns'. -/
def letterTurnsCard : Claim7 := { stood := { row := letterTurnsRow, standIns := [], harness := (true, "ce972bb384f49b9f1d41f30cba177635cd666befa79370b099c5085025b86da4"), looks := true }, kinds := [], alts := [], laidByText := true, laidKinds := [.data, .data, .data], laidTests := true, laidLooks := .later }
def LetterTurnsCardSaid : Prop := Claim7.holds Tryd.pinned (.plain (OpenSpec.ofChange letterTurnsSpec)) letterTurnsCard

/-- THE TIED CARD OF 'draymanlaw19.LetterBack'. -/
def letterBackCard : Claim7 := { stood := { row := letterBackRow, standIns := [], harness := (true, "ce972bb384f49b9f1d41f30cba177635cd666befa79370b099c5085025b86da4"), looks := true }, kinds := [], alts := [], laidByText := true, laidKinds := [.data, .data, .data], laidTests := true, laidLooks := .later }
def LetterBackCardSaid : Prop := Claim7.holds Tryd.pinned (.plain (OpenSpec.ofChange letterBackSpec)) letterBackCard

/-- THE TIED CARD OF 'draymanlaw22.KeyTells'. -/
def keyTellsCard : Claim7 := { stood := { row := keyTellsRow, standIns := [], harness := (true, "ce972bb384f49b9f1d41f30cba177635cd666befa79370b099c5085025b86da4"), looks := true }, kinds := [], alts := [], laidByText := true, laidKinds := [.data, .data, .data], laidTests := true, laidLooks := .later }
def KeyTellsCardSaid : Prop := Claim7.holds Tryd.pinned (.plain (OpenSpec.ofChange keyTellsSpec)) keyTellsCard

/-- THE TIED CARD OF 'draymanlaw22.KeyBack'. -/
def keyBackCard : Claim7 := { stood := { row := keyBackRow, standIns := [], harness := (true, "ce972bb384f49b9f1d41f30cba177635cd666befa79370b099c5085025b86da4"), looks := true }, kinds := [], alts := [], laidByText := true, laidKinds := [.data, .data, .data], laidTests := true, laidLooks := .later }
def KeyBackCardSaid : Prop := Claim7.holds Tryd.pinned (.plain (OpenSpec.ofChange keyBackSpec)) keyBackCard

/-- THE TIED CARD OF 'draymanlaw22.KeyOf'. -/
def keyOfCard : Claim7 := { stood := { row := keyOfRow, standIns := [], harness := (true, "ce972bb384f49b9f1d41f30cba177635cd666befa79370b099c5085025b86da4"), looks := true }, kinds := [], alts := [], laidByText := true, laidKinds := [.data, .data, .data], laidTests := true, laidLooks := .later }
def KeyOfCardSaid : Prop := Claim7.holds Tryd.pinned (.plain (OpenSpec.ofChange keyOfSpec)) keyOfCard

/-- THE SECOND FORM's CARD OF 'draymanlaw01.NumDigits'. -/
def numDigitsUptoCard : Claim7 := { stood := { row := numDigitsUptoRow, standIns := [], harness := (true, "ce972bb384f49b9f1d41f30cba177635cd666befa79370b099c5085025b86da4"), looks := true }, kinds := [], alts := [], laidByText := true, laidKinds := [.data, .data, .data], laidTests := true, laidLooks := .later }
def NumDigitsUptoCardSaid : Prop := Claim7.holds Tryd.pinned (.plain (OpenSpec.upto numDigitsSpec)) numDigitsUptoCard

/-- THE SECOND FORM's CARD OF 'draymanlaw01.NumBack'. -/
def numBackUptoCard : Claim7 := { stood := { row := numBackUptoRow, standIns := [], harness := (true, "ce972bb384f49b9f1d41f30cba177635cd666befa79370b099c5085025b86da4"), looks := true }, kinds := [], alts := [], laidByText := true, laidKinds := [.data, .data, .data], laidTests := true, laidLooks := .later }
def NumBackUptoCardSaid : Prop := Claim7.holds Tryd.pinned (.plain (OpenSpec.upto numBackSpec)) numBackUptoCard

/-- THE SECOND FORM's CARD OF 'draymanlaw01.NumThere'. -/
def numThereUptoCard : Claim7 := { stood := { row := numThereUptoRow, standIns := [], harness := (true, "ce972bb384f49b9f1d41f30cba177635cd666befa79370b099c5085025b86da4"), looks := true }, kinds := [], alts := [], laidByText := true, laidKinds := [.data, .data, .data], laidTests := true, laidLooks := .later }
def NumThereUptoCardSaid : Prop := Claim7.holds Tryd.pinned (.plain (OpenSpec.upto numThereSpec)) numThereUptoCard

/-- THE SECOND FORM's CARD OF 'draymanlaw01.NumSums'. -/
def numSumsUptoCard : Claim7 := { stood := { row := numSumsUptoRow, standIns := [], harness := (true, "ce972bb384f49b9f1d41f30cba177635cd666befa79370b099c5085025b86da4"), looks := true }, kinds := [], alts := [], laidByText := true, laidKinds := [.data, .data, .data], laidTests := true, laidLooks := .later }
def NumSumsUptoCardSaid : Prop := Claim7.holds Tryd.pinned (.plain (OpenSpec.upto numSumsSpec)) numSumsUptoCard

/-- THE SECOND FORM's CARD OF 'draymanlaw19.LetterTells'. -/
def letterTellsUptoCard : Claim7 := { stood := { row := letterTellsUptoRow, standIns := [], harness := (true, "ce972bb384f49b9f1d41f30cba177635cd666befa79370b099c5085025b86da4"), looks := true }, kinds := [], alts := [], laidByText := true, laidKinds := [.data, .data, .data], laidTests := true, laidLooks := .later }
def LetterTellsUptoCardSaid : Prop := Claim7.holds Tryd.pinned (.plain (OpenSpec.upto letterTellsSpec)) letterTellsUptoCard

/-- THE SECOND FORM's CARD OF 'draymanlaw19.LetterTurns'. -/
def letterTurnsUptoCard : Claim7 := { stood := { row := letterTurnsUptoRow, standIns := [], harness := (true, "ce972bb384f49b9f1d41f30cba177635cd666befa79370b099c5085025b86da4"), looks := true }, kinds := [], alts := [], laidByText := true, laidKinds := [.data, .data, .data], laidTests := true, laidLooks := .later }
def LetterTurnsUptoCardSaid : Prop := Claim7.holds Tryd.pinned (.plain (OpenSpec.upto letterTurnsSpec)) letterTurnsUptoCard

/-- THE SECOND FORM's CARD OF 'draymanlaw19.LetterBack'. -/
def letterBackUptoCard : Claim7 := { stood := { row := letterBackUptoRow, standIns := [], harness := (true, "ce972bb384f49b9f1d41f30cba177635cd666befa79370b099c5085025b86da4"), looks := true }, kinds := [], alts := [], laidByText := true, laidKinds := [.data, .data, .data], laidTests := true, laidLooks := .later }
def LetterBackUptoCardSaid : Prop := Claim7.holds Tryd.pinned (.plain (OpenSpec.upto letterBackSpec)) letterBackUptoCard

/-- THE SECOND FORM's CARD OF 'draymanlaw22.KeyTells'. -/
def keyTellsUptoCard : Claim7 := { stood := { row := keyTellsUptoRow, standIns := [], harness := (true, "ce972bb384f49b9f1d41f30cba177635cd666befa79370b099c5085025b86da4"), looks := true }, kinds := [], alts := [], laidByText := true, laidKinds := [.data, .data, .data], laidTests := true, laidLooks := .later }
def KeyTellsUptoCardSaid : Prop := Claim7.holds Tryd.pinned (.plain (OpenSpec.upto keyTellsSpec)) keyTellsUptoCard

/-- THE SECOND FORM's CARD OF 'draymanlaw22.KeyBack'. -/
def keyBackUptoCard : Claim7 := { stood := { row := keyBackUptoRow, standIns := [], harness := (true, "ce972bb384f49b9f1d41f30cba177635cd666befa79370b099c5085025b86da4"), looks := true }, kinds := [], alts := [], laidByText := true, laidKinds := [.data, .data, .data], laidTests := true, laidLooks := .later }
def KeyBackUptoCardSaid : Prop := Claim7.holds Tryd.pinned (.plain (OpenSpec.upto keyBackSpec)) keyBackUptoCard

/-- THE SECOND FORM's CARD OF 'draymanlaw22.KeyOf'. -/
def keyOfUptoCard : Claim7 := { stood := { row := keyOfUptoRow, standIns := [], harness := (true, "ce972bb384f49b9f1d41f30cba177635cd666befa79370b099c5085025b86da4"), looks := true }, kinds := [], alts := [], laidByText := true, laidKinds := [.data, .data, .data], laidTests := true, laidLooks := .later }
def KeyOfUptoCardSaid : Prop := Claim7.holds Tryd.pinned (.plain (OpenSpec.upto keyOfSpec)) keyOfUptoCard
end Rows
end Go.Proofs.YtmpbkkfkkbdndaaDoor
