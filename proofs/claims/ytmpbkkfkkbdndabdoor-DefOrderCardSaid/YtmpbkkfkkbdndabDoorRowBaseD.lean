/- The rows of this seat: what they have in common. -/
import Derived.Test.YtmpbkkfkkbdndabDoorNv6
import Derived.Test.YtmpbkkfkkbdndabDoorNvY
import Derived.Test.YtmpbkkfkkbdndabDoorDefQ
import Derived.Lib.LaidU8T
import Derived.Test.YtmpbkkfkkbdndabDoorRows
import Derived.Test.YtmpbkkfkkbdndabDoorCards
import Derived.Test.YtmpbkkfkkbdndabDoorTie
import Derived.WalkKit
import Derived.ProofKit
import Derived.OpenShut
import Derived.ShutString
import Derived.ChangeOld
import Derived.Below
import Derived.SizedLaws
import Derived.LaidLaws
import Derived.Handed
import Derived.JoinedOf
import Derived.SevenTiedAt
import Derived.Stop.LaidErr
namespace Go.Proofs.YtmpbkkfkkbdndabDoor
open Go.ChangeShapes Go.WideShapes Go.ChangeAt Go.RowKit
theorem own : ownKnob Tryd.prog.godebug = none := by kernel_rfl
theorem laidOut : laidOutB Tryd.prog = true := by kernel_rfl
def laidList : List (String × DataW Unit) := [("unicode/utf8.acceptRanges", Rows.laid_unicode_utf8_acceptRanges), ("unicode/utf8.first", Rows.laid_unicode_utf8_first)]
def litOf : DataW Unit → Value
  | .lit (.int k n) => .int k n
  | _ => .nilIface
def litsOf : DataW Unit → List Value
  | .agg l => l.map litOf
  | d => [litOf d]
def cellsOfData : DataW Unit → List Value
  | .agg l => l.flatMap litsOf
  | _ => []
def putTab (d : DataW Unit) : Obj → Obj
  | .cells _ t frozen => .cells (cellsOfData d).toArray t frozen
  | o => o
/-- The settled world, the listed variables holding what their initialisers lay. -/
noncomputable def laidWorld (os : Os) : World :=
  { World.holding Tryd.prog os ⟨#[], #[], []⟩ with heap := (((World.holding Tryd.prog os ⟨#[], #[], []⟩).heap.modify 2 (putTab Rows.laid_unicode_utf8_acceptRanges)).modify 1 (putTab Rows.laid_unicode_utf8_first)) }
theorem laid_met (os : Os) (args : Array Value) : laidMet Tryd.prog laidList ((laidWorld os).forCall (fun _ _ => 0) ⟨#[], args, []⟩).memory :=
  laidMet_of_run' 8 (by kernel_rfl) (by kernel_rfl)
theorem firstD : Lib.firstData = Rows.laid_unicode_utf8_first := by kernel_rfl
theorem acceptD : Lib.acceptData = Rows.laid_unicode_utf8_acceptRanges := by kernel_rfl
theorem utf8_of {W : World} (h : laidMet Tryd.prog laidList W) : Lv.UT (Lv.envOf W) :=
  Lv.ut_of (utf8Tabs_of_readsT (ρ := Tryd.lays196_ren) (U8Types.of196 Tryd.lays196) ⟨by kernel_rfl, by kernel_rfl, by kernel_rfl, by kernel_rfl, by kernel_rfl, by kernel_rfl, by kernel_rfl⟩ (firstD ▸ Lib.laidMet.reads h (by simp [laidList])) (acceptD ▸ Lib.laidMet.reads h (by simp [laidList])))
end Go.Proofs.YtmpbkkfkkbdndabDoor
