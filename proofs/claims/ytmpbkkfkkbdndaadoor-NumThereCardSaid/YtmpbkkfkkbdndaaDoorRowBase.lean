/- The rows of this seat: what they have in common. -/
import Derived.Test.YtmpbkkfkkbdndaaDoorLvX
import Derived.Test.YtmpbkkfkkbdndaaDoorNumB
import Derived.Test.YtmpbkkfkkbdndaaDoorRows
import Derived.Test.YtmpbkkfkkbdndaaDoorCards
import Derived.Test.YtmpbkkfkkbdndaaDoorTie
import Derived.WalkKit
import Derived.ProofKit
import Derived.OpenShut
import Derived.ShutString
import Derived.ChangeOld
import Derived.Below
import Derived.SizedLaws
import Derived.LaidLaws
import Derived.Handed
import Derived.JoinedOf
import Derived.SevenTiedAt
import Derived.Stop.LaidErr
namespace Go.Proofs.YtmpbkkfkkbdndaaDoor
open Go.ChangeShapes Go.WideShapes Go.ChangeAt Go.RowKit
theorem own : ownKnob Tryd.prog.godebug = none := by kernel_rfl
theorem laidOut : laidOutB Tryd.prog = true := by kernel_rfl
def laidList : List (String × DataW Unit) := [("math/bits.deBruijn32tab", Rows.laid_math_bits_deBruijn32tab), ("math/bits.deBruijn64tab", Rows.laid_math_bits_deBruijn64tab), ("internal/strconv.uint64pow10", Rows.laid_internal_strconv_uint64pow10)]
def litOf : DataW Unit → Value
  | .lit (.int k n) => .int k n
  | _ => .nilIface
def cellsOfData : DataW Unit → List Value
  | .agg l => l.map litOf
  | _ => []
def putTab (d : DataW Unit) : Obj → Obj
  | .cells _ t frozen => .cells (cellsOfData d).toArray t frozen
  | o => o
/-- The settled world, the listed variables holding what their initialisers lay. -/
noncomputable def laidWorld (os : Os) : World :=
  { World.holding Tryd.prog os ⟨#[], #[], []⟩ with heap := (((World.holding Tryd.prog os ⟨#[], #[], []⟩).heap.modify 2 (putTab Rows.laid_math_bits_deBruijn32tab)).modify 3 (putTab Rows.laid_math_bits_deBruijn64tab)).modify 1 (putTab Rows.laid_internal_strconv_uint64pow10) }
theorem laid_met (os : Os) (args : Array Value) : laidMet Tryd.prog laidList ((laidWorld os).forCall (fun _ _ => 0) ⟨#[], args, []⟩).memory :=
  laidMet_of_run' 8 (by kernel_rfl) (by kernel_rfl)
theorem pow10_of {W : World} (h : laidMet Tryd.prog laidList W) : Lv.Tab (Lv.envOf W).h0 1 .u64 Lib.pow10Tab := by
  have h2 := h.tail.tail
  exact Lv.tab_of (P := Tryd.prog) (Lib.tabIs_of_head (t := 124) (e := 113) (n := 20) (g := 1) (by kernel_rfl) (by kernel_rfl) (by kernel_rfl) (by kernel_rfl) (by kernel_rfl) (by kernel_rfl) h2) (by kernel_rfl)
end Go.Proofs.YtmpbkkfkkbdndaaDoor
