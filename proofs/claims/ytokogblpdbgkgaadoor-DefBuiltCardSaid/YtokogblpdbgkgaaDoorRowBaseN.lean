/- The rows of this seat: what they have in common. -/
import Derived.Test.YtokogblpdbgkgaaDoorNv6
import Derived.Test.YtokogblpdbgkgaaDoorNvY
import Derived.Test.YtokogblpdbgkgaaDoorBuiltC
import Derived.Lib.LaidU8T
import Derived.Test.YtokogblpdbgkgaaDoorRows
import Derived.Test.YtokogblpdbgkgaaDoorCards
import Derived.Test.YtokogblpdbgkgaaDoorTie
import Derived.WalkKit
import Derived.ProofKit
import Derived.OpenShut
import Derived.ShutString
import Derived.ChangeOld
import Derived.Below
import Derived.SizedLaws
import Derived.LaidLaws
import Derived.Handed
import Derived.JoinedOf
import Derived.SevenTiedAt
import Derived.Stop.LaidErr
namespace Go.Lv
open Go Go.Proofs
theorem ut_of {W : World} (h : Lib.Utf8Tabs (Tryd.lays196_ren.g 3) (Tryd.lays196_ren.g 4) W) : UT (envOf W) := fun w hw => by
  have up : ∀ (a : Addr) (v : Value), W.cell? a = some v → w.cell? a = some v := fun a v hc => by
    unfold World.cell? at hc ⊢
    cases ho : W.heap[a.block]? with
    | none => rw [ho] at hc; simp at hc
    | some o => rw [show w.heap[a.block]? = some o from hw a.block o ho]; rwa [ho] at hc
  exact ⟨fun c hc => up _ _ (h.1 c hc), fun i hi => ⟨up _ _ (h.2 i hi).1, up _ _ (h.2 i hi).2⟩⟩
end Go.Lv
namespace Go.Proofs.YtokogblpdbgkgaaDoor
open Go.ChangeShapes Go.WideShapes Go.ChangeAt Go.RowKit
theorem own : ownKnob Tryd.prog.godebug = none := by kernel_rfl
theorem laidOut : laidOutB Tryd.prog = true := by kernel_rfl
def laidList : List (String × DataW Unit) := [("math/bits.deBruijn32tab", Rows.laid_math_bits_deBruijn32tab), ("math/bits.deBruijn64tab", Rows.laid_math_bits_deBruijn64tab), ("internal/strconv.uint64pow10", Rows.laid_internal_strconv_uint64pow10), ("unicode/utf8.acceptRanges", Rows.laid_unicode_utf8_acceptRanges), ("unicode/utf8.first", Rows.laid_unicode_utf8_first)]
def litOf : DataW Unit → Value
  | .lit (.int k n) => .int k n
  | _ => .nilIface
def litsOf : DataW Unit → List Value
  | .agg l => l.map litOf
  | d => [litOf d]
def cellsOfData : DataW Unit → List Value
  | .agg l => l.flatMap litsOf
  | _ => []
def putTab (d : DataW Unit) : Obj → Obj
  | .cells _ t frozen => .cells (cellsOfData d).toArray t frozen
  | o => o
/-- The settled world, the listed variables holding what their initialisers lay. -/
noncomputable def laidWorld (os : Os) : World :=
  { World.holding Tryd.prog os ⟨#[], #[], []⟩ with heap := (((((World.holding Tryd.prog os ⟨#[], #[], []⟩).heap.modify 4 (putTab Rows.laid_math_bits_deBruijn32tab)).modify 5 (putTab Rows.laid_math_bits_deBruijn64tab)).modify 3 (putTab Rows.laid_internal_strconv_uint64pow10)).modify 1 (putTab Rows.laid_unicode_utf8_acceptRanges)).modify 0 (putTab Rows.laid_unicode_utf8_first) }
theorem laid_met (os : Os) (args : Array Value) : laidMet Tryd.prog laidList ((laidWorld os).forCall (fun _ _ => 0) ⟨#[], args, []⟩).memory :=
  laidMet_of_run' 8 (by kernel_rfl) (by kernel_rfl)
theorem pow10_of {W : World} (h : laidMet Tryd.prog laidList W) : Lv.Tab (Lv.envOf W).h0 3 .u64 Lib.pow10Tab := by
  have h2 := h.tail.tail
  exact Lv.tab_of (P := Tryd.prog) (Lib.tabIs_of_head (t := 111) (e := 101) (n := 20) (g := 3) (by kernel_rfl) (by kernel_rfl) (by kernel_rfl) (by kernel_rfl) (by kernel_rfl) (by kernel_rfl) h2) (by kernel_rfl)
theorem firstD : Lib.firstData = Rows.laid_unicode_utf8_first := by kernel_rfl
theorem acceptD : Lib.acceptData = Rows.laid_unicode_utf8_acceptRanges := by kernel_rfl
theorem utf8_of {W : World} (h : laidMet Tryd.prog laidList W) : Lv.UT (Lv.envOf W) :=
  Lv.ut_of (utf8Tabs_of_readsT (ρ := Tryd.lays196_ren) (U8Types.of196 Tryd.lays196) ⟨by kernel_rfl, by kernel_rfl, by kernel_rfl, by kernel_rfl, by kernel_rfl, by kernel_rfl, by kernel_rfl⟩ (firstD ▸ Lib.laidMet.reads h (by simp [laidList])) (acceptD ▸ Lib.laidMet.reads h (by simp [laidList])))
end Go.Proofs.YtokogblpdbgkgaaDoor
