/- The rows of this seat: what they have in common. -/
import Derived.Test.YtmpbkkfkkbdndaaDoorLv6
import Derived.Test.YtmpbkkfkkbdndaaDoorNumB
import Derived.Test.YtmpbkkfkkbdndaaDoorNumA
import Derived.Test.YtmpbkkfkkbdndaaDoorRows
import Derived.Test.YtmpbkkfkkbdndaaDoorCards
import Derived.Test.YtmpbkkfkkbdndaaDoorTie
import Derived.WalkKit
import Derived.ProofKit
import Derived.OpenShut
import Derived.ShutString
import Derived.ChangeOld
import Derived.Below
import Derived.SizedLaws
import Derived.LaidLaws
import Derived.Handed
import Derived.JoinedOf
import Derived.SevenTiedAt
import Derived.Stop.LaidErr
namespace Go.Proofs.YtmpbkkfkkbdndaaDoor
open Go.ChangeShapes Go.WideShapes Go.ChangeAt Go.RowKit
theorem own : ownKnob Tryd.prog.godebug = none := by kernel_rfl
theorem laidOut : laidOutB Tryd.prog = true := by kernel_rfl
def laidList : List (String × DataW Unit) := [("math/bits.deBruijn32tab", Rows.laid_math_bits_deBruijn32tab), ("math/bits.deBruijn64tab", Rows.laid_math_bits_deBruijn64tab), ("internal/strconv.uint64pow10", Rows.laid_internal_strconv_uint64pow10)]
def litOf : DataW Unit → Value
  | .lit (.int k n) => .int k n
  | _ => .nilIface
def cellsOfData : DataW Unit → List Value
  | .agg l => l.map litOf
  | _ => []
def putTab (d : DataW Unit) : Obj → Obj
  | .cells _ t frozen => .cells (cellsOfData d).toArray t frozen
  | o => o
/-- The settled world, the listed variables holding what their initialisers lay. -/
noncomputable def laidWorld (os : Os) : World :=
  { World.holding Tryd.prog os ⟨#[], #[], []⟩ with heap := (((World.holding Tryd.prog os ⟨#[], #[], []⟩).heap.modify 2 (putTab Rows.laid_math_bits_deBruijn32tab)).modify 3 (putTab Rows.laid_math_bits_deBruijn64tab)).modify 1 (putTab Rows.laid_internal_strconv_uint64pow10) }
theorem laid_met (os : Os) (args : Array Value) : laidMet Tryd.prog laidList ((laidWorld os).forCall (fun _ _ => 0) ⟨#[], args, []⟩).memory :=
  laidMet_of_run' 8 (by kernel_rfl) (by kernel_rfl)
theorem pow10_of {W : World} (h : laidMet Tryd.prog laidList W) : Lv.Tab (Lv.envOf W).h0 1 .u64 Lib.pow10Tab := by
  have h2 := h.tail.tail
  exact Lv.tab_of (P := Tryd.prog) (Lib.tabIs_of_head (t := 124) (e := 113) (n := 20) (g := 1) (by kernel_rfl) (by kernel_rfl) (by kernel_rfl) (by kernel_rfl) (by kernel_rfl) (by kernel_rfl) h2) (by kernel_rfl)
theorem cells_ints : ∀ l : List Int, (l.map Lv.I).flatMap Lv.D.cells = l.map Lv.I
  | [] => rfl
  | x :: l => by
    simp only [List.map, List.flatMap_cons, cells_ints l]
    rfl
/-- A slice of whole numbers that is handed to the call, as data. -/
theorem rel_ints {H : Type} {enc : TypeId × Value → H} {W : World} {base : Nat} {spare : Nat → Bool} {held : Bool} {a : Option Addr} {len cap : Nat} {d : DataW H} {p : List MemPlace} (h : DataW.Trod enc Tryd.prog W base spare held 31 (.slice a len cap) d p) :
    ∃ xs : List Int, Lv.RelV (Lv.envOf W).h0 (fun _ _ => none) (.list false (xs.map Lv.I)) (.slice a len cap) := by
  obtain ⟨fuel, hf⟩ := h
  rcases open_ints Tryd.underlying31 Tryd.underlying3 (by kernel_rfl) hf with ⟨hcs, _⟩ | ⟨x, l, c, zs, hcs, _, hl, hm, hz, _, hcell, hwz⟩
  · simp [Value.cells] at hcs
    obtain ⟨rfl, rfl, rfl⟩ := hcs
    exact ⟨[], .lnil _ _ _ (fun h => by cases h)⟩
  · simp [Value.cells] at hcs
    obtain ⟨rfl, rfl, rfl⟩ := hcs
    have hlz : len ≤ zs.length := by rw [hz]; split <;> omega
    refine ⟨zs.take len, ?_⟩
    cases len with
    | zero =>
      rw [List.take_zero]
      exact .lnil _ _ _ (fun h => by cases h)
    | succ n =>
      have h0 := hcell 0 (by omega)
      have hb : ∃ cs e fz, W.heap[x.block]? = some (.cells cs e fz) ∧ x.spot = none := by
        unfold World.cell? at h0
        simp only [Addr.add, if_true] at h0
        split at h0
        · rename_i cs e fz hh
          refine ⟨cs, e, fz, hh, ?_⟩
          split at h0
          · cases h0
          · rename_i hs
            simpa using hs
        · cases h0
      obtain ⟨cs, e, fz, hb, hs⟩ := hb
      have hx : x = ⟨x.block, x.off, none⟩ := by rw [← hs]
      have hcs : ∀ j, j < zs.length → cs[x.off + j]? = some (.int .i64 (zs.getD j 0)) := by
        intro j hj
        have := hcell j hj
        unfold World.cell? at this
        have hbl : (x.add j).block = x.block := by unfold Addr.add; split <;> rfl
        have hof : (x.add j).off = x.off + j := by
          unfold Addr.add
          split
          · omega
          · rfl
        have hsp : (x.add j).spot = none := by
          unfold Addr.add
          split
          · exact hs
          · rfl
        rw [hbl, hb] at this
        simpa [hsp, hof] using this
      have hlen : (zs.take (n + 1)).length = n + 1 := by rw [List.length_take]; omega
      rw [hx]
      refine .list _ _ _ _ _ _ 1 cs e fz (fun j => .int .i64 (zs.getD j 0)) (by intro h; have := congrArg List.length h; rw [List.length_map, hlen] at this; cases this) (by rw [List.length_map, hlen]) hl (fun h => by cases h) ?_ ?_ ?_ hb ?_ (fun j hj => rfl) ?_
      · intro y hy
        obtain ⟨z, _, rfl⟩ := List.mem_map.1 hy
        rfl
      · intro y hy
        obtain ⟨z, _, rfl⟩ := List.mem_map.1 hy
        rfl
      · intro y hy
        obtain ⟨z, _, rfl⟩ := List.mem_map.1 hy
        rfl
      · intro j hj
        rw [cells_ints, List.length_map, hlen] at hj
        exact hcs j (by omega)
      · intro j d hj
        rw [cells_ints, List.getElem?_map] at hj
        cases hz' : (zs.take (n + 1))[j]? with
        | none => simp [hz'] at hj
        | some z =>
          simp only [hz', Option.map_some, Option.some.injEq] at hj
          subst hj
          have hjn := (List.getElem?_eq_some_iff.1 hz').1
          rw [List.getElem?_take] at hz'
          split at hz'
          · have : zs.getD j 0 = z := by rw [List.getD_eq_getElem?_getD, hz']; rfl
            rw [this]
            exact .int _ _
          · cases hz'
end Go.Proofs.YtmpbkkfkkbdndaaDoor
