/- LvC: operations without memory: the machine's operation tells what the data's does. -/
import Derived.Test.YtmpbkkfkkbdndaaDoorLvB
import Derived.Laws.Strings
import Derived.Laws.Unary
import Derived.Laws.Slices
namespace Go.Lv
open Go
set_option linter.unusedVariables false
set_option linter.unusedSimpArgs false

theorem run_binOp_int {P : Program} {w : World} {h : Gh} {ρ : Rn} {op : BinOp} {t : TypeId} {k k' : IntKind} {a b : Int} {d : D} (e : dBin op (.int k a) (.int k' b) = some d) :
    ∃ v, (binOp op t (.int k a) (.int k' b)).run P w = .ok v w ∧ RelV h ρ d v := by
  by_cases hs : op = .shl ∨ op = .shr
  · rcases hs with rfl | rfl
    · simp only [dBin] at e
      split at e
      · rename_i hb
        cases e
        refine ⟨_, ?_, .int _ _⟩
        simp only [binOp, Op.shift]
        rw [if_neg (by omega)]
        simp
      · cases e
    · simp only [dBin] at e
      split at e
      · rename_i hb
        cases e
        refine ⟨_, ?_, .int _ _⟩
        simp only [binOp, Op.shift]
        rw [if_neg (by omega)]
        simp
      · cases e
  · have h1 : op ≠ .shl := fun x => hs (.inl x)
    have h2 : op ≠ .shr := fun x => hs (.inr x)
    by_cases hk : k = k'
    · subst hk
      cases op <;> simp only [dBin, if_true] at e <;>
        first
        | exact absurd rfl h1
        | exact absurd rfl h2
        | (cases e; exact ⟨_, by simp [binOp, Op.intArith, Op.intCmp, Op.intBits, bits], .int _ _⟩)
        | (cases e; exact ⟨_, by simp [binOp, Op.intArith, Op.intCmp, Op.intBits, bits], .bool _⟩)
        | (split at e
           · cases e
           · cases e
             rename_i hb
             exact ⟨_, by simp [binOp, Op.intDiv, hb], .int _ _⟩)
    · exfalso
      cases op <;> simp [dBin, hk] at e h1 h2

theorem listeq (a b : ByteArray) : (a.toList == b.toList) = (a.data.toList == b.data.toList) := by rw [ByteArray.toList_eq, ByteArray.toList_eq]

theorem run_binOp_str {P : Program} {w : World} {h : Gh} {ρ : Rn} {op : BinOp} {t : TypeId} {a b : ByteArray} {d : D} (e : dBin op (.str a.data.toList) (.str b.data.toList) = some d) :
    ∃ v, (binOp op t (.string a) (.string b)).run P w = .ok v w ∧ RelV h ρ d v := by
  cases op <;> simp only [dBin] at e <;> first
    | (cases e; done)
    | (cases e; exact ⟨_, by simp [binOp, Op.stringOp, ByteArray.toList_eq], .bool _⟩)
    | (split at e
       · cases e
         rename_i hl
         refine ⟨.string (a ++ b), ?_, .str _ _ (by simp)⟩
         simp only [binOp, Op.stringOp]
         rw [if_neg]
         · simp
         · simp only [IntKind.max_i64]
           have ha : a.size = a.data.toList.length := by simp
           have hb : b.size = b.data.toList.length := by simp
           omega
       · cases e)

theorem run_eqIn {P : Program} {w : World} {t : TypeId} {d : TypeDesc} (hd : P.underlying t = some d) : (underlying t).run P w = .ok d w := run_underlying hd w

theorem run_typeInfo {P : Program} {w : World} {t : TypeId} {i : TypeInfo} (hd : P.info? t = some i) : (typeInfo t).run P w = .ok i w := by
  simp [typeInfo, hd]
theorem run_sizeOf {P : Program} {w : World} {t : TypeId} (hd : 0 < P.cellsOf t) : (sizeOf t).run P w = .ok (P.cellsOf t) w := by
  unfold Program.cellsOf at *
  cases hi : P.info? t with
  | none => simp [hi] at hd
  | some i => simp [sizeOf, run_typeInfo hi, hi]
theorem run_isAgg {P : Program} {w : World} {t : TypeId} {d : TypeDesc} (hd : P.underlying t = some d) : (isAgg t).run P w = .ok (isAg P t) w := by
  simp only [isAgg, isAg, hd]
  cases d <;> simp [run_underlying hd]
theorem info_of_cells {P : Program} {t : TypeId} (hd : 0 < P.cellsOf t) : ∃ i, P.info? t = some i := by
  unfold Program.cellsOf at hd
  cases hi : P.info? t with
  | none => simp [hi] at hd
  | some i => exact ⟨i, rfl⟩
end Go.Lv
