/- Steps: the document's text. -/
import Derived.Test.YtmpbkkfkkbdndabDoorStepC
import Derived.Test.YtmpbkkfkkbdndabDoorStepB1
namespace Go.Lv
open Go Go.Proofs Go.IntWalk
set_option maxRecDepth 100000
set_option linter.unusedSimpArgs false
set_option linter.unusedVariables false
variable {E : Env}
set_option maxHeartbeats 8000000 in
theorem text21 (o c t b p w : Int) : PDen Tryd.prog E 21 [.agg [.int .i64 o, .int .i64 c, .int .i64 t, .int .i64 b, .int .i64 p, .int .i64 w]] (.str (sText ⟨o, c, t, b, p, w⟩)) := by
  refine pden_by (fn := Tryd.f21) mixed Tryd.func21 rfl (rfl) (rfl) ?_
  cases hf : sFit ⟨o, c, t, b, p, w⟩
  · have hr : sText ⟨o, c, t, b, p, w⟩ = [] := by simp [sText, hf]
    rw [hr]
    repeat' (first
      | (simp -implicitDefEqProofs (maxSteps := 1000000) (disch := (first | omega | (simp only [List.length_append, List.length_cons, List.length_nil]; omega))) only [*, Tryd.f21, ↓cAny_eq, ↓anyP_go, fillT, fillH, ↓cwp_scope, ↓cwp_label, ↓scope_normal, ↓scope_ret, ↓scope_exit, ↓cwp_skip, ↓cwp_region, ↓cwp_drawn, ↓cwp_seq, ↓cwp_cond, ↓cwp_block, ↓cwp_loop, ↓cwp_exit, ↓cwp_ret, ↓kont_normal, ↓kont_exit, ↓kont_ret, ↓block_normal, ↓block_ret, ↓block_exit, ↓then_normal, ↓then_ret, ↓then_exit, ↓finF_normal, ↓finF_ret, ↓cseq_nil, ↓cseq_free, ↓cseq_cons, ↓seqK_go, ↓anyK_go, ↓caq_zero, ↓caq_done, ↓caq_free, ↓caq_step, ↓cStep_move, ↓cStep_assign, ↓cStep_eq, ↓cPure_call, ↓reduceIte, keeps, wantD, callee, aop, ev, ofV, nth, List.cons_append, List.nil_append, List.append_nil, undL, putO, put, List.length_cons, List.length_nil, Nat.reduceSub, Nat.reduceAdd, dBinT, dUn, Option.map, List.getElem?_toArray, List.toList_toArray, List.getElem?_cons_succ, List.getElem?_cons_zero, Option.bind, ge_iff_le, gt_iff_lt, resD, resL, resV, beq_true, beq_false, Option.some.injEq, List.map, Bool.not_true, Bool.not_false, Bool.false_eq_true, exists_eq_left', Bool.not_eq_true', decide_eq_true_eq, decide_eq_false_iff_not, ite_not, decide_true, decide_false, not_true_eq_false, not_false_eq_true, D.bool.injEq, if_true, if_false, and_true, true_and, ty1, sz1, z1, ty2, sz2, z2, ty3, sz3, z3, ty4, sz4, z4, ty5, sz5, z5, ty9, sz9, z9, ty29, sz29, z29, k29, ty34, sz34, z34, dLen, dIdxA, dLoad, part, Ty.isA, Ty.fi, D.cells, D.cells?, dField, dFieldA, dIdx, dFill, allCell, D.isCell, els, chunk, rep, splice, hget, hset, cellsOf, Blk.isC, Blk.cs, Blk.mut, Blk.setCs, dStore, dBuild, dSlice, dBnd, List.getElem?_map, Option.map_some, Int.toNat_natCast, List.length_map, Nat.lt_irrefl, Nat.zero_lt_one, Nat.zero_lt_succ, Nat.le_refl, Nat.zero_add, Bool.false_eq_true, false_or, or_true, true_or, List.drop_zero, Int.natCast_nonneg, D.int.injEq, Int.zero_le_ofNat, Nat.lt_add_one, List.getElem?_nil, Nat.zero_le, List.take, List.drop, Nat.reduceMul, Nat.reduceLeDiff, Nat.reduceLT, Nat.reducePow, Nat.reduceBEq, Nat.reduceEqDiff, and_self, D.closedL, D.closed, Bool.and_self, bne_self_eq_false, beq_self_eq_true, bne, Bool.true_and, Bool.and_true, Bool.or_true, Bool.or_false, Bool.true_or, Bool.false_or, Bool.and_false, Bool.false_and, List.all_cons, List.all_nil, List.all, List.replicate, exists_const, okK, dEqL, dEqO, dEq, Option.isSome, nc0, nc1, nc2, nc3, nc4, nc5, nc6, nc7, nc8, nc9, nc10, nc11, nc12, wl0, wl1, wl2, wl3, wl4, wl5, wl6, wl7, wl8, wl9, wl10, wl11, wl12, Int.reduceAdd, Int.reduceLT, Int.reduceLE, Int.reduceToNat, Int.reduceEq, Int.reduceSub, Int.reduceBEq, Int.reduceBNe, List.length_singleton, Nat.reduceBNe, Sp.d_mk, eq_self, dBin_add, dBin_eqlI])
      | (refine .body (by kernel_rfl) (PDen.to (fit17 _ _ _ _ _ _) ?_))
      | (refine PCall.to (by kernel_rfl) (fit17 _ _ _ _ _ _) ?_)
      | (refine ⟨27, by decide +kernel, ?_⟩)
      | (refine ⟨28, by decide +kernel, ?_⟩)
      | (refine ⟨29, by decide +kernel, ?_⟩)
      | (refine ⟨by decide +kernel, ?_⟩)
      | rfl
      | split)
  · obtain ⟨ho, hc, hi1, hi2, hi3, hi4⟩ := sFit_in hf
    simp only at ho hc hi1 hi2 hi3 hi4
    have hr : sText ⟨o, c, t, b, p, w⟩ = opR o ++ [47] ++ clR c ++ [47] ++ itoaD t ++ [47] ++ itoaD b ++ [47] ++ itoaD p ++ [47] ++ itoaD w := by
      simp only [sText, hf, if_true, textW, ← opR_eq ho, ← clR_eq hc]
      simp [Lib.join, List.intercalate]
    have ht0 : -9223372036854775808 ≤ t := by omega
    have ht1 : t ≤ 9223372036854775807 := by omega
    have hb0 : -9223372036854775808 ≤ b := by omega
    have hb1 : b ≤ 9223372036854775807 := by omega
    have hp0 : -9223372036854775808 ≤ p := by omega
    have hp1 : p ≤ 9223372036854775807 := by omega
    have hw0 : -9223372036854775808 ≤ w := by omega
    have hw1 : w ≤ 9223372036854775807 := by omega
    have l1 := opR_len o
    have l2 := clR_len c
    have l3 := itoa_l20 (n := t) (by omega) (by omega)
    have l4 := itoa_l20 (n := b) (by omega) (by omega)
    have l5 := itoa_l20 (n := p) (by omega) (by omega)
    have l6 := itoa_l20 (n := w) (by omega) (by omega)
    rw [hr]
    clear hr hi1 hi2 hi3 hi4 ho hc
    repeat' (first
      | (simp -implicitDefEqProofs (maxSteps := 1000000) (disch := (first | omega | (simp only [List.length_append, List.length_cons, List.length_nil]; omega))) only [*, Tryd.f21, ↓cAny_eq, ↓anyP_go, fillT, fillH, ↓cwp_scope, ↓cwp_label, ↓scope_normal, ↓scope_ret, ↓scope_exit, ↓cwp_skip, ↓cwp_region, ↓cwp_drawn, ↓cwp_seq, ↓cwp_cond, ↓cwp_block, ↓cwp_loop, ↓cwp_exit, ↓cwp_ret, ↓kont_normal, ↓kont_exit, ↓kont_ret, ↓block_normal, ↓block_ret, ↓block_exit, ↓then_normal, ↓then_ret, ↓then_exit, ↓finF_normal, ↓finF_ret, ↓cseq_nil, ↓cseq_free, ↓cseq_cons, ↓seqK_go, ↓anyK_go, ↓caq_zero, ↓caq_done, ↓caq_free, ↓caq_step, ↓cStep_move, ↓cStep_assign, ↓cStep_eq, ↓cPure_call, ↓reduceIte, keeps, wantD, callee, aop, ev, ofV, nth, List.cons_append, List.nil_append, List.append_nil, undL, putO, put, List.length_cons, List.length_nil, Nat.reduceSub, Nat.reduceAdd, dBinT, dUn, Option.map, List.getElem?_toArray, List.toList_toArray, List.getElem?_cons_succ, List.getElem?_cons_zero, Option.bind, ge_iff_le, gt_iff_lt, resD, resL, resV, beq_true, beq_false, Option.some.injEq, List.map, Bool.not_true, Bool.not_false, Bool.false_eq_true, exists_eq_left', Bool.not_eq_true', decide_eq_true_eq, decide_eq_false_iff_not, ite_not, decide_true, decide_false, not_true_eq_false, not_false_eq_true, D.bool.injEq, if_true, if_false, and_true, true_and, ty1, sz1, z1, ty2, sz2, z2, ty3, sz3, z3, ty4, sz4, z4, ty5, sz5, z5, ty9, sz9, z9, ty29, sz29, z29, k29, ty34, sz34, z34, dLen, dIdxA, dLoad, part, Ty.isA, Ty.fi, D.cells, D.cells?, dField, dFieldA, dIdx, dFill, allCell, D.isCell, els, chunk, rep, splice, hget, hset, cellsOf, Blk.isC, Blk.cs, Blk.mut, Blk.setCs, dStore, dBuild, dSlice, dBnd, List.getElem?_map, Option.map_some, Int.toNat_natCast, List.length_map, Nat.lt_irrefl, Nat.zero_lt_one, Nat.zero_lt_succ, Nat.le_refl, Nat.zero_add, Bool.false_eq_true, false_or, or_true, true_or, List.drop_zero, Int.natCast_nonneg, D.int.injEq, Int.zero_le_ofNat, Nat.lt_add_one, List.getElem?_nil, Nat.zero_le, List.take, List.drop, Nat.reduceMul, Nat.reduceLeDiff, Nat.reduceLT, Nat.reducePow, Nat.reduceBEq, Nat.reduceEqDiff, and_self, D.closedL, D.closed, Bool.and_self, bne_self_eq_false, beq_self_eq_true, bne, Bool.true_and, Bool.and_true, Bool.or_true, Bool.or_false, Bool.true_or, Bool.false_or, Bool.and_false, Bool.false_and, List.all_cons, List.all_nil, List.all, List.replicate, exists_const, okK, dEqL, dEqO, dEq, Option.isSome, nc0, nc1, nc2, nc3, nc4, nc5, nc6, nc7, nc8, nc9, nc10, nc11, nc12, wl0, wl1, wl2, wl3, wl4, wl5, wl6, wl7, wl8, wl9, wl10, wl11, wl12, Int.reduceAdd, Int.reduceLT, Int.reduceLE, Int.reduceToNat, Int.reduceEq, Int.reduceSub, Int.reduceBEq, Int.reduceBNe, List.length_singleton, Nat.reduceBNe, Sp.d_mk, eq_self, dBin_add, dBin_eqlI])
      | (refine .body (by kernel_rfl) (PDen.to (fit17 _ _ _ _ _ _) ?_))
      | (refine PCall.to (by kernel_rfl) (fit17 _ _ _ _ _ _) ?_)
      | (refine .body (by kernel_rfl) (PDen.to (op45 _) ?_))
      | (refine PCall.to (by kernel_rfl) (op45 _) ?_)
      | (refine .body (by kernel_rfl) (PDen.to (cl46 _) ?_))
      | (refine PCall.to (by kernel_rfl) (cl46 _) ?_)
      | (refine .body (by kernel_rfl) (PDen.to (digitsR t ht0 ht1) ?_))
      | (refine PCall.to (by kernel_rfl) (digitsR t ht0 ht1) ?_)
      | (refine .body (by kernel_rfl) (PDen.to (digitsR b hb0 hb1) ?_))
      | (refine PCall.to (by kernel_rfl) (digitsR b hb0 hb1) ?_)
      | (refine .body (by kernel_rfl) (PDen.to (digitsR p hp0 hp1) ?_))
      | (refine PCall.to (by kernel_rfl) (digitsR p hp0 hp1) ?_)
      | (refine .body (by kernel_rfl) (PDen.to (digitsR w hw0 hw1) ?_))
      | (refine PCall.to (by kernel_rfl) (digitsR w hw0 hw1) ?_)
      | (refine ⟨27, by decide +kernel, ?_⟩)
      | (refine ⟨28, by decide +kernel, ?_⟩)
      | (refine ⟨29, by decide +kernel, ?_⟩)
      | (refine ⟨by decide +kernel, ?_⟩)
      | rfl
      | split)
end Go.Lv
