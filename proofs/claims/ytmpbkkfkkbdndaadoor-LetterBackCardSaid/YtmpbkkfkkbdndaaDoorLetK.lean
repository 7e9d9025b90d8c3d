/- Letters: the document's text. -/
import Derived.Test.YtmpbkkfkkbdndaaDoorLetJ
namespace Go.Lv
open Go Go.Proofs Go.IntWalk
set_option maxRecDepth 100000
set_option linter.unusedSimpArgs false
set_option linter.unusedVariables false
variable {E : Env}
set_option maxHeartbeats 8000000 in
theorem text34 (x : Lt) : PDen Tryd.prog E 34 [x.d] (.str (textS x)) := by
  refine pden_by (fn := Tryd.f34) mixed Tryd.func34 rfl (rfl) (rfl) ?_
  obtain ⟨xg, xs, xk, xy, xa⟩ := x
  cases ho : oneS ⟨xg, xs, xk, xy, xa⟩
  · have hr : textS ⟨xg, xs, xk, xy, xa⟩ = [] := by simp [textS, ho]
    rw [hr]
    repeat' (first
      | (simp -implicitDefEqProofs (maxSteps := 1000000) (disch := (first | omega | (simp only [List.length_append, List.length_cons, List.length_nil]; omega))) only [*, Tryd.f34, ↓cwp_skip, ↓cwp_region, ↓cwp_drawn, ↓cwp_seq, ↓cwp_cond, ↓cwp_block, ↓cwp_loop, ↓cwp_exit, ↓cwp_ret, ↓kont_normal, ↓kont_exit, ↓kont_ret, ↓block_normal, ↓block_ret, ↓block_exit, ↓then_normal, ↓then_ret, ↓then_exit, ↓finF_normal, ↓finF_ret, ↓cseq_nil, ↓cseq_free, ↓cseq_cons, ↓seqK_go, ↓anyK_go, ↓caq_zero, ↓caq_done, ↓caq_free, ↓caq_step, ↓cStep_move, ↓cStep_assign, ↓cStep_eq, ↓cPure_call, ↓reduceIte, keeps, wantD, callee, aop, ev, ofV, nth, List.cons_append, List.nil_append, List.append_nil, undL, putO, put, List.length_cons, List.length_nil, Nat.reduceSub, Nat.reduceAdd, dBinT, dUn, Option.map, List.getElem?_toArray, List.toList_toArray, List.getElem?_cons_succ, List.getElem?_cons_zero, Option.bind, ge_iff_le, gt_iff_lt, resD, resL, resV, beq_true, beq_false, Option.some.injEq, List.map, Bool.not_true, Bool.not_false, Bool.false_eq_true, exists_eq_left', Bool.not_eq_true', decide_eq_true_eq, decide_eq_false_iff_not, ite_not, decide_true, decide_false, not_true_eq_false, not_false_eq_true, D.bool.injEq, if_true, if_false, and_true, true_and, ty1, sz1, z1, ty2, sz2, z2, ty3, sz3, z3, ty4, sz4, z4, ty5, sz5, z5, ty6, sz6, z6, ty7, sz7, z7, ty8, sz8, z8, ty9, sz9, z9, ty33, sz33, z33, ty37, sz37, z37, k37, dLen, dIdxA, dLoad, part, Ty.isA, Ty.fi, D.cells, D.cells?, dField, dFieldA, dIdx, dFill, allCell, D.isCell, els, chunk, rep, splice, hget, hset, cellsOf, Blk.isC, Blk.cs, Blk.mut, Blk.setCs, dStore, dBuild, dSlice, dBnd, List.getElem?_map, Option.map_some, Int.toNat_natCast, List.length_map, Nat.lt_irrefl, Nat.zero_lt_one, Nat.zero_lt_succ, Nat.le_refl, Nat.zero_add, Bool.false_eq_true, false_or, or_true, true_or, List.drop_zero, Int.natCast_nonneg, D.int.injEq, Int.zero_le_ofNat, Nat.lt_add_one, List.getElem?_nil, Nat.zero_le, List.take, List.drop, Nat.reduceMul, Nat.reduceLeDiff, Nat.reduceLT, Nat.reducePow, Nat.reduceBEq, Nat.reduceEqDiff, and_self, D.closedL, D.closed, Bool.and_self, bne_self_eq_false, beq_self_eq_true, bne, Bool.true_and, Bool.and_true, Bool.or_true, Bool.or_false, Bool.true_or, Bool.false_or, Bool.and_false, Bool.false_and, List.all_cons, List.all_nil, List.all, List.replicate, exists_const, okK, dEqL, dEqO, dEq, Option.isSome, nc0, nc1, nc2, nc3, nc4, nc5, nc6, nc7, nc8, nc9, nc10, nc11, nc12, wl0, wl1, wl2, wl3, wl4, wl5, wl6, wl7, wl8, wl9, wl10, wl11, wl12, Int.reduceAdd, Int.reduceLT, Int.reduceLE, Int.reduceToNat, Int.reduceEq, Int.reduceSub, Int.reduceBEq, Int.reduceBNe, List.length_singleton, Nat.reduceBNe, lts_def, Lt.d_mk, hget_len, hset_len', eq_self, dBin_add, dBin_eqlI])
      | (refine .body (by kernel_rfl) (PDen.to (oneR ⟨xg, xs, xk, xy, xa⟩) ?_))
      | (refine PCall.to (by kernel_rfl) (oneR ⟨xg, xs, xk, xy, xa⟩) ?_)
      | (refine ⟨8, by decide +kernel, ?_⟩)
      | (refine ⟨9, by decide +kernel, ?_⟩)
      | (refine ⟨10, by decide +kernel, ?_⟩)
      | rfl
      | split)
  · have h1 := oneS_iff.1 ho
    simp only at h1
    have hF := F_iff.1 h1.2.2.2.2.2
    have hg0 : -9223372036854775808 ≤ xg := by omega
    have hg1 : xg ≤ 9223372036854775807 := by omega
    have hs0 : -9223372036854775808 ≤ xs := by omega
    have hs1 : xs ≤ 9223372036854775807 := by omega
    have ha0 : -9223372036854775808 ≤ xa := by omega
    have ha1 : xa ≤ 9223372036854775807 := by omega
    have lg := itoaD_len20 xg (by omega) (by omega)
    have ls := itoaD_len20 xs (by omega) (by omega)
    have la := itoaD_len20 xa (by omega) (by omega)
    clear h1 hF
    cases xk
    · by_cases hy7 : xy = 7
      · have hy : (xy == 7) = true := by simpa using hy7
        clear hy7
        have hr : textS ⟨xg, xs, false, xy, xa⟩ = [115, 97, 103, 97, 32] ++ itoaD xg ++ [32, 115, 116, 101, 112, 32] ++ itoaD xs ++ [32, 116, 114, 105, 101, 115] ++ [32, 97, 116, 32] ++ itoaD xa := by simp [textS, wordsS, ho, hy, Lib.join, List.intercalate, sagaB, stepB, backB, triesB, parkedB, atB]
        rw [hr]
        clear hr
        repeat' (first
          | (simp -implicitDefEqProofs (maxSteps := 1000000) (disch := (first | omega | (simp only [List.length_append, List.length_cons, List.length_nil]; omega))) only [*, Tryd.f34, ↓cwp_skip, ↓cwp_region, ↓cwp_drawn, ↓cwp_seq, ↓cwp_cond, ↓cwp_block, ↓cwp_loop, ↓cwp_exit, ↓cwp_ret, ↓kont_normal, ↓kont_exit, ↓kont_ret, ↓block_normal, ↓block_ret, ↓block_exit, ↓then_normal, ↓then_ret, ↓then_exit, ↓finF_normal, ↓finF_ret, ↓cseq_nil, ↓cseq_free, ↓cseq_cons, ↓seqK_go, ↓anyK_go, ↓caq_zero, ↓caq_done, ↓caq_free, ↓caq_step, ↓cStep_move, ↓cStep_assign, ↓cStep_eq, ↓cPure_call, ↓reduceIte, keeps, wantD, callee, aop, ev, ofV, nth, List.cons_append, List.nil_append, List.append_nil, undL, putO, put, List.length_cons, List.length_nil, Nat.reduceSub, Nat.reduceAdd, dBinT, dUn, Option.map, List.getElem?_toArray, List.toList_toArray, List.getElem?_cons_succ, List.getElem?_cons_zero, Option.bind, ge_iff_le, gt_iff_lt, resD, resL, resV, beq_true, beq_false, Option.some.injEq, List.map, Bool.not_true, Bool.not_false, Bool.false_eq_true, exists_eq_left', Bool.not_eq_true', decide_eq_true_eq, decide_eq_false_iff_not, ite_not, decide_true, decide_false, not_true_eq_false, not_false_eq_true, D.bool.injEq, if_true, if_false, and_true, true_and, ty1, sz1, z1, ty2, sz2, z2, ty3, sz3, z3, ty4, sz4, z4, ty5, sz5, z5, ty6, sz6, z6, ty7, sz7, z7, ty8, sz8, z8, ty9, sz9, z9, ty33, sz33, z33, ty37, sz37, z37, k37, dLen, dIdxA, dLoad, part, Ty.isA, Ty.fi, D.cells, D.cells?, dField, dFieldA, dIdx, dFill, allCell, D.isCell, els, chunk, rep, splice, hget, hset, cellsOf, Blk.isC, Blk.cs, Blk.mut, Blk.setCs, dStore, dBuild, dSlice, dBnd, List.getElem?_map, Option.map_some, Int.toNat_natCast, List.length_map, Nat.lt_irrefl, Nat.zero_lt_one, Nat.zero_lt_succ, Nat.le_refl, Nat.zero_add, Bool.false_eq_true, false_or, or_true, true_or, List.drop_zero, Int.natCast_nonneg, D.int.injEq, Int.zero_le_ofNat, Nat.lt_add_one, List.getElem?_nil, Nat.zero_le, List.take, List.drop, Nat.reduceMul, Nat.reduceLeDiff, Nat.reduceLT, Nat.reducePow, Nat.reduceBEq, Nat.reduceEqDiff, and_self, D.closedL, D.closed, Bool.and_self, bne_self_eq_false, beq_self_eq_true, bne, Bool.true_and, Bool.and_true, Bool.or_true, Bool.or_false, Bool.true_or, Bool.false_or, Bool.and_false, Bool.false_and, List.all_cons, List.all_nil, List.all, List.replicate, exists_const, okK, dEqL, dEqO, dEq, Option.isSome, nc0, nc1, nc2, nc3, nc4, nc5, nc6, nc7, nc8, nc9, nc10, nc11, nc12, wl0, wl1, wl2, wl3, wl4, wl5, wl6, wl7, wl8, wl9, wl10, wl11, wl12, Int.reduceAdd, Int.reduceLT, Int.reduceLE, Int.reduceToNat, Int.reduceEq, Int.reduceSub, Int.reduceBEq, Int.reduceBNe, List.length_singleton, Nat.reduceBNe, lts_def, Lt.d_mk, hget_len, hset_len', eq_self, dBin_add, dBin_eqlI])
          | (refine .body (by kernel_rfl) (PDen.to (oneR ⟨xg, xs, false, xy, xa⟩) ?_))
          | (refine PCall.to (by kernel_rfl) (oneR ⟨xg, xs, false, xy, xa⟩) ?_)
          | (refine .body (by kernel_rfl) (PDen.to (digitsR xg hg0 hg1) ?_))
          | (refine PCall.to (by kernel_rfl) (digitsR xg hg0 hg1) ?_)
          | (refine .body (by kernel_rfl) (PDen.to (digitsR xs hs0 hs1) ?_))
          | (refine PCall.to (by kernel_rfl) (digitsR xs hs0 hs1) ?_)
          | (refine .body (by kernel_rfl) (PDen.to (digitsR xa ha0 ha1) ?_))
          | (refine PCall.to (by kernel_rfl) (digitsR xa ha0 ha1) ?_)
          | (refine ⟨8, by decide +kernel, ?_⟩)
          | (refine ⟨9, by decide +kernel, ?_⟩)
          | (refine ⟨10, by decide +kernel, ?_⟩)
          | rfl
          | split)
      · have hy : (xy == 7) = false := by simpa using hy7
        clear hy7
        have hr : textS ⟨xg, xs, false, xy, xa⟩ = [115, 97, 103, 97, 32] ++ itoaD xg ++ [32, 115, 116, 101, 112, 32] ++ itoaD xs ++ [32, 112, 97, 114, 107, 101, 100] ++ [32, 97, 116, 32] ++ itoaD xa := by simp [textS, wordsS, ho, hy, Lib.join, List.intercalate, sagaB, stepB, backB, triesB, parkedB, atB]
        rw [hr]
        clear hr
        repeat' (first
          | (simp -implicitDefEqProofs (maxSteps := 1000000) (disch := (first | omega | (simp only [List.length_append, List.length_cons, List.length_nil]; omega))) only [*, Tryd.f34, ↓cwp_skip, ↓cwp_region, ↓cwp_drawn, ↓cwp_seq, ↓cwp_cond, ↓cwp_block, ↓cwp_loop, ↓cwp_exit, ↓cwp_ret, ↓kont_normal, ↓kont_exit, ↓kont_ret, ↓block_normal, ↓block_ret, ↓block_exit, ↓then_normal, ↓then_ret, ↓then_exit, ↓finF_normal, ↓finF_ret, ↓cseq_nil, ↓cseq_free, ↓cseq_cons, ↓seqK_go, ↓anyK_go, ↓caq_zero, ↓caq_done, ↓caq_free, ↓caq_step, ↓cStep_move, ↓cStep_assign, ↓cStep_eq, ↓cPure_call, ↓reduceIte, keeps, wantD, callee, aop, ev, ofV, nth, List.cons_append, List.nil_append, List.append_nil, undL, putO, put, List.length_cons, List.length_nil, Nat.reduceSub, Nat.reduceAdd, dBinT, dUn, Option.map, List.getElem?_toArray, List.toList_toArray, List.getElem?_cons_succ, List.getElem?_cons_zero, Option.bind, ge_iff_le, gt_iff_lt, resD, resL, resV, beq_true, beq_false, Option.some.injEq, List.map, Bool.not_true, Bool.not_false, Bool.false_eq_true, exists_eq_left', Bool.not_eq_true', decide_eq_true_eq, decide_eq_false_iff_not, ite_not, decide_true, decide_false, not_true_eq_false, not_false_eq_true, D.bool.injEq, if_true, if_false, and_true, true_and, ty1, sz1, z1, ty2, sz2, z2, ty3, sz3, z3, ty4, sz4, z4, ty5, sz5, z5, ty6, sz6, z6, ty7, sz7, z7, ty8, sz8, z8, ty9, sz9, z9, ty33, sz33, z33, ty37, sz37, z37, k37, dLen, dIdxA, dLoad, part, Ty.isA, Ty.fi, D.cells, D.cells?, dField, dFieldA, dIdx, dFill, allCell, D.isCell, els, chunk, rep, splice, hget, hset, cellsOf, Blk.isC, Blk.cs, Blk.mut, Blk.setCs, dStore, dBuild, dSlice, dBnd, List.getElem?_map, Option.map_some, Int.toNat_natCast, List.length_map, Nat.lt_irrefl, Nat.zero_lt_one, Nat.zero_lt_succ, Nat.le_refl, Nat.zero_add, Bool.false_eq_true, false_or, or_true, true_or, List.drop_zero, Int.natCast_nonneg, D.int.injEq, Int.zero_le_ofNat, Nat.lt_add_one, List.getElem?_nil, Nat.zero_le, List.take, List.drop, Nat.reduceMul, Nat.reduceLeDiff, Nat.reduceLT, Nat.reducePow, Nat.reduceBEq, Nat.reduceEqDiff, and_self, D.closedL, D.closed, Bool.and_self, bne_self_eq_false, beq_self_eq_true, bne, Bool.true_and, Bool.and_true, Bool.or_true, Bool.or_false, Bool.true_or, Bool.false_or, Bool.and_false, Bool.false_and, List.all_cons, List.all_nil, List.all, List.replicate, exists_const, okK, dEqL, dEqO, dEq, Option.isSome, nc0, nc1, nc2, nc3, nc4, nc5, nc6, nc7, nc8, nc9, nc10, nc11, nc12, wl0, wl1, wl2, wl3, wl4, wl5, wl6, wl7, wl8, wl9, wl10, wl11, wl12, Int.reduceAdd, Int.reduceLT, Int.reduceLE, Int.reduceToNat, Int.reduceEq, Int.reduceSub, Int.reduceBEq, Int.reduceBNe, List.length_singleton, Nat.reduceBNe, lts_def, Lt.d_mk, hget_len, hset_len', eq_self, dBin_add, dBin_eqlI])
          | (refine .body (by kernel_rfl) (PDen.to (oneR ⟨xg, xs, false, xy, xa⟩) ?_))
          | (refine PCall.to (by kernel_rfl) (oneR ⟨xg, xs, false, xy, xa⟩) ?_)
          | (refine .body (by kernel_rfl) (PDen.to (digitsR xg hg0 hg1) ?_))
          | (refine PCall.to (by kernel_rfl) (digitsR xg hg0 hg1) ?_)
          | (refine .body (by kernel_rfl) (PDen.to (digitsR xs hs0 hs1) ?_))
          | (refine PCall.to (by kernel_rfl) (digitsR xs hs0 hs1) ?_)
          | (refine .body (by kernel_rfl) (PDen.to (digitsR xa ha0 ha1) ?_))
          | (refine PCall.to (by kernel_rfl) (digitsR xa ha0 ha1) ?_)
          | (refine ⟨8, by decide +kernel, ?_⟩)
          | (refine ⟨9, by decide +kernel, ?_⟩)
          | (refine ⟨10, by decide +kernel, ?_⟩)
          | rfl
          | split)
    · by_cases hy7 : xy = 7
      · have hy : (xy == 7) = true := by simpa using hy7
        clear hy7
        have hr : textS ⟨xg, xs, true, xy, xa⟩ = [115, 97, 103, 97, 32] ++ itoaD xg ++ [32, 115, 116, 101, 112, 32] ++ itoaD xs ++ [32, 98, 97, 99, 107] ++ [32, 116, 114, 105, 101, 115] ++ [32, 97, 116, 32] ++ itoaD xa := by simp [textS, wordsS, ho, hy, Lib.join, List.intercalate, sagaB, stepB, backB, triesB, parkedB, atB]
        rw [hr]
        clear hr
        repeat' (first
          | (simp -implicitDefEqProofs (maxSteps := 1000000) (disch := (first | omega | (simp only [List.length_append, List.length_cons, List.length_nil]; omega))) only [*, Tryd.f34, ↓cwp_skip, ↓cwp_region, ↓cwp_drawn, ↓cwp_seq, ↓cwp_cond, ↓cwp_block, ↓cwp_loop, ↓cwp_exit, ↓cwp_ret, ↓kont_normal, ↓kont_exit, ↓kont_ret, ↓block_normal, ↓block_ret, ↓block_exit, ↓then_normal, ↓then_ret, ↓then_exit, ↓finF_normal, ↓finF_ret, ↓cseq_nil, ↓cseq_free, ↓cseq_cons, ↓seqK_go, ↓anyK_go, ↓caq_zero, ↓caq_done, ↓caq_free, ↓caq_step, ↓cStep_move, ↓cStep_assign, ↓cStep_eq, ↓cPure_call, ↓reduceIte, keeps, wantD, callee, aop, ev, ofV, nth, List.cons_append, List.nil_append, List.append_nil, undL, putO, put, List.length_cons, List.length_nil, Nat.reduceSub, Nat.reduceAdd, dBinT, dUn, Option.map, List.getElem?_toArray, List.toList_toArray, List.getElem?_cons_succ, List.getElem?_cons_zero, Option.bind, ge_iff_le, gt_iff_lt, resD, resL, resV, beq_true, beq_false, Option.some.injEq, List.map, Bool.not_true, Bool.not_false, Bool.false_eq_true, exists_eq_left', Bool.not_eq_true', decide_eq_true_eq, decide_eq_false_iff_not, ite_not, decide_true, decide_false, not_true_eq_false, not_false_eq_true, D.bool.injEq, if_true, if_false, and_true, true_and, ty1, sz1, z1, ty2, sz2, z2, ty3, sz3, z3, ty4, sz4, z4, ty5, sz5, z5, ty6, sz6, z6, ty7, sz7, z7, ty8, sz8, z8, ty9, sz9, z9, ty33, sz33, z33, ty37, sz37, z37, k37, dLen, dIdxA, dLoad, part, Ty.isA, Ty.fi, D.cells, D.cells?, dField, dFieldA, dIdx, dFill, allCell, D.isCell, els, chunk, rep, splice, hget, hset, cellsOf, Blk.isC, Blk.cs, Blk.mut, Blk.setCs, dStore, dBuild, dSlice, dBnd, List.getElem?_map, Option.map_some, Int.toNat_natCast, List.length_map, Nat.lt_irrefl, Nat.zero_lt_one, Nat.zero_lt_succ, Nat.le_refl, Nat.zero_add, Bool.false_eq_true, false_or, or_true, true_or, List.drop_zero, Int.natCast_nonneg, D.int.injEq, Int.zero_le_ofNat, Nat.lt_add_one, List.getElem?_nil, Nat.zero_le, List.take, List.drop, Nat.reduceMul, Nat.reduceLeDiff, Nat.reduceLT, Nat.reducePow, Nat.reduceBEq, Nat.reduceEqDiff, and_self, D.closedL, D.closed, Bool.and_self, bne_self_eq_false, beq_self_eq_true, bne, Bool.true_and, Bool.and_true, Bool.or_true, Bool.or_false, Bool.true_or, Bool.false_or, Bool.and_false, Bool.false_and, List.all_cons, List.all_nil, List.all, List.replicate, exists_const, okK, dEqL, dEqO, dEq, Option.isSome, nc0, nc1, nc2, nc3, nc4, nc5, nc6, nc7, nc8, nc9, nc10, nc11, nc12, wl0, wl1, wl2, wl3, wl4, wl5, wl6, wl7, wl8, wl9, wl10, wl11, wl12, Int.reduceAdd, Int.reduceLT, Int.reduceLE, Int.reduceToNat, Int.reduceEq, Int.reduceSub, Int.reduceBEq, Int.reduceBNe, List.length_singleton, Nat.reduceBNe, lts_def, Lt.d_mk, hget_len, hset_len', eq_self, dBin_add, dBin_eqlI])
          | (refine .body (by kernel_rfl) (PDen.to (oneR ⟨xg, xs, true, xy, xa⟩) ?_))
          | (refine PCall.to (by kernel_rfl) (oneR ⟨xg, xs, true, xy, xa⟩) ?_)
          | (refine .body (by kernel_rfl) (PDen.to (digitsR xg hg0 hg1) ?_))
          | (refine PCall.to (by kernel_rfl) (digitsR xg hg0 hg1) ?_)
          | (refine .body (by kernel_rfl) (PDen.to (digitsR xs hs0 hs1) ?_))
          | (refine PCall.to (by kernel_rfl) (digitsR xs hs0 hs1) ?_)
          | (refine .body (by kernel_rfl) (PDen.to (digitsR xa ha0 ha1) ?_))
          | (refine PCall.to (by kernel_rfl) (digitsR xa ha0 ha1) ?_)
          | (refine ⟨8, by decide +kernel, ?_⟩)
          | (refine ⟨9, by decide +kernel, ?_⟩)
          | (refine ⟨10, by decide +kernel, ?_⟩)
          | rfl
          | split)
      · have hy : (xy == 7) = false := by simpa using hy7
        clear hy7
        have hr : textS ⟨xg, xs, true, xy, xa⟩ = [115, 97, 103, 97, 32] ++ itoaD xg ++ [32, 115, 116, 101, 112, 32] ++ itoaD xs ++ [32, 98, 97, 99, 107] ++ [32, 112, 97, 114, 107, 101, 100] ++ [32, 97, 116, 32] ++ itoaD xa := by simp [textS, wordsS, ho, hy, Lib.join, List.intercalate, sagaB, stepB, backB, triesB, parkedB, atB]
        rw [hr]
        clear hr
        repeat' (first
          | (simp -implicitDefEqProofs (maxSteps := 1000000) (disch := (first | omega | (simp only [List.length_append, List.length_cons, List.length_nil]; omega))) only [*, Tryd.f34, ↓cwp_skip, ↓cwp_region, ↓cwp_drawn, ↓cwp_seq, ↓cwp_cond, ↓cwp_block, ↓cwp_loop, ↓cwp_exit, ↓cwp_ret, ↓kont_normal, ↓kont_exit, ↓kont_ret, ↓block_normal, ↓block_ret, ↓block_exit, ↓then_normal, ↓then_ret, ↓then_exit, ↓finF_normal, ↓finF_ret, ↓cseq_nil, ↓cseq_free, ↓cseq_cons, ↓seqK_go, ↓anyK_go, ↓caq_zero, ↓caq_done, ↓caq_free, ↓caq_step, ↓cStep_move, ↓cStep_assign, ↓cStep_eq, ↓cPure_call, ↓reduceIte, keeps, wantD, callee, aop, ev, ofV, nth, List.cons_append, List.nil_append, List.append_nil, undL, putO, put, List.length_cons, List.length_nil, Nat.reduceSub, Nat.reduceAdd, dBinT, dUn, Option.map, List.getElem?_toArray, List.toList_toArray, List.getElem?_cons_succ, List.getElem?_cons_zero, Option.bind, ge_iff_le, gt_iff_lt, resD, resL, resV, beq_true, beq_false, Option.some.injEq, List.map, Bool.not_true, Bool.not_false, Bool.false_eq_true, exists_eq_left', Bool.not_eq_true', decide_eq_true_eq, decide_eq_false_iff_not, ite_not, decide_true, decide_false, not_true_eq_false, not_false_eq_true, D.bool.injEq, if_true, if_false, and_true, true_and, ty1, sz1, z1, ty2, sz2, z2, ty3, sz3, z3, ty4, sz4, z4, ty5, sz5, z5, ty6, sz6, z6, ty7, sz7, z7, ty8, sz8, z8, ty9, sz9, z9, ty33, sz33, z33, ty37, sz37, z37, k37, dLen, dIdxA, dLoad, part, Ty.isA, Ty.fi, D.cells, D.cells?, dField, dFieldA, dIdx, dFill, allCell, D.isCell, els, chunk, rep, splice, hget, hset, cellsOf, Blk.isC, Blk.cs, Blk.mut, Blk.setCs, dStore, dBuild, dSlice, dBnd, List.getElem?_map, Option.map_some, Int.toNat_natCast, List.length_map, Nat.lt_irrefl, Nat.zero_lt_one, Nat.zero_lt_succ, Nat.le_refl, Nat.zero_add, Bool.false_eq_true, false_or, or_true, true_or, List.drop_zero, Int.natCast_nonneg, D.int.injEq, Int.zero_le_ofNat, Nat.lt_add_one, List.getElem?_nil, Nat.zero_le, List.take, List.drop, Nat.reduceMul, Nat.reduceLeDiff, Nat.reduceLT, Nat.reducePow, Nat.reduceBEq, Nat.reduceEqDiff, and_self, D.closedL, D.closed, Bool.and_self, bne_self_eq_false, beq_self_eq_true, bne, Bool.true_and, Bool.and_true, Bool.or_true, Bool.or_false, Bool.true_or, Bool.false_or, Bool.and_false, Bool.false_and, List.all_cons, List.all_nil, List.all, List.replicate, exists_const, okK, dEqL, dEqO, dEq, Option.isSome, nc0, nc1, nc2, nc3, nc4, nc5, nc6, nc7, nc8, nc9, nc10, nc11, nc12, wl0, wl1, wl2, wl3, wl4, wl5, wl6, wl7, wl8, wl9, wl10, wl11, wl12, Int.reduceAdd, Int.reduceLT, Int.reduceLE, Int.reduceToNat, Int.reduceEq, Int.reduceSub, Int.reduceBEq, Int.reduceBNe, List.length_singleton, Nat.reduceBNe, lts_def, Lt.d_mk, hget_len, hset_len', eq_self, dBin_add, dBin_eqlI])
          | (refine .body (by kernel_rfl) (PDen.to (oneR ⟨xg, xs, true, xy, xa⟩) ?_))
          | (refine PCall.to (by kernel_rfl) (oneR ⟨xg, xs, true, xy, xa⟩) ?_)
          | (refine .body (by kernel_rfl) (PDen.to (digitsR xg hg0 hg1) ?_))
          | (refine PCall.to (by kernel_rfl) (digitsR xg hg0 hg1) ?_)
          | (refine .body (by kernel_rfl) (PDen.to (digitsR xs hs0 hs1) ?_))
          | (refine PCall.to (by kernel_rfl) (digitsR xs hs0 hs1) ?_)
          | (refine .body (by kernel_rfl) (PDen.to (digitsR xa ha0 ha1) ?_))
          | (refine PCall.to (by kernel_rfl) (digitsR xa ha0 ha1) ?_)
          | (refine ⟨8, by decide +kernel, ?_⟩)
          | (refine ⟨9, by decide +kernel, ?_⟩)
          | (refine ⟨10, by decide +kernel, ?_⟩)
          | rfl
          | split)
end Go.Lv
