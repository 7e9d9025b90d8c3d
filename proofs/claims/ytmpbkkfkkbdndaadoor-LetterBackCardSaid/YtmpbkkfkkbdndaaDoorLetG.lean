/- Letters: the document's put. -/
import Derived.Test.YtmpbkkfkkbdndaaDoorLetF
namespace Go.Lv
open Go Go.Proofs Go.IntWalk
set_option maxRecDepth 100000
set_option linter.unusedSimpArgs false
set_option linter.unusedVariables false
variable {E : Env}
theorem reif_lts2 {H : Hp} {i N K : Nat} {l : List Lt} {e : D} (hg : hget H i = .row 5 true (flatL l)) (he : e.closed = true) (hK : l.length = K) (hN : N = K * 5) : Reif H (.tup [.own i K N, e]) (.tup [lts false l, e]) := by
  subst hK hN
  exact reif_lts1 he hg (flatL_len l) (Nat.le_refl _) (by rw [List.take_of_length_le (by rw [flatL_len]; omega)])
set_option maxHeartbeats 8000000 in
theorem put36 (t : Bool) (l : List Lt) (hn : l.length ≤ 1000000) (x : Lt) : PDen Tryd.prog E 36 [lts t l, x.d] (putD l x) := by
  refine pden_rby (fn := Tryd.f36) mixed Tryd.func36 rfl (rfl) (putD_closed _ _) ?_
  have hn4 : l.length ≤ 4611686018427387904 := by omega
  obtain ⟨xg, xs, xk, xy, xa⟩ := x
  have cf := find30 (E := E) t xg l hn4
  cases hf : fitS l
  · have hr : putD l ⟨xg, xs, xk, xy, xa⟩ = .tup [.list true [], .int .i64 12] := by simp [putD, hf]
    rw [hr]
    clear hr
    repeat' (first
      | (simp -implicitDefEqProofs (maxSteps := 1000000) only [*, Tryd.f36, ↓cwp_skip, ↓cwp_region, ↓cwp_drawn, ↓cwp_seq, ↓cwp_cond, ↓cwp_block, ↓cwp_loop, ↓cwp_exit, ↓cwp_ret, ↓kont_normal, ↓kont_exit, ↓kont_ret, ↓block_normal, ↓block_ret, ↓block_exit, ↓then_normal, ↓then_ret, ↓then_exit, ↓finF_normal, ↓finF_ret, ↓cseq_nil, ↓cseq_free, ↓cseq_cons, ↓seqK_go, ↓anyK_go, ↓caq_zero, ↓caq_done, ↓caq_free, ↓caq_step, ↓cStep_move, ↓cStep_assign, ↓cStep_eq, ↓cPure_call, ↓reduceIte, keeps, wantD, callee, aop, ev, ofV, nth, List.cons_append, List.nil_append, List.append_nil, undL, putO, put, List.length_cons, List.length_nil, Nat.reduceSub, Nat.reduceAdd, dBinT, dBin, dUn, Option.map, List.getElem?_toArray, List.toList_toArray, List.getElem?_cons_succ, List.getElem?_cons_zero, Option.bind, ge_iff_le, gt_iff_lt, resD, resL, resV, beq_true, beq_false, Option.some.injEq, List.map, Bool.not_true, Bool.not_false, Bool.false_eq_true, exists_eq_left', Bool.not_eq_true', decide_eq_true_eq, decide_eq_false_iff_not, ite_not, decide_true, decide_false, not_true_eq_false, not_false_eq_true, D.bool.injEq, if_true, if_false, and_true, true_and, ty1, sz1, z1, ty2, sz2, z2, ty3, sz3, z3, ty4, sz4, z4, ty5, sz5, z5, ty6, sz6, z6, ty7, sz7, z7, ty8, sz8, z8, ty9, sz9, z9, ty10, sz10, z10, ty11, sz11, z11, ty12, sz12, z12, ty13, sz13, z13, ty14, sz14, z14, ty15, sz15, z15, ty16, sz16, z16, ty23, sz23, z23, ty35, sz35, z35, ty37, sz37, z37, k37, ty57, sz57, z57, dLen, dIdxA, dLoad, part, Ty.isA, Ty.fi, D.cells, D.cells?, dField, dFieldA, dIdx, dFill, allCell, D.isCell, els, chunk, rep, splice, hget, hset, cellsOf, Blk.isC, Blk.cs, Blk.mut, Blk.setCs, dStore, dBuild, dSlice, dBnd, List.getElem?_map, Option.map_some, Int.toNat_natCast, List.length_map, Nat.lt_irrefl, Nat.zero_lt_one, Nat.zero_lt_succ, Nat.le_refl, Nat.zero_add, Bool.false_eq_true, false_or, or_true, true_or, List.drop_zero, Int.natCast_nonneg, D.int.injEq, Int.zero_le_ofNat, Nat.lt_add_one, List.getElem?_nil, Nat.zero_le, List.take, List.drop, Nat.reduceMul, Nat.reduceLeDiff, Nat.reduceLT, Nat.reducePow, Nat.reduceBEq, Nat.reduceEqDiff, and_self, D.closedL, D.closed, Bool.and_self, bne_self_eq_false, beq_self_eq_true, bne, Bool.true_and, Bool.and_true, Bool.or_true, Bool.or_false, Bool.true_or, Bool.false_or, Bool.and_false, Bool.false_and, List.all_cons, List.all_nil, List.all, List.replicate, exists_const, okK, dEqL, dEqO, dEq, Option.isSome, nc0, nc1, nc2, nc3, nc4, nc5, nc6, nc7, nc8, nc9, nc10, nc11, nc12, wl0, wl1, wl2, wl3, wl4, wl5, wl6, wl7, wl8, wl9, wl10, wl11, wl12, Int.reduceAdd, Int.reduceLT, Int.reduceLE, Int.reduceToNat, Int.reduceEq, Int.reduceSub, Int.reduceBEq, Int.reduceBNe, List.length_singleton, Nat.reduceBNe, z37, sz37, ty37, lts_def, Lt.d_mk, hget_len, hset_len', eq_self, ← List.map_take, ← List.map_drop, List.take_length, dAppend, dLenN, srcCells, List.length_append, List.flatMap_nil, List.map_nil, List.flatMap_cons, Lt_zero_d])
      | (exact reif_closed rfl)
      | (refine .body (by kernel_rfl) (PDen.to (fit32 _ _ hn4) ?_))
      | (refine PCall.to (by kernel_rfl) (fit32 _ _ hn4) ?_)
      | (refine .body (by kernel_rfl) (PDen.to (oneR ⟨xg, xs, xk, xy, xa⟩) ?_))
      | (refine PCall.to (by kernel_rfl) (oneR ⟨xg, xs, xk, xy, xa⟩) ?_)
      | (refine .body (by kernel_rfl) (PDen.to (cf) ?_))
      | (refine PCall.to (by kernel_rfl) (cf) ?_)
      | (refine ⟨12, by decide +kernel, ?_⟩)
      | (refine ⟨13, by decide +kernel, ?_⟩)
      | (refine ⟨14, by decide +kernel, ?_⟩)
      | rfl
      | split)
  cases ho : oneS ⟨xg, xs, xk, xy, xa⟩
  · have hr : putD l ⟨xg, xs, xk, xy, xa⟩ = .tup [.list true [], .int .i64 1] := by simp [putD, hf, ho]
    rw [hr]
    clear hr
    repeat' (first
      | (simp -implicitDefEqProofs (maxSteps := 1000000) only [*, Tryd.f36, ↓cwp_skip, ↓cwp_region, ↓cwp_drawn, ↓cwp_seq, ↓cwp_cond, ↓cwp_block, ↓cwp_loop, ↓cwp_exit, ↓cwp_ret, ↓kont_normal, ↓kont_exit, ↓kont_ret, ↓block_normal, ↓block_ret, ↓block_exit, ↓then_normal, ↓then_ret, ↓then_exit, ↓finF_normal, ↓finF_ret, ↓cseq_nil, ↓cseq_free, ↓cseq_cons, ↓seqK_go, ↓anyK_go, ↓caq_zero, ↓caq_done, ↓caq_free, ↓caq_step, ↓cStep_move, ↓cStep_assign, ↓cStep_eq, ↓cPure_call, ↓reduceIte, keeps, wantD, callee, aop, ev, ofV, nth, List.cons_append, List.nil_append, List.append_nil, undL, putO, put, List.length_cons, List.length_nil, Nat.reduceSub, Nat.reduceAdd, dBinT, dBin, dUn, Option.map, List.getElem?_toArray, List.toList_toArray, List.getElem?_cons_succ, List.getElem?_cons_zero, Option.bind, ge_iff_le, gt_iff_lt, resD, resL, resV, beq_true, beq_false, Option.some.injEq, List.map, Bool.not_true, Bool.not_false, Bool.false_eq_true, exists_eq_left', Bool.not_eq_true', decide_eq_true_eq, decide_eq_false_iff_not, ite_not, decide_true, decide_false, not_true_eq_false, not_false_eq_true, D.bool.injEq, if_true, if_false, and_true, true_and, ty1, sz1, z1, ty2, sz2, z2, ty3, sz3, z3, ty4, sz4, z4, ty5, sz5, z5, ty6, sz6, z6, ty7, sz7, z7, ty8, sz8, z8, ty9, sz9, z9, ty10, sz10, z10, ty11, sz11, z11, ty12, sz12, z12, ty13, sz13, z13, ty14, sz14, z14, ty15, sz15, z15, ty16, sz16, z16, ty23, sz23, z23, ty35, sz35, z35, ty37, sz37, z37, k37, ty57, sz57, z57, dLen, dIdxA, dLoad, part, Ty.isA, Ty.fi, D.cells, D.cells?, dField, dFieldA, dIdx, dFill, allCell, D.isCell, els, chunk, rep, splice, hget, hset, cellsOf, Blk.isC, Blk.cs, Blk.mut, Blk.setCs, dStore, dBuild, dSlice, dBnd, List.getElem?_map, Option.map_some, Int.toNat_natCast, List.length_map, Nat.lt_irrefl, Nat.zero_lt_one, Nat.zero_lt_succ, Nat.le_refl, Nat.zero_add, Bool.false_eq_true, false_or, or_true, true_or, List.drop_zero, Int.natCast_nonneg, D.int.injEq, Int.zero_le_ofNat, Nat.lt_add_one, List.getElem?_nil, Nat.zero_le, List.take, List.drop, Nat.reduceMul, Nat.reduceLeDiff, Nat.reduceLT, Nat.reducePow, Nat.reduceBEq, Nat.reduceEqDiff, and_self, D.closedL, D.closed, Bool.and_self, bne_self_eq_false, beq_self_eq_true, bne, Bool.true_and, Bool.and_true, Bool.or_true, Bool.or_false, Bool.true_or, Bool.false_or, Bool.and_false, Bool.false_and, List.all_cons, List.all_nil, List.all, List.replicate, exists_const, okK, dEqL, dEqO, dEq, Option.isSome, nc0, nc1, nc2, nc3, nc4, nc5, nc6, nc7, nc8, nc9, nc10, nc11, nc12, wl0, wl1, wl2, wl3, wl4, wl5, wl6, wl7, wl8, wl9, wl10, wl11, wl12, Int.reduceAdd, Int.reduceLT, Int.reduceLE, Int.reduceToNat, Int.reduceEq, Int.reduceSub, Int.reduceBEq, Int.reduceBNe, List.length_singleton, Nat.reduceBNe, z37, sz37, ty37, lts_def, Lt.d_mk, hget_len, hset_len', eq_self, ← List.map_take, ← List.map_drop, List.take_length, dAppend, dLenN, srcCells, List.length_append, List.flatMap_nil, List.map_nil, List.flatMap_cons, Lt_zero_d])
      | (exact reif_closed rfl)
      | (refine .body (by kernel_rfl) (PDen.to (fit32 _ _ hn4) ?_))
      | (refine PCall.to (by kernel_rfl) (fit32 _ _ hn4) ?_)
      | (refine .body (by kernel_rfl) (PDen.to (oneR ⟨xg, xs, xk, xy, xa⟩) ?_))
      | (refine PCall.to (by kernel_rfl) (oneR ⟨xg, xs, xk, xy, xa⟩) ?_)
      | (refine .body (by kernel_rfl) (PDen.to (cf) ?_))
      | (refine PCall.to (by kernel_rfl) (cf) ?_)
      | (refine ⟨12, by decide +kernel, ?_⟩)
      | (refine ⟨13, by decide +kernel, ?_⟩)
      | (refine ⟨14, by decide +kernel, ?_⟩)
      | rfl
      | split)
  cases hp : plc xg l with
  | some n =>
    have hr : putD l ⟨xg, xs, xk, xy, xa⟩ = .tup [.list true [], .int .i64 3] := by simp [putD, hf, ho, hp]
    have hI : findD xg l = .tup [(l.getD n Lt.zero).d, .bool true] := by simp only [findD, hp]
    rw [hr]
    rw [hI] at cf
    rcases hz : l.getD n Lt.zero with ⟨zg, zs, zk, zy, za⟩
    rw [hz] at cf
    clear hr hI hp hz
    repeat' (first
      | (simp -implicitDefEqProofs (maxSteps := 1000000) only [*, Tryd.f36, ↓cwp_skip, ↓cwp_region, ↓cwp_drawn, ↓cwp_seq, ↓cwp_cond, ↓cwp_block, ↓cwp_loop, ↓cwp_exit, ↓cwp_ret, ↓kont_normal, ↓kont_exit, ↓kont_ret, ↓block_normal, ↓block_ret, ↓block_exit, ↓then_normal, ↓then_ret, ↓then_exit, ↓finF_normal, ↓finF_ret, ↓cseq_nil, ↓cseq_free, ↓cseq_cons, ↓seqK_go, ↓anyK_go, ↓caq_zero, ↓caq_done, ↓caq_free, ↓caq_step, ↓cStep_move, ↓cStep_assign, ↓cStep_eq, ↓cPure_call, ↓reduceIte, keeps, wantD, callee, aop, ev, ofV, nth, List.cons_append, List.nil_append, List.append_nil, undL, putO, put, List.length_cons, List.length_nil, Nat.reduceSub, Nat.reduceAdd, dBinT, dBin, dUn, Option.map, List.getElem?_toArray, List.toList_toArray, List.getElem?_cons_succ, List.getElem?_cons_zero, Option.bind, ge_iff_le, gt_iff_lt, resD, resL, resV, beq_true, beq_false, Option.some.injEq, List.map, Bool.not_true, Bool.not_false, Bool.false_eq_true, exists_eq_left', Bool.not_eq_true', decide_eq_true_eq, decide_eq_false_iff_not, ite_not, decide_true, decide_false, not_true_eq_false, not_false_eq_true, D.bool.injEq, if_true, if_false, and_true, true_and, ty1, sz1, z1, ty2, sz2, z2, ty3, sz3, z3, ty4, sz4, z4, ty5, sz5, z5, ty6, sz6, z6, ty7, sz7, z7, ty8, sz8, z8, ty9, sz9, z9, ty10, sz10, z10, ty11, sz11, z11, ty12, sz12, z12, ty13, sz13, z13, ty14, sz14, z14, ty15, sz15, z15, ty16, sz16, z16, ty23, sz23, z23, ty35, sz35, z35, ty37, sz37, z37, k37, ty57, sz57, z57, dLen, dIdxA, dLoad, part, Ty.isA, Ty.fi, D.cells, D.cells?, dField, dFieldA, dIdx, dFill, allCell, D.isCell, els, chunk, rep, splice, hget, hset, cellsOf, Blk.isC, Blk.cs, Blk.mut, Blk.setCs, dStore, dBuild, dSlice, dBnd, List.getElem?_map, Option.map_some, Int.toNat_natCast, List.length_map, Nat.lt_irrefl, Nat.zero_lt_one, Nat.zero_lt_succ, Nat.le_refl, Nat.zero_add, Bool.false_eq_true, false_or, or_true, true_or, List.drop_zero, Int.natCast_nonneg, D.int.injEq, Int.zero_le_ofNat, Nat.lt_add_one, List.getElem?_nil, Nat.zero_le, List.take, List.drop, Nat.reduceMul, Nat.reduceLeDiff, Nat.reduceLT, Nat.reducePow, Nat.reduceBEq, Nat.reduceEqDiff, and_self, D.closedL, D.closed, Bool.and_self, bne_self_eq_false, beq_self_eq_true, bne, Bool.true_and, Bool.and_true, Bool.or_true, Bool.or_false, Bool.true_or, Bool.false_or, Bool.and_false, Bool.false_and, List.all_cons, List.all_nil, List.all, List.replicate, exists_const, okK, dEqL, dEqO, dEq, Option.isSome, nc0, nc1, nc2, nc3, nc4, nc5, nc6, nc7, nc8, nc9, nc10, nc11, nc12, wl0, wl1, wl2, wl3, wl4, wl5, wl6, wl7, wl8, wl9, wl10, wl11, wl12, Int.reduceAdd, Int.reduceLT, Int.reduceLE, Int.reduceToNat, Int.reduceEq, Int.reduceSub, Int.reduceBEq, Int.reduceBNe, List.length_singleton, Nat.reduceBNe, z37, sz37, ty37, lts_def, Lt.d_mk, hget_len, hset_len', eq_self, ← List.map_take, ← List.map_drop, List.take_length, dAppend, dLenN, srcCells, List.length_append, List.flatMap_nil, List.map_nil, List.flatMap_cons, Lt_zero_d])
      | (exact reif_closed rfl)
      | (refine .body (by kernel_rfl) (PDen.to (fit32 _ _ hn4) ?_))
      | (refine PCall.to (by kernel_rfl) (fit32 _ _ hn4) ?_)
      | (refine .body (by kernel_rfl) (PDen.to (oneR ⟨xg, xs, xk, xy, xa⟩) ?_))
      | (refine PCall.to (by kernel_rfl) (oneR ⟨xg, xs, xk, xy, xa⟩) ?_)
      | (refine .body (by kernel_rfl) (PDen.to (cf) ?_))
      | (refine PCall.to (by kernel_rfl) (cf) ?_)
      | (refine ⟨12, by decide +kernel, ?_⟩)
      | (refine ⟨13, by decide +kernel, ?_⟩)
      | (refine ⟨14, by decide +kernel, ?_⟩)
      | rfl
      | split)
  | none =>
    have hI : findD xg l = .tup [Lt.zero.d, .bool false] := by simp only [findD, hp]
    rw [hI] at cf
    by_cases h16 : l.length = 16
    · have hr : putD l ⟨xg, xs, xk, xy, xa⟩ = .tup [.list true [], .int .i64 4] := by simp [putD, hf, ho, hp, h16]
      have hl16 : ((l.length : Int) == 16) = true := by rw [beq_iff_eq]; omega
      rw [hr]
      clear hr hI hp h16
      repeat' (first
        | (simp -implicitDefEqProofs (maxSteps := 1000000) only [*, Tryd.f36, ↓cwp_skip, ↓cwp_region, ↓cwp_drawn, ↓cwp_seq, ↓cwp_cond, ↓cwp_block, ↓cwp_loop, ↓cwp_exit, ↓cwp_ret, ↓kont_normal, ↓kont_exit, ↓kont_ret, ↓block_normal, ↓block_ret, ↓block_exit, ↓then_normal, ↓then_ret, ↓then_exit, ↓finF_normal, ↓finF_ret, ↓cseq_nil, ↓cseq_free, ↓cseq_cons, ↓seqK_go, ↓anyK_go, ↓caq_zero, ↓caq_done, ↓caq_free, ↓caq_step, ↓cStep_move, ↓cStep_assign, ↓cStep_eq, ↓cPure_call, ↓reduceIte, keeps, wantD, callee, aop, ev, ofV, nth, List.cons_append, List.nil_append, List.append_nil, undL, putO, put, List.length_cons, List.length_nil, Nat.reduceSub, Nat.reduceAdd, dBinT, dBin, dUn, Option.map, List.getElem?_toArray, List.toList_toArray, List.getElem?_cons_succ, List.getElem?_cons_zero, Option.bind, ge_iff_le, gt_iff_lt, resD, resL, resV, beq_true, beq_false, Option.some.injEq, List.map, Bool.not_true, Bool.not_false, Bool.false_eq_true, exists_eq_left', Bool.not_eq_true', decide_eq_true_eq, decide_eq_false_iff_not, ite_not, decide_true, decide_false, not_true_eq_false, not_false_eq_true, D.bool.injEq, if_true, if_false, and_true, true_and, ty1, sz1, z1, ty2, sz2, z2, ty3, sz3, z3, ty4, sz4, z4, ty5, sz5, z5, ty6, sz6, z6, ty7, sz7, z7, ty8, sz8, z8, ty9, sz9, z9, ty10, sz10, z10, ty11, sz11, z11, ty12, sz12, z12, ty13, sz13, z13, ty14, sz14, z14, ty15, sz15, z15, ty16, sz16, z16, ty23, sz23, z23, ty35, sz35, z35, ty37, sz37, z37, k37, ty57, sz57, z57, dLen, dIdxA, dLoad, part, Ty.isA, Ty.fi, D.cells, D.cells?, dField, dFieldA, dIdx, dFill, allCell, D.isCell, els, chunk, rep, splice, hget, hset, cellsOf, Blk.isC, Blk.cs, Blk.mut, Blk.setCs, dStore, dBuild, dSlice, dBnd, List.getElem?_map, Option.map_some, Int.toNat_natCast, List.length_map, Nat.lt_irrefl, Nat.zero_lt_one, Nat.zero_lt_succ, Nat.le_refl, Nat.zero_add, Bool.false_eq_true, false_or, or_true, true_or, List.drop_zero, Int.natCast_nonneg, D.int.injEq, Int.zero_le_ofNat, Nat.lt_add_one, List.getElem?_nil, Nat.zero_le, List.take, List.drop, Nat.reduceMul, Nat.reduceLeDiff, Nat.reduceLT, Nat.reducePow, Nat.reduceBEq, Nat.reduceEqDiff, and_self, D.closedL, D.closed, Bool.and_self, bne_self_eq_false, beq_self_eq_true, bne, Bool.true_and, Bool.and_true, Bool.or_true, Bool.or_false, Bool.true_or, Bool.false_or, Bool.and_false, Bool.false_and, List.all_cons, List.all_nil, List.all, List.replicate, exists_const, okK, dEqL, dEqO, dEq, Option.isSome, nc0, nc1, nc2, nc3, nc4, nc5, nc6, nc7, nc8, nc9, nc10, nc11, nc12, wl0, wl1, wl2, wl3, wl4, wl5, wl6, wl7, wl8, wl9, wl10, wl11, wl12, Int.reduceAdd, Int.reduceLT, Int.reduceLE, Int.reduceToNat, Int.reduceEq, Int.reduceSub, Int.reduceBEq, Int.reduceBNe, List.length_singleton, Nat.reduceBNe, z37, sz37, ty37, lts_def, Lt.d_mk, hget_len, hset_len', eq_self, ← List.map_take, ← List.map_drop, List.take_length, dAppend, dLenN, srcCells, List.length_append, List.flatMap_nil, List.map_nil, List.flatMap_cons, Lt_zero_d])
        | (exact reif_closed rfl)
        | (refine .body (by kernel_rfl) (PDen.to (fit32 _ _ hn4) ?_))
        | (refine PCall.to (by kernel_rfl) (fit32 _ _ hn4) ?_)
        | (refine .body (by kernel_rfl) (PDen.to (oneR ⟨xg, xs, xk, xy, xa⟩) ?_))
        | (refine PCall.to (by kernel_rfl) (oneR ⟨xg, xs, xk, xy, xa⟩) ?_)
        | (refine .body (by kernel_rfl) (PDen.to (cf) ?_))
        | (refine PCall.to (by kernel_rfl) (cf) ?_)
        | (refine ⟨12, by decide +kernel, ?_⟩)
        | (refine ⟨13, by decide +kernel, ?_⟩)
        | (refine ⟨14, by decide +kernel, ?_⟩)
        | rfl
        | split)
    · have hr : putD l ⟨xg, xs, xk, xy, xa⟩ = .tup [lts false (ins ⟨xg, xs, xk, xy, xa⟩ l), .int .i64 0] := by simp [putD, hf, ho, hp, h16]
      have hl16 : ((l.length : Int) == 16) = false := by rw [beq_eq_false_iff_ne]; omega
      rw [hr]
      clear hr hI hp
      repeat' (first
        | (simp -implicitDefEqProofs (maxSteps := 1000000) only [*, Tryd.f36, ↓cwp_skip, ↓cwp_region, ↓cwp_drawn, ↓cwp_seq, ↓cwp_cond, ↓cwp_block, ↓cwp_loop, ↓cwp_exit, ↓cwp_ret, ↓kont_normal, ↓kont_exit, ↓kont_ret, ↓block_normal, ↓block_ret, ↓block_exit, ↓then_normal, ↓then_ret, ↓then_exit, ↓finF_normal, ↓finF_ret, ↓cseq_nil, ↓cseq_free, ↓cseq_cons, ↓seqK_go, ↓anyK_go, ↓caq_zero, ↓caq_done, ↓caq_free, ↓caq_step, ↓cStep_move, ↓cStep_assign, ↓cStep_eq, ↓cPure_call, ↓reduceIte, keeps, wantD, callee, aop, ev, ofV, nth, List.cons_append, List.nil_append, List.append_nil, undL, putO, put, List.length_cons, List.length_nil, Nat.reduceSub, Nat.reduceAdd, dBinT, dBin, dUn, Option.map, List.getElem?_toArray, List.toList_toArray, List.getElem?_cons_succ, List.getElem?_cons_zero, Option.bind, ge_iff_le, gt_iff_lt, resD, resL, resV, beq_true, beq_false, Option.some.injEq, List.map, Bool.not_true, Bool.not_false, Bool.false_eq_true, exists_eq_left', Bool.not_eq_true', decide_eq_true_eq, decide_eq_false_iff_not, ite_not, decide_true, decide_false, not_true_eq_false, not_false_eq_true, D.bool.injEq, if_true, if_false, and_true, true_and, ty1, sz1, z1, ty2, sz2, z2, ty3, sz3, z3, ty4, sz4, z4, ty5, sz5, z5, ty6, sz6, z6, ty7, sz7, z7, ty8, sz8, z8, ty9, sz9, z9, ty10, sz10, z10, ty11, sz11, z11, ty12, sz12, z12, ty13, sz13, z13, ty14, sz14, z14, ty15, sz15, z15, ty16, sz16, z16, ty23, sz23, z23, ty35, sz35, z35, ty37, sz37, z37, k37, ty57, sz57, z57, dLen, dIdxA, dLoad, part, Ty.isA, Ty.fi, D.cells, D.cells?, dField, dFieldA, dIdx, dFill, allCell, D.isCell, els, chunk, rep, splice, hget, hset, cellsOf, Blk.isC, Blk.cs, Blk.mut, Blk.setCs, dStore, dBuild, dSlice, dBnd, List.getElem?_map, Option.map_some, Int.toNat_natCast, List.length_map, Nat.lt_irrefl, Nat.zero_lt_one, Nat.zero_lt_succ, Nat.le_refl, Nat.zero_add, Bool.false_eq_true, false_or, or_true, true_or, List.drop_zero, Int.natCast_nonneg, D.int.injEq, Int.zero_le_ofNat, Nat.lt_add_one, List.getElem?_nil, Nat.zero_le, List.take, List.drop, Nat.reduceMul, Nat.reduceLeDiff, Nat.reduceLT, Nat.reducePow, Nat.reduceBEq, Nat.reduceEqDiff, and_self, D.closedL, D.closed, Bool.and_self, bne_self_eq_false, beq_self_eq_true, bne, Bool.true_and, Bool.and_true, Bool.or_true, Bool.or_false, Bool.true_or, Bool.false_or, Bool.and_false, Bool.false_and, List.all_cons, List.all_nil, List.all, List.replicate, exists_const, okK, dEqL, dEqO, dEq, Option.isSome, nc0, nc1, nc2, nc3, nc4, nc5, nc6, nc7, nc8, nc9, nc10, nc11, nc12, wl0, wl1, wl2, wl3, wl4, wl5, wl6, wl7, wl8, wl9, wl10, wl11, wl12, Int.reduceAdd, Int.reduceLT, Int.reduceLE, Int.reduceToNat, Int.reduceEq, Int.reduceSub, Int.reduceBEq, Int.reduceBNe, List.length_singleton, Nat.reduceBNe, z37, sz37, ty37, lts_def, Lt.d_mk, hget_len, hset_len', eq_self, ← List.map_take, ← List.map_drop, List.take_length, dAppend, dLenN, srcCells, List.length_append, List.flatMap_nil, List.map_nil, List.flatMap_cons, Lt_zero_d])
        | (exact reif_closed rfl)
        | (refine .body (by kernel_rfl) (PDen.to (fit32 _ _ hn4) ?_))
        | (refine PCall.to (by kernel_rfl) (fit32 _ _ hn4) ?_)
        | (refine .body (by kernel_rfl) (PDen.to (oneR ⟨xg, xs, xk, xy, xa⟩) ?_))
        | (refine PCall.to (by kernel_rfl) (oneR ⟨xg, xs, xk, xy, xa⟩) ?_)
        | (refine .body (by kernel_rfl) (PDen.to (cf) ?_))
        | (refine PCall.to (by kernel_rfl) (cf) ?_)
        | (refine ⟨12, by decide +kernel, ?_⟩)
        | (refine ⟨13, by decide +kernel, ?_⟩)
        | (refine ⟨14, by decide +kernel, ?_⟩)
        | rfl
        | split)
      refine loop_rule (Inv36 t xg xs xk xy xa l) ?_ l.length ⟨0, _, _, _, _, _, _, _, _, _, _, _, _, _, _, _, _, _, _, _, _, _, _, _, _, _, _, _, _, _, _, _, _, _, _, _, _, _, _, _, _, _, _, _, _, _, _, _, _, _, by omega, by simp, rfl, rfl⟩
      rintro m ts H ⟨i, g1, g2, g10, g11, g12, g13, g14, g15, g16, g17, g18, g19, g20, g21, g22, g23, g24, g25, g26, g27, g28, g29, g30, g31, g32, g33, g34, g35, g36, g37, g38, g39, g40, g41, g42, g43, g44, g45, g46, g47, g48, g49, g50, g51, g52, g53, g54, g55, g56, him, hq, rfl, rfl⟩
      have hi0 : (0 : Int) ≤ (i : Int) := by omega
      have hle0 := pos_le xg l
      have hall := allSz_lts l
      by_cases hi : i < l.length
      · obtain ⟨z, hz, hd⟩ := lt_getL hi
        obtain ⟨hp1, hp2⟩ := pos_drop hd rfl hq
        have hi' : (i : Int) < (l.length : Int) := by omega
        have hidx : IntKind.i64.wrap ((i : Int) + 1) = ((i + 1 : Nat) : Int) := by rw [i64_in _ (by omega)]; rfl
        obtain ⟨g2, s2, k2, y2, a2⟩ := z
        simp only at hp1 hp2
        clear hd hq
        by_cases hg : g2 < xg
        · have hp3 := hp1 hg
          clear hp1 hp2
          repeat' (first
            | (simp -implicitDefEqProofs (maxSteps := 1000000) only [*, Tryd.f36, ↓cwp_skip, ↓cwp_region, ↓cwp_drawn, ↓cwp_seq, ↓cwp_cond, ↓cwp_block, ↓cwp_loop, ↓cwp_exit, ↓cwp_ret, ↓kont_normal, ↓kont_exit, ↓kont_ret, ↓block_normal, ↓block_ret, ↓block_exit, ↓then_normal, ↓then_ret, ↓then_exit, ↓finF_normal, ↓finF_ret, ↓cseq_nil, ↓cseq_free, ↓cseq_cons, ↓seqK_go, ↓anyK_go, ↓caq_zero, ↓caq_done, ↓caq_free, ↓caq_step, ↓cStep_move, ↓cStep_assign, ↓cStep_eq, ↓cPure_call, ↓reduceIte, keeps, wantD, callee, aop, ev, ofV, nth, List.cons_append, List.nil_append, List.append_nil, undL, putO, put, List.length_cons, List.length_nil, Nat.reduceSub, Nat.reduceAdd, dBinT, dBin, dUn, Option.map, List.getElem?_toArray, List.toList_toArray, List.getElem?_cons_succ, List.getElem?_cons_zero, Option.bind, ge_iff_le, gt_iff_lt, resD, resL, resV, beq_true, beq_false, Option.some.injEq, List.map, Bool.not_true, Bool.not_false, Bool.false_eq_true, exists_eq_left', Bool.not_eq_true', decide_eq_true_eq, decide_eq_false_iff_not, ite_not, decide_true, decide_false, not_true_eq_false, not_false_eq_true, D.bool.injEq, if_true, if_false, and_true, true_and, ty1, sz1, z1, ty2, sz2, z2, ty3, sz3, z3, ty4, sz4, z4, ty5, sz5, z5, ty6, sz6, z6, ty7, sz7, z7, ty8, sz8, z8, ty9, sz9, z9, ty10, sz10, z10, ty11, sz11, z11, ty12, sz12, z12, ty13, sz13, z13, ty14, sz14, z14, ty15, sz15, z15, ty16, sz16, z16, ty23, sz23, z23, ty35, sz35, z35, ty37, sz37, z37, k37, ty57, sz57, z57, dLen, dIdxA, dLoad, part, Ty.isA, Ty.fi, D.cells, D.cells?, dField, dFieldA, dIdx, dFill, allCell, D.isCell, els, chunk, rep, splice, hget, hset, cellsOf, Blk.isC, Blk.cs, Blk.mut, Blk.setCs, dStore, dBuild, dSlice, dBnd, List.getElem?_map, Option.map_some, Int.toNat_natCast, List.length_map, Nat.lt_irrefl, Nat.zero_lt_one, Nat.zero_lt_succ, Nat.le_refl, Nat.zero_add, Bool.false_eq_true, false_or, or_true, true_or, List.drop_zero, Int.natCast_nonneg, D.int.injEq, Int.zero_le_ofNat, Nat.lt_add_one, List.getElem?_nil, Nat.zero_le, List.take, List.drop, Nat.reduceMul, Nat.reduceLeDiff, Nat.reduceLT, Nat.reducePow, Nat.reduceBEq, Nat.reduceEqDiff, and_self, D.closedL, D.closed, Bool.and_self, bne_self_eq_false, beq_self_eq_true, bne, Bool.true_and, Bool.and_true, Bool.or_true, Bool.or_false, Bool.true_or, Bool.false_or, Bool.and_false, Bool.false_and, List.all_cons, List.all_nil, List.all, List.replicate, exists_const, okK, dEqL, dEqO, dEq, Option.isSome, nc0, nc1, nc2, nc3, nc4, nc5, nc6, nc7, nc8, nc9, nc10, nc11, nc12, wl0, wl1, wl2, wl3, wl4, wl5, wl6, wl7, wl8, wl9, wl10, wl11, wl12, Int.reduceAdd, Int.reduceLT, Int.reduceLE, Int.reduceToNat, Int.reduceEq, Int.reduceSub, Int.reduceBEq, Int.reduceBNe, List.length_singleton, Nat.reduceBNe, z37, sz37, ty37, lts_def, Lt.d_mk, hget_len, hset_len', eq_self, ← List.map_take, ← List.map_drop, List.take_length, dAppend, dLenN, srcCells, List.length_append, List.flatMap_nil, List.map_nil, List.flatMap_cons, Lt_zero_d])
            | (exact reif_closed rfl)
            | (refine .body (by kernel_rfl) (PDen.to (fit32 _ _ hn4) ?_))
            | (refine PCall.to (by kernel_rfl) (fit32 _ _ hn4) ?_)
            | (refine .body (by kernel_rfl) (PDen.to (oneR ⟨xg, xs, xk, xy, xa⟩) ?_))
            | (refine PCall.to (by kernel_rfl) (oneR ⟨xg, xs, xk, xy, xa⟩) ?_)
            | (refine .body (by kernel_rfl) (PDen.to (cf) ?_))
            | (refine PCall.to (by kernel_rfl) (cf) ?_)
            | (refine ⟨12, by decide +kernel, ?_⟩)
            | (refine ⟨13, by decide +kernel, ?_⟩)
            | (refine ⟨14, by decide +kernel, ?_⟩)
            | rfl
            | split)
          exact ⟨m - 1, by omega, i + 1, _, _, _, _, _, _, _, _, _, _, _, _, _, _, _, _, _, _, _, _, _, _, _, _, _, _, _, _, _, _, _, _, _, _, _, _, _, _, _, _, _, _, _, _, _, _, _, _, _, by omega, hp3, rfl, rfl⟩
        · have hp3 := hp2 hg
          clear hp1 hp2
          subst hp3
          clear hle0
          have hle := pos_le xg l
          have hlA : (l.take (pos xg l)).length = pos xg l := by rw [List.length_take]; omega
          obtain ⟨Q, hQ⟩ : ∃ Q, l.length = pos xg l + Q := ⟨l.length - pos xg l, by omega⟩
          have hlB : (l.drop (pos xg l)).length = Q := by rw [List.length_drop]; omega
          have hallA := allSz_lts (l.take (pos xg l))
          have hallB := allSz_lts (l.drop (pos xg l))
          have hfA : ((l.take (pos xg l)).map Lt.d).flatMap D.cells = flatL (l.take (pos xg l)) := rfl
          have hfB : ((l.drop (pos xg l)).map Lt.d).flatMap D.cells = flatL (l.drop (pos xg l)) := rfl
          have hnA : (flatL (l.take (pos xg l))).length = pos xg l * 5 := by rw [flatL_len, hlA]
          have hnB : (flatL (l.drop (pos xg l))).length = Q * 5 := by rw [flatL_len, hlB]
          have hall := allSz_lts l
          have hall0 : allSz 5 ([] : List D) = true := rfl
          have hall1 : allSz 5 [D.agg [.int .i64 xg, .int .i64 xs, .bool xk, .int .i64 xy, .int .i64 xa]] = true := rfl
          have hQ0 : ¬ Q = 0 := by omega
          by_cases hP : pos xg l = 0
          · have hP0 : l.take (pos xg l) = [] := List.length_eq_zero_iff.1 (by rw [hlA, hP])
            have hB0 := True.intro
            have hb3 : (1 + Q) * 40 ≤ 70368744177664 := by omega
            have hPt : (pos xg l = 0) ↔ True := iff_true_intro hP
            clear hQ hP
            repeat' (first
              | (simp -implicitDefEqProofs (maxSteps := 1000000) only [*, Tryd.f36, ↓cwp_skip, ↓cwp_region, ↓cwp_drawn, ↓cwp_seq, ↓cwp_cond, ↓cwp_block, ↓cwp_loop, ↓cwp_exit, ↓cwp_ret, ↓kont_normal, ↓kont_exit, ↓kont_ret, ↓block_normal, ↓block_ret, ↓block_exit, ↓then_normal, ↓then_ret, ↓then_exit, ↓finF_normal, ↓finF_ret, ↓cseq_nil, ↓cseq_free, ↓cseq_cons, ↓seqK_go, ↓anyK_go, ↓caq_zero, ↓caq_done, ↓caq_free, ↓caq_step, ↓cStep_move, ↓cStep_assign, ↓cStep_eq, ↓cPure_call, ↓reduceIte, keeps, wantD, callee, aop, ev, ofV, nth, List.cons_append, List.nil_append, List.append_nil, undL, putO, put, List.length_cons, List.length_nil, Nat.reduceSub, Nat.reduceAdd, dBinT, dBin, dUn, Option.map, List.getElem?_toArray, List.toList_toArray, List.getElem?_cons_succ, List.getElem?_cons_zero, Option.bind, ge_iff_le, gt_iff_lt, resD, resL, resV, beq_true, beq_false, Option.some.injEq, List.map, Bool.not_true, Bool.not_false, Bool.false_eq_true, exists_eq_left', Bool.not_eq_true', decide_eq_true_eq, decide_eq_false_iff_not, ite_not, decide_true, decide_false, not_true_eq_false, not_false_eq_true, D.bool.injEq, if_true, if_false, and_true, true_and, ty1, sz1, z1, ty2, sz2, z2, ty3, sz3, z3, ty4, sz4, z4, ty5, sz5, z5, ty6, sz6, z6, ty7, sz7, z7, ty8, sz8, z8, ty9, sz9, z9, ty10, sz10, z10, ty11, sz11, z11, ty12, sz12, z12, ty13, sz13, z13, ty14, sz14, z14, ty15, sz15, z15, ty16, sz16, z16, ty23, sz23, z23, ty35, sz35, z35, ty37, sz37, z37, k37, ty57, sz57, z57, dLen, dIdxA, dLoad, part, Ty.isA, Ty.fi, D.cells, D.cells?, dField, dFieldA, dIdx, dFill, allCell, D.isCell, els, chunk, rep, splice, hget, hset, cellsOf, Blk.isC, Blk.cs, Blk.mut, Blk.setCs, dStore, dBuild, dSlice, dBnd, List.getElem?_map, Option.map_some, Int.toNat_natCast, List.length_map, Nat.lt_irrefl, Nat.zero_lt_one, Nat.zero_lt_succ, Nat.le_refl, Nat.zero_add, Bool.false_eq_true, false_or, or_true, true_or, List.drop_zero, Int.natCast_nonneg, D.int.injEq, Int.zero_le_ofNat, Nat.lt_add_one, List.getElem?_nil, Nat.zero_le, List.take, List.drop, Nat.reduceMul, Nat.reduceLeDiff, Nat.reduceLT, Nat.reducePow, Nat.reduceBEq, Nat.reduceEqDiff, and_self, D.closedL, D.closed, Bool.and_self, bne_self_eq_false, beq_self_eq_true, bne, Bool.true_and, Bool.and_true, Bool.or_true, Bool.or_false, Bool.true_or, Bool.false_or, Bool.and_false, Bool.false_and, List.all_cons, List.all_nil, List.all, List.replicate, exists_const, okK, dEqL, dEqO, dEq, Option.isSome, nc0, nc1, nc2, nc3, nc4, nc5, nc6, nc7, nc8, nc9, nc10, nc11, nc12, wl0, wl1, wl2, wl3, wl4, wl5, wl6, wl7, wl8, wl9, wl10, wl11, wl12, Int.reduceAdd, Int.reduceLT, Int.reduceLE, Int.reduceToNat, Int.reduceEq, Int.reduceSub, Int.reduceBEq, Int.reduceBNe, List.length_singleton, Nat.reduceBNe, z37, sz37, ty37, lts_def, Lt.d_mk, hget_len, hset_len', eq_self, ← List.map_take, ← List.map_drop, List.take_length, dAppend, dLenN, srcCells, List.length_append, List.flatMap_nil, List.map_nil, List.flatMap_cons, Lt_zero_d])
              | (exact reif_closed rfl)
              | (refine .body (by kernel_rfl) (PDen.to (fit32 _ _ hn4) ?_))
              | (refine PCall.to (by kernel_rfl) (fit32 _ _ hn4) ?_)
              | (refine .body (by kernel_rfl) (PDen.to (oneR ⟨xg, xs, xk, xy, xa⟩) ?_))
              | (refine PCall.to (by kernel_rfl) (oneR ⟨xg, xs, xk, xy, xa⟩) ?_)
              | (refine .body (by kernel_rfl) (PDen.to (cf) ?_))
              | (refine PCall.to (by kernel_rfl) (cf) ?_)
              | (refine ⟨12, by decide +kernel, ?_⟩)
              | (refine ⟨13, by decide +kernel, ?_⟩)
              | (refine ⟨14, by decide +kernel, ?_⟩)
              | rfl
              | split)
            refine reif_lts2 (l := ins ⟨xg, xs, xk, xy, xa⟩ l) ?_ rfl ?_ ?_
            · simp [hget, ins, flatL_app, flatL_cons, flatL, hP0, hB0, Lt.d, D.cells]
            · simp only [ins, List.length_append, hlA, hlB, List.length_cons, List.length_nil] <;> first | omega | (have h0 := hPt.2 trivial; omega)
            · omega
          · have hP0 := True.intro
            have hB0 := True.intro
            have hb1 : pos xg l * 40 ≤ 70368744177664 := by omega
            have hb2 : (pos xg l + 1) * 40 ≤ 70368744177664 := by omega
            have hb3 : (pos xg l + 1 + Q) * 40 ≤ 70368744177664 := by omega
            have h5 : (pos xg l + 1) * 5 = pos xg l * 5 + 5 := by omega
            clear hQ
            repeat' (first
              | (simp -implicitDefEqProofs (maxSteps := 1000000) only [*, Tryd.f36, ↓cwp_skip, ↓cwp_region, ↓cwp_drawn, ↓cwp_seq, ↓cwp_cond, ↓cwp_block, ↓cwp_loop, ↓cwp_exit, ↓cwp_ret, ↓kont_normal, ↓kont_exit, ↓kont_ret, ↓block_normal, ↓block_ret, ↓block_exit, ↓then_normal, ↓then_ret, ↓then_exit, ↓finF_normal, ↓finF_ret, ↓cseq_nil, ↓cseq_free, ↓cseq_cons, ↓seqK_go, ↓anyK_go, ↓caq_zero, ↓caq_done, ↓caq_free, ↓caq_step, ↓cStep_move, ↓cStep_assign, ↓cStep_eq, ↓cPure_call, ↓reduceIte, keeps, wantD, callee, aop, ev, ofV, nth, List.cons_append, List.nil_append, List.append_nil, undL, putO, put, List.length_cons, List.length_nil, Nat.reduceSub, Nat.reduceAdd, dBinT, dBin, dUn, Option.map, List.getElem?_toArray, List.toList_toArray, List.getElem?_cons_succ, List.getElem?_cons_zero, Option.bind, ge_iff_le, gt_iff_lt, resD, resL, resV, beq_true, beq_false, Option.some.injEq, List.map, Bool.not_true, Bool.not_false, Bool.false_eq_true, exists_eq_left', Bool.not_eq_true', decide_eq_true_eq, decide_eq_false_iff_not, ite_not, decide_true, decide_false, not_true_eq_false, not_false_eq_true, D.bool.injEq, if_true, if_false, and_true, true_and, ty1, sz1, z1, ty2, sz2, z2, ty3, sz3, z3, ty4, sz4, z4, ty5, sz5, z5, ty6, sz6, z6, ty7, sz7, z7, ty8, sz8, z8, ty9, sz9, z9, ty10, sz10, z10, ty11, sz11, z11, ty12, sz12, z12, ty13, sz13, z13, ty14, sz14, z14, ty15, sz15, z15, ty16, sz16, z16, ty23, sz23, z23, ty35, sz35, z35, ty37, sz37, z37, k37, ty57, sz57, z57, dLen, dIdxA, dLoad, part, Ty.isA, Ty.fi, D.cells, D.cells?, dField, dFieldA, dIdx, dFill, allCell, D.isCell, els, chunk, rep, splice, hget, hset, cellsOf, Blk.isC, Blk.cs, Blk.mut, Blk.setCs, dStore, dBuild, dSlice, dBnd, List.getElem?_map, Option.map_some, Int.toNat_natCast, List.length_map, Nat.lt_irrefl, Nat.zero_lt_one, Nat.zero_lt_succ, Nat.le_refl, Nat.zero_add, Bool.false_eq_true, false_or, or_true, true_or, List.drop_zero, Int.natCast_nonneg, D.int.injEq, Int.zero_le_ofNat, Nat.lt_add_one, List.getElem?_nil, Nat.zero_le, List.take, List.drop, Nat.reduceMul, Nat.reduceLeDiff, Nat.reduceLT, Nat.reducePow, Nat.reduceBEq, Nat.reduceEqDiff, and_self, D.closedL, D.closed, Bool.and_self, bne_self_eq_false, beq_self_eq_true, bne, Bool.true_and, Bool.and_true, Bool.or_true, Bool.or_false, Bool.true_or, Bool.false_or, Bool.and_false, Bool.false_and, List.all_cons, List.all_nil, List.all, List.replicate, exists_const, okK, dEqL, dEqO, dEq, Option.isSome, nc0, nc1, nc2, nc3, nc4, nc5, nc6, nc7, nc8, nc9, nc10, nc11, nc12, wl0, wl1, wl2, wl3, wl4, wl5, wl6, wl7, wl8, wl9, wl10, wl11, wl12, Int.reduceAdd, Int.reduceLT, Int.reduceLE, Int.reduceToNat, Int.reduceEq, Int.reduceSub, Int.reduceBEq, Int.reduceBNe, List.length_singleton, Nat.reduceBNe, z37, sz37, ty37, lts_def, Lt.d_mk, hget_len, hset_len', eq_self, ← List.map_take, ← List.map_drop, List.take_length, dAppend, dLenN, srcCells, List.length_append, List.flatMap_nil, List.map_nil, List.flatMap_cons, Lt_zero_d])
              | (exact reif_closed rfl)
              | (refine .body (by kernel_rfl) (PDen.to (fit32 _ _ hn4) ?_))
              | (refine PCall.to (by kernel_rfl) (fit32 _ _ hn4) ?_)
              | (refine .body (by kernel_rfl) (PDen.to (oneR ⟨xg, xs, xk, xy, xa⟩) ?_))
              | (refine PCall.to (by kernel_rfl) (oneR ⟨xg, xs, xk, xy, xa⟩) ?_)
              | (refine .body (by kernel_rfl) (PDen.to (cf) ?_))
              | (refine PCall.to (by kernel_rfl) (cf) ?_)
              | (refine ⟨12, by decide +kernel, ?_⟩)
              | (refine ⟨13, by decide +kernel, ?_⟩)
              | (refine ⟨14, by decide +kernel, ?_⟩)
              | rfl
              | split)
            refine reif_lts2 (l := ins ⟨xg, xs, xk, xy, xa⟩ l) ?_ rfl ?_ ?_
            · simp [hget, ins, flatL_app, flatL_cons, flatL, hP0, hB0, Lt.d, D.cells]
            · simp only [ins, List.length_append, hlA, hlB, List.length_cons, List.length_nil] <;> first | omega | (have h0 := hPt.2 trivial; omega)
            · omega
      · have hi' : ¬ (i : Int) < (l.length : Int) := by omega
        rw [List.drop_eq_nil_of_le (by omega)] at hq
        obtain rfl : i = pos xg l := by simpa [pos] using hq
        clear hle0
        have hle := pos_le xg l
        have hlA : (l.take (pos xg l)).length = pos xg l := by rw [List.length_take]; omega
        obtain ⟨Q, hQ⟩ : ∃ Q, l.length = pos xg l + Q := ⟨l.length - pos xg l, by omega⟩
        have hlB : (l.drop (pos xg l)).length = Q := by rw [List.length_drop]; omega
        have hallA := allSz_lts (l.take (pos xg l))
        have hallB := allSz_lts (l.drop (pos xg l))
        have hfA : ((l.take (pos xg l)).map Lt.d).flatMap D.cells = flatL (l.take (pos xg l)) := rfl
        have hfB : ((l.drop (pos xg l)).map Lt.d).flatMap D.cells = flatL (l.drop (pos xg l)) := rfl
        have hnA : (flatL (l.take (pos xg l))).length = pos xg l * 5 := by rw [flatL_len, hlA]
        have hnB : (flatL (l.drop (pos xg l))).length = Q * 5 := by rw [flatL_len, hlB]
        have hall := allSz_lts l
        have hall0 : allSz 5 ([] : List D) = true := rfl
        have hall1 : allSz 5 [D.agg [.int .i64 xg, .int .i64 xs, .bool xk, .int .i64 xy, .int .i64 xa]] = true := rfl
        obtain rfl : Q = 0 := by omega
        have hB0 : l.drop (pos xg l) = [] := List.length_eq_zero_iff.1 hlB
        by_cases hP : pos xg l = 0
        · have hP0 : l.take (pos xg l) = [] := List.length_eq_zero_iff.1 (by rw [hlA, hP])
          have hPt : (pos xg l = 0) ↔ True := iff_true_intro hP
          clear hQ hP
          repeat' (first
            | (simp -implicitDefEqProofs (maxSteps := 1000000) only [*, Tryd.f36, ↓cwp_skip, ↓cwp_region, ↓cwp_drawn, ↓cwp_seq, ↓cwp_cond, ↓cwp_block, ↓cwp_loop, ↓cwp_exit, ↓cwp_ret, ↓kont_normal, ↓kont_exit, ↓kont_ret, ↓block_normal, ↓block_ret, ↓block_exit, ↓then_normal, ↓then_ret, ↓then_exit, ↓finF_normal, ↓finF_ret, ↓cseq_nil, ↓cseq_free, ↓cseq_cons, ↓seqK_go, ↓anyK_go, ↓caq_zero, ↓caq_done, ↓caq_free, ↓caq_step, ↓cStep_move, ↓cStep_assign, ↓cStep_eq, ↓cPure_call, ↓reduceIte, keeps, wantD, callee, aop, ev, ofV, nth, List.cons_append, List.nil_append, List.append_nil, undL, putO, put, List.length_cons, List.length_nil, Nat.reduceSub, Nat.reduceAdd, dBinT, dBin, dUn, Option.map, List.getElem?_toArray, List.toList_toArray, List.getElem?_cons_succ, List.getElem?_cons_zero, Option.bind, ge_iff_le, gt_iff_lt, resD, resL, resV, beq_true, beq_false, Option.some.injEq, List.map, Bool.not_true, Bool.not_false, Bool.false_eq_true, exists_eq_left', Bool.not_eq_true', decide_eq_true_eq, decide_eq_false_iff_not, ite_not, decide_true, decide_false, not_true_eq_false, not_false_eq_true, D.bool.injEq, if_true, if_false, and_true, true_and, ty1, sz1, z1, ty2, sz2, z2, ty3, sz3, z3, ty4, sz4, z4, ty5, sz5, z5, ty6, sz6, z6, ty7, sz7, z7, ty8, sz8, z8, ty9, sz9, z9, ty10, sz10, z10, ty11, sz11, z11, ty12, sz12, z12, ty13, sz13, z13, ty14, sz14, z14, ty15, sz15, z15, ty16, sz16, z16, ty23, sz23, z23, ty35, sz35, z35, ty37, sz37, z37, k37, ty57, sz57, z57, dLen, dIdxA, dLoad, part, Ty.isA, Ty.fi, D.cells, D.cells?, dField, dFieldA, dIdx, dFill, allCell, D.isCell, els, chunk, rep, splice, hget, hset, cellsOf, Blk.isC, Blk.cs, Blk.mut, Blk.setCs, dStore, dBuild, dSlice, dBnd, List.getElem?_map, Option.map_some, Int.toNat_natCast, List.length_map, Nat.lt_irrefl, Nat.zero_lt_one, Nat.zero_lt_succ, Nat.le_refl, Nat.zero_add, Bool.false_eq_true, false_or, or_true, true_or, List.drop_zero, Int.natCast_nonneg, D.int.injEq, Int.zero_le_ofNat, Nat.lt_add_one, List.getElem?_nil, Nat.zero_le, List.take, List.drop, Nat.reduceMul, Nat.reduceLeDiff, Nat.reduceLT, Nat.reducePow, Nat.reduceBEq, Nat.reduceEqDiff, and_self, D.closedL, D.closed, Bool.and_self, bne_self_eq_false, beq_self_eq_true, bne, Bool.true_and, Bool.and_true, Bool.or_true, Bool.or_false, Bool.true_or, Bool.false_or, Bool.and_false, Bool.false_and, List.all_cons, List.all_nil, List.all, List.replicate, exists_const, okK, dEqL, dEqO, dEq, Option.isSome, nc0, nc1, nc2, nc3, nc4, nc5, nc6, nc7, nc8, nc9, nc10, nc11, nc12, wl0, wl1, wl2, wl3, wl4, wl5, wl6, wl7, wl8, wl9, wl10, wl11, wl12, Int.reduceAdd, Int.reduceLT, Int.reduceLE, Int.reduceToNat, Int.reduceEq, Int.reduceSub, Int.reduceBEq, Int.reduceBNe, List.length_singleton, Nat.reduceBNe, z37, sz37, ty37, lts_def, Lt.d_mk, hget_len, hset_len', eq_self, ← List.map_take, ← List.map_drop, List.take_length, dAppend, dLenN, srcCells, List.length_append, List.flatMap_nil, List.map_nil, List.flatMap_cons, Lt_zero_d])
            | (exact reif_closed rfl)
            | (refine .body (by kernel_rfl) (PDen.to (fit32 _ _ hn4) ?_))
            | (refine PCall.to (by kernel_rfl) (fit32 _ _ hn4) ?_)
            | (refine .body (by kernel_rfl) (PDen.to (oneR ⟨xg, xs, xk, xy, xa⟩) ?_))
            | (refine PCall.to (by kernel_rfl) (oneR ⟨xg, xs, xk, xy, xa⟩) ?_)
            | (refine .body (by kernel_rfl) (PDen.to (cf) ?_))
            | (refine PCall.to (by kernel_rfl) (cf) ?_)
            | (refine ⟨12, by decide +kernel, ?_⟩)
            | (refine ⟨13, by decide +kernel, ?_⟩)
            | (refine ⟨14, by decide +kernel, ?_⟩)
            | rfl
            | split)
          refine reif_lts2 (l := ins ⟨xg, xs, xk, xy, xa⟩ l) ?_ rfl ?_ ?_
          · simp [hget, ins, flatL_app, flatL_cons, flatL, hP0, hB0, Lt.d, D.cells]
          · simp only [ins, List.length_append, hlA, hlB, List.length_cons, List.length_nil] <;> first | omega | (have h0 := hPt.2 trivial; omega)
          · omega
        · have hP0 := True.intro
          have hb1 : pos xg l * 40 ≤ 70368744177664 := by omega
          have hb2 : (pos xg l + 1) * 40 ≤ 70368744177664 := by omega
          have h5 : (pos xg l + 1) * 5 = pos xg l * 5 + 5 := by omega
          clear hQ
          repeat' (first
            | (simp -implicitDefEqProofs (maxSteps := 1000000) only [*, Tryd.f36, ↓cwp_skip, ↓cwp_region, ↓cwp_drawn, ↓cwp_seq, ↓cwp_cond, ↓cwp_block, ↓cwp_loop, ↓cwp_exit, ↓cwp_ret, ↓kont_normal, ↓kont_exit, ↓kont_ret, ↓block_normal, ↓block_ret, ↓block_exit, ↓then_normal, ↓then_ret, ↓then_exit, ↓finF_normal, ↓finF_ret, ↓cseq_nil, ↓cseq_free, ↓cseq_cons, ↓seqK_go, ↓anyK_go, ↓caq_zero, ↓caq_done, ↓caq_free, ↓caq_step, ↓cStep_move, ↓cStep_assign, ↓cStep_eq, ↓cPure_call, ↓reduceIte, keeps, wantD, callee, aop, ev, ofV, nth, List.cons_append, List.nil_append, List.append_nil, undL, putO, put, List.length_cons, List.length_nil, Nat.reduceSub, Nat.reduceAdd, dBinT, dBin, dUn, Option.map, List.getElem?_toArray, List.toList_toArray, List.getElem?_cons_succ, List.getElem?_cons_zero, Option.bind, ge_iff_le, gt_iff_lt, resD, resL, resV, beq_true, beq_false, Option.some.injEq, List.map, Bool.not_true, Bool.not_false, Bool.false_eq_true, exists_eq_left', Bool.not_eq_true', decide_eq_true_eq, decide_eq_false_iff_not, ite_not, decide_true, decide_false, not_true_eq_false, not_false_eq_true, D.bool.injEq, if_true, if_false, and_true, true_and, ty1, sz1, z1, ty2, sz2, z2, ty3, sz3, z3, ty4, sz4, z4, ty5, sz5, z5, ty6, sz6, z6, ty7, sz7, z7, ty8, sz8, z8, ty9, sz9, z9, ty10, sz10, z10, ty11, sz11, z11, ty12, sz12, z12, ty13, sz13, z13, ty14, sz14, z14, ty15, sz15, z15, ty16, sz16, z16, ty23, sz23, z23, ty35, sz35, z35, ty37, sz37, z37, k37, ty57, sz57, z57, dLen, dIdxA, dLoad, part, Ty.isA, Ty.fi, D.cells, D.cells?, dField, dFieldA, dIdx, dFill, allCell, D.isCell, els, chunk, rep, splice, hget, hset, cellsOf, Blk.isC, Blk.cs, Blk.mut, Blk.setCs, dStore, dBuild, dSlice, dBnd, List.getElem?_map, Option.map_some, Int.toNat_natCast, List.length_map, Nat.lt_irrefl, Nat.zero_lt_one, Nat.zero_lt_succ, Nat.le_refl, Nat.zero_add, Bool.false_eq_true, false_or, or_true, true_or, List.drop_zero, Int.natCast_nonneg, D.int.injEq, Int.zero_le_ofNat, Nat.lt_add_one, List.getElem?_nil, Nat.zero_le, List.take, List.drop, Nat.reduceMul, Nat.reduceLeDiff, Nat.reduceLT, Nat.reducePow, Nat.reduceBEq, Nat.reduceEqDiff, and_self, D.closedL, D.closed, Bool.and_self, bne_self_eq_false, beq_self_eq_true, bne, Bool.true_and, Bool.and_true, Bool.or_true, Bool.or_false, Bool.true_or, Bool.false_or, Bool.and_false, Bool.false_and, List.all_cons, List.all_nil, List.all, List.replicate, exists_const, okK, dEqL, dEqO, dEq, Option.isSome, nc0, nc1, nc2, nc3, nc4, nc5, nc6, nc7, nc8, nc9, nc10, nc11, nc12, wl0, wl1, wl2, wl3, wl4, wl5, wl6, wl7, wl8, wl9, wl10, wl11, wl12, Int.reduceAdd, Int.reduceLT, Int.reduceLE, Int.reduceToNat, Int.reduceEq, Int.reduceSub, Int.reduceBEq, Int.reduceBNe, List.length_singleton, Nat.reduceBNe, z37, sz37, ty37, lts_def, Lt.d_mk, hget_len, hset_len', eq_self, ← List.map_take, ← List.map_drop, List.take_length, dAppend, dLenN, srcCells, List.length_append, List.flatMap_nil, List.map_nil, List.flatMap_cons, Lt_zero_d])
            | (exact reif_closed rfl)
            | (refine .body (by kernel_rfl) (PDen.to (fit32 _ _ hn4) ?_))
            | (refine PCall.to (by kernel_rfl) (fit32 _ _ hn4) ?_)
            | (refine .body (by kernel_rfl) (PDen.to (oneR ⟨xg, xs, xk, xy, xa⟩) ?_))
            | (refine PCall.to (by kernel_rfl) (oneR ⟨xg, xs, xk, xy, xa⟩) ?_)
            | (refine .body (by kernel_rfl) (PDen.to (cf) ?_))
            | (refine PCall.to (by kernel_rfl) (cf) ?_)
            | (refine ⟨12, by decide +kernel, ?_⟩)
            | (refine ⟨13, by decide +kernel, ?_⟩)
            | (refine ⟨14, by decide +kernel, ?_⟩)
            | rfl
            | split)
          refine reif_lts2 (l := ins ⟨xg, xs, xk, xy, xa⟩ l) ?_ rfl ?_ ?_
          · simp [hget, ins, flatL_app, flatL_cons, flatL, hP0, hB0, Lt.d, D.cells]
          · simp only [ins, List.length_append, hlA, hlB, List.length_cons, List.length_nil] <;> first | omega | (have h0 := hPt.2 trivial; omega)
          · omega
end Go.Lv
