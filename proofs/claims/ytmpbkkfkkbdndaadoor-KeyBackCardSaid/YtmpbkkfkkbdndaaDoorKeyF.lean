/- Keys of texts, walked. -/
import Derived.Test.YtmpbkkfkkbdndaaDoorKeyE
import Derived.Test.YtmpbkkfkkbdndaaDoorNumI
namespace Go.Lv
open Go Go.Proofs Go.IntWalk
set_option maxRecDepth 100000
set_option linter.unusedSimpArgs false
set_option linter.unusedVariables false
variable {E : Env}
theorem cutS_len (s : List UInt8) : (cutS s).length ≤ s.length := by
  unfold cutS
  split
  · simp
  · omega
theorem cutP_len (s : List UInt8) : (cutP s).1.length ≤ s.length ∧ (cutP s).2.1.length ≤ s.length := by
  unfold cutP
  cases h : cutG 46 s with
  | none => simp
  | some p =>
    obtain ⟨a, b⟩ := p
    obtain ⟨rfl, _⟩ := cutG_some h
    simp
    omega
def kRes (p : Bool) (a b : Int) (c : Bool) : D := if p then .tup [.agg [.int .i64 a, .int .i64 b, .bool c], .int .i64 0] else .tup [.agg [.int .i64 0, .int .i64 0, .bool false], .int .i64 7]
set_option maxHeartbeats 8000000 in
set_option maxHeartbeats 2000000 in
theorem read42 (s : List UInt8) (hs : s.length ≤ 1099511627776) (t x y : List UInt8) (c ok : Bool) (a e b f : Int) (ht : cutS s = t) (hc : lastIs s = c) (hp : cutP t = (x, y, ok)) (hx : numS x = (a, e)) (hy : numS y = (b, f)) : PDen Tryd.prog E 42 [.str s] (kRes (ok && (e == 0) && (f == 0) && kFit a b) a b c) := by
  refine pden_by (fn := Tryd.f42) mixed Tryd.func42 rfl (rfl) (by unfold kRes; split <;> rfl) ?_
  have c1 := cutSfx (E := E) s (by omega)
  rw [ht, hc] at c1
  have l1 := cutS_len s
  rw [ht] at l1
  have c2 := cut (E := E) t (by omega)
  rw [hp] at c2
  have l2 := cutP_len t
  rw [hp] at l2
  have c3 := number (E := E) x (by have := l2.1; simp only [] at this; omega)
  have c4 := number (E := E) y (by have := l2.2; simp only [] at this; omega)
  rw [hx] at c3
  rw [hy] at c4
  simp only [res] at c3 c4
  clear l1 l2 ht hc hp hx hy hs
  cases ok
  · skip
    repeat' (first
      | (simp -implicitDefEqProofs (maxSteps := 1000000) only [*, Tryd.f42, ↓cAny_eq, ↓anyP_go, fillT, fillH, ↓cwp_scope, ↓cwp_label, ↓scope_normal, ↓scope_ret, ↓scope_exit, ↓cwp_skip, ↓cwp_region, ↓cwp_drawn, ↓cwp_seq, ↓cwp_cond, ↓cwp_block, ↓cwp_loop, ↓cwp_exit, ↓cwp_ret, ↓kont_normal, ↓kont_exit, ↓kont_ret, ↓block_normal, ↓block_ret, ↓block_exit, ↓then_normal, ↓then_ret, ↓then_exit, ↓finF_normal, ↓finF_ret, ↓cseq_nil, ↓cseq_free, ↓cseq_cons, ↓seqK_go, ↓anyK_go, ↓caq_zero, ↓caq_done, ↓caq_free, ↓caq_step, ↓cStep_move, ↓cStep_assign, ↓cStep_eq, ↓cPure_call, ↓reduceIte, keeps, wantD, callee, aop, ev, ofV, nth, List.cons_append, List.nil_append, List.append_nil, undL, putO, put, List.length_cons, List.length_nil, Nat.reduceSub, Nat.reduceAdd, dBinT, dBin, dUn, Option.map, List.getElem?_toArray, List.toList_toArray, List.getElem?_cons_succ, List.getElem?_cons_zero, Option.bind, ge_iff_le, gt_iff_lt, resD, resL, resV, beq_true, beq_false, Option.some.injEq, List.map, Bool.not_true, Bool.not_false, Bool.false_eq_true, exists_eq_left', Bool.not_eq_true', decide_eq_true_eq, decide_eq_false_iff_not, ite_not, decide_true, decide_false, not_true_eq_false, not_false_eq_true, D.bool.injEq, if_true, if_false, and_true, true_and, ty1, sz1, z1, ty2, sz2, z2, ty3, sz3, z3, ty4, sz4, z4, ty5, sz5, z5, ty6, sz6, z6, ty7, sz7, z7, ty8, sz8, z8, ty9, sz9, z9, ty10, sz10, z10, ty23, sz23, z23, ty51, sz51, z51, k51, ty56, sz56, z56, dLen, dIdxA, dLoad, part, Ty.isA, Ty.fi, D.cells, D.cells?, dField, dFieldA, dIdx, dFill, allCell, D.isCell, els, chunk, rep, splice, hget, hset, cellsOf, Blk.isC, Blk.cs, Blk.mut, Blk.setCs, dStore, dBuild, dSlice, dBnd, List.getElem?_map, Option.map_some, Int.toNat_natCast, List.length_map, Nat.lt_irrefl, Nat.zero_lt_one, Nat.zero_lt_succ, Nat.le_refl, Nat.zero_add, Bool.false_eq_true, false_or, or_true, true_or, List.drop_zero, Int.natCast_nonneg, D.int.injEq, Int.zero_le_ofNat, Nat.lt_add_one, List.getElem?_nil, Nat.zero_le, List.take, List.drop, Nat.reduceMul, Nat.reduceLeDiff, Nat.reduceLT, Nat.reducePow, Nat.reduceBEq, Nat.reduceEqDiff, and_self, D.closedL, D.closed, Bool.and_self, bne_self_eq_false, beq_self_eq_true, bne, Bool.true_and, Bool.and_true, Bool.or_true, Bool.or_false, Bool.true_or, Bool.false_or, Bool.and_false, Bool.false_and, List.all_cons, List.all_nil, List.all, List.replicate, exists_const, okK, dEqL, dEqO, dEq, Option.isSome, nc0, nc1, nc2, nc3, nc4, nc5, nc6, nc7, nc8, nc9, nc10, nc11, nc12, wl0, wl1, wl2, wl3, wl4, wl5, wl6, wl7, wl8, wl9, wl10, wl11, wl12, Int.reduceAdd, Int.reduceLT, Int.reduceLE, Int.reduceToNat, Int.reduceEq, Int.reduceSub, Int.reduceBEq, Int.reduceBNe, List.length_singleton, Nat.reduceBNe, kRes])
      | (refine .body (by kernel_rfl) (PDen.to (c1) ?_))
      | (refine PCall.to (by kernel_rfl) (c1) ?_)
      | (refine .body (by kernel_rfl) (PDen.to (c2) ?_))
      | (refine PCall.to (by kernel_rfl) (c2) ?_)
      | (refine .body (by kernel_rfl) (PDen.to (c3) ?_))
      | (refine PCall.to (by kernel_rfl) (c3) ?_)
      | (refine .body (by kernel_rfl) (PDen.to (c4) ?_))
      | (refine PCall.to (by kernel_rfl) (c4) ?_)
      | (refine .body (by kernel_rfl) (PDen.to (kfitP _ _ _) ?_))
      | (refine PCall.to (by kernel_rfl) (kfitP _ _ _) ?_)
      | (refine ⟨by decide +kernel, ?_⟩)
      | rfl
      | split)
  · by_cases he : e = 0
    · subst he
      by_cases hf : f = 0
      · subst hf
        by_cases hk : kFit a b = true
        · skip
          repeat' (first
            | (simp -implicitDefEqProofs (maxSteps := 1000000) only [*, Tryd.f42, ↓cAny_eq, ↓anyP_go, fillT, fillH, ↓cwp_scope, ↓cwp_label, ↓scope_normal, ↓scope_ret, ↓scope_exit, ↓cwp_skip, ↓cwp_region, ↓cwp_drawn, ↓cwp_seq, ↓cwp_cond, ↓cwp_block, ↓cwp_loop, ↓cwp_exit, ↓cwp_ret, ↓kont_normal, ↓kont_exit, ↓kont_ret, ↓block_normal, ↓block_ret, ↓block_exit, ↓then_normal, ↓then_ret, ↓then_exit, ↓finF_normal, ↓finF_ret, ↓cseq_nil, ↓cseq_free, ↓cseq_cons, ↓seqK_go, ↓anyK_go, ↓caq_zero, ↓caq_done, ↓caq_free, ↓caq_step, ↓cStep_move, ↓cStep_assign, ↓cStep_eq, ↓cPure_call, ↓reduceIte, keeps, wantD, callee, aop, ev, ofV, nth, List.cons_append, List.nil_append, List.append_nil, undL, putO, put, List.length_cons, List.length_nil, Nat.reduceSub, Nat.reduceAdd, dBinT, dBin, dUn, Option.map, List.getElem?_toArray, List.toList_toArray, List.getElem?_cons_succ, List.getElem?_cons_zero, Option.bind, ge_iff_le, gt_iff_lt, resD, resL, resV, beq_true, beq_false, Option.some.injEq, List.map, Bool.not_true, Bool.not_false, Bool.false_eq_true, exists_eq_left', Bool.not_eq_true', decide_eq_true_eq, decide_eq_false_iff_not, ite_not, decide_true, decide_false, not_true_eq_false, not_false_eq_true, D.bool.injEq, if_true, if_false, and_true, true_and, ty1, sz1, z1, ty2, sz2, z2, ty3, sz3, z3, ty4, sz4, z4, ty5, sz5, z5, ty6, sz6, z6, ty7, sz7, z7, ty8, sz8, z8, ty9, sz9, z9, ty10, sz10, z10, ty23, sz23, z23, ty51, sz51, z51, k51, ty56, sz56, z56, dLen, dIdxA, dLoad, part, Ty.isA, Ty.fi, D.cells, D.cells?, dField, dFieldA, dIdx, dFill, allCell, D.isCell, els, chunk, rep, splice, hget, hset, cellsOf, Blk.isC, Blk.cs, Blk.mut, Blk.setCs, dStore, dBuild, dSlice, dBnd, List.getElem?_map, Option.map_some, Int.toNat_natCast, List.length_map, Nat.lt_irrefl, Nat.zero_lt_one, Nat.zero_lt_succ, Nat.le_refl, Nat.zero_add, Bool.false_eq_true, false_or, or_true, true_or, List.drop_zero, Int.natCast_nonneg, D.int.injEq, Int.zero_le_ofNat, Nat.lt_add_one, List.getElem?_nil, Nat.zero_le, List.take, List.drop, Nat.reduceMul, Nat.reduceLeDiff, Nat.reduceLT, Nat.reducePow, Nat.reduceBEq, Nat.reduceEqDiff, and_self, D.closedL, D.closed, Bool.and_self, bne_self_eq_false, beq_self_eq_true, bne, Bool.true_and, Bool.and_true, Bool.or_true, Bool.or_false, Bool.true_or, Bool.false_or, Bool.and_false, Bool.false_and, List.all_cons, List.all_nil, List.all, List.replicate, exists_const, okK, dEqL, dEqO, dEq, Option.isSome, nc0, nc1, nc2, nc3, nc4, nc5, nc6, nc7, nc8, nc9, nc10, nc11, nc12, wl0, wl1, wl2, wl3, wl4, wl5, wl6, wl7, wl8, wl9, wl10, wl11, wl12, Int.reduceAdd, Int.reduceLT, Int.reduceLE, Int.reduceToNat, Int.reduceEq, Int.reduceSub, Int.reduceBEq, Int.reduceBNe, List.length_singleton, Nat.reduceBNe, kRes])
            | (refine .body (by kernel_rfl) (PDen.to (c1) ?_))
            | (refine PCall.to (by kernel_rfl) (c1) ?_)
            | (refine .body (by kernel_rfl) (PDen.to (c2) ?_))
            | (refine PCall.to (by kernel_rfl) (c2) ?_)
            | (refine .body (by kernel_rfl) (PDen.to (c3) ?_))
            | (refine PCall.to (by kernel_rfl) (c3) ?_)
            | (refine .body (by kernel_rfl) (PDen.to (c4) ?_))
            | (refine PCall.to (by kernel_rfl) (c4) ?_)
            | (refine .body (by kernel_rfl) (PDen.to (kfitP _ _ _) ?_))
            | (refine PCall.to (by kernel_rfl) (kfitP _ _ _) ?_)
            | (refine ⟨by decide +kernel, ?_⟩)
            | rfl
            | split)
        · have hk' : kFit a b = false := by simpa using hk
          clear hk
          repeat' (first
            | (simp -implicitDefEqProofs (maxSteps := 1000000) only [*, Tryd.f42, ↓cAny_eq, ↓anyP_go, fillT, fillH, ↓cwp_scope, ↓cwp_label, ↓scope_normal, ↓scope_ret, ↓scope_exit, ↓cwp_skip, ↓cwp_region, ↓cwp_drawn, ↓cwp_seq, ↓cwp_cond, ↓cwp_block, ↓cwp_loop, ↓cwp_exit, ↓cwp_ret, ↓kont_normal, ↓kont_exit, ↓kont_ret, ↓block_normal, ↓block_ret, ↓block_exit, ↓then_normal, ↓then_ret, ↓then_exit, ↓finF_normal, ↓finF_ret, ↓cseq_nil, ↓cseq_free, ↓cseq_cons, ↓seqK_go, ↓anyK_go, ↓caq_zero, ↓caq_done, ↓caq_free, ↓caq_step, ↓cStep_move, ↓cStep_assign, ↓cStep_eq, ↓cPure_call, ↓reduceIte, keeps, wantD, callee, aop, ev, ofV, nth, List.cons_append, List.nil_append, List.append_nil, undL, putO, put, List.length_cons, List.length_nil, Nat.reduceSub, Nat.reduceAdd, dBinT, dBin, dUn, Option.map, List.getElem?_toArray, List.toList_toArray, List.getElem?_cons_succ, List.getElem?_cons_zero, Option.bind, ge_iff_le, gt_iff_lt, resD, resL, resV, beq_true, beq_false, Option.some.injEq, List.map, Bool.not_true, Bool.not_false, Bool.false_eq_true, exists_eq_left', Bool.not_eq_true', decide_eq_true_eq, decide_eq_false_iff_not, ite_not, decide_true, decide_false, not_true_eq_false, not_false_eq_true, D.bool.injEq, if_true, if_false, and_true, true_and, ty1, sz1, z1, ty2, sz2, z2, ty3, sz3, z3, ty4, sz4, z4, ty5, sz5, z5, ty6, sz6, z6, ty7, sz7, z7, ty8, sz8, z8, ty9, sz9, z9, ty10, sz10, z10, ty23, sz23, z23, ty51, sz51, z51, k51, ty56, sz56, z56, dLen, dIdxA, dLoad, part, Ty.isA, Ty.fi, D.cells, D.cells?, dField, dFieldA, dIdx, dFill, allCell, D.isCell, els, chunk, rep, splice, hget, hset, cellsOf, Blk.isC, Blk.cs, Blk.mut, Blk.setCs, dStore, dBuild, dSlice, dBnd, List.getElem?_map, Option.map_some, Int.toNat_natCast, List.length_map, Nat.lt_irrefl, Nat.zero_lt_one, Nat.zero_lt_succ, Nat.le_refl, Nat.zero_add, Bool.false_eq_true, false_or, or_true, true_or, List.drop_zero, Int.natCast_nonneg, D.int.injEq, Int.zero_le_ofNat, Nat.lt_add_one, List.getElem?_nil, Nat.zero_le, List.take, List.drop, Nat.reduceMul, Nat.reduceLeDiff, Nat.reduceLT, Nat.reducePow, Nat.reduceBEq, Nat.reduceEqDiff, and_self, D.closedL, D.closed, Bool.and_self, bne_self_eq_false, beq_self_eq_true, bne, Bool.true_and, Bool.and_true, Bool.or_true, Bool.or_false, Bool.true_or, Bool.false_or, Bool.and_false, Bool.false_and, List.all_cons, List.all_nil, List.all, List.replicate, exists_const, okK, dEqL, dEqO, dEq, Option.isSome, nc0, nc1, nc2, nc3, nc4, nc5, nc6, nc7, nc8, nc9, nc10, nc11, nc12, wl0, wl1, wl2, wl3, wl4, wl5, wl6, wl7, wl8, wl9, wl10, wl11, wl12, Int.reduceAdd, Int.reduceLT, Int.reduceLE, Int.reduceToNat, Int.reduceEq, Int.reduceSub, Int.reduceBEq, Int.reduceBNe, List.length_singleton, Nat.reduceBNe, kRes])
            | (refine .body (by kernel_rfl) (PDen.to (c1) ?_))
            | (refine PCall.to (by kernel_rfl) (c1) ?_)
            | (refine .body (by kernel_rfl) (PDen.to (c2) ?_))
            | (refine PCall.to (by kernel_rfl) (c2) ?_)
            | (refine .body (by kernel_rfl) (PDen.to (c3) ?_))
            | (refine PCall.to (by kernel_rfl) (c3) ?_)
            | (refine .body (by kernel_rfl) (PDen.to (c4) ?_))
            | (refine PCall.to (by kernel_rfl) (c4) ?_)
            | (refine .body (by kernel_rfl) (PDen.to (kfitP _ _ _) ?_))
            | (refine PCall.to (by kernel_rfl) (kfitP _ _ _) ?_)
            | (refine ⟨by decide +kernel, ?_⟩)
            | rfl
            | split)
      · have hf' : (f == 0) = false := by simpa using hf
        clear hf
        repeat' (first
          | (simp -implicitDefEqProofs (maxSteps := 1000000) only [*, Tryd.f42, ↓cAny_eq, ↓anyP_go, fillT, fillH, ↓cwp_scope, ↓cwp_label, ↓scope_normal, ↓scope_ret, ↓scope_exit, ↓cwp_skip, ↓cwp_region, ↓cwp_drawn, ↓cwp_seq, ↓cwp_cond, ↓cwp_block, ↓cwp_loop, ↓cwp_exit, ↓cwp_ret, ↓kont_normal, ↓kont_exit, ↓kont_ret, ↓block_normal, ↓block_ret, ↓block_exit, ↓then_normal, ↓then_ret, ↓then_exit, ↓finF_normal, ↓finF_ret, ↓cseq_nil, ↓cseq_free, ↓cseq_cons, ↓seqK_go, ↓anyK_go, ↓caq_zero, ↓caq_done, ↓caq_free, ↓caq_step, ↓cStep_move, ↓cStep_assign, ↓cStep_eq, ↓cPure_call, ↓reduceIte, keeps, wantD, callee, aop, ev, ofV, nth, List.cons_append, List.nil_append, List.append_nil, undL, putO, put, List.length_cons, List.length_nil, Nat.reduceSub, Nat.reduceAdd, dBinT, dBin, dUn, Option.map, List.getElem?_toArray, List.toList_toArray, List.getElem?_cons_succ, List.getElem?_cons_zero, Option.bind, ge_iff_le, gt_iff_lt, resD, resL, resV, beq_true, beq_false, Option.some.injEq, List.map, Bool.not_true, Bool.not_false, Bool.false_eq_true, exists_eq_left', Bool.not_eq_true', decide_eq_true_eq, decide_eq_false_iff_not, ite_not, decide_true, decide_false, not_true_eq_false, not_false_eq_true, D.bool.injEq, if_true, if_false, and_true, true_and, ty1, sz1, z1, ty2, sz2, z2, ty3, sz3, z3, ty4, sz4, z4, ty5, sz5, z5, ty6, sz6, z6, ty7, sz7, z7, ty8, sz8, z8, ty9, sz9, z9, ty10, sz10, z10, ty23, sz23, z23, ty51, sz51, z51, k51, ty56, sz56, z56, dLen, dIdxA, dLoad, part, Ty.isA, Ty.fi, D.cells, D.cells?, dField, dFieldA, dIdx, dFill, allCell, D.isCell, els, chunk, rep, splice, hget, hset, cellsOf, Blk.isC, Blk.cs, Blk.mut, Blk.setCs, dStore, dBuild, dSlice, dBnd, List.getElem?_map, Option.map_some, Int.toNat_natCast, List.length_map, Nat.lt_irrefl, Nat.zero_lt_one, Nat.zero_lt_succ, Nat.le_refl, Nat.zero_add, Bool.false_eq_true, false_or, or_true, true_or, List.drop_zero, Int.natCast_nonneg, D.int.injEq, Int.zero_le_ofNat, Nat.lt_add_one, List.getElem?_nil, Nat.zero_le, List.take, List.drop, Nat.reduceMul, Nat.reduceLeDiff, Nat.reduceLT, Nat.reducePow, Nat.reduceBEq, Nat.reduceEqDiff, and_self, D.closedL, D.closed, Bool.and_self, bne_self_eq_false, beq_self_eq_true, bne, Bool.true_and, Bool.and_true, Bool.or_true, Bool.or_false, Bool.true_or, Bool.false_or, Bool.and_false, Bool.false_and, List.all_cons, List.all_nil, List.all, List.replicate, exists_const, okK, dEqL, dEqO, dEq, Option.isSome, nc0, nc1, nc2, nc3, nc4, nc5, nc6, nc7, nc8, nc9, nc10, nc11, nc12, wl0, wl1, wl2, wl3, wl4, wl5, wl6, wl7, wl8, wl9, wl10, wl11, wl12, Int.reduceAdd, Int.reduceLT, Int.reduceLE, Int.reduceToNat, Int.reduceEq, Int.reduceSub, Int.reduceBEq, Int.reduceBNe, List.length_singleton, Nat.reduceBNe, kRes])
          | (refine .body (by kernel_rfl) (PDen.to (c1) ?_))
          | (refine PCall.to (by kernel_rfl) (c1) ?_)
          | (refine .body (by kernel_rfl) (PDen.to (c2) ?_))
          | (refine PCall.to (by kernel_rfl) (c2) ?_)
          | (refine .body (by kernel_rfl) (PDen.to (c3) ?_))
          | (refine PCall.to (by kernel_rfl) (c3) ?_)
          | (refine .body (by kernel_rfl) (PDen.to (c4) ?_))
          | (refine PCall.to (by kernel_rfl) (c4) ?_)
          | (refine .body (by kernel_rfl) (PDen.to (kfitP _ _ _) ?_))
          | (refine PCall.to (by kernel_rfl) (kfitP _ _ _) ?_)
          | (refine ⟨by decide +kernel, ?_⟩)
          | rfl
          | split)
    · have he' : (e == 0) = false := by simpa using he
      clear he
      repeat' (first
        | (simp -implicitDefEqProofs (maxSteps := 1000000) only [*, Tryd.f42, ↓cAny_eq, ↓anyP_go, fillT, fillH, ↓cwp_scope, ↓cwp_label, ↓scope_normal, ↓scope_ret, ↓scope_exit, ↓cwp_skip, ↓cwp_region, ↓cwp_drawn, ↓cwp_seq, ↓cwp_cond, ↓cwp_block, ↓cwp_loop, ↓cwp_exit, ↓cwp_ret, ↓kont_normal, ↓kont_exit, ↓kont_ret, ↓block_normal, ↓block_ret, ↓block_exit, ↓then_normal, ↓then_ret, ↓then_exit, ↓finF_normal, ↓finF_ret, ↓cseq_nil, ↓cseq_free, ↓cseq_cons, ↓seqK_go, ↓anyK_go, ↓caq_zero, ↓caq_done, ↓caq_free, ↓caq_step, ↓cStep_move, ↓cStep_assign, ↓cStep_eq, ↓cPure_call, ↓reduceIte, keeps, wantD, callee, aop, ev, ofV, nth, List.cons_append, List.nil_append, List.append_nil, undL, putO, put, List.length_cons, List.length_nil, Nat.reduceSub, Nat.reduceAdd, dBinT, dBin, dUn, Option.map, List.getElem?_toArray, List.toList_toArray, List.getElem?_cons_succ, List.getElem?_cons_zero, Option.bind, ge_iff_le, gt_iff_lt, resD, resL, resV, beq_true, beq_false, Option.some.injEq, List.map, Bool.not_true, Bool.not_false, Bool.false_eq_true, exists_eq_left', Bool.not_eq_true', decide_eq_true_eq, decide_eq_false_iff_not, ite_not, decide_true, decide_false, not_true_eq_false, not_false_eq_true, D.bool.injEq, if_true, if_false, and_true, true_and, ty1, sz1, z1, ty2, sz2, z2, ty3, sz3, z3, ty4, sz4, z4, ty5, sz5, z5, ty6, sz6, z6, ty7, sz7, z7, ty8, sz8, z8, ty9, sz9, z9, ty10, sz10, z10, ty23, sz23, z23, ty51, sz51, z51, k51, ty56, sz56, z56, dLen, dIdxA, dLoad, part, Ty.isA, Ty.fi, D.cells, D.cells?, dField, dFieldA, dIdx, dFill, allCell, D.isCell, els, chunk, rep, splice, hget, hset, cellsOf, Blk.isC, Blk.cs, Blk.mut, Blk.setCs, dStore, dBuild, dSlice, dBnd, List.getElem?_map, Option.map_some, Int.toNat_natCast, List.length_map, Nat.lt_irrefl, Nat.zero_lt_one, Nat.zero_lt_succ, Nat.le_refl, Nat.zero_add, Bool.false_eq_true, false_or, or_true, true_or, List.drop_zero, Int.natCast_nonneg, D.int.injEq, Int.zero_le_ofNat, Nat.lt_add_one, List.getElem?_nil, Nat.zero_le, List.take, List.drop, Nat.reduceMul, Nat.reduceLeDiff, Nat.reduceLT, Nat.reducePow, Nat.reduceBEq, Nat.reduceEqDiff, and_self, D.closedL, D.closed, Bool.and_self, bne_self_eq_false, beq_self_eq_true, bne, Bool.true_and, Bool.and_true, Bool.or_true, Bool.or_false, Bool.true_or, Bool.false_or, Bool.and_false, Bool.false_and, List.all_cons, List.all_nil, List.all, List.replicate, exists_const, okK, dEqL, dEqO, dEq, Option.isSome, nc0, nc1, nc2, nc3, nc4, nc5, nc6, nc7, nc8, nc9, nc10, nc11, nc12, wl0, wl1, wl2, wl3, wl4, wl5, wl6, wl7, wl8, wl9, wl10, wl11, wl12, Int.reduceAdd, Int.reduceLT, Int.reduceLE, Int.reduceToNat, Int.reduceEq, Int.reduceSub, Int.reduceBEq, Int.reduceBNe, List.length_singleton, Nat.reduceBNe, kRes])
        | (refine .body (by kernel_rfl) (PDen.to (c1) ?_))
        | (refine PCall.to (by kernel_rfl) (c1) ?_)
        | (refine .body (by kernel_rfl) (PDen.to (c2) ?_))
        | (refine PCall.to (by kernel_rfl) (c2) ?_)
        | (refine .body (by kernel_rfl) (PDen.to (c3) ?_))
        | (refine PCall.to (by kernel_rfl) (c3) ?_)
        | (refine .body (by kernel_rfl) (PDen.to (c4) ?_))
        | (refine PCall.to (by kernel_rfl) (c4) ?_)
        | (refine .body (by kernel_rfl) (PDen.to (kfitP _ _ _) ?_))
        | (refine PCall.to (by kernel_rfl) (kfitP _ _ _) ?_)
        | (refine ⟨by decide +kernel, ?_⟩)
        | rfl
        | split)
set_option maxHeartbeats 8000000 in
set_option maxHeartbeats 2000000 in
theorem read43n (s : List UInt8) (hs : s.length ≤ 1099511627776) (t : List UInt8) (L : List (List UInt8)) (ht : cutS s = t) (hL : split46 t = L) (h2 : L.length ≠ 2) : PDen Tryd.prog E 43 [.str s] (kRes false 0 0 false) := by
  refine pden_by (fn := Tryd.f43) mixed Tryd.func43 rfl (rfl) (rfl) ?_
  have l1 := cutS_len s
  rw [ht] at l1
  have c1 := split62 (E := E) t (by omega)
  rw [hL] at c1
  have hne : ((L.length : Int) == 2) = false := by rw [beq_eq_false_iff_ne]; omega
  clear h2 hL l1
  rcases concat_cases s with rfl | ⟨u, x, rfl⟩
  · obtain rfl : [] = t := ht
    repeat' (first
      | (simp -implicitDefEqProofs (maxSteps := 1000000) only [*, Tryd.f43, ↓cAny_eq, ↓anyP_go, fillT, fillH, ↓cwp_scope, ↓cwp_label, ↓scope_normal, ↓scope_ret, ↓scope_exit, ↓cwp_skip, ↓cwp_region, ↓cwp_drawn, ↓cwp_seq, ↓cwp_cond, ↓cwp_block, ↓cwp_loop, ↓cwp_exit, ↓cwp_ret, ↓kont_normal, ↓kont_exit, ↓kont_ret, ↓block_normal, ↓block_ret, ↓block_exit, ↓then_normal, ↓then_ret, ↓then_exit, ↓finF_normal, ↓finF_ret, ↓cseq_nil, ↓cseq_free, ↓cseq_cons, ↓seqK_go, ↓anyK_go, ↓caq_zero, ↓caq_done, ↓caq_free, ↓caq_step, ↓cStep_move, ↓cStep_assign, ↓cStep_eq, ↓cPure_call, ↓reduceIte, keeps, wantD, callee, aop, ev, ofV, nth, List.cons_append, List.nil_append, List.append_nil, undL, putO, put, List.length_cons, List.length_nil, Nat.reduceSub, Nat.reduceAdd, dBinT, dBin, dUn, Option.map, List.getElem?_toArray, List.toList_toArray, List.getElem?_cons_succ, List.getElem?_cons_zero, Option.bind, ge_iff_le, gt_iff_lt, resD, resL, resV, beq_true, beq_false, Option.some.injEq, List.map, Bool.not_true, Bool.not_false, Bool.false_eq_true, exists_eq_left', Bool.not_eq_true', decide_eq_true_eq, decide_eq_false_iff_not, ite_not, decide_true, decide_false, not_true_eq_false, not_false_eq_true, D.bool.injEq, if_true, if_false, and_true, true_and, ty1, sz1, z1, ty2, sz2, z2, ty3, sz3, z3, ty4, sz4, z4, ty5, sz5, z5, ty6, sz6, z6, ty7, sz7, z7, ty8, sz8, z8, ty9, sz9, z9, ty10, sz10, z10, ty11, sz11, z11, ty12, sz12, z12, ty13, sz13, z13, ty14, sz14, z14, ty15, sz15, z15, ty23, sz23, z23, ty50, sz50, z50, k50, ty60, sz60, z60, ty75, sz75, z75, dLen, dIdxA, dLoad, part, Ty.isA, Ty.fi, D.cells, D.cells?, dField, dFieldA, dIdx, dFill, allCell, D.isCell, els, chunk, rep, splice, hget, hset, cellsOf, Blk.isC, Blk.cs, Blk.mut, Blk.setCs, dStore, dBuild, dSlice, dBnd, List.getElem?_map, Option.map_some, Int.toNat_natCast, List.length_map, Nat.lt_irrefl, Nat.zero_lt_one, Nat.zero_lt_succ, Nat.le_refl, Nat.zero_add, Bool.false_eq_true, false_or, or_true, true_or, List.drop_zero, Int.natCast_nonneg, D.int.injEq, Int.zero_le_ofNat, Nat.lt_add_one, List.getElem?_nil, Nat.zero_le, List.take, List.drop, Nat.reduceMul, Nat.reduceLeDiff, Nat.reduceLT, Nat.reducePow, Nat.reduceBEq, Nat.reduceEqDiff, and_self, D.closedL, D.closed, Bool.and_self, bne_self_eq_false, beq_self_eq_true, bne, Bool.true_and, Bool.and_true, Bool.or_true, Bool.or_false, Bool.true_or, Bool.false_or, Bool.and_false, Bool.false_and, List.all_cons, List.all_nil, List.all, List.replicate, exists_const, okK, dEqL, dEqO, dEq, Option.isSome, nc0, nc1, nc2, nc3, nc4, nc5, nc6, nc7, nc8, nc9, nc10, nc11, nc12, wl0, wl1, wl2, wl3, wl4, wl5, wl6, wl7, wl8, wl9, wl10, wl11, wl12, Int.reduceAdd, Int.reduceLT, Int.reduceLE, Int.reduceToNat, Int.reduceEq, Int.reduceSub, Int.reduceBEq, Int.reduceBNe, List.length_singleton, Nat.reduceBNe, kRes])
      | (refine .body (by kernel_rfl) (PDen.to (c1) ?_))
      | (refine PCall.to (by kernel_rfl) (c1) ?_)
      | (refine ⟨by decide +kernel, ?_⟩)
      | rfl
      | split)
  · have hl : (u ++ [x]).length = u.length + 1 := by simp
    have hn : u.length ≤ 4611686018427387904 := by rw [hl] at hs; omega
    have hw := wsub1 hn
    have h1 : (0 : Int) < ((u.length + 1 : Nat) : Int) := by omega
    have hg : (u ++ [x])[u.length]? = some x := by simp
    have hd : (u ++ [x]).take u.length = u := by simp
    have hle : u.length ≤ u.length + 1 := by omega
    have hu := cutS_app u x
    rw [hu] at ht
    clear hn hu hs
    by_cases hx : x = 45
    · subst hx
      have h45 : ((45 : UInt8).toNat : Int) = 45 := rfl
      obtain rfl : u = t := by simpa using ht
      repeat' (first
        | (simp -implicitDefEqProofs (maxSteps := 1000000) only [*, Tryd.f43, ↓cAny_eq, ↓anyP_go, fillT, fillH, ↓cwp_scope, ↓cwp_label, ↓scope_normal, ↓scope_ret, ↓scope_exit, ↓cwp_skip, ↓cwp_region, ↓cwp_drawn, ↓cwp_seq, ↓cwp_cond, ↓cwp_block, ↓cwp_loop, ↓cwp_exit, ↓cwp_ret, ↓kont_normal, ↓kont_exit, ↓kont_ret, ↓block_normal, ↓block_ret, ↓block_exit, ↓then_normal, ↓then_ret, ↓then_exit, ↓finF_normal, ↓finF_ret, ↓cseq_nil, ↓cseq_free, ↓cseq_cons, ↓seqK_go, ↓anyK_go, ↓caq_zero, ↓caq_done, ↓caq_free, ↓caq_step, ↓cStep_move, ↓cStep_assign, ↓cStep_eq, ↓cPure_call, ↓reduceIte, keeps, wantD, callee, aop, ev, ofV, nth, List.cons_append, List.nil_append, List.append_nil, undL, putO, put, List.length_cons, List.length_nil, Nat.reduceSub, Nat.reduceAdd, dBinT, dBin, dUn, Option.map, List.getElem?_toArray, List.toList_toArray, List.getElem?_cons_succ, List.getElem?_cons_zero, Option.bind, ge_iff_le, gt_iff_lt, resD, resL, resV, beq_true, beq_false, Option.some.injEq, List.map, Bool.not_true, Bool.not_false, Bool.false_eq_true, exists_eq_left', Bool.not_eq_true', decide_eq_true_eq, decide_eq_false_iff_not, ite_not, decide_true, decide_false, not_true_eq_false, not_false_eq_true, D.bool.injEq, if_true, if_false, and_true, true_and, ty1, sz1, z1, ty2, sz2, z2, ty3, sz3, z3, ty4, sz4, z4, ty5, sz5, z5, ty6, sz6, z6, ty7, sz7, z7, ty8, sz8, z8, ty9, sz9, z9, ty10, sz10, z10, ty11, sz11, z11, ty12, sz12, z12, ty13, sz13, z13, ty14, sz14, z14, ty15, sz15, z15, ty23, sz23, z23, ty50, sz50, z50, k50, ty60, sz60, z60, ty75, sz75, z75, dLen, dIdxA, dLoad, part, Ty.isA, Ty.fi, D.cells, D.cells?, dField, dFieldA, dIdx, dFill, allCell, D.isCell, els, chunk, rep, splice, hget, hset, cellsOf, Blk.isC, Blk.cs, Blk.mut, Blk.setCs, dStore, dBuild, dSlice, dBnd, List.getElem?_map, Option.map_some, Int.toNat_natCast, List.length_map, Nat.lt_irrefl, Nat.zero_lt_one, Nat.zero_lt_succ, Nat.le_refl, Nat.zero_add, Bool.false_eq_true, false_or, or_true, true_or, List.drop_zero, Int.natCast_nonneg, D.int.injEq, Int.zero_le_ofNat, Nat.lt_add_one, List.getElem?_nil, Nat.zero_le, List.take, List.drop, Nat.reduceMul, Nat.reduceLeDiff, Nat.reduceLT, Nat.reducePow, Nat.reduceBEq, Nat.reduceEqDiff, and_self, D.closedL, D.closed, Bool.and_self, bne_self_eq_false, beq_self_eq_true, bne, Bool.true_and, Bool.and_true, Bool.or_true, Bool.or_false, Bool.true_or, Bool.false_or, Bool.and_false, Bool.false_and, List.all_cons, List.all_nil, List.all, List.replicate, exists_const, okK, dEqL, dEqO, dEq, Option.isSome, nc0, nc1, nc2, nc3, nc4, nc5, nc6, nc7, nc8, nc9, nc10, nc11, nc12, wl0, wl1, wl2, wl3, wl4, wl5, wl6, wl7, wl8, wl9, wl10, wl11, wl12, Int.reduceAdd, Int.reduceLT, Int.reduceLE, Int.reduceToNat, Int.reduceEq, Int.reduceSub, Int.reduceBEq, Int.reduceBNe, List.length_singleton, Nat.reduceBNe, kRes])
        | (refine .body (by kernel_rfl) (PDen.to (c1) ?_))
        | (refine PCall.to (by kernel_rfl) (c1) ?_)
        | (refine ⟨by decide +kernel, ?_⟩)
        | rfl
        | split)
    · have hx' : (x == 45) = false := by simpa using hx
      rw [hx'] at ht
      obtain rfl : u ++ [x] = t := by simpa using ht
      have hxf : ((x.toNat : Int) == 45) = false := by
        rw [beq_eq_false_iff_ne]
        intro h
        exact hx (UInt8.toNat_inj.1 (by have : ((45 : UInt8).toNat : Int) = 45 := rfl; omega))
      clear hx hx' ht
      repeat' (first
        | (simp -implicitDefEqProofs (maxSteps := 1000000) only [*, Tryd.f43, ↓cAny_eq, ↓anyP_go, fillT, fillH, ↓cwp_scope, ↓cwp_label, ↓scope_normal, ↓scope_ret, ↓scope_exit, ↓cwp_skip, ↓cwp_region, ↓cwp_drawn, ↓cwp_seq, ↓cwp_cond, ↓cwp_block, ↓cwp_loop, ↓cwp_exit, ↓cwp_ret, ↓kont_normal, ↓kont_exit, ↓kont_ret, ↓block_normal, ↓block_ret, ↓block_exit, ↓then_normal, ↓then_ret, ↓then_exit, ↓finF_normal, ↓finF_ret, ↓cseq_nil, ↓cseq_free, ↓cseq_cons, ↓seqK_go, ↓anyK_go, ↓caq_zero, ↓caq_done, ↓caq_free, ↓caq_step, ↓cStep_move, ↓cStep_assign, ↓cStep_eq, ↓cPure_call, ↓reduceIte, keeps, wantD, callee, aop, ev, ofV, nth, List.cons_append, List.nil_append, List.append_nil, undL, putO, put, List.length_cons, List.length_nil, Nat.reduceSub, Nat.reduceAdd, dBinT, dBin, dUn, Option.map, List.getElem?_toArray, List.toList_toArray, List.getElem?_cons_succ, List.getElem?_cons_zero, Option.bind, ge_iff_le, gt_iff_lt, resD, resL, resV, beq_true, beq_false, Option.some.injEq, List.map, Bool.not_true, Bool.not_false, Bool.false_eq_true, exists_eq_left', Bool.not_eq_true', decide_eq_true_eq, decide_eq_false_iff_not, ite_not, decide_true, decide_false, not_true_eq_false, not_false_eq_true, D.bool.injEq, if_true, if_false, and_true, true_and, ty1, sz1, z1, ty2, sz2, z2, ty3, sz3, z3, ty4, sz4, z4, ty5, sz5, z5, ty6, sz6, z6, ty7, sz7, z7, ty8, sz8, z8, ty9, sz9, z9, ty10, sz10, z10, ty11, sz11, z11, ty12, sz12, z12, ty13, sz13, z13, ty14, sz14, z14, ty15, sz15, z15, ty23, sz23, z23, ty50, sz50, z50, k50, ty60, sz60, z60, ty75, sz75, z75, dLen, dIdxA, dLoad, part, Ty.isA, Ty.fi, D.cells, D.cells?, dField, dFieldA, dIdx, dFill, allCell, D.isCell, els, chunk, rep, splice, hget, hset, cellsOf, Blk.isC, Blk.cs, Blk.mut, Blk.setCs, dStore, dBuild, dSlice, dBnd, List.getElem?_map, Option.map_some, Int.toNat_natCast, List.length_map, Nat.lt_irrefl, Nat.zero_lt_one, Nat.zero_lt_succ, Nat.le_refl, Nat.zero_add, Bool.false_eq_true, false_or, or_true, true_or, List.drop_zero, Int.natCast_nonneg, D.int.injEq, Int.zero_le_ofNat, Nat.lt_add_one, List.getElem?_nil, Nat.zero_le, List.take, List.drop, Nat.reduceMul, Nat.reduceLeDiff, Nat.reduceLT, Nat.reducePow, Nat.reduceBEq, Nat.reduceEqDiff, and_self, D.closedL, D.closed, Bool.and_self, bne_self_eq_false, beq_self_eq_true, bne, Bool.true_and, Bool.and_true, Bool.or_true, Bool.or_false, Bool.true_or, Bool.false_or, Bool.and_false, Bool.false_and, List.all_cons, List.all_nil, List.all, List.replicate, exists_const, okK, dEqL, dEqO, dEq, Option.isSome, nc0, nc1, nc2, nc3, nc4, nc5, nc6, nc7, nc8, nc9, nc10, nc11, nc12, wl0, wl1, wl2, wl3, wl4, wl5, wl6, wl7, wl8, wl9, wl10, wl11, wl12, Int.reduceAdd, Int.reduceLT, Int.reduceLE, Int.reduceToNat, Int.reduceEq, Int.reduceSub, Int.reduceBEq, Int.reduceBNe, List.length_singleton, Nat.reduceBNe, kRes])
        | (refine .body (by kernel_rfl) (PDen.to (c1) ?_))
        | (refine PCall.to (by kernel_rfl) (c1) ?_)
        | (refine ⟨by decide +kernel, ?_⟩)
        | rfl
        | split)
set_option maxHeartbeats 8000000 in
set_option maxHeartbeats 2000000 in
theorem read43y (s : List UInt8) (hs : s.length ≤ 1099511627776) (t x y : List UInt8) (a e b f : Int) (ht : cutS s = t) (hL : split46 t = [x, y]) (hlx : x.length ≤ s.length) (hly : y.length ≤ s.length) (hx : numS x = (a, e)) (hy : numS y = (b, f)) : PDen Tryd.prog E 43 [.str s] (kRes (kText a b (lastIs s) == s) a b (lastIs s)) := by
  refine pden_by (fn := Tryd.f43) mixed Tryd.func43 rfl (rfl) (by unfold kRes; split <;> rfl) ?_
  have l1 := cutS_len s
  rw [ht] at l1
  have c1 := split62 (E := E) t (by omega)
  rw [hL] at c1
  have c3 := numberR (E := E) x (by omega)
  have c4 := numberR (E := E) y (by omega)
  rw [hx] at c3
  rw [hy] at c4
  simp only [res] at c3 c4
  clear hL l1 hlx hly hx hy
  rcases concat_cases s with rfl | ⟨u, z, rfl⟩
  · obtain rfl : [] = t := ht
    have hl0 : lastIs [] = false := rfl
    rw [hl0]
    by_cases hk : (kText a b false == []) = true
    · skip
      repeat' (first
        | (simp -implicitDefEqProofs (maxSteps := 1000000) only [*, Tryd.f43, ↓cAny_eq, ↓anyP_go, fillT, fillH, ↓cwp_scope, ↓cwp_label, ↓scope_normal, ↓scope_ret, ↓scope_exit, ↓cwp_skip, ↓cwp_region, ↓cwp_drawn, ↓cwp_seq, ↓cwp_cond, ↓cwp_block, ↓cwp_loop, ↓cwp_exit, ↓cwp_ret, ↓kont_normal, ↓kont_exit, ↓kont_ret, ↓block_normal, ↓block_ret, ↓block_exit, ↓then_normal, ↓then_ret, ↓then_exit, ↓finF_normal, ↓finF_ret, ↓cseq_nil, ↓cseq_free, ↓cseq_cons, ↓seqK_go, ↓anyK_go, ↓caq_zero, ↓caq_done, ↓caq_free, ↓caq_step, ↓cStep_move, ↓cStep_assign, ↓cStep_eq, ↓cPure_call, ↓reduceIte, keeps, wantD, callee, aop, ev, ofV, nth, List.cons_append, List.nil_append, List.append_nil, undL, putO, put, List.length_cons, List.length_nil, Nat.reduceSub, Nat.reduceAdd, dBinT, dBin, dUn, Option.map, List.getElem?_toArray, List.toList_toArray, List.getElem?_cons_succ, List.getElem?_cons_zero, Option.bind, ge_iff_le, gt_iff_lt, resD, resL, resV, beq_true, beq_false, Option.some.injEq, List.map, Bool.not_true, Bool.not_false, Bool.false_eq_true, exists_eq_left', Bool.not_eq_true', decide_eq_true_eq, decide_eq_false_iff_not, ite_not, decide_true, decide_false, not_true_eq_false, not_false_eq_true, D.bool.injEq, if_true, if_false, and_true, true_and, ty1, sz1, z1, ty2, sz2, z2, ty3, sz3, z3, ty4, sz4, z4, ty5, sz5, z5, ty6, sz6, z6, ty7, sz7, z7, ty8, sz8, z8, ty9, sz9, z9, ty10, sz10, z10, ty11, sz11, z11, ty12, sz12, z12, ty13, sz13, z13, ty14, sz14, z14, ty15, sz15, z15, ty23, sz23, z23, ty50, sz50, z50, k50, ty60, sz60, z60, ty75, sz75, z75, dLen, dIdxA, dLoad, part, Ty.isA, Ty.fi, D.cells, D.cells?, dField, dFieldA, dIdx, dFill, allCell, D.isCell, els, chunk, rep, splice, hget, hset, cellsOf, Blk.isC, Blk.cs, Blk.mut, Blk.setCs, dStore, dBuild, dSlice, dBnd, List.getElem?_map, Option.map_some, Int.toNat_natCast, List.length_map, Nat.lt_irrefl, Nat.zero_lt_one, Nat.zero_lt_succ, Nat.le_refl, Nat.zero_add, Bool.false_eq_true, false_or, or_true, true_or, List.drop_zero, Int.natCast_nonneg, D.int.injEq, Int.zero_le_ofNat, Nat.lt_add_one, List.getElem?_nil, Nat.zero_le, List.take, List.drop, Nat.reduceMul, Nat.reduceLeDiff, Nat.reduceLT, Nat.reducePow, Nat.reduceBEq, Nat.reduceEqDiff, and_self, D.closedL, D.closed, Bool.and_self, bne_self_eq_false, beq_self_eq_true, bne, Bool.true_and, Bool.and_true, Bool.or_true, Bool.or_false, Bool.true_or, Bool.false_or, Bool.and_false, Bool.false_and, List.all_cons, List.all_nil, List.all, List.replicate, exists_const, okK, dEqL, dEqO, dEq, Option.isSome, nc0, nc1, nc2, nc3, nc4, nc5, nc6, nc7, nc8, nc9, nc10, nc11, nc12, wl0, wl1, wl2, wl3, wl4, wl5, wl6, wl7, wl8, wl9, wl10, wl11, wl12, Int.reduceAdd, Int.reduceLT, Int.reduceLE, Int.reduceToNat, Int.reduceEq, Int.reduceSub, Int.reduceBEq, Int.reduceBNe, List.length_singleton, Nat.reduceBNe, kRes, List.map_cons, List.map_nil])
        | (refine .body (by kernel_rfl) (PDen.to (c1) ?_))
        | (refine PCall.to (by kernel_rfl) (c1) ?_)
        | (refine .body (by kernel_rfl) (PDen.to (c3) ?_))
        | (refine PCall.to (by kernel_rfl) (c3) ?_)
        | (refine .body (by kernel_rfl) (PDen.to (c4) ?_))
        | (refine PCall.to (by kernel_rfl) (c4) ?_)
        | (refine .body (by kernel_rfl) (PDen.to (ktextR _ _ _) ?_))
        | (refine PCall.to (by kernel_rfl) (ktextR _ _ _) ?_)
        | (refine ⟨by decide +kernel, ?_⟩)
        | rfl
        | split)
    · have hk' : (kText a b false == []) = false := by simpa using hk
      clear hk
      repeat' (first
        | (simp -implicitDefEqProofs (maxSteps := 1000000) only [*, Tryd.f43, ↓cAny_eq, ↓anyP_go, fillT, fillH, ↓cwp_scope, ↓cwp_label, ↓scope_normal, ↓scope_ret, ↓scope_exit, ↓cwp_skip, ↓cwp_region, ↓cwp_drawn, ↓cwp_seq, ↓cwp_cond, ↓cwp_block, ↓cwp_loop, ↓cwp_exit, ↓cwp_ret, ↓kont_normal, ↓kont_exit, ↓kont_ret, ↓block_normal, ↓block_ret, ↓block_exit, ↓then_normal, ↓then_ret, ↓then_exit, ↓finF_normal, ↓finF_ret, ↓cseq_nil, ↓cseq_free, ↓cseq_cons, ↓seqK_go, ↓anyK_go, ↓caq_zero, ↓caq_done, ↓caq_free, ↓caq_step, ↓cStep_move, ↓cStep_assign, ↓cStep_eq, ↓cPure_call, ↓reduceIte, keeps, wantD, callee, aop, ev, ofV, nth, List.cons_append, List.nil_append, List.append_nil, undL, putO, put, List.length_cons, List.length_nil, Nat.reduceSub, Nat.reduceAdd, dBinT, dBin, dUn, Option.map, List.getElem?_toArray, List.toList_toArray, List.getElem?_cons_succ, List.getElem?_cons_zero, Option.bind, ge_iff_le, gt_iff_lt, resD, resL, resV, beq_true, beq_false, Option.some.injEq, List.map, Bool.not_true, Bool.not_false, Bool.false_eq_true, exists_eq_left', Bool.not_eq_true', decide_eq_true_eq, decide_eq_false_iff_not, ite_not, decide_true, decide_false, not_true_eq_false, not_false_eq_true, D.bool.injEq, if_true, if_false, and_true, true_and, ty1, sz1, z1, ty2, sz2, z2, ty3, sz3, z3, ty4, sz4, z4, ty5, sz5, z5, ty6, sz6, z6, ty7, sz7, z7, ty8, sz8, z8, ty9, sz9, z9, ty10, sz10, z10, ty11, sz11, z11, ty12, sz12, z12, ty13, sz13, z13, ty14, sz14, z14, ty15, sz15, z15, ty23, sz23, z23, ty50, sz50, z50, k50, ty60, sz60, z60, ty75, sz75, z75, dLen, dIdxA, dLoad, part, Ty.isA, Ty.fi, D.cells, D.cells?, dField, dFieldA, dIdx, dFill, allCell, D.isCell, els, chunk, rep, splice, hget, hset, cellsOf, Blk.isC, Blk.cs, Blk.mut, Blk.setCs, dStore, dBuild, dSlice, dBnd, List.getElem?_map, Option.map_some, Int.toNat_natCast, List.length_map, Nat.lt_irrefl, Nat.zero_lt_one, Nat.zero_lt_succ, Nat.le_refl, Nat.zero_add, Bool.false_eq_true, false_or, or_true, true_or, List.drop_zero, Int.natCast_nonneg, D.int.injEq, Int.zero_le_ofNat, Nat.lt_add_one, List.getElem?_nil, Nat.zero_le, List.take, List.drop, Nat.reduceMul, Nat.reduceLeDiff, Nat.reduceLT, Nat.reducePow, Nat.reduceBEq, Nat.reduceEqDiff, and_self, D.closedL, D.closed, Bool.and_self, bne_self_eq_false, beq_self_eq_true, bne, Bool.true_and, Bool.and_true, Bool.or_true, Bool.or_false, Bool.true_or, Bool.false_or, Bool.and_false, Bool.false_and, List.all_cons, List.all_nil, List.all, List.replicate, exists_const, okK, dEqL, dEqO, dEq, Option.isSome, nc0, nc1, nc2, nc3, nc4, nc5, nc6, nc7, nc8, nc9, nc10, nc11, nc12, wl0, wl1, wl2, wl3, wl4, wl5, wl6, wl7, wl8, wl9, wl10, wl11, wl12, Int.reduceAdd, Int.reduceLT, Int.reduceLE, Int.reduceToNat, Int.reduceEq, Int.reduceSub, Int.reduceBEq, Int.reduceBNe, List.length_singleton, Nat.reduceBNe, kRes, List.map_cons, List.map_nil])
        | (refine .body (by kernel_rfl) (PDen.to (c1) ?_))
        | (refine PCall.to (by kernel_rfl) (c1) ?_)
        | (refine .body (by kernel_rfl) (PDen.to (c3) ?_))
        | (refine PCall.to (by kernel_rfl) (c3) ?_)
        | (refine .body (by kernel_rfl) (PDen.to (c4) ?_))
        | (refine PCall.to (by kernel_rfl) (c4) ?_)
        | (refine .body (by kernel_rfl) (PDen.to (ktextR _ _ _) ?_))
        | (refine PCall.to (by kernel_rfl) (ktextR _ _ _) ?_)
        | (refine ⟨by decide +kernel, ?_⟩)
        | rfl
        | split)
  · have hl : (u ++ [z]).length = u.length + 1 := by simp
    have hn : u.length ≤ 4611686018427387904 := by rw [hl] at hs; omega
    have hw := wsub1 hn
    have h1 : (0 : Int) < ((u.length + 1 : Nat) : Int) := by omega
    have hg : (u ++ [z])[u.length]? = some z := by simp
    have hd : (u ++ [z]).take u.length = u := by simp
    have hle : u.length ≤ u.length + 1 := by omega
    have hu := cutS_app u z
    have hli := lastIs_app u z
    rw [hu] at ht
    rw [hli]
    clear hn hu hs hli
    by_cases hx : z = 45
    · subst hx
      have h45 : ((45 : UInt8).toNat : Int) = 45 := rfl
      have h46 : ((45 : UInt8) == 45) = true := rfl
      rw [h46]
      obtain rfl : u = t := by simpa using ht
      by_cases hk : (kText a b true == u ++ [45]) = true
      · skip
        repeat' (first
          | (simp -implicitDefEqProofs (maxSteps := 1000000) only [*, Tryd.f43, ↓cAny_eq, ↓anyP_go, fillT, fillH, ↓cwp_scope, ↓cwp_label, ↓scope_normal, ↓scope_ret, ↓scope_exit, ↓cwp_skip, ↓cwp_region, ↓cwp_drawn, ↓cwp_seq, ↓cwp_cond, ↓cwp_block, ↓cwp_loop, ↓cwp_exit, ↓cwp_ret, ↓kont_normal, ↓kont_exit, ↓kont_ret, ↓block_normal, ↓block_ret, ↓block_exit, ↓then_normal, ↓then_ret, ↓then_exit, ↓finF_normal, ↓finF_ret, ↓cseq_nil, ↓cseq_free, ↓cseq_cons, ↓seqK_go, ↓anyK_go, ↓caq_zero, ↓caq_done, ↓caq_free, ↓caq_step, ↓cStep_move, ↓cStep_assign, ↓cStep_eq, ↓cPure_call, ↓reduceIte, keeps, wantD, callee, aop, ev, ofV, nth, List.cons_append, List.nil_append, List.append_nil, undL, putO, put, List.length_cons, List.length_nil, Nat.reduceSub, Nat.reduceAdd, dBinT, dBin, dUn, Option.map, List.getElem?_toArray, List.toList_toArray, List.getElem?_cons_succ, List.getElem?_cons_zero, Option.bind, ge_iff_le, gt_iff_lt, resD, resL, resV, beq_true, beq_false, Option.some.injEq, List.map, Bool.not_true, Bool.not_false, Bool.false_eq_true, exists_eq_left', Bool.not_eq_true', decide_eq_true_eq, decide_eq_false_iff_not, ite_not, decide_true, decide_false, not_true_eq_false, not_false_eq_true, D.bool.injEq, if_true, if_false, and_true, true_and, ty1, sz1, z1, ty2, sz2, z2, ty3, sz3, z3, ty4, sz4, z4, ty5, sz5, z5, ty6, sz6, z6, ty7, sz7, z7, ty8, sz8, z8, ty9, sz9, z9, ty10, sz10, z10, ty11, sz11, z11, ty12, sz12, z12, ty13, sz13, z13, ty14, sz14, z14, ty15, sz15, z15, ty23, sz23, z23, ty50, sz50, z50, k50, ty60, sz60, z60, ty75, sz75, z75, dLen, dIdxA, dLoad, part, Ty.isA, Ty.fi, D.cells, D.cells?, dField, dFieldA, dIdx, dFill, allCell, D.isCell, els, chunk, rep, splice, hget, hset, cellsOf, Blk.isC, Blk.cs, Blk.mut, Blk.setCs, dStore, dBuild, dSlice, dBnd, List.getElem?_map, Option.map_some, Int.toNat_natCast, List.length_map, Nat.lt_irrefl, Nat.zero_lt_one, Nat.zero_lt_succ, Nat.le_refl, Nat.zero_add, Bool.false_eq_true, false_or, or_true, true_or, List.drop_zero, Int.natCast_nonneg, D.int.injEq, Int.zero_le_ofNat, Nat.lt_add_one, List.getElem?_nil, Nat.zero_le, List.take, List.drop, Nat.reduceMul, Nat.reduceLeDiff, Nat.reduceLT, Nat.reducePow, Nat.reduceBEq, Nat.reduceEqDiff, and_self, D.closedL, D.closed, Bool.and_self, bne_self_eq_false, beq_self_eq_true, bne, Bool.true_and, Bool.and_true, Bool.or_true, Bool.or_false, Bool.true_or, Bool.false_or, Bool.and_false, Bool.false_and, List.all_cons, List.all_nil, List.all, List.replicate, exists_const, okK, dEqL, dEqO, dEq, Option.isSome, nc0, nc1, nc2, nc3, nc4, nc5, nc6, nc7, nc8, nc9, nc10, nc11, nc12, wl0, wl1, wl2, wl3, wl4, wl5, wl6, wl7, wl8, wl9, wl10, wl11, wl12, Int.reduceAdd, Int.reduceLT, Int.reduceLE, Int.reduceToNat, Int.reduceEq, Int.reduceSub, Int.reduceBEq, Int.reduceBNe, List.length_singleton, Nat.reduceBNe, kRes, List.map_cons, List.map_nil])
          | (refine .body (by kernel_rfl) (PDen.to (c1) ?_))
          | (refine PCall.to (by kernel_rfl) (c1) ?_)
          | (refine .body (by kernel_rfl) (PDen.to (c3) ?_))
          | (refine PCall.to (by kernel_rfl) (c3) ?_)
          | (refine .body (by kernel_rfl) (PDen.to (c4) ?_))
          | (refine PCall.to (by kernel_rfl) (c4) ?_)
          | (refine .body (by kernel_rfl) (PDen.to (ktextR _ _ _) ?_))
          | (refine PCall.to (by kernel_rfl) (ktextR _ _ _) ?_)
          | (refine ⟨by decide +kernel, ?_⟩)
          | rfl
          | split)
      · have hk' : (kText a b true == u ++ [45]) = false := by simpa using hk
        clear hk
        repeat' (first
          | (simp -implicitDefEqProofs (maxSteps := 1000000) only [*, Tryd.f43, ↓cAny_eq, ↓anyP_go, fillT, fillH, ↓cwp_scope, ↓cwp_label, ↓scope_normal, ↓scope_ret, ↓scope_exit, ↓cwp_skip, ↓cwp_region, ↓cwp_drawn, ↓cwp_seq, ↓cwp_cond, ↓cwp_block, ↓cwp_loop, ↓cwp_exit, ↓cwp_ret, ↓kont_normal, ↓kont_exit, ↓kont_ret, ↓block_normal, ↓block_ret, ↓block_exit, ↓then_normal, ↓then_ret, ↓then_exit, ↓finF_normal, ↓finF_ret, ↓cseq_nil, ↓cseq_free, ↓cseq_cons, ↓seqK_go, ↓anyK_go, ↓caq_zero, ↓caq_done, ↓caq_free, ↓caq_step, ↓cStep_move, ↓cStep_assign, ↓cStep_eq, ↓cPure_call, ↓reduceIte, keeps, wantD, callee, aop, ev, ofV, nth, List.cons_append, List.nil_append, List.append_nil, undL, putO, put, List.length_cons, List.length_nil, Nat.reduceSub, Nat.reduceAdd, dBinT, dBin, dUn, Option.map, List.getElem?_toArray, List.toList_toArray, List.getElem?_cons_succ, List.getElem?_cons_zero, Option.bind, ge_iff_le, gt_iff_lt, resD, resL, resV, beq_true, beq_false, Option.some.injEq, List.map, Bool.not_true, Bool.not_false, Bool.false_eq_true, exists_eq_left', Bool.not_eq_true', decide_eq_true_eq, decide_eq_false_iff_not, ite_not, decide_true, decide_false, not_true_eq_false, not_false_eq_true, D.bool.injEq, if_true, if_false, and_true, true_and, ty1, sz1, z1, ty2, sz2, z2, ty3, sz3, z3, ty4, sz4, z4, ty5, sz5, z5, ty6, sz6, z6, ty7, sz7, z7, ty8, sz8, z8, ty9, sz9, z9, ty10, sz10, z10, ty11, sz11, z11, ty12, sz12, z12, ty13, sz13, z13, ty14, sz14, z14, ty15, sz15, z15, ty23, sz23, z23, ty50, sz50, z50, k50, ty60, sz60, z60, ty75, sz75, z75, dLen, dIdxA, dLoad, part, Ty.isA, Ty.fi, D.cells, D.cells?, dField, dFieldA, dIdx, dFill, allCell, D.isCell, els, chunk, rep, splice, hget, hset, cellsOf, Blk.isC, Blk.cs, Blk.mut, Blk.setCs, dStore, dBuild, dSlice, dBnd, List.getElem?_map, Option.map_some, Int.toNat_natCast, List.length_map, Nat.lt_irrefl, Nat.zero_lt_one, Nat.zero_lt_succ, Nat.le_refl, Nat.zero_add, Bool.false_eq_true, false_or, or_true, true_or, List.drop_zero, Int.natCast_nonneg, D.int.injEq, Int.zero_le_ofNat, Nat.lt_add_one, List.getElem?_nil, Nat.zero_le, List.take, List.drop, Nat.reduceMul, Nat.reduceLeDiff, Nat.reduceLT, Nat.reducePow, Nat.reduceBEq, Nat.reduceEqDiff, and_self, D.closedL, D.closed, Bool.and_self, bne_self_eq_false, beq_self_eq_true, bne, Bool.true_and, Bool.and_true, Bool.or_true, Bool.or_false, Bool.true_or, Bool.false_or, Bool.and_false, Bool.false_and, List.all_cons, List.all_nil, List.all, List.replicate, exists_const, okK, dEqL, dEqO, dEq, Option.isSome, nc0, nc1, nc2, nc3, nc4, nc5, nc6, nc7, nc8, nc9, nc10, nc11, nc12, wl0, wl1, wl2, wl3, wl4, wl5, wl6, wl7, wl8, wl9, wl10, wl11, wl12, Int.reduceAdd, Int.reduceLT, Int.reduceLE, Int.reduceToNat, Int.reduceEq, Int.reduceSub, Int.reduceBEq, Int.reduceBNe, List.length_singleton, Nat.reduceBNe, kRes, List.map_cons, List.map_nil])
          | (refine .body (by kernel_rfl) (PDen.to (c1) ?_))
          | (refine PCall.to (by kernel_rfl) (c1) ?_)
          | (refine .body (by kernel_rfl) (PDen.to (c3) ?_))
          | (refine PCall.to (by kernel_rfl) (c3) ?_)
          | (refine .body (by kernel_rfl) (PDen.to (c4) ?_))
          | (refine PCall.to (by kernel_rfl) (c4) ?_)
          | (refine .body (by kernel_rfl) (PDen.to (ktextR _ _ _) ?_))
          | (refine PCall.to (by kernel_rfl) (ktextR _ _ _) ?_)
          | (refine ⟨by decide +kernel, ?_⟩)
          | rfl
          | split)
    · have hx' : (z == 45) = false := by simpa using hx
      rw [hx'] at ht
      rw [hx']
      obtain rfl : u ++ [z] = t := by simpa using ht
      have hxf : ((z.toNat : Int) == 45) = false := by
        rw [beq_eq_false_iff_ne]
        intro h
        exact hx (UInt8.toNat_inj.1 (by have : ((45 : UInt8).toNat : Int) = 45 := rfl; omega))
      clear hx hx' ht
      by_cases hk : (kText a b false == u ++ [z]) = true
      · skip
        repeat' (first
          | (simp -implicitDefEqProofs (maxSteps := 1000000) only [*, Tryd.f43, ↓cAny_eq, ↓anyP_go, fillT, fillH, ↓cwp_scope, ↓cwp_label, ↓scope_normal, ↓scope_ret, ↓scope_exit, ↓cwp_skip, ↓cwp_region, ↓cwp_drawn, ↓cwp_seq, ↓cwp_cond, ↓cwp_block, ↓cwp_loop, ↓cwp_exit, ↓cwp_ret, ↓kont_normal, ↓kont_exit, ↓kont_ret, ↓block_normal, ↓block_ret, ↓block_exit, ↓then_normal, ↓then_ret, ↓then_exit, ↓finF_normal, ↓finF_ret, ↓cseq_nil, ↓cseq_free, ↓cseq_cons, ↓seqK_go, ↓anyK_go, ↓caq_zero, ↓caq_done, ↓caq_free, ↓caq_step, ↓cStep_move, ↓cStep_assign, ↓cStep_eq, ↓cPure_call, ↓reduceIte, keeps, wantD, callee, aop, ev, ofV, nth, List.cons_append, List.nil_append, List.append_nil, undL, putO, put, List.length_cons, List.length_nil, Nat.reduceSub, Nat.reduceAdd, dBinT, dBin, dUn, Option.map, List.getElem?_toArray, List.toList_toArray, List.getElem?_cons_succ, List.getElem?_cons_zero, Option.bind, ge_iff_le, gt_iff_lt, resD, resL, resV, beq_true, beq_false, Option.some.injEq, List.map, Bool.not_true, Bool.not_false, Bool.false_eq_true, exists_eq_left', Bool.not_eq_true', decide_eq_true_eq, decide_eq_false_iff_not, ite_not, decide_true, decide_false, not_true_eq_false, not_false_eq_true, D.bool.injEq, if_true, if_false, and_true, true_and, ty1, sz1, z1, ty2, sz2, z2, ty3, sz3, z3, ty4, sz4, z4, ty5, sz5, z5, ty6, sz6, z6, ty7, sz7, z7, ty8, sz8, z8, ty9, sz9, z9, ty10, sz10, z10, ty11, sz11, z11, ty12, sz12, z12, ty13, sz13, z13, ty14, sz14, z14, ty15, sz15, z15, ty23, sz23, z23, ty50, sz50, z50, k50, ty60, sz60, z60, ty75, sz75, z75, dLen, dIdxA, dLoad, part, Ty.isA, Ty.fi, D.cells, D.cells?, dField, dFieldA, dIdx, dFill, allCell, D.isCell, els, chunk, rep, splice, hget, hset, cellsOf, Blk.isC, Blk.cs, Blk.mut, Blk.setCs, dStore, dBuild, dSlice, dBnd, List.getElem?_map, Option.map_some, Int.toNat_natCast, List.length_map, Nat.lt_irrefl, Nat.zero_lt_one, Nat.zero_lt_succ, Nat.le_refl, Nat.zero_add, Bool.false_eq_true, false_or, or_true, true_or, List.drop_zero, Int.natCast_nonneg, D.int.injEq, Int.zero_le_ofNat, Nat.lt_add_one, List.getElem?_nil, Nat.zero_le, List.take, List.drop, Nat.reduceMul, Nat.reduceLeDiff, Nat.reduceLT, Nat.reducePow, Nat.reduceBEq, Nat.reduceEqDiff, and_self, D.closedL, D.closed, Bool.and_self, bne_self_eq_false, beq_self_eq_true, bne, Bool.true_and, Bool.and_true, Bool.or_true, Bool.or_false, Bool.true_or, Bool.false_or, Bool.and_false, Bool.false_and, List.all_cons, List.all_nil, List.all, List.replicate, exists_const, okK, dEqL, dEqO, dEq, Option.isSome, nc0, nc1, nc2, nc3, nc4, nc5, nc6, nc7, nc8, nc9, nc10, nc11, nc12, wl0, wl1, wl2, wl3, wl4, wl5, wl6, wl7, wl8, wl9, wl10, wl11, wl12, Int.reduceAdd, Int.reduceLT, Int.reduceLE, Int.reduceToNat, Int.reduceEq, Int.reduceSub, Int.reduceBEq, Int.reduceBNe, List.length_singleton, Nat.reduceBNe, kRes, List.map_cons, List.map_nil])
          | (refine .body (by kernel_rfl) (PDen.to (c1) ?_))
          | (refine PCall.to (by kernel_rfl) (c1) ?_)
          | (refine .body (by kernel_rfl) (PDen.to (c3) ?_))
          | (refine PCall.to (by kernel_rfl) (c3) ?_)
          | (refine .body (by kernel_rfl) (PDen.to (c4) ?_))
          | (refine PCall.to (by kernel_rfl) (c4) ?_)
          | (refine .body (by kernel_rfl) (PDen.to (ktextR _ _ _) ?_))
          | (refine PCall.to (by kernel_rfl) (ktextR _ _ _) ?_)
          | (refine ⟨by decide +kernel, ?_⟩)
          | rfl
          | split)
      · have hk' : (kText a b false == u ++ [z]) = false := by simpa using hk
        clear hk
        repeat' (first
          | (simp -implicitDefEqProofs (maxSteps := 1000000) only [*, Tryd.f43, ↓cAny_eq, ↓anyP_go, fillT, fillH, ↓cwp_scope, ↓cwp_label, ↓scope_normal, ↓scope_ret, ↓scope_exit, ↓cwp_skip, ↓cwp_region, ↓cwp_drawn, ↓cwp_seq, ↓cwp_cond, ↓cwp_block, ↓cwp_loop, ↓cwp_exit, ↓cwp_ret, ↓kont_normal, ↓kont_exit, ↓kont_ret, ↓block_normal, ↓block_ret, ↓block_exit, ↓then_normal, ↓then_ret, ↓then_exit, ↓finF_normal, ↓finF_ret, ↓cseq_nil, ↓cseq_free, ↓cseq_cons, ↓seqK_go, ↓anyK_go, ↓caq_zero, ↓caq_done, ↓caq_free, ↓caq_step, ↓cStep_move, ↓cStep_assign, ↓cStep_eq, ↓cPure_call, ↓reduceIte, keeps, wantD, callee, aop, ev, ofV, nth, List.cons_append, List.nil_append, List.append_nil, undL, putO, put, List.length_cons, List.length_nil, Nat.reduceSub, Nat.reduceAdd, dBinT, dBin, dUn, Option.map, List.getElem?_toArray, List.toList_toArray, List.getElem?_cons_succ, List.getElem?_cons_zero, Option.bind, ge_iff_le, gt_iff_lt, resD, resL, resV, beq_true, beq_false, Option.some.injEq, List.map, Bool.not_true, Bool.not_false, Bool.false_eq_true, exists_eq_left', Bool.not_eq_true', decide_eq_true_eq, decide_eq_false_iff_not, ite_not, decide_true, decide_false, not_true_eq_false, not_false_eq_true, D.bool.injEq, if_true, if_false, and_true, true_and, ty1, sz1, z1, ty2, sz2, z2, ty3, sz3, z3, ty4, sz4, z4, ty5, sz5, z5, ty6, sz6, z6, ty7, sz7, z7, ty8, sz8, z8, ty9, sz9, z9, ty10, sz10, z10, ty11, sz11, z11, ty12, sz12, z12, ty13, sz13, z13, ty14, sz14, z14, ty15, sz15, z15, ty23, sz23, z23, ty50, sz50, z50, k50, ty60, sz60, z60, ty75, sz75, z75, dLen, dIdxA, dLoad, part, Ty.isA, Ty.fi, D.cells, D.cells?, dField, dFieldA, dIdx, dFill, allCell, D.isCell, els, chunk, rep, splice, hget, hset, cellsOf, Blk.isC, Blk.cs, Blk.mut, Blk.setCs, dStore, dBuild, dSlice, dBnd, List.getElem?_map, Option.map_some, Int.toNat_natCast, List.length_map, Nat.lt_irrefl, Nat.zero_lt_one, Nat.zero_lt_succ, Nat.le_refl, Nat.zero_add, Bool.false_eq_true, false_or, or_true, true_or, List.drop_zero, Int.natCast_nonneg, D.int.injEq, Int.zero_le_ofNat, Nat.lt_add_one, List.getElem?_nil, Nat.zero_le, List.take, List.drop, Nat.reduceMul, Nat.reduceLeDiff, Nat.reduceLT, Nat.reducePow, Nat.reduceBEq, Nat.reduceEqDiff, and_self, D.closedL, D.closed, Bool.and_self, bne_self_eq_false, beq_self_eq_true, bne, Bool.true_and, Bool.and_true, Bool.or_true, Bool.or_false, Bool.true_or, Bool.false_or, Bool.and_false, Bool.false_and, List.all_cons, List.all_nil, List.all, List.replicate, exists_const, okK, dEqL, dEqO, dEq, Option.isSome, nc0, nc1, nc2, nc3, nc4, nc5, nc6, nc7, nc8, nc9, nc10, nc11, nc12, wl0, wl1, wl2, wl3, wl4, wl5, wl6, wl7, wl8, wl9, wl10, wl11, wl12, Int.reduceAdd, Int.reduceLT, Int.reduceLE, Int.reduceToNat, Int.reduceEq, Int.reduceSub, Int.reduceBEq, Int.reduceBNe, List.length_singleton, Nat.reduceBNe, kRes, List.map_cons, List.map_nil])
          | (refine .body (by kernel_rfl) (PDen.to (c1) ?_))
          | (refine PCall.to (by kernel_rfl) (c1) ?_)
          | (refine .body (by kernel_rfl) (PDen.to (c3) ?_))
          | (refine PCall.to (by kernel_rfl) (c3) ?_)
          | (refine .body (by kernel_rfl) (PDen.to (c4) ?_))
          | (refine PCall.to (by kernel_rfl) (c4) ?_)
          | (refine .body (by kernel_rfl) (PDen.to (ktextR _ _ _) ?_))
          | (refine PCall.to (by kernel_rfl) (ktextR _ _ _) ?_)
          | (refine ⟨by decide +kernel, ?_⟩)
          | rfl
          | split)
end Go.Lv
