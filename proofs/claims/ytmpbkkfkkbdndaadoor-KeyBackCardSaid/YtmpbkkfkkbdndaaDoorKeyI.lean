/- KeyBack's law. -/
import Derived.Test.YtmpbkkfkkbdndaaDoorKeyH
namespace Go.Lv
open Go Go.Proofs Go.IntWalk
set_option maxRecDepth 100000
set_option linter.unusedSimpArgs false
set_option linter.unusedVariables false
variable {E : Env}
theorem dEq3 {a b : Int} {c : Bool} {a' b' : Int} {c' : Bool} (h : ¬ (a = a' ∧ b = b' ∧ c = c')) : dEqL [.int .i64 a, .int .i64 b, .bool c] [.int .i64 a', .int .i64 b', .bool c'] = some false := by
  simp only [dEqL, dEq, if_true]
  by_cases h1 : a = a'
  · subst h1
    by_cases h2 : b = b'
    · subst h2
      have h3 : (c == c') = false := by
        cases c <;> cases c' <;> simp_all
      simp [h3]
    · have : (b == b') = false := by simpa using h2
      simp [this]
  · have : (a == a') = false := by simpa using h1
    simp [this]
theorem dEq3s (a b : Int) (c : Bool) : dEqL [.int .i64 a, .int .i64 b, .bool c] [.int .i64 a, .int .i64 b, .bool c] = some true := by simp [dEqL, dEq]
set_option maxHeartbeats 8000000 in
set_option maxHeartbeats 8000000 in
theorem back11 (ht : Tab E.h0 1 .u64 Lib.pow10Tab) (hg : E.g = fun _ => .und) (a b : Int) (c : Bool) (a' b' : Int) (c' : Bool) (d0 d1 : Int) (d2 : Bool) (s : List UInt8) : PDen Tryd.prog E 11 [.agg [.int .i64 a, .int .i64 b, .bool c], .agg [.int .i64 a', .int .i64 b', .bool c'], .agg [.int .i64 d0, .int .i64 d1, .bool d2], .str s] (.bool true) := by
  refine pden_by (fn := Tryd.f11) mixed Tryd.func11 rfl (rfl) (rfl) ?_
  by_cases hs : (60 : Int) < (s.length : Int)
  · skip
    repeat' (first
      | (simp -implicitDefEqProofs (maxSteps := 1000000) only [*, Tryd.f11, ↓cAny_eq, ↓anyP_go, fillT, fillH, ↓cwp_scope, ↓cwp_label, ↓scope_normal, ↓scope_ret, ↓scope_exit, ↓cwp_skip, ↓cwp_region, ↓cwp_drawn, ↓cwp_seq, ↓cwp_cond, ↓cwp_block, ↓cwp_loop, ↓cwp_exit, ↓cwp_ret, ↓kont_normal, ↓kont_exit, ↓kont_ret, ↓block_normal, ↓block_ret, ↓block_exit, ↓then_normal, ↓then_ret, ↓then_exit, ↓finF_normal, ↓finF_ret, ↓cseq_nil, ↓cseq_free, ↓cseq_cons, ↓seqK_go, ↓anyK_go, ↓caq_zero, ↓caq_done, ↓caq_free, ↓caq_step, ↓cStep_move, ↓cStep_assign, ↓cStep_eq, ↓cPure_call, ↓reduceIte, keeps, wantD, callee, aop, ev, ofV, nth, List.cons_append, List.nil_append, List.append_nil, undL, putO, put, List.length_cons, List.length_nil, Nat.reduceSub, Nat.reduceAdd, dBinT, dBin, dUn, Option.map, List.getElem?_toArray, List.toList_toArray, List.getElem?_cons_succ, List.getElem?_cons_zero, Option.bind, ge_iff_le, gt_iff_lt, resD, resL, resV, beq_true, beq_false, Option.some.injEq, List.map, Bool.not_true, Bool.not_false, Bool.false_eq_true, exists_eq_left', Bool.not_eq_true', decide_eq_true_eq, decide_eq_false_iff_not, ite_not, decide_true, decide_false, not_true_eq_false, not_false_eq_true, D.bool.injEq, if_true, if_false, and_true, true_and, ty1, sz1, z1, ty2, sz2, z2, ty3, sz3, z3, ty4, sz4, z4, ty5, sz5, z5, ty6, sz6, z6, ty7, sz7, z7, ty8, sz8, z8, ty9, sz9, z9, ty10, sz10, z10, ty11, sz11, z11, ty12, sz12, z12, ty13, sz13, z13, ty14, sz14, z14, ty15, sz15, z15, ty16, sz16, z16, ty17, sz17, z17, ty18, sz18, z18, ty19, sz19, z19, ty23, sz23, z23, ty50, sz50, z50, k50, ty51, sz51, z51, k51, ty92, sz92, z92, dLen, dIdxA, dLoad, part, Ty.isA, Ty.fi, D.cells, D.cells?, dField, dFieldA, dIdx, dFill, allCell, D.isCell, els, chunk, rep, splice, hget, hset, cellsOf, Blk.isC, Blk.cs, Blk.mut, Blk.setCs, dStore, dBuild, dSlice, dBnd, List.getElem?_map, Option.map_some, Int.toNat_natCast, List.length_map, Nat.lt_irrefl, Nat.zero_lt_one, Nat.zero_lt_succ, Nat.le_refl, Nat.zero_add, Bool.false_eq_true, false_or, or_true, true_or, List.drop_zero, Int.natCast_nonneg, D.int.injEq, Int.zero_le_ofNat, Nat.lt_add_one, List.getElem?_nil, Nat.zero_le, List.take, List.drop, Nat.reduceMul, Nat.reduceLeDiff, Nat.reduceLT, Nat.reducePow, Nat.reduceBEq, Nat.reduceEqDiff, and_self, D.closedL, D.closed, Bool.and_self, bne_self_eq_false, beq_self_eq_true, bne, Bool.true_and, Bool.and_true, Bool.or_true, Bool.or_false, Bool.true_or, Bool.false_or, Bool.and_false, Bool.false_and, List.all_cons, List.all_nil, List.all, List.replicate, exists_const, okK, dEqL, dEqO, dEq, Option.isSome, nc0, nc1, nc2, nc3, nc4, nc5, nc6, nc7, nc8, nc9, nc10, nc11, nc12, wl0, wl1, wl2, wl3, wl4, wl5, wl6, wl7, wl8, wl9, wl10, wl11, wl12, Int.reduceAdd, Int.reduceLT, Int.reduceLE, Int.reduceToNat, Int.reduceEq, Int.reduceSub, Int.reduceBEq, Int.reduceBNe, List.length_singleton, Nat.reduceBNe])
      | (refine .body (by kernel_rfl) (PDen.to (awake41 ht hg) ?_))
      | (refine PCall.to (by kernel_rfl) (awake41 ht hg) ?_)
      | (refine ⟨9, by decide +kernel, ?_⟩)
      | (refine ⟨11, by decide +kernel, ?_⟩)
      | (refine ⟨12, by decide +kernel, ?_⟩)
      | (refine ⟨by decide +kernel, ?_⟩)
      | rfl
      | split)
  · obtain ⟨k0, k1, kb, er, r1, _, hk⟩ := readBoth (E := E) s (by omega)
    have hS := dEq3s a b c
    by_cases he : (er == 0) = true
    · have hk' := hk he
      clear hk
      by_cases hf : kFit a b = true
      · have r3 := read_text (E := E) a b c hf
        skip
        rcases below_tri a b c a' b' c' with ⟨t1, t2, t3⟩ | ⟨t1, t2, t3⟩ | ⟨t1, t2, rfl, rfl, rfl⟩
        · have hE := dEq3 t3
          clear t3
          cases t4 : kBelow a' b' c' d0 d1 d2
          · skip
            repeat' (first
              | (simp -implicitDefEqProofs (maxSteps := 1000000) only [*, Tryd.f11, ↓cAny_eq, ↓anyP_go, fillT, fillH, ↓cwp_scope, ↓cwp_label, ↓scope_normal, ↓scope_ret, ↓scope_exit, ↓cwp_skip, ↓cwp_region, ↓cwp_drawn, ↓cwp_seq, ↓cwp_cond, ↓cwp_block, ↓cwp_loop, ↓cwp_exit, ↓cwp_ret, ↓kont_normal, ↓kont_exit, ↓kont_ret, ↓block_normal, ↓block_ret, ↓block_exit, ↓then_normal, ↓then_ret, ↓then_exit, ↓finF_normal, ↓finF_ret, ↓cseq_nil, ↓cseq_free, ↓cseq_cons, ↓seqK_go, ↓anyK_go, ↓caq_zero, ↓caq_done, ↓caq_free, ↓caq_step, ↓cStep_move, ↓cStep_assign, ↓cStep_eq, ↓cPure_call, ↓reduceIte, keeps, wantD, callee, aop, ev, ofV, nth, List.cons_append, List.nil_append, List.append_nil, undL, putO, put, List.length_cons, List.length_nil, Nat.reduceSub, Nat.reduceAdd, dBinT, dBin, dUn, Option.map, List.getElem?_toArray, List.toList_toArray, List.getElem?_cons_succ, List.getElem?_cons_zero, Option.bind, ge_iff_le, gt_iff_lt, resD, resL, resV, beq_true, beq_false, Option.some.injEq, List.map, Bool.not_true, Bool.not_false, Bool.false_eq_true, exists_eq_left', Bool.not_eq_true', decide_eq_true_eq, decide_eq_false_iff_not, ite_not, decide_true, decide_false, not_true_eq_false, not_false_eq_true, D.bool.injEq, if_true, if_false, and_true, true_and, ty1, sz1, z1, ty2, sz2, z2, ty3, sz3, z3, ty4, sz4, z4, ty5, sz5, z5, ty6, sz6, z6, ty7, sz7, z7, ty8, sz8, z8, ty9, sz9, z9, ty10, sz10, z10, ty11, sz11, z11, ty12, sz12, z12, ty13, sz13, z13, ty14, sz14, z14, ty15, sz15, z15, ty16, sz16, z16, ty17, sz17, z17, ty18, sz18, z18, ty19, sz19, z19, ty23, sz23, z23, ty50, sz50, z50, k50, ty51, sz51, z51, k51, ty92, sz92, z92, dLen, dIdxA, dLoad, part, Ty.isA, Ty.fi, D.cells, D.cells?, dField, dFieldA, dIdx, dFill, allCell, D.isCell, els, chunk, rep, splice, hget, hset, cellsOf, Blk.isC, Blk.cs, Blk.mut, Blk.setCs, dStore, dBuild, dSlice, dBnd, List.getElem?_map, Option.map_some, Int.toNat_natCast, List.length_map, Nat.lt_irrefl, Nat.zero_lt_one, Nat.zero_lt_succ, Nat.le_refl, Nat.zero_add, Bool.false_eq_true, false_or, or_true, true_or, List.drop_zero, Int.natCast_nonneg, D.int.injEq, Int.zero_le_ofNat, Nat.lt_add_one, List.getElem?_nil, Nat.zero_le, List.take, List.drop, Nat.reduceMul, Nat.reduceLeDiff, Nat.reduceLT, Nat.reducePow, Nat.reduceBEq, Nat.reduceEqDiff, and_self, D.closedL, D.closed, Bool.and_self, bne_self_eq_false, beq_self_eq_true, bne, Bool.true_and, Bool.and_true, Bool.or_true, Bool.or_false, Bool.true_or, Bool.false_or, Bool.and_false, Bool.false_and, List.all_cons, List.all_nil, List.all, List.replicate, exists_const, okK, dEqO, Option.isSome, nc0, nc1, nc2, nc3, nc4, nc5, nc6, nc7, nc8, nc9, nc10, nc11, nc12, wl0, wl1, wl2, wl3, wl4, wl5, wl6, wl7, wl8, wl9, wl10, wl11, wl12, Int.reduceAdd, Int.reduceLT, Int.reduceLE, Int.reduceToNat, Int.reduceEq, Int.reduceSub, Int.reduceBEq, Int.reduceBNe, List.length_singleton, Nat.reduceBNe])
              | (refine .body (by kernel_rfl) (PDen.to (r1) ?_))
              | (refine PCall.to (by kernel_rfl) (r1) ?_)
              | (refine .body (by kernel_rfl) (PDen.to (r3) ?_))
              | (refine PCall.to (by kernel_rfl) (r3) ?_)
              | (refine .body (by kernel_rfl) (PDen.to (kfitP _ _ _) ?_))
              | (refine PCall.to (by kernel_rfl) (kfitP _ _ _) ?_)
              | (refine .body (by kernel_rfl) (PDen.to (kfitR _ _ _) ?_))
              | (refine PCall.to (by kernel_rfl) (kfitR _ _ _) ?_)
              | (refine .body (by kernel_rfl) (PDen.to (ktextP ht _ _ _) ?_))
              | (refine PCall.to (by kernel_rfl) (ktextP ht _ _ _) ?_)
              | (refine .body (by kernel_rfl) (PDen.to (ofK _ _ _) ?_))
              | (refine PCall.to (by kernel_rfl) (ofK _ _ _) ?_)
              | (refine .body (by kernel_rfl) (PDen.to (below _ _ _ _ _ _) ?_))
              | (refine PCall.to (by kernel_rfl) (below _ _ _ _ _ _) ?_)
              | (refine .body (by kernel_rfl) (PDen.to (awake41 ht hg) ?_))
              | (refine PCall.to (by kernel_rfl) (awake41 ht hg) ?_)
              | (refine ⟨9, by decide +kernel, ?_⟩)
              | (refine ⟨11, by decide +kernel, ?_⟩)
              | (refine ⟨12, by decide +kernel, ?_⟩)
              | (refine ⟨by decide +kernel, ?_⟩)
              | rfl
              | split)
          · have t5 := below_trans t1 t4
            skip
            repeat' (first
              | (simp -implicitDefEqProofs (maxSteps := 1000000) only [*, Tryd.f11, ↓cAny_eq, ↓anyP_go, fillT, fillH, ↓cwp_scope, ↓cwp_label, ↓scope_normal, ↓scope_ret, ↓scope_exit, ↓cwp_skip, ↓cwp_region, ↓cwp_drawn, ↓cwp_seq, ↓cwp_cond, ↓cwp_block, ↓cwp_loop, ↓cwp_exit, ↓cwp_ret, ↓kont_normal, ↓kont_exit, ↓kont_ret, ↓block_normal, ↓block_ret, ↓block_exit, ↓then_normal, ↓then_ret, ↓then_exit, ↓finF_normal, ↓finF_ret, ↓cseq_nil, ↓cseq_free, ↓cseq_cons, ↓seqK_go, ↓anyK_go, ↓caq_zero, ↓caq_done, ↓caq_free, ↓caq_step, ↓cStep_move, ↓cStep_assign, ↓cStep_eq, ↓cPure_call, ↓reduceIte, keeps, wantD, callee, aop, ev, ofV, nth, List.cons_append, List.nil_append, List.append_nil, undL, putO, put, List.length_cons, List.length_nil, Nat.reduceSub, Nat.reduceAdd, dBinT, dBin, dUn, Option.map, List.getElem?_toArray, List.toList_toArray, List.getElem?_cons_succ, List.getElem?_cons_zero, Option.bind, ge_iff_le, gt_iff_lt, resD, resL, resV, beq_true, beq_false, Option.some.injEq, List.map, Bool.not_true, Bool.not_false, Bool.false_eq_true, exists_eq_left', Bool.not_eq_true', decide_eq_true_eq, decide_eq_false_iff_not, ite_not, decide_true, decide_false, not_true_eq_false, not_false_eq_true, D.bool.injEq, if_true, if_false, and_true, true_and, ty1, sz1, z1, ty2, sz2, z2, ty3, sz3, z3, ty4, sz4, z4, ty5, sz5, z5, ty6, sz6, z6, ty7, sz7, z7, ty8, sz8, z8, ty9, sz9, z9, ty10, sz10, z10, ty11, sz11, z11, ty12, sz12, z12, ty13, sz13, z13, ty14, sz14, z14, ty15, sz15, z15, ty16, sz16, z16, ty17, sz17, z17, ty18, sz18, z18, ty19, sz19, z19, ty23, sz23, z23, ty50, sz50, z50, k50, ty51, sz51, z51, k51, ty92, sz92, z92, dLen, dIdxA, dLoad, part, Ty.isA, Ty.fi, D.cells, D.cells?, dField, dFieldA, dIdx, dFill, allCell, D.isCell, els, chunk, rep, splice, hget, hset, cellsOf, Blk.isC, Blk.cs, Blk.mut, Blk.setCs, dStore, dBuild, dSlice, dBnd, List.getElem?_map, Option.map_some, Int.toNat_natCast, List.length_map, Nat.lt_irrefl, Nat.zero_lt_one, Nat.zero_lt_succ, Nat.le_refl, Nat.zero_add, Bool.false_eq_true, false_or, or_true, true_or, List.drop_zero, Int.natCast_nonneg, D.int.injEq, Int.zero_le_ofNat, Nat.lt_add_one, List.getElem?_nil, Nat.zero_le, List.take, List.drop, Nat.reduceMul, Nat.reduceLeDiff, Nat.reduceLT, Nat.reducePow, Nat.reduceBEq, Nat.reduceEqDiff, and_self, D.closedL, D.closed, Bool.and_self, bne_self_eq_false, beq_self_eq_true, bne, Bool.true_and, Bool.and_true, Bool.or_true, Bool.or_false, Bool.true_or, Bool.false_or, Bool.and_false, Bool.false_and, List.all_cons, List.all_nil, List.all, List.replicate, exists_const, okK, dEqO, Option.isSome, nc0, nc1, nc2, nc3, nc4, nc5, nc6, nc7, nc8, nc9, nc10, nc11, nc12, wl0, wl1, wl2, wl3, wl4, wl5, wl6, wl7, wl8, wl9, wl10, wl11, wl12, Int.reduceAdd, Int.reduceLT, Int.reduceLE, Int.reduceToNat, Int.reduceEq, Int.reduceSub, Int.reduceBEq, Int.reduceBNe, List.length_singleton, Nat.reduceBNe])
              | (refine .body (by kernel_rfl) (PDen.to (r1) ?_))
              | (refine PCall.to (by kernel_rfl) (r1) ?_)
              | (refine .body (by kernel_rfl) (PDen.to (r3) ?_))
              | (refine PCall.to (by kernel_rfl) (r3) ?_)
              | (refine .body (by kernel_rfl) (PDen.to (kfitP _ _ _) ?_))
              | (refine PCall.to (by kernel_rfl) (kfitP _ _ _) ?_)
              | (refine .body (by kernel_rfl) (PDen.to (kfitR _ _ _) ?_))
              | (refine PCall.to (by kernel_rfl) (kfitR _ _ _) ?_)
              | (refine .body (by kernel_rfl) (PDen.to (ktextP ht _ _ _) ?_))
              | (refine PCall.to (by kernel_rfl) (ktextP ht _ _ _) ?_)
              | (refine .body (by kernel_rfl) (PDen.to (ofK _ _ _) ?_))
              | (refine PCall.to (by kernel_rfl) (ofK _ _ _) ?_)
              | (refine .body (by kernel_rfl) (PDen.to (below _ _ _ _ _ _) ?_))
              | (refine PCall.to (by kernel_rfl) (below _ _ _ _ _ _) ?_)
              | (refine .body (by kernel_rfl) (PDen.to (awake41 ht hg) ?_))
              | (refine PCall.to (by kernel_rfl) (awake41 ht hg) ?_)
              | (refine ⟨9, by decide +kernel, ?_⟩)
              | (refine ⟨11, by decide +kernel, ?_⟩)
              | (refine ⟨12, by decide +kernel, ?_⟩)
              | (refine ⟨by decide +kernel, ?_⟩)
              | rfl
              | split)
        · have hE := dEq3 t3
          clear t3
          repeat' (first
            | (simp -implicitDefEqProofs (maxSteps := 1000000) only [*, Tryd.f11, ↓cAny_eq, ↓anyP_go, fillT, fillH, ↓cwp_scope, ↓cwp_label, ↓scope_normal, ↓scope_ret, ↓scope_exit, ↓cwp_skip, ↓cwp_region, ↓cwp_drawn, ↓cwp_seq, ↓cwp_cond, ↓cwp_block, ↓cwp_loop, ↓cwp_exit, ↓cwp_ret, ↓kont_normal, ↓kont_exit, ↓kont_ret, ↓block_normal, ↓block_ret, ↓block_exit, ↓then_normal, ↓then_ret, ↓then_exit, ↓finF_normal, ↓finF_ret, ↓cseq_nil, ↓cseq_free, ↓cseq_cons, ↓seqK_go, ↓anyK_go, ↓caq_zero, ↓caq_done, ↓caq_free, ↓caq_step, ↓cStep_move, ↓cStep_assign, ↓cStep_eq, ↓cPure_call, ↓reduceIte, keeps, wantD, callee, aop, ev, ofV, nth, List.cons_append, List.nil_append, List.append_nil, undL, putO, put, List.length_cons, List.length_nil, Nat.reduceSub, Nat.reduceAdd, dBinT, dBin, dUn, Option.map, List.getElem?_toArray, List.toList_toArray, List.getElem?_cons_succ, List.getElem?_cons_zero, Option.bind, ge_iff_le, gt_iff_lt, resD, resL, resV, beq_true, beq_false, Option.some.injEq, List.map, Bool.not_true, Bool.not_false, Bool.false_eq_true, exists_eq_left', Bool.not_eq_true', decide_eq_true_eq, decide_eq_false_iff_not, ite_not, decide_true, decide_false, not_true_eq_false, not_false_eq_true, D.bool.injEq, if_true, if_false, and_true, true_and, ty1, sz1, z1, ty2, sz2, z2, ty3, sz3, z3, ty4, sz4, z4, ty5, sz5, z5, ty6, sz6, z6, ty7, sz7, z7, ty8, sz8, z8, ty9, sz9, z9, ty10, sz10, z10, ty11, sz11, z11, ty12, sz12, z12, ty13, sz13, z13, ty14, sz14, z14, ty15, sz15, z15, ty16, sz16, z16, ty17, sz17, z17, ty18, sz18, z18, ty19, sz19, z19, ty23, sz23, z23, ty50, sz50, z50, k50, ty51, sz51, z51, k51, ty92, sz92, z92, dLen, dIdxA, dLoad, part, Ty.isA, Ty.fi, D.cells, D.cells?, dField, dFieldA, dIdx, dFill, allCell, D.isCell, els, chunk, rep, splice, hget, hset, cellsOf, Blk.isC, Blk.cs, Blk.mut, Blk.setCs, dStore, dBuild, dSlice, dBnd, List.getElem?_map, Option.map_some, Int.toNat_natCast, List.length_map, Nat.lt_irrefl, Nat.zero_lt_one, Nat.zero_lt_succ, Nat.le_refl, Nat.zero_add, Bool.false_eq_true, false_or, or_true, true_or, List.drop_zero, Int.natCast_nonneg, D.int.injEq, Int.zero_le_ofNat, Nat.lt_add_one, List.getElem?_nil, Nat.zero_le, List.take, List.drop, Nat.reduceMul, Nat.reduceLeDiff, Nat.reduceLT, Nat.reducePow, Nat.reduceBEq, Nat.reduceEqDiff, and_self, D.closedL, D.closed, Bool.and_self, bne_self_eq_false, beq_self_eq_true, bne, Bool.true_and, Bool.and_true, Bool.or_true, Bool.or_false, Bool.true_or, Bool.false_or, Bool.and_false, Bool.false_and, List.all_cons, List.all_nil, List.all, List.replicate, exists_const, okK, dEqO, Option.isSome, nc0, nc1, nc2, nc3, nc4, nc5, nc6, nc7, nc8, nc9, nc10, nc11, nc12, wl0, wl1, wl2, wl3, wl4, wl5, wl6, wl7, wl8, wl9, wl10, wl11, wl12, Int.reduceAdd, Int.reduceLT, Int.reduceLE, Int.reduceToNat, Int.reduceEq, Int.reduceSub, Int.reduceBEq, Int.reduceBNe, List.length_singleton, Nat.reduceBNe])
            | (refine .body (by kernel_rfl) (PDen.to (r1) ?_))
            | (refine PCall.to (by kernel_rfl) (r1) ?_)
            | (refine .body (by kernel_rfl) (PDen.to (r3) ?_))
            | (refine PCall.to (by kernel_rfl) (r3) ?_)
            | (refine .body (by kernel_rfl) (PDen.to (kfitP _ _ _) ?_))
            | (refine PCall.to (by kernel_rfl) (kfitP _ _ _) ?_)
            | (refine .body (by kernel_rfl) (PDen.to (kfitR _ _ _) ?_))
            | (refine PCall.to (by kernel_rfl) (kfitR _ _ _) ?_)
            | (refine .body (by kernel_rfl) (PDen.to (ktextP ht _ _ _) ?_))
            | (refine PCall.to (by kernel_rfl) (ktextP ht _ _ _) ?_)
            | (refine .body (by kernel_rfl) (PDen.to (ofK _ _ _) ?_))
            | (refine PCall.to (by kernel_rfl) (ofK _ _ _) ?_)
            | (refine .body (by kernel_rfl) (PDen.to (below _ _ _ _ _ _) ?_))
            | (refine PCall.to (by kernel_rfl) (below _ _ _ _ _ _) ?_)
            | (refine .body (by kernel_rfl) (PDen.to (awake41 ht hg) ?_))
            | (refine PCall.to (by kernel_rfl) (awake41 ht hg) ?_)
            | (refine ⟨9, by decide +kernel, ?_⟩)
            | (refine ⟨11, by decide +kernel, ?_⟩)
            | (refine ⟨12, by decide +kernel, ?_⟩)
            | (refine ⟨by decide +kernel, ?_⟩)
            | rfl
            | split)
        · skip
          repeat' (first
            | (simp -implicitDefEqProofs (maxSteps := 1000000) only [*, Tryd.f11, ↓cAny_eq, ↓anyP_go, fillT, fillH, ↓cwp_scope, ↓cwp_label, ↓scope_normal, ↓scope_ret, ↓scope_exit, ↓cwp_skip, ↓cwp_region, ↓cwp_drawn, ↓cwp_seq, ↓cwp_cond, ↓cwp_block, ↓cwp_loop, ↓cwp_exit, ↓cwp_ret, ↓kont_normal, ↓kont_exit, ↓kont_ret, ↓block_normal, ↓block_ret, ↓block_exit, ↓then_normal, ↓then_ret, ↓then_exit, ↓finF_normal, ↓finF_ret, ↓cseq_nil, ↓cseq_free, ↓cseq_cons, ↓seqK_go, ↓anyK_go, ↓caq_zero, ↓caq_done, ↓caq_free, ↓caq_step, ↓cStep_move, ↓cStep_assign, ↓cStep_eq, ↓cPure_call, ↓reduceIte, keeps, wantD, callee, aop, ev, ofV, nth, List.cons_append, List.nil_append, List.append_nil, undL, putO, put, List.length_cons, List.length_nil, Nat.reduceSub, Nat.reduceAdd, dBinT, dBin, dUn, Option.map, List.getElem?_toArray, List.toList_toArray, List.getElem?_cons_succ, List.getElem?_cons_zero, Option.bind, ge_iff_le, gt_iff_lt, resD, resL, resV, beq_true, beq_false, Option.some.injEq, List.map, Bool.not_true, Bool.not_false, Bool.false_eq_true, exists_eq_left', Bool.not_eq_true', decide_eq_true_eq, decide_eq_false_iff_not, ite_not, decide_true, decide_false, not_true_eq_false, not_false_eq_true, D.bool.injEq, if_true, if_false, and_true, true_and, ty1, sz1, z1, ty2, sz2, z2, ty3, sz3, z3, ty4, sz4, z4, ty5, sz5, z5, ty6, sz6, z6, ty7, sz7, z7, ty8, sz8, z8, ty9, sz9, z9, ty10, sz10, z10, ty11, sz11, z11, ty12, sz12, z12, ty13, sz13, z13, ty14, sz14, z14, ty15, sz15, z15, ty16, sz16, z16, ty17, sz17, z17, ty18, sz18, z18, ty19, sz19, z19, ty23, sz23, z23, ty50, sz50, z50, k50, ty51, sz51, z51, k51, ty92, sz92, z92, dLen, dIdxA, dLoad, part, Ty.isA, Ty.fi, D.cells, D.cells?, dField, dFieldA, dIdx, dFill, allCell, D.isCell, els, chunk, rep, splice, hget, hset, cellsOf, Blk.isC, Blk.cs, Blk.mut, Blk.setCs, dStore, dBuild, dSlice, dBnd, List.getElem?_map, Option.map_some, Int.toNat_natCast, List.length_map, Nat.lt_irrefl, Nat.zero_lt_one, Nat.zero_lt_succ, Nat.le_refl, Nat.zero_add, Bool.false_eq_true, false_or, or_true, true_or, List.drop_zero, Int.natCast_nonneg, D.int.injEq, Int.zero_le_ofNat, Nat.lt_add_one, List.getElem?_nil, Nat.zero_le, List.take, List.drop, Nat.reduceMul, Nat.reduceLeDiff, Nat.reduceLT, Nat.reducePow, Nat.reduceBEq, Nat.reduceEqDiff, and_self, D.closedL, D.closed, Bool.and_self, bne_self_eq_false, beq_self_eq_true, bne, Bool.true_and, Bool.and_true, Bool.or_true, Bool.or_false, Bool.true_or, Bool.false_or, Bool.and_false, Bool.false_and, List.all_cons, List.all_nil, List.all, List.replicate, exists_const, okK, dEqO, Option.isSome, nc0, nc1, nc2, nc3, nc4, nc5, nc6, nc7, nc8, nc9, nc10, nc11, nc12, wl0, wl1, wl2, wl3, wl4, wl5, wl6, wl7, wl8, wl9, wl10, wl11, wl12, Int.reduceAdd, Int.reduceLT, Int.reduceLE, Int.reduceToNat, Int.reduceEq, Int.reduceSub, Int.reduceBEq, Int.reduceBNe, List.length_singleton, Nat.reduceBNe])
            | (refine .body (by kernel_rfl) (PDen.to (r1) ?_))
            | (refine PCall.to (by kernel_rfl) (r1) ?_)
            | (refine .body (by kernel_rfl) (PDen.to (r3) ?_))
            | (refine PCall.to (by kernel_rfl) (r3) ?_)
            | (refine .body (by kernel_rfl) (PDen.to (kfitP _ _ _) ?_))
            | (refine PCall.to (by kernel_rfl) (kfitP _ _ _) ?_)
            | (refine .body (by kernel_rfl) (PDen.to (kfitR _ _ _) ?_))
            | (refine PCall.to (by kernel_rfl) (kfitR _ _ _) ?_)
            | (refine .body (by kernel_rfl) (PDen.to (ktextP ht _ _ _) ?_))
            | (refine PCall.to (by kernel_rfl) (ktextP ht _ _ _) ?_)
            | (refine .body (by kernel_rfl) (PDen.to (ofK _ _ _) ?_))
            | (refine PCall.to (by kernel_rfl) (ofK _ _ _) ?_)
            | (refine .body (by kernel_rfl) (PDen.to (below _ _ _ _ _ _) ?_))
            | (refine PCall.to (by kernel_rfl) (below _ _ _ _ _ _) ?_)
            | (refine .body (by kernel_rfl) (PDen.to (awake41 ht hg) ?_))
            | (refine PCall.to (by kernel_rfl) (awake41 ht hg) ?_)
            | (refine ⟨9, by decide +kernel, ?_⟩)
            | (refine ⟨11, by decide +kernel, ?_⟩)
            | (refine ⟨12, by decide +kernel, ?_⟩)
            | (refine ⟨by decide +kernel, ?_⟩)
            | rfl
            | split)
      · have hf' : kFit a b = false := by simpa using hf
        clear hf
        have r3 := True.intro
        rcases below_tri a b c a' b' c' with ⟨t1, t2, t3⟩ | ⟨t1, t2, t3⟩ | ⟨t1, t2, rfl, rfl, rfl⟩
        · have hE := dEq3 t3
          clear t3
          cases t4 : kBelow a' b' c' d0 d1 d2
          · skip
            repeat' (first
              | (simp -implicitDefEqProofs (maxSteps := 1000000) only [*, Tryd.f11, ↓cAny_eq, ↓anyP_go, fillT, fillH, ↓cwp_scope, ↓cwp_label, ↓scope_normal, ↓scope_ret, ↓scope_exit, ↓cwp_skip, ↓cwp_region, ↓cwp_drawn, ↓cwp_seq, ↓cwp_cond, ↓cwp_block, ↓cwp_loop, ↓cwp_exit, ↓cwp_ret, ↓kont_normal, ↓kont_exit, ↓kont_ret, ↓block_normal, ↓block_ret, ↓block_exit, ↓then_normal, ↓then_ret, ↓then_exit, ↓finF_normal, ↓finF_ret, ↓cseq_nil, ↓cseq_free, ↓cseq_cons, ↓seqK_go, ↓anyK_go, ↓caq_zero, ↓caq_done, ↓caq_free, ↓caq_step, ↓cStep_move, ↓cStep_assign, ↓cStep_eq, ↓cPure_call, ↓reduceIte, keeps, wantD, callee, aop, ev, ofV, nth, List.cons_append, List.nil_append, List.append_nil, undL, putO, put, List.length_cons, List.length_nil, Nat.reduceSub, Nat.reduceAdd, dBinT, dBin, dUn, Option.map, List.getElem?_toArray, List.toList_toArray, List.getElem?_cons_succ, List.getElem?_cons_zero, Option.bind, ge_iff_le, gt_iff_lt, resD, resL, resV, beq_true, beq_false, Option.some.injEq, List.map, Bool.not_true, Bool.not_false, Bool.false_eq_true, exists_eq_left', Bool.not_eq_true', decide_eq_true_eq, decide_eq_false_iff_not, ite_not, decide_true, decide_false, not_true_eq_false, not_false_eq_true, D.bool.injEq, if_true, if_false, and_true, true_and, ty1, sz1, z1, ty2, sz2, z2, ty3, sz3, z3, ty4, sz4, z4, ty5, sz5, z5, ty6, sz6, z6, ty7, sz7, z7, ty8, sz8, z8, ty9, sz9, z9, ty10, sz10, z10, ty11, sz11, z11, ty12, sz12, z12, ty13, sz13, z13, ty14, sz14, z14, ty15, sz15, z15, ty16, sz16, z16, ty17, sz17, z17, ty18, sz18, z18, ty19, sz19, z19, ty23, sz23, z23, ty50, sz50, z50, k50, ty51, sz51, z51, k51, ty92, sz92, z92, dLen, dIdxA, dLoad, part, Ty.isA, Ty.fi, D.cells, D.cells?, dField, dFieldA, dIdx, dFill, allCell, D.isCell, els, chunk, rep, splice, hget, hset, cellsOf, Blk.isC, Blk.cs, Blk.mut, Blk.setCs, dStore, dBuild, dSlice, dBnd, List.getElem?_map, Option.map_some, Int.toNat_natCast, List.length_map, Nat.lt_irrefl, Nat.zero_lt_one, Nat.zero_lt_succ, Nat.le_refl, Nat.zero_add, Bool.false_eq_true, false_or, or_true, true_or, List.drop_zero, Int.natCast_nonneg, D.int.injEq, Int.zero_le_ofNat, Nat.lt_add_one, List.getElem?_nil, Nat.zero_le, List.take, List.drop, Nat.reduceMul, Nat.reduceLeDiff, Nat.reduceLT, Nat.reducePow, Nat.reduceBEq, Nat.reduceEqDiff, and_self, D.closedL, D.closed, Bool.and_self, bne_self_eq_false, beq_self_eq_true, bne, Bool.true_and, Bool.and_true, Bool.or_true, Bool.or_false, Bool.true_or, Bool.false_or, Bool.and_false, Bool.false_and, List.all_cons, List.all_nil, List.all, List.replicate, exists_const, okK, dEqO, Option.isSome, nc0, nc1, nc2, nc3, nc4, nc5, nc6, nc7, nc8, nc9, nc10, nc11, nc12, wl0, wl1, wl2, wl3, wl4, wl5, wl6, wl7, wl8, wl9, wl10, wl11, wl12, Int.reduceAdd, Int.reduceLT, Int.reduceLE, Int.reduceToNat, Int.reduceEq, Int.reduceSub, Int.reduceBEq, Int.reduceBNe, List.length_singleton, Nat.reduceBNe])
              | (refine .body (by kernel_rfl) (PDen.to (r1) ?_))
              | (refine PCall.to (by kernel_rfl) (r1) ?_)
              | (refine .body (by kernel_rfl) (PDen.to (r3) ?_))
              | (refine PCall.to (by kernel_rfl) (r3) ?_)
              | (refine .body (by kernel_rfl) (PDen.to (kfitP _ _ _) ?_))
              | (refine PCall.to (by kernel_rfl) (kfitP _ _ _) ?_)
              | (refine .body (by kernel_rfl) (PDen.to (kfitR _ _ _) ?_))
              | (refine PCall.to (by kernel_rfl) (kfitR _ _ _) ?_)
              | (refine .body (by kernel_rfl) (PDen.to (ktextP ht _ _ _) ?_))
              | (refine PCall.to (by kernel_rfl) (ktextP ht _ _ _) ?_)
              | (refine .body (by kernel_rfl) (PDen.to (ofK _ _ _) ?_))
              | (refine PCall.to (by kernel_rfl) (ofK _ _ _) ?_)
              | (refine .body (by kernel_rfl) (PDen.to (below _ _ _ _ _ _) ?_))
              | (refine PCall.to (by kernel_rfl) (below _ _ _ _ _ _) ?_)
              | (refine .body (by kernel_rfl) (PDen.to (awake41 ht hg) ?_))
              | (refine PCall.to (by kernel_rfl) (awake41 ht hg) ?_)
              | (refine ⟨9, by decide +kernel, ?_⟩)
              | (refine ⟨11, by decide +kernel, ?_⟩)
              | (refine ⟨12, by decide +kernel, ?_⟩)
              | (refine ⟨by decide +kernel, ?_⟩)
              | rfl
              | split)
          · have t5 := below_trans t1 t4
            skip
            repeat' (first
              | (simp -implicitDefEqProofs (maxSteps := 1000000) only [*, Tryd.f11, ↓cAny_eq, ↓anyP_go, fillT, fillH, ↓cwp_scope, ↓cwp_label, ↓scope_normal, ↓scope_ret, ↓scope_exit, ↓cwp_skip, ↓cwp_region, ↓cwp_drawn, ↓cwp_seq, ↓cwp_cond, ↓cwp_block, ↓cwp_loop, ↓cwp_exit, ↓cwp_ret, ↓kont_normal, ↓kont_exit, ↓kont_ret, ↓block_normal, ↓block_ret, ↓block_exit, ↓then_normal, ↓then_ret, ↓then_exit, ↓finF_normal, ↓finF_ret, ↓cseq_nil, ↓cseq_free, ↓cseq_cons, ↓seqK_go, ↓anyK_go, ↓caq_zero, ↓caq_done, ↓caq_free, ↓caq_step, ↓cStep_move, ↓cStep_assign, ↓cStep_eq, ↓cPure_call, ↓reduceIte, keeps, wantD, callee, aop, ev, ofV, nth, List.cons_append, List.nil_append, List.append_nil, undL, putO, put, List.length_cons, List.length_nil, Nat.reduceSub, Nat.reduceAdd, dBinT, dBin, dUn, Option.map, List.getElem?_toArray, List.toList_toArray, List.getElem?_cons_succ, List.getElem?_cons_zero, Option.bind, ge_iff_le, gt_iff_lt, resD, resL, resV, beq_true, beq_false, Option.some.injEq, List.map, Bool.not_true, Bool.not_false, Bool.false_eq_true, exists_eq_left', Bool.not_eq_true', decide_eq_true_eq, decide_eq_false_iff_not, ite_not, decide_true, decide_false, not_true_eq_false, not_false_eq_true, D.bool.injEq, if_true, if_false, and_true, true_and, ty1, sz1, z1, ty2, sz2, z2, ty3, sz3, z3, ty4, sz4, z4, ty5, sz5, z5, ty6, sz6, z6, ty7, sz7, z7, ty8, sz8, z8, ty9, sz9, z9, ty10, sz10, z10, ty11, sz11, z11, ty12, sz12, z12, ty13, sz13, z13, ty14, sz14, z14, ty15, sz15, z15, ty16, sz16, z16, ty17, sz17, z17, ty18, sz18, z18, ty19, sz19, z19, ty23, sz23, z23, ty50, sz50, z50, k50, ty51, sz51, z51, k51, ty92, sz92, z92, dLen, dIdxA, dLoad, part, Ty.isA, Ty.fi, D.cells, D.cells?, dField, dFieldA, dIdx, dFill, allCell, D.isCell, els, chunk, rep, splice, hget, hset, cellsOf, Blk.isC, Blk.cs, Blk.mut, Blk.setCs, dStore, dBuild, dSlice, dBnd, List.getElem?_map, Option.map_some, Int.toNat_natCast, List.length_map, Nat.lt_irrefl, Nat.zero_lt_one, Nat.zero_lt_succ, Nat.le_refl, Nat.zero_add, Bool.false_eq_true, false_or, or_true, true_or, List.drop_zero, Int.natCast_nonneg, D.int.injEq, Int.zero_le_ofNat, Nat.lt_add_one, List.getElem?_nil, Nat.zero_le, List.take, List.drop, Nat.reduceMul, Nat.reduceLeDiff, Nat.reduceLT, Nat.reducePow, Nat.reduceBEq, Nat.reduceEqDiff, and_self, D.closedL, D.closed, Bool.and_self, bne_self_eq_false, beq_self_eq_true, bne, Bool.true_and, Bool.and_true, Bool.or_true, Bool.or_false, Bool.true_or, Bool.false_or, Bool.and_false, Bool.false_and, List.all_cons, List.all_nil, List.all, List.replicate, exists_const, okK, dEqO, Option.isSome, nc0, nc1, nc2, nc3, nc4, nc5, nc6, nc7, nc8, nc9, nc10, nc11, nc12, wl0, wl1, wl2, wl3, wl4, wl5, wl6, wl7, wl8, wl9, wl10, wl11, wl12, Int.reduceAdd, Int.reduceLT, Int.reduceLE, Int.reduceToNat, Int.reduceEq, Int.reduceSub, Int.reduceBEq, Int.reduceBNe, List.length_singleton, Nat.reduceBNe])
              | (refine .body (by kernel_rfl) (PDen.to (r1) ?_))
              | (refine PCall.to (by kernel_rfl) (r1) ?_)
              | (refine .body (by kernel_rfl) (PDen.to (r3) ?_))
              | (refine PCall.to (by kernel_rfl) (r3) ?_)
              | (refine .body (by kernel_rfl) (PDen.to (kfitP _ _ _) ?_))
              | (refine PCall.to (by kernel_rfl) (kfitP _ _ _) ?_)
              | (refine .body (by kernel_rfl) (PDen.to (kfitR _ _ _) ?_))
              | (refine PCall.to (by kernel_rfl) (kfitR _ _ _) ?_)
              | (refine .body (by kernel_rfl) (PDen.to (ktextP ht _ _ _) ?_))
              | (refine PCall.to (by kernel_rfl) (ktextP ht _ _ _) ?_)
              | (refine .body (by kernel_rfl) (PDen.to (ofK _ _ _) ?_))
              | (refine PCall.to (by kernel_rfl) (ofK _ _ _) ?_)
              | (refine .body (by kernel_rfl) (PDen.to (below _ _ _ _ _ _) ?_))
              | (refine PCall.to (by kernel_rfl) (below _ _ _ _ _ _) ?_)
              | (refine .body (by kernel_rfl) (PDen.to (awake41 ht hg) ?_))
              | (refine PCall.to (by kernel_rfl) (awake41 ht hg) ?_)
              | (refine ⟨9, by decide +kernel, ?_⟩)
              | (refine ⟨11, by decide +kernel, ?_⟩)
              | (refine ⟨12, by decide +kernel, ?_⟩)
              | (refine ⟨by decide +kernel, ?_⟩)
              | rfl
              | split)
        · have hE := dEq3 t3
          clear t3
          repeat' (first
            | (simp -implicitDefEqProofs (maxSteps := 1000000) only [*, Tryd.f11, ↓cAny_eq, ↓anyP_go, fillT, fillH, ↓cwp_scope, ↓cwp_label, ↓scope_normal, ↓scope_ret, ↓scope_exit, ↓cwp_skip, ↓cwp_region, ↓cwp_drawn, ↓cwp_seq, ↓cwp_cond, ↓cwp_block, ↓cwp_loop, ↓cwp_exit, ↓cwp_ret, ↓kont_normal, ↓kont_exit, ↓kont_ret, ↓block_normal, ↓block_ret, ↓block_exit, ↓then_normal, ↓then_ret, ↓then_exit, ↓finF_normal, ↓finF_ret, ↓cseq_nil, ↓cseq_free, ↓cseq_cons, ↓seqK_go, ↓anyK_go, ↓caq_zero, ↓caq_done, ↓caq_free, ↓caq_step, ↓cStep_move, ↓cStep_assign, ↓cStep_eq, ↓cPure_call, ↓reduceIte, keeps, wantD, callee, aop, ev, ofV, nth, List.cons_append, List.nil_append, List.append_nil, undL, putO, put, List.length_cons, List.length_nil, Nat.reduceSub, Nat.reduceAdd, dBinT, dBin, dUn, Option.map, List.getElem?_toArray, List.toList_toArray, List.getElem?_cons_succ, List.getElem?_cons_zero, Option.bind, ge_iff_le, gt_iff_lt, resD, resL, resV, beq_true, beq_false, Option.some.injEq, List.map, Bool.not_true, Bool.not_false, Bool.false_eq_true, exists_eq_left', Bool.not_eq_true', decide_eq_true_eq, decide_eq_false_iff_not, ite_not, decide_true, decide_false, not_true_eq_false, not_false_eq_true, D.bool.injEq, if_true, if_false, and_true, true_and, ty1, sz1, z1, ty2, sz2, z2, ty3, sz3, z3, ty4, sz4, z4, ty5, sz5, z5, ty6, sz6, z6, ty7, sz7, z7, ty8, sz8, z8, ty9, sz9, z9, ty10, sz10, z10, ty11, sz11, z11, ty12, sz12, z12, ty13, sz13, z13, ty14, sz14, z14, ty15, sz15, z15, ty16, sz16, z16, ty17, sz17, z17, ty18, sz18, z18, ty19, sz19, z19, ty23, sz23, z23, ty50, sz50, z50, k50, ty51, sz51, z51, k51, ty92, sz92, z92, dLen, dIdxA, dLoad, part, Ty.isA, Ty.fi, D.cells, D.cells?, dField, dFieldA, dIdx, dFill, allCell, D.isCell, els, chunk, rep, splice, hget, hset, cellsOf, Blk.isC, Blk.cs, Blk.mut, Blk.setCs, dStore, dBuild, dSlice, dBnd, List.getElem?_map, Option.map_some, Int.toNat_natCast, List.length_map, Nat.lt_irrefl, Nat.zero_lt_one, Nat.zero_lt_succ, Nat.le_refl, Nat.zero_add, Bool.false_eq_true, false_or, or_true, true_or, List.drop_zero, Int.natCast_nonneg, D.int.injEq, Int.zero_le_ofNat, Nat.lt_add_one, List.getElem?_nil, Nat.zero_le, List.take, List.drop, Nat.reduceMul, Nat.reduceLeDiff, Nat.reduceLT, Nat.reducePow, Nat.reduceBEq, Nat.reduceEqDiff, and_self, D.closedL, D.closed, Bool.and_self, bne_self_eq_false, beq_self_eq_true, bne, Bool.true_and, Bool.and_true, Bool.or_true, Bool.or_false, Bool.true_or, Bool.false_or, Bool.and_false, Bool.false_and, List.all_cons, List.all_nil, List.all, List.replicate, exists_const, okK, dEqO, Option.isSome, nc0, nc1, nc2, nc3, nc4, nc5, nc6, nc7, nc8, nc9, nc10, nc11, nc12, wl0, wl1, wl2, wl3, wl4, wl5, wl6, wl7, wl8, wl9, wl10, wl11, wl12, Int.reduceAdd, Int.reduceLT, Int.reduceLE, Int.reduceToNat, Int.reduceEq, Int.reduceSub, Int.reduceBEq, Int.reduceBNe, List.length_singleton, Nat.reduceBNe])
            | (refine .body (by kernel_rfl) (PDen.to (r1) ?_))
            | (refine PCall.to (by kernel_rfl) (r1) ?_)
            | (refine .body (by kernel_rfl) (PDen.to (r3) ?_))
            | (refine PCall.to (by kernel_rfl) (r3) ?_)
            | (refine .body (by kernel_rfl) (PDen.to (kfitP _ _ _) ?_))
            | (refine PCall.to (by kernel_rfl) (kfitP _ _ _) ?_)
            | (refine .body (by kernel_rfl) (PDen.to (kfitR _ _ _) ?_))
            | (refine PCall.to (by kernel_rfl) (kfitR _ _ _) ?_)
            | (refine .body (by kernel_rfl) (PDen.to (ktextP ht _ _ _) ?_))
            | (refine PCall.to (by kernel_rfl) (ktextP ht _ _ _) ?_)
            | (refine .body (by kernel_rfl) (PDen.to (ofK _ _ _) ?_))
            | (refine PCall.to (by kernel_rfl) (ofK _ _ _) ?_)
            | (refine .body (by kernel_rfl) (PDen.to (below _ _ _ _ _ _) ?_))
            | (refine PCall.to (by kernel_rfl) (below _ _ _ _ _ _) ?_)
            | (refine .body (by kernel_rfl) (PDen.to (awake41 ht hg) ?_))
            | (refine PCall.to (by kernel_rfl) (awake41 ht hg) ?_)
            | (refine ⟨9, by decide +kernel, ?_⟩)
            | (refine ⟨11, by decide +kernel, ?_⟩)
            | (refine ⟨12, by decide +kernel, ?_⟩)
            | (refine ⟨by decide +kernel, ?_⟩)
            | rfl
            | split)
        · skip
          repeat' (first
            | (simp -implicitDefEqProofs (maxSteps := 1000000) only [*, Tryd.f11, ↓cAny_eq, ↓anyP_go, fillT, fillH, ↓cwp_scope, ↓cwp_label, ↓scope_normal, ↓scope_ret, ↓scope_exit, ↓cwp_skip, ↓cwp_region, ↓cwp_drawn, ↓cwp_seq, ↓cwp_cond, ↓cwp_block, ↓cwp_loop, ↓cwp_exit, ↓cwp_ret, ↓kont_normal, ↓kont_exit, ↓kont_ret, ↓block_normal, ↓block_ret, ↓block_exit, ↓then_normal, ↓then_ret, ↓then_exit, ↓finF_normal, ↓finF_ret, ↓cseq_nil, ↓cseq_free, ↓cseq_cons, ↓seqK_go, ↓anyK_go, ↓caq_zero, ↓caq_done, ↓caq_free, ↓caq_step, ↓cStep_move, ↓cStep_assign, ↓cStep_eq, ↓cPure_call, ↓reduceIte, keeps, wantD, callee, aop, ev, ofV, nth, List.cons_append, List.nil_append, List.append_nil, undL, putO, put, List.length_cons, List.length_nil, Nat.reduceSub, Nat.reduceAdd, dBinT, dBin, dUn, Option.map, List.getElem?_toArray, List.toList_toArray, List.getElem?_cons_succ, List.getElem?_cons_zero, Option.bind, ge_iff_le, gt_iff_lt, resD, resL, resV, beq_true, beq_false, Option.some.injEq, List.map, Bool.not_true, Bool.not_false, Bool.false_eq_true, exists_eq_left', Bool.not_eq_true', decide_eq_true_eq, decide_eq_false_iff_not, ite_not, decide_true, decide_false, not_true_eq_false, not_false_eq_true, D.bool.injEq, if_true, if_false, and_true, true_and, ty1, sz1, z1, ty2, sz2, z2, ty3, sz3, z3, ty4, sz4, z4, ty5, sz5, z5, ty6, sz6, z6, ty7, sz7, z7, ty8, sz8, z8, ty9, sz9, z9, ty10, sz10, z10, ty11, sz11, z11, ty12, sz12, z12, ty13, sz13, z13, ty14, sz14, z14, ty15, sz15, z15, ty16, sz16, z16, ty17, sz17, z17, ty18, sz18, z18, ty19, sz19, z19, ty23, sz23, z23, ty50, sz50, z50, k50, ty51, sz51, z51, k51, ty92, sz92, z92, dLen, dIdxA, dLoad, part, Ty.isA, Ty.fi, D.cells, D.cells?, dField, dFieldA, dIdx, dFill, allCell, D.isCell, els, chunk, rep, splice, hget, hset, cellsOf, Blk.isC, Blk.cs, Blk.mut, Blk.setCs, dStore, dBuild, dSlice, dBnd, List.getElem?_map, Option.map_some, Int.toNat_natCast, List.length_map, Nat.lt_irrefl, Nat.zero_lt_one, Nat.zero_lt_succ, Nat.le_refl, Nat.zero_add, Bool.false_eq_true, false_or, or_true, true_or, List.drop_zero, Int.natCast_nonneg, D.int.injEq, Int.zero_le_ofNat, Nat.lt_add_one, List.getElem?_nil, Nat.zero_le, List.take, List.drop, Nat.reduceMul, Nat.reduceLeDiff, Nat.reduceLT, Nat.reducePow, Nat.reduceBEq, Nat.reduceEqDiff, and_self, D.closedL, D.closed, Bool.and_self, bne_self_eq_false, beq_self_eq_true, bne, Bool.true_and, Bool.and_true, Bool.or_true, Bool.or_false, Bool.true_or, Bool.false_or, Bool.and_false, Bool.false_and, List.all_cons, List.all_nil, List.all, List.replicate, exists_const, okK, dEqO, Option.isSome, nc0, nc1, nc2, nc3, nc4, nc5, nc6, nc7, nc8, nc9, nc10, nc11, nc12, wl0, wl1, wl2, wl3, wl4, wl5, wl6, wl7, wl8, wl9, wl10, wl11, wl12, Int.reduceAdd, Int.reduceLT, Int.reduceLE, Int.reduceToNat, Int.reduceEq, Int.reduceSub, Int.reduceBEq, Int.reduceBNe, List.length_singleton, Nat.reduceBNe])
            | (refine .body (by kernel_rfl) (PDen.to (r1) ?_))
            | (refine PCall.to (by kernel_rfl) (r1) ?_)
            | (refine .body (by kernel_rfl) (PDen.to (r3) ?_))
            | (refine PCall.to (by kernel_rfl) (r3) ?_)
            | (refine .body (by kernel_rfl) (PDen.to (kfitP _ _ _) ?_))
            | (refine PCall.to (by kernel_rfl) (kfitP _ _ _) ?_)
            | (refine .body (by kernel_rfl) (PDen.to (kfitR _ _ _) ?_))
            | (refine PCall.to (by kernel_rfl) (kfitR _ _ _) ?_)
            | (refine .body (by kernel_rfl) (PDen.to (ktextP ht _ _ _) ?_))
            | (refine PCall.to (by kernel_rfl) (ktextP ht _ _ _) ?_)
            | (refine .body (by kernel_rfl) (PDen.to (ofK _ _ _) ?_))
            | (refine PCall.to (by kernel_rfl) (ofK _ _ _) ?_)
            | (refine .body (by kernel_rfl) (PDen.to (below _ _ _ _ _ _) ?_))
            | (refine PCall.to (by kernel_rfl) (below _ _ _ _ _ _) ?_)
            | (refine .body (by kernel_rfl) (PDen.to (awake41 ht hg) ?_))
            | (refine PCall.to (by kernel_rfl) (awake41 ht hg) ?_)
            | (refine ⟨9, by decide +kernel, ?_⟩)
            | (refine ⟨11, by decide +kernel, ?_⟩)
            | (refine ⟨12, by decide +kernel, ?_⟩)
            | (refine ⟨by decide +kernel, ?_⟩)
            | rfl
            | split)
    · have he' : (er == 0) = false := by simpa using he
      clear he hk
      by_cases hf : kFit a b = true
      · have r3 := read_text (E := E) a b c hf
        skip
        rcases below_tri a b c a' b' c' with ⟨t1, t2, t3⟩ | ⟨t1, t2, t3⟩ | ⟨t1, t2, rfl, rfl, rfl⟩
        · have hE := dEq3 t3
          clear t3
          cases t4 : kBelow a' b' c' d0 d1 d2
          · skip
            repeat' (first
              | (simp -implicitDefEqProofs (maxSteps := 1000000) only [*, Tryd.f11, ↓cAny_eq, ↓anyP_go, fillT, fillH, ↓cwp_scope, ↓cwp_label, ↓scope_normal, ↓scope_ret, ↓scope_exit, ↓cwp_skip, ↓cwp_region, ↓cwp_drawn, ↓cwp_seq, ↓cwp_cond, ↓cwp_block, ↓cwp_loop, ↓cwp_exit, ↓cwp_ret, ↓kont_normal, ↓kont_exit, ↓kont_ret, ↓block_normal, ↓block_ret, ↓block_exit, ↓then_normal, ↓then_ret, ↓then_exit, ↓finF_normal, ↓finF_ret, ↓cseq_nil, ↓cseq_free, ↓cseq_cons, ↓seqK_go, ↓anyK_go, ↓caq_zero, ↓caq_done, ↓caq_free, ↓caq_step, ↓cStep_move, ↓cStep_assign, ↓cStep_eq, ↓cPure_call, ↓reduceIte, keeps, wantD, callee, aop, ev, ofV, nth, List.cons_append, List.nil_append, List.append_nil, undL, putO, put, List.length_cons, List.length_nil, Nat.reduceSub, Nat.reduceAdd, dBinT, dBin, dUn, Option.map, List.getElem?_toArray, List.toList_toArray, List.getElem?_cons_succ, List.getElem?_cons_zero, Option.bind, ge_iff_le, gt_iff_lt, resD, resL, resV, beq_true, beq_false, Option.some.injEq, List.map, Bool.not_true, Bool.not_false, Bool.false_eq_true, exists_eq_left', Bool.not_eq_true', decide_eq_true_eq, decide_eq_false_iff_not, ite_not, decide_true, decide_false, not_true_eq_false, not_false_eq_true, D.bool.injEq, if_true, if_false, and_true, true_and, ty1, sz1, z1, ty2, sz2, z2, ty3, sz3, z3, ty4, sz4, z4, ty5, sz5, z5, ty6, sz6, z6, ty7, sz7, z7, ty8, sz8, z8, ty9, sz9, z9, ty10, sz10, z10, ty11, sz11, z11, ty12, sz12, z12, ty13, sz13, z13, ty14, sz14, z14, ty15, sz15, z15, ty16, sz16, z16, ty17, sz17, z17, ty18, sz18, z18, ty19, sz19, z19, ty23, sz23, z23, ty50, sz50, z50, k50, ty51, sz51, z51, k51, ty92, sz92, z92, dLen, dIdxA, dLoad, part, Ty.isA, Ty.fi, D.cells, D.cells?, dField, dFieldA, dIdx, dFill, allCell, D.isCell, els, chunk, rep, splice, hget, hset, cellsOf, Blk.isC, Blk.cs, Blk.mut, Blk.setCs, dStore, dBuild, dSlice, dBnd, List.getElem?_map, Option.map_some, Int.toNat_natCast, List.length_map, Nat.lt_irrefl, Nat.zero_lt_one, Nat.zero_lt_succ, Nat.le_refl, Nat.zero_add, Bool.false_eq_true, false_or, or_true, true_or, List.drop_zero, Int.natCast_nonneg, D.int.injEq, Int.zero_le_ofNat, Nat.lt_add_one, List.getElem?_nil, Nat.zero_le, List.take, List.drop, Nat.reduceMul, Nat.reduceLeDiff, Nat.reduceLT, Nat.reducePow, Nat.reduceBEq, Nat.reduceEqDiff, and_self, D.closedL, D.closed, Bool.and_self, bne_self_eq_false, beq_self_eq_true, bne, Bool.true_and, Bool.and_true, Bool.or_true, Bool.or_false, Bool.true_or, Bool.false_or, Bool.and_false, Bool.false_and, List.all_cons, List.all_nil, List.all, List.replicate, exists_const, okK, dEqO, Option.isSome, nc0, nc1, nc2, nc3, nc4, nc5, nc6, nc7, nc8, nc9, nc10, nc11, nc12, wl0, wl1, wl2, wl3, wl4, wl5, wl6, wl7, wl8, wl9, wl10, wl11, wl12, Int.reduceAdd, Int.reduceLT, Int.reduceLE, Int.reduceToNat, Int.reduceEq, Int.reduceSub, Int.reduceBEq, Int.reduceBNe, List.length_singleton, Nat.reduceBNe])
              | (refine .body (by kernel_rfl) (PDen.to (r1) ?_))
              | (refine PCall.to (by kernel_rfl) (r1) ?_)
              | (refine .body (by kernel_rfl) (PDen.to (r3) ?_))
              | (refine PCall.to (by kernel_rfl) (r3) ?_)
              | (refine .body (by kernel_rfl) (PDen.to (kfitP _ _ _) ?_))
              | (refine PCall.to (by kernel_rfl) (kfitP _ _ _) ?_)
              | (refine .body (by kernel_rfl) (PDen.to (kfitR _ _ _) ?_))
              | (refine PCall.to (by kernel_rfl) (kfitR _ _ _) ?_)
              | (refine .body (by kernel_rfl) (PDen.to (ktextP ht _ _ _) ?_))
              | (refine PCall.to (by kernel_rfl) (ktextP ht _ _ _) ?_)
              | (refine .body (by kernel_rfl) (PDen.to (ofK _ _ _) ?_))
              | (refine PCall.to (by kernel_rfl) (ofK _ _ _) ?_)
              | (refine .body (by kernel_rfl) (PDen.to (below _ _ _ _ _ _) ?_))
              | (refine PCall.to (by kernel_rfl) (below _ _ _ _ _ _) ?_)
              | (refine .body (by kernel_rfl) (PDen.to (awake41 ht hg) ?_))
              | (refine PCall.to (by kernel_rfl) (awake41 ht hg) ?_)
              | (refine ⟨9, by decide +kernel, ?_⟩)
              | (refine ⟨11, by decide +kernel, ?_⟩)
              | (refine ⟨12, by decide +kernel, ?_⟩)
              | (refine ⟨by decide +kernel, ?_⟩)
              | rfl
              | split)
          · have t5 := below_trans t1 t4
            skip
            repeat' (first
              | (simp -implicitDefEqProofs (maxSteps := 1000000) only [*, Tryd.f11, ↓cAny_eq, ↓anyP_go, fillT, fillH, ↓cwp_scope, ↓cwp_label, ↓scope_normal, ↓scope_ret, ↓scope_exit, ↓cwp_skip, ↓cwp_region, ↓cwp_drawn, ↓cwp_seq, ↓cwp_cond, ↓cwp_block, ↓cwp_loop, ↓cwp_exit, ↓cwp_ret, ↓kont_normal, ↓kont_exit, ↓kont_ret, ↓block_normal, ↓block_ret, ↓block_exit, ↓then_normal, ↓then_ret, ↓then_exit, ↓finF_normal, ↓finF_ret, ↓cseq_nil, ↓cseq_free, ↓cseq_cons, ↓seqK_go, ↓anyK_go, ↓caq_zero, ↓caq_done, ↓caq_free, ↓caq_step, ↓cStep_move, ↓cStep_assign, ↓cStep_eq, ↓cPure_call, ↓reduceIte, keeps, wantD, callee, aop, ev, ofV, nth, List.cons_append, List.nil_append, List.append_nil, undL, putO, put, List.length_cons, List.length_nil, Nat.reduceSub, Nat.reduceAdd, dBinT, dBin, dUn, Option.map, List.getElem?_toArray, List.toList_toArray, List.getElem?_cons_succ, List.getElem?_cons_zero, Option.bind, ge_iff_le, gt_iff_lt, resD, resL, resV, beq_true, beq_false, Option.some.injEq, List.map, Bool.not_true, Bool.not_false, Bool.false_eq_true, exists_eq_left', Bool.not_eq_true', decide_eq_true_eq, decide_eq_false_iff_not, ite_not, decide_true, decide_false, not_true_eq_false, not_false_eq_true, D.bool.injEq, if_true, if_false, and_true, true_and, ty1, sz1, z1, ty2, sz2, z2, ty3, sz3, z3, ty4, sz4, z4, ty5, sz5, z5, ty6, sz6, z6, ty7, sz7, z7, ty8, sz8, z8, ty9, sz9, z9, ty10, sz10, z10, ty11, sz11, z11, ty12, sz12, z12, ty13, sz13, z13, ty14, sz14, z14, ty15, sz15, z15, ty16, sz16, z16, ty17, sz17, z17, ty18, sz18, z18, ty19, sz19, z19, ty23, sz23, z23, ty50, sz50, z50, k50, ty51, sz51, z51, k51, ty92, sz92, z92, dLen, dIdxA, dLoad, part, Ty.isA, Ty.fi, D.cells, D.cells?, dField, dFieldA, dIdx, dFill, allCell, D.isCell, els, chunk, rep, splice, hget, hset, cellsOf, Blk.isC, Blk.cs, Blk.mut, Blk.setCs, dStore, dBuild, dSlice, dBnd, List.getElem?_map, Option.map_some, Int.toNat_natCast, List.length_map, Nat.lt_irrefl, Nat.zero_lt_one, Nat.zero_lt_succ, Nat.le_refl, Nat.zero_add, Bool.false_eq_true, false_or, or_true, true_or, List.drop_zero, Int.natCast_nonneg, D.int.injEq, Int.zero_le_ofNat, Nat.lt_add_one, List.getElem?_nil, Nat.zero_le, List.take, List.drop, Nat.reduceMul, Nat.reduceLeDiff, Nat.reduceLT, Nat.reducePow, Nat.reduceBEq, Nat.reduceEqDiff, and_self, D.closedL, D.closed, Bool.and_self, bne_self_eq_false, beq_self_eq_true, bne, Bool.true_and, Bool.and_true, Bool.or_true, Bool.or_false, Bool.true_or, Bool.false_or, Bool.and_false, Bool.false_and, List.all_cons, List.all_nil, List.all, List.replicate, exists_const, okK, dEqO, Option.isSome, nc0, nc1, nc2, nc3, nc4, nc5, nc6, nc7, nc8, nc9, nc10, nc11, nc12, wl0, wl1, wl2, wl3, wl4, wl5, wl6, wl7, wl8, wl9, wl10, wl11, wl12, Int.reduceAdd, Int.reduceLT, Int.reduceLE, Int.reduceToNat, Int.reduceEq, Int.reduceSub, Int.reduceBEq, Int.reduceBNe, List.length_singleton, Nat.reduceBNe])
              | (refine .body (by kernel_rfl) (PDen.to (r1) ?_))
              | (refine PCall.to (by kernel_rfl) (r1) ?_)
              | (refine .body (by kernel_rfl) (PDen.to (r3) ?_))
              | (refine PCall.to (by kernel_rfl) (r3) ?_)
              | (refine .body (by kernel_rfl) (PDen.to (kfitP _ _ _) ?_))
              | (refine PCall.to (by kernel_rfl) (kfitP _ _ _) ?_)
              | (refine .body (by kernel_rfl) (PDen.to (kfitR _ _ _) ?_))
              | (refine PCall.to (by kernel_rfl) (kfitR _ _ _) ?_)
              | (refine .body (by kernel_rfl) (PDen.to (ktextP ht _ _ _) ?_))
              | (refine PCall.to (by kernel_rfl) (ktextP ht _ _ _) ?_)
              | (refine .body (by kernel_rfl) (PDen.to (ofK _ _ _) ?_))
              | (refine PCall.to (by kernel_rfl) (ofK _ _ _) ?_)
              | (refine .body (by kernel_rfl) (PDen.to (below _ _ _ _ _ _) ?_))
              | (refine PCall.to (by kernel_rfl) (below _ _ _ _ _ _) ?_)
              | (refine .body (by kernel_rfl) (PDen.to (awake41 ht hg) ?_))
              | (refine PCall.to (by kernel_rfl) (awake41 ht hg) ?_)
              | (refine ⟨9, by decide +kernel, ?_⟩)
              | (refine ⟨11, by decide +kernel, ?_⟩)
              | (refine ⟨12, by decide +kernel, ?_⟩)
              | (refine ⟨by decide +kernel, ?_⟩)
              | rfl
              | split)
        · have hE := dEq3 t3
          clear t3
          repeat' (first
            | (simp -implicitDefEqProofs (maxSteps := 1000000) only [*, Tryd.f11, ↓cAny_eq, ↓anyP_go, fillT, fillH, ↓cwp_scope, ↓cwp_label, ↓scope_normal, ↓scope_ret, ↓scope_exit, ↓cwp_skip, ↓cwp_region, ↓cwp_drawn, ↓cwp_seq, ↓cwp_cond, ↓cwp_block, ↓cwp_loop, ↓cwp_exit, ↓cwp_ret, ↓kont_normal, ↓kont_exit, ↓kont_ret, ↓block_normal, ↓block_ret, ↓block_exit, ↓then_normal, ↓then_ret, ↓then_exit, ↓finF_normal, ↓finF_ret, ↓cseq_nil, ↓cseq_free, ↓cseq_cons, ↓seqK_go, ↓anyK_go, ↓caq_zero, ↓caq_done, ↓caq_free, ↓caq_step, ↓cStep_move, ↓cStep_assign, ↓cStep_eq, ↓cPure_call, ↓reduceIte, keeps, wantD, callee, aop, ev, ofV, nth, List.cons_append, List.nil_append, List.append_nil, undL, putO, put, List.length_cons, List.length_nil, Nat.reduceSub, Nat.reduceAdd, dBinT, dBin, dUn, Option.map, List.getElem?_toArray, List.toList_toArray, List.getElem?_cons_succ, List.getElem?_cons_zero, Option.bind, ge_iff_le, gt_iff_lt, resD, resL, resV, beq_true, beq_false, Option.some.injEq, List.map, Bool.not_true, Bool.not_false, Bool.false_eq_true, exists_eq_left', Bool.not_eq_true', decide_eq_true_eq, decide_eq_false_iff_not, ite_not, decide_true, decide_false, not_true_eq_false, not_false_eq_true, D.bool.injEq, if_true, if_false, and_true, true_and, ty1, sz1, z1, ty2, sz2, z2, ty3, sz3, z3, ty4, sz4, z4, ty5, sz5, z5, ty6, sz6, z6, ty7, sz7, z7, ty8, sz8, z8, ty9, sz9, z9, ty10, sz10, z10, ty11, sz11, z11, ty12, sz12, z12, ty13, sz13, z13, ty14, sz14, z14, ty15, sz15, z15, ty16, sz16, z16, ty17, sz17, z17, ty18, sz18, z18, ty19, sz19, z19, ty23, sz23, z23, ty50, sz50, z50, k50, ty51, sz51, z51, k51, ty92, sz92, z92, dLen, dIdxA, dLoad, part, Ty.isA, Ty.fi, D.cells, D.cells?, dField, dFieldA, dIdx, dFill, allCell, D.isCell, els, chunk, rep, splice, hget, hset, cellsOf, Blk.isC, Blk.cs, Blk.mut, Blk.setCs, dStore, dBuild, dSlice, dBnd, List.getElem?_map, Option.map_some, Int.toNat_natCast, List.length_map, Nat.lt_irrefl, Nat.zero_lt_one, Nat.zero_lt_succ, Nat.le_refl, Nat.zero_add, Bool.false_eq_true, false_or, or_true, true_or, List.drop_zero, Int.natCast_nonneg, D.int.injEq, Int.zero_le_ofNat, Nat.lt_add_one, List.getElem?_nil, Nat.zero_le, List.take, List.drop, Nat.reduceMul, Nat.reduceLeDiff, Nat.reduceLT, Nat.reducePow, Nat.reduceBEq, Nat.reduceEqDiff, and_self, D.closedL, D.closed, Bool.and_self, bne_self_eq_false, beq_self_eq_true, bne, Bool.true_and, Bool.and_true, Bool.or_true, Bool.or_false, Bool.true_or, Bool.false_or, Bool.and_false, Bool.false_and, List.all_cons, List.all_nil, List.all, List.replicate, exists_const, okK, dEqO, Option.isSome, nc0, nc1, nc2, nc3, nc4, nc5, nc6, nc7, nc8, nc9, nc10, nc11, nc12, wl0, wl1, wl2, wl3, wl4, wl5, wl6, wl7, wl8, wl9, wl10, wl11, wl12, Int.reduceAdd, Int.reduceLT, Int.reduceLE, Int.reduceToNat, Int.reduceEq, Int.reduceSub, Int.reduceBEq, Int.reduceBNe, List.length_singleton, Nat.reduceBNe])
            | (refine .body (by kernel_rfl) (PDen.to (r1) ?_))
            | (refine PCall.to (by kernel_rfl) (r1) ?_)
            | (refine .body (by kernel_rfl) (PDen.to (r3) ?_))
            | (refine PCall.to (by kernel_rfl) (r3) ?_)
            | (refine .body (by kernel_rfl) (PDen.to (kfitP _ _ _) ?_))
            | (refine PCall.to (by kernel_rfl) (kfitP _ _ _) ?_)
            | (refine .body (by kernel_rfl) (PDen.to (kfitR _ _ _) ?_))
            | (refine PCall.to (by kernel_rfl) (kfitR _ _ _) ?_)
            | (refine .body (by kernel_rfl) (PDen.to (ktextP ht _ _ _) ?_))
            | (refine PCall.to (by kernel_rfl) (ktextP ht _ _ _) ?_)
            | (refine .body (by kernel_rfl) (PDen.to (ofK _ _ _) ?_))
            | (refine PCall.to (by kernel_rfl) (ofK _ _ _) ?_)
            | (refine .body (by kernel_rfl) (PDen.to (below _ _ _ _ _ _) ?_))
            | (refine PCall.to (by kernel_rfl) (below _ _ _ _ _ _) ?_)
            | (refine .body (by kernel_rfl) (PDen.to (awake41 ht hg) ?_))
            | (refine PCall.to (by kernel_rfl) (awake41 ht hg) ?_)
            | (refine ⟨9, by decide +kernel, ?_⟩)
            | (refine ⟨11, by decide +kernel, ?_⟩)
            | (refine ⟨12, by decide +kernel, ?_⟩)
            | (refine ⟨by decide +kernel, ?_⟩)
            | rfl
            | split)
        · skip
          repeat' (first
            | (simp -implicitDefEqProofs (maxSteps := 1000000) only [*, Tryd.f11, ↓cAny_eq, ↓anyP_go, fillT, fillH, ↓cwp_scope, ↓cwp_label, ↓scope_normal, ↓scope_ret, ↓scope_exit, ↓cwp_skip, ↓cwp_region, ↓cwp_drawn, ↓cwp_seq, ↓cwp_cond, ↓cwp_block, ↓cwp_loop, ↓cwp_exit, ↓cwp_ret, ↓kont_normal, ↓kont_exit, ↓kont_ret, ↓block_normal, ↓block_ret, ↓block_exit, ↓then_normal, ↓then_ret, ↓then_exit, ↓finF_normal, ↓finF_ret, ↓cseq_nil, ↓cseq_free, ↓cseq_cons, ↓seqK_go, ↓anyK_go, ↓caq_zero, ↓caq_done, ↓caq_free, ↓caq_step, ↓cStep_move, ↓cStep_assign, ↓cStep_eq, ↓cPure_call, ↓reduceIte, keeps, wantD, callee, aop, ev, ofV, nth, List.cons_append, List.nil_append, List.append_nil, undL, putO, put, List.length_cons, List.length_nil, Nat.reduceSub, Nat.reduceAdd, dBinT, dBin, dUn, Option.map, List.getElem?_toArray, List.toList_toArray, List.getElem?_cons_succ, List.getElem?_cons_zero, Option.bind, ge_iff_le, gt_iff_lt, resD, resL, resV, beq_true, beq_false, Option.some.injEq, List.map, Bool.not_true, Bool.not_false, Bool.false_eq_true, exists_eq_left', Bool.not_eq_true', decide_eq_true_eq, decide_eq_false_iff_not, ite_not, decide_true, decide_false, not_true_eq_false, not_false_eq_true, D.bool.injEq, if_true, if_false, and_true, true_and, ty1, sz1, z1, ty2, sz2, z2, ty3, sz3, z3, ty4, sz4, z4, ty5, sz5, z5, ty6, sz6, z6, ty7, sz7, z7, ty8, sz8, z8, ty9, sz9, z9, ty10, sz10, z10, ty11, sz11, z11, ty12, sz12, z12, ty13, sz13, z13, ty14, sz14, z14, ty15, sz15, z15, ty16, sz16, z16, ty17, sz17, z17, ty18, sz18, z18, ty19, sz19, z19, ty23, sz23, z23, ty50, sz50, z50, k50, ty51, sz51, z51, k51, ty92, sz92, z92, dLen, dIdxA, dLoad, part, Ty.isA, Ty.fi, D.cells, D.cells?, dField, dFieldA, dIdx, dFill, allCell, D.isCell, els, chunk, rep, splice, hget, hset, cellsOf, Blk.isC, Blk.cs, Blk.mut, Blk.setCs, dStore, dBuild, dSlice, dBnd, List.getElem?_map, Option.map_some, Int.toNat_natCast, List.length_map, Nat.lt_irrefl, Nat.zero_lt_one, Nat.zero_lt_succ, Nat.le_refl, Nat.zero_add, Bool.false_eq_true, false_or, or_true, true_or, List.drop_zero, Int.natCast_nonneg, D.int.injEq, Int.zero_le_ofNat, Nat.lt_add_one, List.getElem?_nil, Nat.zero_le, List.take, List.drop, Nat.reduceMul, Nat.reduceLeDiff, Nat.reduceLT, Nat.reducePow, Nat.reduceBEq, Nat.reduceEqDiff, and_self, D.closedL, D.closed, Bool.and_self, bne_self_eq_false, beq_self_eq_true, bne, Bool.true_and, Bool.and_true, Bool.or_true, Bool.or_false, Bool.true_or, Bool.false_or, Bool.and_false, Bool.false_and, List.all_cons, List.all_nil, List.all, List.replicate, exists_const, okK, dEqO, Option.isSome, nc0, nc1, nc2, nc3, nc4, nc5, nc6, nc7, nc8, nc9, nc10, nc11, nc12, wl0, wl1, wl2, wl3, wl4, wl5, wl6, wl7, wl8, wl9, wl10, wl11, wl12, Int.reduceAdd, Int.reduceLT, Int.reduceLE, Int.reduceToNat, Int.reduceEq, Int.reduceSub, Int.reduceBEq, Int.reduceBNe, List.length_singleton, Nat.reduceBNe])
            | (refine .body (by kernel_rfl) (PDen.to (r1) ?_))
            | (refine PCall.to (by kernel_rfl) (r1) ?_)
            | (refine .body (by kernel_rfl) (PDen.to (r3) ?_))
            | (refine PCall.to (by kernel_rfl) (r3) ?_)
            | (refine .body (by kernel_rfl) (PDen.to (kfitP _ _ _) ?_))
            | (refine PCall.to (by kernel_rfl) (kfitP _ _ _) ?_)
            | (refine .body (by kernel_rfl) (PDen.to (kfitR _ _ _) ?_))
            | (refine PCall.to (by kernel_rfl) (kfitR _ _ _) ?_)
            | (refine .body (by kernel_rfl) (PDen.to (ktextP ht _ _ _) ?_))
            | (refine PCall.to (by kernel_rfl) (ktextP ht _ _ _) ?_)
            | (refine .body (by kernel_rfl) (PDen.to (ofK _ _ _) ?_))
            | (refine PCall.to (by kernel_rfl) (ofK _ _ _) ?_)
            | (refine .body (by kernel_rfl) (PDen.to (below _ _ _ _ _ _) ?_))
            | (refine PCall.to (by kernel_rfl) (below _ _ _ _ _ _) ?_)
            | (refine .body (by kernel_rfl) (PDen.to (awake41 ht hg) ?_))
            | (refine PCall.to (by kernel_rfl) (awake41 ht hg) ?_)
            | (refine ⟨9, by decide +kernel, ?_⟩)
            | (refine ⟨11, by decide +kernel, ?_⟩)
            | (refine ⟨12, by decide +kernel, ?_⟩)
            | (refine ⟨by decide +kernel, ?_⟩)
            | rfl
            | split)
      · have hf' : kFit a b = false := by simpa using hf
        clear hf
        have r3 := True.intro
        rcases below_tri a b c a' b' c' with ⟨t1, t2, t3⟩ | ⟨t1, t2, t3⟩ | ⟨t1, t2, rfl, rfl, rfl⟩
        · have hE := dEq3 t3
          clear t3
          cases t4 : kBelow a' b' c' d0 d1 d2
          · skip
            repeat' (first
              | (simp -implicitDefEqProofs (maxSteps := 1000000) only [*, Tryd.f11, ↓cAny_eq, ↓anyP_go, fillT, fillH, ↓cwp_scope, ↓cwp_label, ↓scope_normal, ↓scope_ret, ↓scope_exit, ↓cwp_skip, ↓cwp_region, ↓cwp_drawn, ↓cwp_seq, ↓cwp_cond, ↓cwp_block, ↓cwp_loop, ↓cwp_exit, ↓cwp_ret, ↓kont_normal, ↓kont_exit, ↓kont_ret, ↓block_normal, ↓block_ret, ↓block_exit, ↓then_normal, ↓then_ret, ↓then_exit, ↓finF_normal, ↓finF_ret, ↓cseq_nil, ↓cseq_free, ↓cseq_cons, ↓seqK_go, ↓anyK_go, ↓caq_zero, ↓caq_done, ↓caq_free, ↓caq_step, ↓cStep_move, ↓cStep_assign, ↓cStep_eq, ↓cPure_call, ↓reduceIte, keeps, wantD, callee, aop, ev, ofV, nth, List.cons_append, List.nil_append, List.append_nil, undL, putO, put, List.length_cons, List.length_nil, Nat.reduceSub, Nat.reduceAdd, dBinT, dBin, dUn, Option.map, List.getElem?_toArray, List.toList_toArray, List.getElem?_cons_succ, List.getElem?_cons_zero, Option.bind, ge_iff_le, gt_iff_lt, resD, resL, resV, beq_true, beq_false, Option.some.injEq, List.map, Bool.not_true, Bool.not_false, Bool.false_eq_true, exists_eq_left', Bool.not_eq_true', decide_eq_true_eq, decide_eq_false_iff_not, ite_not, decide_true, decide_false, not_true_eq_false, not_false_eq_true, D.bool.injEq, if_true, if_false, and_true, true_and, ty1, sz1, z1, ty2, sz2, z2, ty3, sz3, z3, ty4, sz4, z4, ty5, sz5, z5, ty6, sz6, z6, ty7, sz7, z7, ty8, sz8, z8, ty9, sz9, z9, ty10, sz10, z10, ty11, sz11, z11, ty12, sz12, z12, ty13, sz13, z13, ty14, sz14, z14, ty15, sz15, z15, ty16, sz16, z16, ty17, sz17, z17, ty18, sz18, z18, ty19, sz19, z19, ty23, sz23, z23, ty50, sz50, z50, k50, ty51, sz51, z51, k51, ty92, sz92, z92, dLen, dIdxA, dLoad, part, Ty.isA, Ty.fi, D.cells, D.cells?, dField, dFieldA, dIdx, dFill, allCell, D.isCell, els, chunk, rep, splice, hget, hset, cellsOf, Blk.isC, Blk.cs, Blk.mut, Blk.setCs, dStore, dBuild, dSlice, dBnd, List.getElem?_map, Option.map_some, Int.toNat_natCast, List.length_map, Nat.lt_irrefl, Nat.zero_lt_one, Nat.zero_lt_succ, Nat.le_refl, Nat.zero_add, Bool.false_eq_true, false_or, or_true, true_or, List.drop_zero, Int.natCast_nonneg, D.int.injEq, Int.zero_le_ofNat, Nat.lt_add_one, List.getElem?_nil, Nat.zero_le, List.take, List.drop, Nat.reduceMul, Nat.reduceLeDiff, Nat.reduceLT, Nat.reducePow, Nat.reduceBEq, Nat.reduceEqDiff, and_self, D.closedL, D.closed, Bool.and_self, bne_self_eq_false, beq_self_eq_true, bne, Bool.true_and, Bool.and_true, Bool.or_true, Bool.or_false, Bool.true_or, Bool.false_or, Bool.and_false, Bool.false_and, List.all_cons, List.all_nil, List.all, List.replicate, exists_const, okK, dEqO, Option.isSome, nc0, nc1, nc2, nc3, nc4, nc5, nc6, nc7, nc8, nc9, nc10, nc11, nc12, wl0, wl1, wl2, wl3, wl4, wl5, wl6, wl7, wl8, wl9, wl10, wl11, wl12, Int.reduceAdd, Int.reduceLT, Int.reduceLE, Int.reduceToNat, Int.reduceEq, Int.reduceSub, Int.reduceBEq, Int.reduceBNe, List.length_singleton, Nat.reduceBNe])
              | (refine .body (by kernel_rfl) (PDen.to (r1) ?_))
              | (refine PCall.to (by kernel_rfl) (r1) ?_)
              | (refine .body (by kernel_rfl) (PDen.to (r3) ?_))
              | (refine PCall.to (by kernel_rfl) (r3) ?_)
              | (refine .body (by kernel_rfl) (PDen.to (kfitP _ _ _) ?_))
              | (refine PCall.to (by kernel_rfl) (kfitP _ _ _) ?_)
              | (refine .body (by kernel_rfl) (PDen.to (kfitR _ _ _) ?_))
              | (refine PCall.to (by kernel_rfl) (kfitR _ _ _) ?_)
              | (refine .body (by kernel_rfl) (PDen.to (ktextP ht _ _ _) ?_))
              | (refine PCall.to (by kernel_rfl) (ktextP ht _ _ _) ?_)
              | (refine .body (by kernel_rfl) (PDen.to (ofK _ _ _) ?_))
              | (refine PCall.to (by kernel_rfl) (ofK _ _ _) ?_)
              | (refine .body (by kernel_rfl) (PDen.to (below _ _ _ _ _ _) ?_))
              | (refine PCall.to (by kernel_rfl) (below _ _ _ _ _ _) ?_)
              | (refine .body (by kernel_rfl) (PDen.to (awake41 ht hg) ?_))
              | (refine PCall.to (by kernel_rfl) (awake41 ht hg) ?_)
              | (refine ⟨9, by decide +kernel, ?_⟩)
              | (refine ⟨11, by decide +kernel, ?_⟩)
              | (refine ⟨12, by decide +kernel, ?_⟩)
              | (refine ⟨by decide +kernel, ?_⟩)
              | rfl
              | split)
          · have t5 := below_trans t1 t4
            skip
            repeat' (first
              | (simp -implicitDefEqProofs (maxSteps := 1000000) only [*, Tryd.f11, ↓cAny_eq, ↓anyP_go, fillT, fillH, ↓cwp_scope, ↓cwp_label, ↓scope_normal, ↓scope_ret, ↓scope_exit, ↓cwp_skip, ↓cwp_region, ↓cwp_drawn, ↓cwp_seq, ↓cwp_cond, ↓cwp_block, ↓cwp_loop, ↓cwp_exit, ↓cwp_ret, ↓kont_normal, ↓kont_exit, ↓kont_ret, ↓block_normal, ↓block_ret, ↓block_exit, ↓then_normal, ↓then_ret, ↓then_exit, ↓finF_normal, ↓finF_ret, ↓cseq_nil, ↓cseq_free, ↓cseq_cons, ↓seqK_go, ↓anyK_go, ↓caq_zero, ↓caq_done, ↓caq_free, ↓caq_step, ↓cStep_move, ↓cStep_assign, ↓cStep_eq, ↓cPure_call, ↓reduceIte, keeps, wantD, callee, aop, ev, ofV, nth, List.cons_append, List.nil_append, List.append_nil, undL, putO, put, List.length_cons, List.length_nil, Nat.reduceSub, Nat.reduceAdd, dBinT, dBin, dUn, Option.map, List.getElem?_toArray, List.toList_toArray, List.getElem?_cons_succ, List.getElem?_cons_zero, Option.bind, ge_iff_le, gt_iff_lt, resD, resL, resV, beq_true, beq_false, Option.some.injEq, List.map, Bool.not_true, Bool.not_false, Bool.false_eq_true, exists_eq_left', Bool.not_eq_true', decide_eq_true_eq, decide_eq_false_iff_not, ite_not, decide_true, decide_false, not_true_eq_false, not_false_eq_true, D.bool.injEq, if_true, if_false, and_true, true_and, ty1, sz1, z1, ty2, sz2, z2, ty3, sz3, z3, ty4, sz4, z4, ty5, sz5, z5, ty6, sz6, z6, ty7, sz7, z7, ty8, sz8, z8, ty9, sz9, z9, ty10, sz10, z10, ty11, sz11, z11, ty12, sz12, z12, ty13, sz13, z13, ty14, sz14, z14, ty15, sz15, z15, ty16, sz16, z16, ty17, sz17, z17, ty18, sz18, z18, ty19, sz19, z19, ty23, sz23, z23, ty50, sz50, z50, k50, ty51, sz51, z51, k51, ty92, sz92, z92, dLen, dIdxA, dLoad, part, Ty.isA, Ty.fi, D.cells, D.cells?, dField, dFieldA, dIdx, dFill, allCell, D.isCell, els, chunk, rep, splice, hget, hset, cellsOf, Blk.isC, Blk.cs, Blk.mut, Blk.setCs, dStore, dBuild, dSlice, dBnd, List.getElem?_map, Option.map_some, Int.toNat_natCast, List.length_map, Nat.lt_irrefl, Nat.zero_lt_one, Nat.zero_lt_succ, Nat.le_refl, Nat.zero_add, Bool.false_eq_true, false_or, or_true, true_or, List.drop_zero, Int.natCast_nonneg, D.int.injEq, Int.zero_le_ofNat, Nat.lt_add_one, List.getElem?_nil, Nat.zero_le, List.take, List.drop, Nat.reduceMul, Nat.reduceLeDiff, Nat.reduceLT, Nat.reducePow, Nat.reduceBEq, Nat.reduceEqDiff, and_self, D.closedL, D.closed, Bool.and_self, bne_self_eq_false, beq_self_eq_true, bne, Bool.true_and, Bool.and_true, Bool.or_true, Bool.or_false, Bool.true_or, Bool.false_or, Bool.and_false, Bool.false_and, List.all_cons, List.all_nil, List.all, List.replicate, exists_const, okK, dEqO, Option.isSome, nc0, nc1, nc2, nc3, nc4, nc5, nc6, nc7, nc8, nc9, nc10, nc11, nc12, wl0, wl1, wl2, wl3, wl4, wl5, wl6, wl7, wl8, wl9, wl10, wl11, wl12, Int.reduceAdd, Int.reduceLT, Int.reduceLE, Int.reduceToNat, Int.reduceEq, Int.reduceSub, Int.reduceBEq, Int.reduceBNe, List.length_singleton, Nat.reduceBNe])
              | (refine .body (by kernel_rfl) (PDen.to (r1) ?_))
              | (refine PCall.to (by kernel_rfl) (r1) ?_)
              | (refine .body (by kernel_rfl) (PDen.to (r3) ?_))
              | (refine PCall.to (by kernel_rfl) (r3) ?_)
              | (refine .body (by kernel_rfl) (PDen.to (kfitP _ _ _) ?_))
              | (refine PCall.to (by kernel_rfl) (kfitP _ _ _) ?_)
              | (refine .body (by kernel_rfl) (PDen.to (kfitR _ _ _) ?_))
              | (refine PCall.to (by kernel_rfl) (kfitR _ _ _) ?_)
              | (refine .body (by kernel_rfl) (PDen.to (ktextP ht _ _ _) ?_))
              | (refine PCall.to (by kernel_rfl) (ktextP ht _ _ _) ?_)
              | (refine .body (by kernel_rfl) (PDen.to (ofK _ _ _) ?_))
              | (refine PCall.to (by kernel_rfl) (ofK _ _ _) ?_)
              | (refine .body (by kernel_rfl) (PDen.to (below _ _ _ _ _ _) ?_))
              | (refine PCall.to (by kernel_rfl) (below _ _ _ _ _ _) ?_)
              | (refine .body (by kernel_rfl) (PDen.to (awake41 ht hg) ?_))
              | (refine PCall.to (by kernel_rfl) (awake41 ht hg) ?_)
              | (refine ⟨9, by decide +kernel, ?_⟩)
              | (refine ⟨11, by decide +kernel, ?_⟩)
              | (refine ⟨12, by decide +kernel, ?_⟩)
              | (refine ⟨by decide +kernel, ?_⟩)
              | rfl
              | split)
        · have hE := dEq3 t3
          clear t3
          repeat' (first
            | (simp -implicitDefEqProofs (maxSteps := 1000000) only [*, Tryd.f11, ↓cAny_eq, ↓anyP_go, fillT, fillH, ↓cwp_scope, ↓cwp_label, ↓scope_normal, ↓scope_ret, ↓scope_exit, ↓cwp_skip, ↓cwp_region, ↓cwp_drawn, ↓cwp_seq, ↓cwp_cond, ↓cwp_block, ↓cwp_loop, ↓cwp_exit, ↓cwp_ret, ↓kont_normal, ↓kont_exit, ↓kont_ret, ↓block_normal, ↓block_ret, ↓block_exit, ↓then_normal, ↓then_ret, ↓then_exit, ↓finF_normal, ↓finF_ret, ↓cseq_nil, ↓cseq_free, ↓cseq_cons, ↓seqK_go, ↓anyK_go, ↓caq_zero, ↓caq_done, ↓caq_free, ↓caq_step, ↓cStep_move, ↓cStep_assign, ↓cStep_eq, ↓cPure_call, ↓reduceIte, keeps, wantD, callee, aop, ev, ofV, nth, List.cons_append, List.nil_append, List.append_nil, undL, putO, put, List.length_cons, List.length_nil, Nat.reduceSub, Nat.reduceAdd, dBinT, dBin, dUn, Option.map, List.getElem?_toArray, List.toList_toArray, List.getElem?_cons_succ, List.getElem?_cons_zero, Option.bind, ge_iff_le, gt_iff_lt, resD, resL, resV, beq_true, beq_false, Option.some.injEq, List.map, Bool.not_true, Bool.not_false, Bool.false_eq_true, exists_eq_left', Bool.not_eq_true', decide_eq_true_eq, decide_eq_false_iff_not, ite_not, decide_true, decide_false, not_true_eq_false, not_false_eq_true, D.bool.injEq, if_true, if_false, and_true, true_and, ty1, sz1, z1, ty2, sz2, z2, ty3, sz3, z3, ty4, sz4, z4, ty5, sz5, z5, ty6, sz6, z6, ty7, sz7, z7, ty8, sz8, z8, ty9, sz9, z9, ty10, sz10, z10, ty11, sz11, z11, ty12, sz12, z12, ty13, sz13, z13, ty14, sz14, z14, ty15, sz15, z15, ty16, sz16, z16, ty17, sz17, z17, ty18, sz18, z18, ty19, sz19, z19, ty23, sz23, z23, ty50, sz50, z50, k50, ty51, sz51, z51, k51, ty92, sz92, z92, dLen, dIdxA, dLoad, part, Ty.isA, Ty.fi, D.cells, D.cells?, dField, dFieldA, dIdx, dFill, allCell, D.isCell, els, chunk, rep, splice, hget, hset, cellsOf, Blk.isC, Blk.cs, Blk.mut, Blk.setCs, dStore, dBuild, dSlice, dBnd, List.getElem?_map, Option.map_some, Int.toNat_natCast, List.length_map, Nat.lt_irrefl, Nat.zero_lt_one, Nat.zero_lt_succ, Nat.le_refl, Nat.zero_add, Bool.false_eq_true, false_or, or_true, true_or, List.drop_zero, Int.natCast_nonneg, D.int.injEq, Int.zero_le_ofNat, Nat.lt_add_one, List.getElem?_nil, Nat.zero_le, List.take, List.drop, Nat.reduceMul, Nat.reduceLeDiff, Nat.reduceLT, Nat.reducePow, Nat.reduceBEq, Nat.reduceEqDiff, and_self, D.closedL, D.closed, Bool.and_self, bne_self_eq_false, beq_self_eq_true, bne, Bool.true_and, Bool.and_true, Bool.or_true, Bool.or_false, Bool.true_or, Bool.false_or, Bool.and_false, Bool.false_and, List.all_cons, List.all_nil, List.all, List.replicate, exists_const, okK, dEqO, Option.isSome, nc0, nc1, nc2, nc3, nc4, nc5, nc6, nc7, nc8, nc9, nc10, nc11, nc12, wl0, wl1, wl2, wl3, wl4, wl5, wl6, wl7, wl8, wl9, wl10, wl11, wl12, Int.reduceAdd, Int.reduceLT, Int.reduceLE, Int.reduceToNat, Int.reduceEq, Int.reduceSub, Int.reduceBEq, Int.reduceBNe, List.length_singleton, Nat.reduceBNe])
            | (refine .body (by kernel_rfl) (PDen.to (r1) ?_))
            | (refine PCall.to (by kernel_rfl) (r1) ?_)
            | (refine .body (by kernel_rfl) (PDen.to (r3) ?_))
            | (refine PCall.to (by kernel_rfl) (r3) ?_)
            | (refine .body (by kernel_rfl) (PDen.to (kfitP _ _ _) ?_))
            | (refine PCall.to (by kernel_rfl) (kfitP _ _ _) ?_)
            | (refine .body (by kernel_rfl) (PDen.to (kfitR _ _ _) ?_))
            | (refine PCall.to (by kernel_rfl) (kfitR _ _ _) ?_)
            | (refine .body (by kernel_rfl) (PDen.to (ktextP ht _ _ _) ?_))
            | (refine PCall.to (by kernel_rfl) (ktextP ht _ _ _) ?_)
            | (refine .body (by kernel_rfl) (PDen.to (ofK _ _ _) ?_))
            | (refine PCall.to (by kernel_rfl) (ofK _ _ _) ?_)
            | (refine .body (by kernel_rfl) (PDen.to (below _ _ _ _ _ _) ?_))
            | (refine PCall.to (by kernel_rfl) (below _ _ _ _ _ _) ?_)
            | (refine .body (by kernel_rfl) (PDen.to (awake41 ht hg) ?_))
            | (refine PCall.to (by kernel_rfl) (awake41 ht hg) ?_)
            | (refine ⟨9, by decide +kernel, ?_⟩)
            | (refine ⟨11, by decide +kernel, ?_⟩)
            | (refine ⟨12, by decide +kernel, ?_⟩)
            | (refine ⟨by decide +kernel, ?_⟩)
            | rfl
            | split)
        · skip
          repeat' (first
            | (simp -implicitDefEqProofs (maxSteps := 1000000) only [*, Tryd.f11, ↓cAny_eq, ↓anyP_go, fillT, fillH, ↓cwp_scope, ↓cwp_label, ↓scope_normal, ↓scope_ret, ↓scope_exit, ↓cwp_skip, ↓cwp_region, ↓cwp_drawn, ↓cwp_seq, ↓cwp_cond, ↓cwp_block, ↓cwp_loop, ↓cwp_exit, ↓cwp_ret, ↓kont_normal, ↓kont_exit, ↓kont_ret, ↓block_normal, ↓block_ret, ↓block_exit, ↓then_normal, ↓then_ret, ↓then_exit, ↓finF_normal, ↓finF_ret, ↓cseq_nil, ↓cseq_free, ↓cseq_cons, ↓seqK_go, ↓anyK_go, ↓caq_zero, ↓caq_done, ↓caq_free, ↓caq_step, ↓cStep_move, ↓cStep_assign, ↓cStep_eq, ↓cPure_call, ↓reduceIte, keeps, wantD, callee, aop, ev, ofV, nth, List.cons_append, List.nil_append, List.append_nil, undL, putO, put, List.length_cons, List.length_nil, Nat.reduceSub, Nat.reduceAdd, dBinT, dBin, dUn, Option.map, List.getElem?_toArray, List.toList_toArray, List.getElem?_cons_succ, List.getElem?_cons_zero, Option.bind, ge_iff_le, gt_iff_lt, resD, resL, resV, beq_true, beq_false, Option.some.injEq, List.map, Bool.not_true, Bool.not_false, Bool.false_eq_true, exists_eq_left', Bool.not_eq_true', decide_eq_true_eq, decide_eq_false_iff_not, ite_not, decide_true, decide_false, not_true_eq_false, not_false_eq_true, D.bool.injEq, if_true, if_false, and_true, true_and, ty1, sz1, z1, ty2, sz2, z2, ty3, sz3, z3, ty4, sz4, z4, ty5, sz5, z5, ty6, sz6, z6, ty7, sz7, z7, ty8, sz8, z8, ty9, sz9, z9, ty10, sz10, z10, ty11, sz11, z11, ty12, sz12, z12, ty13, sz13, z13, ty14, sz14, z14, ty15, sz15, z15, ty16, sz16, z16, ty17, sz17, z17, ty18, sz18, z18, ty19, sz19, z19, ty23, sz23, z23, ty50, sz50, z50, k50, ty51, sz51, z51, k51, ty92, sz92, z92, dLen, dIdxA, dLoad, part, Ty.isA, Ty.fi, D.cells, D.cells?, dField, dFieldA, dIdx, dFill, allCell, D.isCell, els, chunk, rep, splice, hget, hset, cellsOf, Blk.isC, Blk.cs, Blk.mut, Blk.setCs, dStore, dBuild, dSlice, dBnd, List.getElem?_map, Option.map_some, Int.toNat_natCast, List.length_map, Nat.lt_irrefl, Nat.zero_lt_one, Nat.zero_lt_succ, Nat.le_refl, Nat.zero_add, Bool.false_eq_true, false_or, or_true, true_or, List.drop_zero, Int.natCast_nonneg, D.int.injEq, Int.zero_le_ofNat, Nat.lt_add_one, List.getElem?_nil, Nat.zero_le, List.take, List.drop, Nat.reduceMul, Nat.reduceLeDiff, Nat.reduceLT, Nat.reducePow, Nat.reduceBEq, Nat.reduceEqDiff, and_self, D.closedL, D.closed, Bool.and_self, bne_self_eq_false, beq_self_eq_true, bne, Bool.true_and, Bool.and_true, Bool.or_true, Bool.or_false, Bool.true_or, Bool.false_or, Bool.and_false, Bool.false_and, List.all_cons, List.all_nil, List.all, List.replicate, exists_const, okK, dEqO, Option.isSome, nc0, nc1, nc2, nc3, nc4, nc5, nc6, nc7, nc8, nc9, nc10, nc11, nc12, wl0, wl1, wl2, wl3, wl4, wl5, wl6, wl7, wl8, wl9, wl10, wl11, wl12, Int.reduceAdd, Int.reduceLT, Int.reduceLE, Int.reduceToNat, Int.reduceEq, Int.reduceSub, Int.reduceBEq, Int.reduceBNe, List.length_singleton, Nat.reduceBNe])
            | (refine .body (by kernel_rfl) (PDen.to (r1) ?_))
            | (refine PCall.to (by kernel_rfl) (r1) ?_)
            | (refine .body (by kernel_rfl) (PDen.to (r3) ?_))
            | (refine PCall.to (by kernel_rfl) (r3) ?_)
            | (refine .body (by kernel_rfl) (PDen.to (kfitP _ _ _) ?_))
            | (refine PCall.to (by kernel_rfl) (kfitP _ _ _) ?_)
            | (refine .body (by kernel_rfl) (PDen.to (kfitR _ _ _) ?_))
            | (refine PCall.to (by kernel_rfl) (kfitR _ _ _) ?_)
            | (refine .body (by kernel_rfl) (PDen.to (ktextP ht _ _ _) ?_))
            | (refine PCall.to (by kernel_rfl) (ktextP ht _ _ _) ?_)
            | (refine .body (by kernel_rfl) (PDen.to (ofK _ _ _) ?_))
            | (refine PCall.to (by kernel_rfl) (ofK _ _ _) ?_)
            | (refine .body (by kernel_rfl) (PDen.to (below _ _ _ _ _ _) ?_))
            | (refine PCall.to (by kernel_rfl) (below _ _ _ _ _ _) ?_)
            | (refine .body (by kernel_rfl) (PDen.to (awake41 ht hg) ?_))
            | (refine PCall.to (by kernel_rfl) (awake41 ht hg) ?_)
            | (refine ⟨9, by decide +kernel, ?_⟩)
            | (refine ⟨11, by decide +kernel, ?_⟩)
            | (refine ⟨12, by decide +kernel, ?_⟩)
            | (refine ⟨by decide +kernel, ?_⟩)
            | rfl
            | split)
theorem backLaw11 (ht : Tab E.h0 1 .u64 Lib.pow10Tab) (hg : E.g = fun _ => .und) (x y z : Ky) (s : List UInt8) (_ _ _ : True) (_ : s.length ≤ maxLen) : PDen Tryd.prog E 11 [x.d, y.d, z.d, .str s] (.bool true) := back11 ht hg x.a x.b x.c y.a y.b y.c z.a z.b z.c s
end Go.Lv
