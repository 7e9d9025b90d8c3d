/- Letter's laws: tells, turns. -/
import Derived.Test.YtmpbkkfkkbdndaaDoorLetM
import Derived.Test.YtmpbkkfkkbdndaaDoorLetN
namespace Go.Lv
open Go Go.Proofs Go.IntWalk
set_option maxRecDepth 100000
set_option linter.unusedSimpArgs false
set_option linter.unusedVariables false
variable {E : Env}
theorem sh37 : shOf Tryd.prog 4 37 = some (.st [.int .i64, .int .i64, .bool, .int .i64, .int .i64]) := by kernel_rfl
theorem sh35 : shOf Tryd.prog 4 35 = some (.sl (.st [.int .i64, .int .i64, .bool, .int .i64, .int .i64])) := by kernel_rfl
theorem sh3 : shOf Tryd.prog 4 3 = some (.int .i64) := by kernel_rfl
theorem viewInt {ds : List D} (h : (Sh.int .i64).ok ds) : ∃ x : Int, (Sh.int .i64).mk ds = .int .i64 x ∧ True := by
  simp only [Sh.ok] at h
  obtain ⟨s, rfl, _⟩ := h
  exact ⟨s, rfl, trivial⟩
theorem view37 {ds : List D} (h : (Sh.st [.int .i64, .int .i64, .bool, .int .i64, .int .i64]).ok ds) : ∃ x : Lt, (Sh.st [.int .i64, .int .i64, .bool, .int .i64, .int .i64]).mk ds = x.d ∧ True := by
  simp only [Sh.ok, Sh.okL] at h
  obtain ⟨_, _, rfl, ⟨e0, rfl, _⟩, _, _, rfl, ⟨e1, rfl, _⟩, _, _, rfl, ⟨e2, rfl⟩, _, _, rfl, ⟨e3, rfl, _⟩, _, _, rfl, ⟨e4, rfl, _⟩, rfl⟩ := h
  exact ⟨⟨e0, e1, e2, e3, e4⟩, rfl, trivial⟩
theorem view35 {ds : List D} (h : (Sh.sl (.st [.int .i64, .int .i64, .bool, .int .i64, .int .i64])).ok ds) : ∃ l : List Lt, (Sh.sl (.st [.int .i64, .int .i64, .bool, .int .i64, .int .i64])).mk ds = lts false l ∧ True := by
  simp only [Sh.ok] at h
  obtain ⟨ys, rfl, hl, hy⟩ := h
  obtain ⟨l, rfl, _⟩ := exists_map (l := ys) (f := fun x : Lt => x.d.cells) (p := fun _ => True) fun y hm => by
    obtain ⟨x, hx, _⟩ := view37 (hy y hm)
    refine ⟨x, ?_, trivial⟩
    have := congrArg D.cells hx
    exact this
  refine ⟨l, ?_, trivial⟩
  show D.list false _ = _
  rw [List.map_map]
  rfl
set_option maxHeartbeats 8000000 in
theorem tells7 (ht : Tab E.h0 1 .u64 Lib.pow10Tab) (hg : E.g = fun _ => .und) (l : List Lt) (x : Lt) (g : Int) : PDen Tryd.prog E 7 [lts false l, x.d, .int .i64 g] (.bool true) := by
  refine pden_by (fn := Tryd.f7) mixed Tryd.func7 rfl (rfl) (rfl) ?_
  obtain ⟨xg, xs, xk, xy, xa⟩ := x
  obtain ⟨⟨zg, zs, zk, zy, za⟩, b, hf⟩ := findD_form g l
  by_cases h20 : (20 : Int) < (l.length : Int)
  · skip
    repeat' (first
      | (simp -implicitDefEqProofs (maxSteps := 1000000) only [*, Tryd.f7, ↓cwp_skip, ↓cwp_region, ↓cwp_drawn, ↓cwp_seq, ↓cwp_cond, ↓cwp_block, ↓cwp_loop, ↓cwp_exit, ↓cwp_ret, ↓kont_normal, ↓kont_exit, ↓kont_ret, ↓block_normal, ↓block_ret, ↓block_exit, ↓then_normal, ↓then_ret, ↓then_exit, ↓finF_normal, ↓finF_ret, ↓cseq_nil, ↓cseq_free, ↓cseq_cons, ↓seqK_go, ↓anyK_go, ↓caq_zero, ↓caq_done, ↓caq_free, ↓caq_step, ↓cStep_move, ↓cStep_assign, ↓cStep_eq, ↓cPure_call, ↓reduceIte, keeps, wantD, callee, aop, ev, ofV, nth, List.cons_append, List.nil_append, List.append_nil, undL, putO, put, List.length_cons, List.length_nil, Nat.reduceSub, Nat.reduceAdd, dBinT, dBin, dUn, Option.map, List.getElem?_toArray, List.toList_toArray, List.getElem?_cons_succ, List.getElem?_cons_zero, Option.bind, ge_iff_le, gt_iff_lt, resD, resL, resV, beq_true, beq_false, Option.some.injEq, List.map, Bool.not_true, Bool.not_false, Bool.false_eq_true, exists_eq_left', Bool.not_eq_true', decide_eq_true_eq, decide_eq_false_iff_not, ite_not, decide_true, decide_false, not_true_eq_false, not_false_eq_true, D.bool.injEq, if_true, if_false, and_true, true_and, ty1, sz1, z1, ty2, sz2, z2, ty3, sz3, z3, ty4, sz4, z4, ty5, sz5, z5, ty6, sz6, z6, ty9, sz9, z9, ty10, sz10, z10, ty15, sz15, z15, ty22, sz22, z22, ty35, sz35, z35, ty37, sz37, z37, k37, dLen, dIdxA, dLoad, part, Ty.isA, Ty.fi, D.cells, D.cells?, dField, dFieldA, dIdx, dFill, allCell, D.isCell, els, chunk, rep, splice, hget, hset, cellsOf, Blk.isC, Blk.cs, Blk.mut, Blk.setCs, dStore, dBuild, dSlice, dBnd, List.getElem?_map, Option.map_some, Int.toNat_natCast, List.length_map, Nat.lt_irrefl, Nat.zero_lt_one, Nat.zero_lt_succ, Nat.le_refl, Nat.zero_add, Bool.false_eq_true, false_or, or_true, true_or, List.drop_zero, Int.natCast_nonneg, D.int.injEq, Int.zero_le_ofNat, Nat.lt_add_one, List.getElem?_nil, Nat.zero_le, List.take, List.drop, Nat.reduceMul, Nat.reduceLeDiff, Nat.reduceLT, Nat.reducePow, Nat.reduceBEq, Nat.reduceEqDiff, and_self, D.closedL, D.closed, Bool.and_self, bne_self_eq_false, beq_self_eq_true, bne, Bool.true_and, Bool.and_true, Bool.or_true, Bool.or_false, Bool.true_or, Bool.false_or, Bool.and_false, Bool.false_and, List.all_cons, List.all_nil, List.all, List.replicate, exists_const, okK, dEqL, dEqO, dEq, Option.isSome, nc0, nc1, nc2, nc3, nc4, nc5, nc6, nc7, nc8, nc9, nc10, nc11, nc12, wl0, wl1, wl2, wl3, wl4, wl5, wl6, wl7, wl8, wl9, wl10, wl11, wl12, Int.reduceAdd, Int.reduceLT, Int.reduceLE, Int.reduceToNat, Int.reduceEq, Int.reduceSub, Int.reduceBEq, Int.reduceBNe, List.length_singleton, Nat.reduceBNe, lts_def, Lt.d_mk, hget_len, hset_len', eq_self])
      | (refine .body (by kernel_rfl) (PDen.to (awake28 ht hg) ?_))
      | (refine PCall.to (by kernel_rfl) (awake28 ht hg) ?_)
      | (refine ⟨19, by decide +kernel, ?_⟩)
      | (refine ⟨20, by decide +kernel, ?_⟩)
      | (refine ⟨21, by decide +kernel, ?_⟩)
      | (refine ⟨22, by decide +kernel, ?_⟩)
      | (refine ⟨23, by decide +kernel, ?_⟩)
      | (refine ⟨24, by decide +kernel, ?_⟩)
      | rfl
      | split)
  · have hn : l.length ≤ 4611686018427387904 := by omega
    have c1 := find29 (E := E) false g l hn
    have c2 := find30 (E := E) false g l hn
    rw [hf] at c1 c2
    repeat' (first
      | (simp -implicitDefEqProofs (maxSteps := 1000000) only [*, Tryd.f7, ↓cwp_skip, ↓cwp_region, ↓cwp_drawn, ↓cwp_seq, ↓cwp_cond, ↓cwp_block, ↓cwp_loop, ↓cwp_exit, ↓cwp_ret, ↓kont_normal, ↓kont_exit, ↓kont_ret, ↓block_normal, ↓block_ret, ↓block_exit, ↓then_normal, ↓then_ret, ↓then_exit, ↓finF_normal, ↓finF_ret, ↓cseq_nil, ↓cseq_free, ↓cseq_cons, ↓seqK_go, ↓anyK_go, ↓caq_zero, ↓caq_done, ↓caq_free, ↓caq_step, ↓cStep_move, ↓cStep_assign, ↓cStep_eq, ↓cPure_call, ↓reduceIte, keeps, wantD, callee, aop, ev, ofV, nth, List.cons_append, List.nil_append, List.append_nil, undL, putO, put, List.length_cons, List.length_nil, Nat.reduceSub, Nat.reduceAdd, dBinT, dBin, dUn, Option.map, List.getElem?_toArray, List.toList_toArray, List.getElem?_cons_succ, List.getElem?_cons_zero, Option.bind, ge_iff_le, gt_iff_lt, resD, resL, resV, beq_true, beq_false, Option.some.injEq, List.map, Bool.not_true, Bool.not_false, Bool.false_eq_true, exists_eq_left', Bool.not_eq_true', decide_eq_true_eq, decide_eq_false_iff_not, ite_not, decide_true, decide_false, not_true_eq_false, not_false_eq_true, D.bool.injEq, if_true, if_false, and_true, true_and, ty1, sz1, z1, ty2, sz2, z2, ty3, sz3, z3, ty4, sz4, z4, ty5, sz5, z5, ty6, sz6, z6, ty9, sz9, z9, ty10, sz10, z10, ty15, sz15, z15, ty22, sz22, z22, ty35, sz35, z35, ty37, sz37, z37, k37, dLen, dIdxA, dLoad, part, Ty.isA, Ty.fi, D.cells, D.cells?, dField, dFieldA, dIdx, dFill, allCell, D.isCell, els, chunk, rep, splice, hget, hset, cellsOf, Blk.isC, Blk.cs, Blk.mut, Blk.setCs, dStore, dBuild, dSlice, dBnd, List.getElem?_map, Option.map_some, Int.toNat_natCast, List.length_map, Nat.lt_irrefl, Nat.zero_lt_one, Nat.zero_lt_succ, Nat.le_refl, Nat.zero_add, Bool.false_eq_true, false_or, or_true, true_or, List.drop_zero, Int.natCast_nonneg, D.int.injEq, Int.zero_le_ofNat, Nat.lt_add_one, List.getElem?_nil, Nat.zero_le, List.take, List.drop, Nat.reduceMul, Nat.reduceLeDiff, Nat.reduceLT, Nat.reducePow, Nat.reduceBEq, Nat.reduceEqDiff, and_self, D.closedL, D.closed, Bool.and_self, bne_self_eq_false, beq_self_eq_true, bne, Bool.true_and, Bool.and_true, Bool.or_true, Bool.or_false, Bool.true_or, Bool.false_or, Bool.and_false, Bool.false_and, List.all_cons, List.all_nil, List.all, List.replicate, exists_const, okK, dEqL, dEqO, dEq, Option.isSome, nc0, nc1, nc2, nc3, nc4, nc5, nc6, nc7, nc8, nc9, nc10, nc11, nc12, wl0, wl1, wl2, wl3, wl4, wl5, wl6, wl7, wl8, wl9, wl10, wl11, wl12, Int.reduceAdd, Int.reduceLT, Int.reduceLE, Int.reduceToNat, Int.reduceEq, Int.reduceSub, Int.reduceBEq, Int.reduceBNe, List.length_singleton, Nat.reduceBNe, lts_def, Lt.d_mk, hget_len, hset_len', eq_self])
      | (refine .body (by kernel_rfl) (PDen.to (c1) ?_))
      | (refine PCall.to (by kernel_rfl) (c1) ?_)
      | (refine .body (by kernel_rfl) (PDen.to (c2) ?_))
      | (refine PCall.to (by kernel_rfl) (c2) ?_)
      | (refine .body (by kernel_rfl) (PDen.to (fit31 _ _ hn) ?_))
      | (refine PCall.to (by kernel_rfl) (fit31 _ _ hn) ?_)
      | (refine .body (by kernel_rfl) (PDen.to (fit32 _ _ hn) ?_))
      | (refine PCall.to (by kernel_rfl) (fit32 _ _ hn) ?_)
      | (refine .body (by kernel_rfl) (PDen.to (text33 ht ⟨xg, xs, xk, xy, xa⟩) ?_))
      | (refine PCall.to (by kernel_rfl) (text33 ht ⟨xg, xs, xk, xy, xa⟩) ?_)
      | (refine .body (by kernel_rfl) (PDen.to (text34 ⟨xg, xs, xk, xy, xa⟩) ?_))
      | (refine PCall.to (by kernel_rfl) (text34 ⟨xg, xs, xk, xy, xa⟩) ?_)
      | (refine .body (by kernel_rfl) (PDen.to (awake28 ht hg) ?_))
      | (refine PCall.to (by kernel_rfl) (awake28 ht hg) ?_)
      | (refine ⟨19, by decide +kernel, ?_⟩)
      | (refine ⟨20, by decide +kernel, ?_⟩)
      | (refine ⟨21, by decide +kernel, ?_⟩)
      | (refine ⟨22, by decide +kernel, ?_⟩)
      | (refine ⟨23, by decide +kernel, ?_⟩)
      | (refine ⟨24, by decide +kernel, ?_⟩)
      | rfl
      | split)
set_option maxHeartbeats 8000000 in
theorem turns8 (ht : Tab E.h0 1 .u64 Lib.pow10Tab) (hg : E.g = fun _ => .und) (l : List Lt) (x : Lt) (g : Int) : PDen Tryd.prog E 8 [lts false l, x.d, .int .i64 g] (.bool true) := by
  refine pden_by (fn := Tryd.f8) mixed Tryd.func8 rfl (rfl) (rfl) ?_
  by_cases h20 : (20 : Int) < (l.length : Int)
  · obtain ⟨xg, xs, xk, xy, xa⟩ := x
    skip
    repeat' (first
      | (simp -implicitDefEqProofs (maxSteps := 1000000) only [*, Tryd.f8, ↓cwp_skip, ↓cwp_region, ↓cwp_drawn, ↓cwp_seq, ↓cwp_cond, ↓cwp_block, ↓cwp_loop, ↓cwp_exit, ↓cwp_ret, ↓kont_normal, ↓kont_exit, ↓kont_ret, ↓block_normal, ↓block_ret, ↓block_exit, ↓then_normal, ↓then_ret, ↓then_exit, ↓finF_normal, ↓finF_ret, ↓cseq_nil, ↓cseq_free, ↓cseq_cons, ↓seqK_go, ↓anyK_go, ↓caq_zero, ↓caq_done, ↓caq_free, ↓caq_step, ↓cStep_move, ↓cStep_assign, ↓cStep_eq, ↓cPure_call, ↓reduceIte, keeps, wantD, callee, aop, ev, ofV, nth, List.cons_append, List.nil_append, List.append_nil, undL, putO, put, List.length_cons, List.length_nil, Nat.reduceSub, Nat.reduceAdd, dBinT, dBin, dUn, Option.map, List.getElem?_toArray, List.toList_toArray, List.getElem?_cons_succ, List.getElem?_cons_zero, Option.bind, ge_iff_le, gt_iff_lt, resD, resL, resV, beq_true, beq_false, Option.some.injEq, List.map, Bool.not_true, Bool.not_false, Bool.false_eq_true, exists_eq_left', Bool.not_eq_true', decide_eq_true_eq, decide_eq_false_iff_not, ite_not, decide_true, decide_false, not_true_eq_false, not_false_eq_true, D.bool.injEq, if_true, if_false, and_true, true_and, ty1, sz1, z1, ty2, sz2, z2, ty3, sz3, z3, ty4, sz4, z4, ty5, sz5, z5, ty6, sz6, z6, ty7, sz7, z7, ty8, sz8, z8, ty13, sz13, z13, ty18, sz18, z18, ty23, sz23, z23, ty35, sz35, z35, ty37, sz37, z37, k37, ty64, sz64, z64, dLen, dIdxA, dLoad, part, Ty.isA, Ty.fi, D.cells, D.cells?, dField, dFieldA, dIdx, dFill, allCell, D.isCell, els, chunk, rep, splice, hget, hset, cellsOf, Blk.isC, Blk.cs, Blk.mut, Blk.setCs, dStore, dBuild, dSlice, dBnd, List.getElem?_map, Option.map_some, Int.toNat_natCast, List.length_map, Nat.lt_irrefl, Nat.zero_lt_one, Nat.zero_lt_succ, Nat.le_refl, Nat.zero_add, Bool.false_eq_true, false_or, or_true, true_or, List.drop_zero, Int.natCast_nonneg, D.int.injEq, Int.zero_le_ofNat, Nat.lt_add_one, List.getElem?_nil, Nat.zero_le, List.take, List.drop, Nat.reduceMul, Nat.reduceLeDiff, Nat.reduceLT, Nat.reducePow, Nat.reduceBEq, Nat.reduceEqDiff, and_self, D.closedL, D.closed, Bool.and_self, bne_self_eq_false, beq_self_eq_true, bne, Bool.true_and, Bool.and_true, Bool.or_true, Bool.or_false, Bool.true_or, Bool.false_or, Bool.and_false, Bool.false_and, List.all_cons, List.all_nil, List.all, List.replicate, exists_const, okK, dEqL, dEqO, dEq, Option.isSome, nc0, nc1, nc2, nc3, nc4, nc5, nc6, nc7, nc8, nc9, nc10, nc11, nc12, wl0, wl1, wl2, wl3, wl4, wl5, wl6, wl7, wl8, wl9, wl10, wl11, wl12, Int.reduceAdd, Int.reduceLT, Int.reduceLE, Int.reduceToNat, Int.reduceEq, Int.reduceSub, Int.reduceBEq, Int.reduceBNe, List.length_singleton, Nat.reduceBNe, lts_def, Lt.d_mk, hget_len, hset_len', eq_self])
      | (refine .body (by kernel_rfl) (PDen.to (awake28 ht hg) ?_))
      | (refine PCall.to (by kernel_rfl) (awake28 ht hg) ?_)
      | rfl
      | split)
  · have hn : l.length ≤ 1000000 := by omega
    obtain ⟨t1, m, e, hp, hm⟩ := putD_form l x hn
    obtain ⟨t2, k, f, hd, hk⟩ := dropD_form l g hn
    have c1 := put35 (E := E) false l hn x
    have c2 := put36 (E := E) false l hn x
    have c3 := drop37 (E := E) false l hn g
    have c4 := drop38 (E := E) false l hn g
    rw [hp] at c1 c2
    rw [hd] at c3 c4
    have hm : m.length ≤ 4611686018427387904 := by omega
    have hk : k.length ≤ 4611686018427387904 := by omega
    obtain ⟨xg, xs, xk, xy, xa⟩ := x
    clear hp hd
    repeat' (first
      | (simp -implicitDefEqProofs (maxSteps := 1000000) only [*, Tryd.f8, ↓cwp_skip, ↓cwp_region, ↓cwp_drawn, ↓cwp_seq, ↓cwp_cond, ↓cwp_block, ↓cwp_loop, ↓cwp_exit, ↓cwp_ret, ↓kont_normal, ↓kont_exit, ↓kont_ret, ↓block_normal, ↓block_ret, ↓block_exit, ↓then_normal, ↓then_ret, ↓then_exit, ↓finF_normal, ↓finF_ret, ↓cseq_nil, ↓cseq_free, ↓cseq_cons, ↓seqK_go, ↓anyK_go, ↓caq_zero, ↓caq_done, ↓caq_free, ↓caq_step, ↓cStep_move, ↓cStep_assign, ↓cStep_eq, ↓cPure_call, ↓reduceIte, keeps, wantD, callee, aop, ev, ofV, nth, List.cons_append, List.nil_append, List.append_nil, undL, putO, put, List.length_cons, List.length_nil, Nat.reduceSub, Nat.reduceAdd, dBinT, dBin, dUn, Option.map, List.getElem?_toArray, List.toList_toArray, List.getElem?_cons_succ, List.getElem?_cons_zero, Option.bind, ge_iff_le, gt_iff_lt, resD, resL, resV, beq_true, beq_false, Option.some.injEq, List.map, Bool.not_true, Bool.not_false, Bool.false_eq_true, exists_eq_left', Bool.not_eq_true', decide_eq_true_eq, decide_eq_false_iff_not, ite_not, decide_true, decide_false, not_true_eq_false, not_false_eq_true, D.bool.injEq, if_true, if_false, and_true, true_and, ty1, sz1, z1, ty2, sz2, z2, ty3, sz3, z3, ty4, sz4, z4, ty5, sz5, z5, ty6, sz6, z6, ty7, sz7, z7, ty8, sz8, z8, ty13, sz13, z13, ty18, sz18, z18, ty23, sz23, z23, ty35, sz35, z35, ty37, sz37, z37, k37, ty64, sz64, z64, dLen, dIdxA, dLoad, part, Ty.isA, Ty.fi, D.cells, D.cells?, dField, dFieldA, dIdx, dFill, allCell, D.isCell, els, chunk, rep, splice, hget, hset, cellsOf, Blk.isC, Blk.cs, Blk.mut, Blk.setCs, dStore, dBuild, dSlice, dBnd, List.getElem?_map, Option.map_some, Int.toNat_natCast, List.length_map, Nat.lt_irrefl, Nat.zero_lt_one, Nat.zero_lt_succ, Nat.le_refl, Nat.zero_add, Bool.false_eq_true, false_or, or_true, true_or, List.drop_zero, Int.natCast_nonneg, D.int.injEq, Int.zero_le_ofNat, Nat.lt_add_one, List.getElem?_nil, Nat.zero_le, List.take, List.drop, Nat.reduceMul, Nat.reduceLeDiff, Nat.reduceLT, Nat.reducePow, Nat.reduceBEq, Nat.reduceEqDiff, and_self, D.closedL, D.closed, Bool.and_self, bne_self_eq_false, beq_self_eq_true, bne, Bool.true_and, Bool.and_true, Bool.or_true, Bool.or_false, Bool.true_or, Bool.false_or, Bool.and_false, Bool.false_and, List.all_cons, List.all_nil, List.all, List.replicate, exists_const, okK, dEqL, dEqO, dEq, Option.isSome, nc0, nc1, nc2, nc3, nc4, nc5, nc6, nc7, nc8, nc9, nc10, nc11, nc12, wl0, wl1, wl2, wl3, wl4, wl5, wl6, wl7, wl8, wl9, wl10, wl11, wl12, Int.reduceAdd, Int.reduceLT, Int.reduceLE, Int.reduceToNat, Int.reduceEq, Int.reduceSub, Int.reduceBEq, Int.reduceBNe, List.length_singleton, Nat.reduceBNe, lts_def, Lt.d_mk, hget_len, hset_len', eq_self])
      | (refine .body (by kernel_rfl) (PDen.to (c1) ?_))
      | (refine PCall.to (by kernel_rfl) (c1) ?_)
      | (refine .body (by kernel_rfl) (PDen.to (c2) ?_))
      | (refine PCall.to (by kernel_rfl) (c2) ?_)
      | (refine .body (by kernel_rfl) (PDen.to (c3) ?_))
      | (refine PCall.to (by kernel_rfl) (c3) ?_)
      | (refine .body (by kernel_rfl) (PDen.to (c4) ?_))
      | (refine PCall.to (by kernel_rfl) (c4) ?_)
      | (refine .body (by kernel_rfl) (PDen.to (same39 _ _ _ hm) ?_))
      | (refine PCall.to (by kernel_rfl) (same39 _ _ _ hm) ?_)
      | (refine .body (by kernel_rfl) (PDen.to (same39 _ _ _ hk) ?_))
      | (refine PCall.to (by kernel_rfl) (same39 _ _ _ hk) ?_)
      | (refine .body (by kernel_rfl) (PDen.to (awake28 ht hg) ?_))
      | (refine PCall.to (by kernel_rfl) (awake28 ht hg) ?_)
      | rfl
      | split)
theorem tellsLaw7 (ht : Tab E.h0 1 .u64 Lib.pow10Tab) (hg : E.g = fun _ => .und) (l : List Lt) (x : Lt) (g : Int) (_ _ _ : True) : PDen Tryd.prog E 7 [lts false l, x.d, .int .i64 g] (.bool true) := tells7 ht hg l x g
theorem turnsLaw8 (ht : Tab E.h0 1 .u64 Lib.pow10Tab) (hg : E.g = fun _ => .und) (l : List Lt) (x : Lt) (g : Int) (_ _ _ : True) : PDen Tryd.prog E 8 [lts false l, x.d, .int .i64 g] (.bool true) := turns8 ht hg l x g
end Go.Lv
