/- Key's laws. -/
import Derived.Test.YtmpbkkfkkbdndaaDoorKeyG
import Derived.Test.YtmpbkkfkkbdndaaDoorKeyB
namespace Go.Lv
open Go Go.Proofs Go.IntWalk
set_option maxRecDepth 100000
set_option linter.unusedSimpArgs false
set_option linter.unusedVariables false
variable {E : Env}
theorem sh50 : shOf Tryd.prog 4 50 = some (.st [.int .i64, .int .i64, .bool]) := by kernel_rfl
theorem sh9 : shOf Tryd.prog 4 9 = some .str := by kernel_rfl
structure Ky where
  (a b : Int)
  (c : Bool)
def Ky.d (x : Ky) : D := .agg [.int .i64 x.a, .int .i64 x.b, .bool x.c]
theorem view50 {ds : List D} (h : (Sh.st [.int .i64, .int .i64, .bool]).ok ds) : ∃ x : Ky, (Sh.st [.int .i64, .int .i64, .bool]).mk ds = x.d ∧ True := by
  simp only [Sh.ok, Sh.okL] at h
  obtain ⟨_, _, rfl, ⟨e0, rfl, _⟩, _, _, rfl, ⟨e1, rfl, _⟩, _, _, rfl, ⟨e2, rfl⟩, rfl⟩ := h
  exact ⟨⟨e0, e1, e2⟩, rfl, trivial⟩
theorem viewStr {ds : List D} (h : (Sh.str).ok ds) : ∃ x : List UInt8, (Sh.str).mk ds = .str x ∧ x.length ≤ maxLen := by
  simp only [Sh.ok] at h
  obtain ⟨s, rfl, hs⟩ := h
  exact ⟨s, rfl, hs⟩
set_option maxHeartbeats 4000000 in
set_option maxHeartbeats 8000000 in
theorem tells10 (ht : Tab E.h0 1 .u64 Lib.pow10Tab) (hg : E.g = fun _ => .und) (a b : Int) (c : Bool) (a' b' : Int) (c' : Bool) (s : List UInt8) : PDen Tryd.prog E 10 [.agg [.int .i64 a, .int .i64 b, .bool c], .agg [.int .i64 a', .int .i64 b', .bool c'], .str s] (.bool true) := by
  refine pden_by (fn := Tryd.f10) mixed Tryd.func10 rfl (rfl) (rfl) ?_
  by_cases hs : (60 : Int) < (s.length : Int)
  · skip
    repeat' (first
      | (simp -implicitDefEqProofs (maxSteps := 1000000) only [*, Tryd.f10, ↓cAny_eq, ↓anyP_go, fillT, fillH, ↓cwp_scope, ↓cwp_label, ↓scope_normal, ↓scope_ret, ↓scope_exit, ↓cwp_skip, ↓cwp_region, ↓cwp_drawn, ↓cwp_seq, ↓cwp_cond, ↓cwp_block, ↓cwp_loop, ↓cwp_exit, ↓cwp_ret, ↓kont_normal, ↓kont_exit, ↓kont_ret, ↓block_normal, ↓block_ret, ↓block_exit, ↓then_normal, ↓then_ret, ↓then_exit, ↓finF_normal, ↓finF_ret, ↓cseq_nil, ↓cseq_free, ↓cseq_cons, ↓seqK_go, ↓anyK_go, ↓caq_zero, ↓caq_done, ↓caq_free, ↓caq_step, ↓cStep_move, ↓cStep_assign, ↓cStep_eq, ↓cPure_call, ↓reduceIte, keeps, wantD, callee, aop, ev, ofV, nth, List.cons_append, List.nil_append, List.append_nil, undL, putO, put, List.length_cons, List.length_nil, Nat.reduceSub, Nat.reduceAdd, dBinT, dBin, dUn, Option.map, List.getElem?_toArray, List.toList_toArray, List.getElem?_cons_succ, List.getElem?_cons_zero, Option.bind, ge_iff_le, gt_iff_lt, resD, resL, resV, beq_true, beq_false, Option.some.injEq, List.map, Bool.not_true, Bool.not_false, Bool.false_eq_true, exists_eq_left', Bool.not_eq_true', decide_eq_true_eq, decide_eq_false_iff_not, ite_not, decide_true, decide_false, not_true_eq_false, not_false_eq_true, D.bool.injEq, if_true, if_false, and_true, true_and, ty1, sz1, z1, ty2, sz2, z2, ty3, sz3, z3, ty4, sz4, z4, ty5, sz5, z5, ty6, sz6, z6, ty9, sz9, z9, ty14, sz14, z14, ty23, sz23, z23, ty25, sz25, z25, ty31, sz31, z31, ty36, sz36, z36, k36, ty50, sz50, z50, k50, ty51, sz51, z51, k51, ty64, sz64, z64, dLen, dIdxA, dLoad, part, Ty.isA, Ty.fi, D.cells, D.cells?, dField, dFieldA, dIdx, dFill, allCell, D.isCell, els, chunk, rep, splice, hget, hset, cellsOf, Blk.isC, Blk.cs, Blk.mut, Blk.setCs, dStore, dBuild, dSlice, dBnd, List.getElem?_map, Option.map_some, Int.toNat_natCast, List.length_map, Nat.lt_irrefl, Nat.zero_lt_one, Nat.zero_lt_succ, Nat.le_refl, Nat.zero_add, Bool.false_eq_true, false_or, or_true, true_or, List.drop_zero, Int.natCast_nonneg, D.int.injEq, Int.zero_le_ofNat, Nat.lt_add_one, List.getElem?_nil, Nat.zero_le, List.take, List.drop, Nat.reduceMul, Nat.reduceLeDiff, Nat.reduceLT, Nat.reducePow, Nat.reduceBEq, Nat.reduceEqDiff, and_self, D.closedL, D.closed, Bool.and_self, bne_self_eq_false, beq_self_eq_true, bne, Bool.true_and, Bool.and_true, Bool.or_true, Bool.or_false, Bool.true_or, Bool.false_or, Bool.and_false, Bool.false_and, List.all_cons, List.all_nil, List.all, List.replicate, exists_const, okK, dEqL, dEqO, dEq, Option.isSome, nc0, nc1, nc2, nc3, nc4, nc5, nc6, nc7, nc8, nc9, nc10, nc11, nc12, wl0, wl1, wl2, wl3, wl4, wl5, wl6, wl7, wl8, wl9, wl10, wl11, wl12, Int.reduceAdd, Int.reduceLT, Int.reduceLE, Int.reduceToNat, Int.reduceEq, Int.reduceSub, Int.reduceBEq, Int.reduceBNe, List.length_singleton, Nat.reduceBNe])
      | (refine .body (by kernel_rfl) (PDen.to (awake41 ht hg) ?_))
      | (refine PCall.to (by kernel_rfl) (awake41 ht hg) ?_)
      | (refine ⟨34, by decide +kernel, ?_⟩)
      | (refine ⟨35, by decide +kernel, ?_⟩)
      | (refine ⟨36, by decide +kernel, ?_⟩)
      | (refine ⟨37, by decide +kernel, ?_⟩)
      | (refine ⟨38, by decide +kernel, ?_⟩)
      | (refine ⟨39, by decide +kernel, ?_⟩)
      | (refine ⟨by decide +kernel, ?_⟩)
      | rfl
      | split)
  · obtain ⟨k0, k1, kb, er, r1, r2, _⟩ := readBoth (E := E) s (by omega)
    repeat' (first
      | (simp -implicitDefEqProofs (maxSteps := 1000000) only [*, Tryd.f10, ↓cAny_eq, ↓anyP_go, fillT, fillH, ↓cwp_scope, ↓cwp_label, ↓scope_normal, ↓scope_ret, ↓scope_exit, ↓cwp_skip, ↓cwp_region, ↓cwp_drawn, ↓cwp_seq, ↓cwp_cond, ↓cwp_block, ↓cwp_loop, ↓cwp_exit, ↓cwp_ret, ↓kont_normal, ↓kont_exit, ↓kont_ret, ↓block_normal, ↓block_ret, ↓block_exit, ↓then_normal, ↓then_ret, ↓then_exit, ↓finF_normal, ↓finF_ret, ↓cseq_nil, ↓cseq_free, ↓cseq_cons, ↓seqK_go, ↓anyK_go, ↓caq_zero, ↓caq_done, ↓caq_free, ↓caq_step, ↓cStep_move, ↓cStep_assign, ↓cStep_eq, ↓cPure_call, ↓reduceIte, keeps, wantD, callee, aop, ev, ofV, nth, List.cons_append, List.nil_append, List.append_nil, undL, putO, put, List.length_cons, List.length_nil, Nat.reduceSub, Nat.reduceAdd, dBinT, dBin, dUn, Option.map, List.getElem?_toArray, List.toList_toArray, List.getElem?_cons_succ, List.getElem?_cons_zero, Option.bind, ge_iff_le, gt_iff_lt, resD, resL, resV, beq_true, beq_false, Option.some.injEq, List.map, Bool.not_true, Bool.not_false, Bool.false_eq_true, exists_eq_left', Bool.not_eq_true', decide_eq_true_eq, decide_eq_false_iff_not, ite_not, decide_true, decide_false, not_true_eq_false, not_false_eq_true, D.bool.injEq, if_true, if_false, and_true, true_and, ty1, sz1, z1, ty2, sz2, z2, ty3, sz3, z3, ty4, sz4, z4, ty5, sz5, z5, ty6, sz6, z6, ty9, sz9, z9, ty14, sz14, z14, ty23, sz23, z23, ty25, sz25, z25, ty31, sz31, z31, ty36, sz36, z36, k36, ty50, sz50, z50, k50, ty51, sz51, z51, k51, ty64, sz64, z64, dLen, dIdxA, dLoad, part, Ty.isA, Ty.fi, D.cells, D.cells?, dField, dFieldA, dIdx, dFill, allCell, D.isCell, els, chunk, rep, splice, hget, hset, cellsOf, Blk.isC, Blk.cs, Blk.mut, Blk.setCs, dStore, dBuild, dSlice, dBnd, List.getElem?_map, Option.map_some, Int.toNat_natCast, List.length_map, Nat.lt_irrefl, Nat.zero_lt_one, Nat.zero_lt_succ, Nat.le_refl, Nat.zero_add, Bool.false_eq_true, false_or, or_true, true_or, List.drop_zero, Int.natCast_nonneg, D.int.injEq, Int.zero_le_ofNat, Nat.lt_add_one, List.getElem?_nil, Nat.zero_le, List.take, List.drop, Nat.reduceMul, Nat.reduceLeDiff, Nat.reduceLT, Nat.reducePow, Nat.reduceBEq, Nat.reduceEqDiff, and_self, D.closedL, D.closed, Bool.and_self, bne_self_eq_false, beq_self_eq_true, bne, Bool.true_and, Bool.and_true, Bool.or_true, Bool.or_false, Bool.true_or, Bool.false_or, Bool.and_false, Bool.false_and, List.all_cons, List.all_nil, List.all, List.replicate, exists_const, okK, dEqL, dEqO, dEq, Option.isSome, nc0, nc1, nc2, nc3, nc4, nc5, nc6, nc7, nc8, nc9, nc10, nc11, nc12, wl0, wl1, wl2, wl3, wl4, wl5, wl6, wl7, wl8, wl9, wl10, wl11, wl12, Int.reduceAdd, Int.reduceLT, Int.reduceLE, Int.reduceToNat, Int.reduceEq, Int.reduceSub, Int.reduceBEq, Int.reduceBNe, List.length_singleton, Nat.reduceBNe])
      | (refine .body (by kernel_rfl) (PDen.to (r1) ?_))
      | (refine PCall.to (by kernel_rfl) (r1) ?_)
      | (refine .body (by kernel_rfl) (PDen.to (r2) ?_))
      | (refine PCall.to (by kernel_rfl) (r2) ?_)
      | (refine .body (by kernel_rfl) (PDen.to (kfitP _ _ _) ?_))
      | (refine PCall.to (by kernel_rfl) (kfitP _ _ _) ?_)
      | (refine .body (by kernel_rfl) (PDen.to (kfitR _ _ _) ?_))
      | (refine PCall.to (by kernel_rfl) (kfitR _ _ _) ?_)
      | (refine .body (by kernel_rfl) (PDen.to (ktextP ht _ _ _) ?_))
      | (refine PCall.to (by kernel_rfl) (ktextP ht _ _ _) ?_)
      | (refine .body (by kernel_rfl) (PDen.to (ktextR _ _ _) ?_))
      | (refine PCall.to (by kernel_rfl) (ktextR _ _ _) ?_)
      | (refine .body (by kernel_rfl) (PDen.to (ofK _ _ _) ?_))
      | (refine PCall.to (by kernel_rfl) (ofK _ _ _) ?_)
      | (refine .body (by kernel_rfl) (PDen.to (below _ _ _ _ _ _) ?_))
      | (refine PCall.to (by kernel_rfl) (below _ _ _ _ _ _) ?_)
      | (refine .body (by kernel_rfl) (PDen.to (belowR _ _ _ _ _ _) ?_))
      | (refine PCall.to (by kernel_rfl) (belowR _ _ _ _ _ _) ?_)
      | (refine .body (by kernel_rfl) (PDen.to (awake41 ht hg) ?_))
      | (refine PCall.to (by kernel_rfl) (awake41 ht hg) ?_)
      | (refine ⟨34, by decide +kernel, ?_⟩)
      | (refine ⟨35, by decide +kernel, ?_⟩)
      | (refine ⟨36, by decide +kernel, ?_⟩)
      | (refine ⟨37, by decide +kernel, ?_⟩)
      | (refine ⟨38, by decide +kernel, ?_⟩)
      | (refine ⟨39, by decide +kernel, ?_⟩)
      | (refine ⟨by decide +kernel, ?_⟩)
      | rfl
      | split)
theorem tellsLaw10 (ht : Tab E.h0 1 .u64 Lib.pow10Tab) (hg : E.g = fun _ => .und) (x y : Ky) (s : List UInt8) (_ _ : True) (_ : s.length ≤ maxLen) : PDen Tryd.prog E 10 [x.d, y.d, .str s] (.bool true) := tells10 ht hg x.a x.b x.c y.a y.b y.c s
end Go.Lv
