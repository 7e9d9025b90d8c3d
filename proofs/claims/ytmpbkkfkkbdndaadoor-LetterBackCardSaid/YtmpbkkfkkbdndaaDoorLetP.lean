/- Letter's laws: back. -/
import Derived.Test.YtmpbkkfkkbdndaaDoorLetO
namespace Go.Lv
open Go Go.Proofs Go.IntWalk
set_option maxRecDepth 100000
set_option linter.unusedSimpArgs false
set_option linter.unusedVariables false
variable {E : Env}
def eqLt (x y : Lt) : Bool := decide (x = y)
theorem dEqLt (x y : Lt) : dEqL [.int .i64 x.g, .int .i64 x.s, .bool x.k, .int .i64 x.y, .int .i64 x.a] [.int .i64 y.g, .int .i64 y.s, .bool y.k, .int .i64 y.y, .int .i64 y.a] = some (eqLt x y) := by
  obtain ⟨xg, xs, xk, xy, xa⟩ := x
  obtain ⟨yg, ys, yk, yy, ya⟩ := y
  simp only [dEqL, dEq, if_true, eqLt, Lt.mk.injEq]
  by_cases h1 : xg = yg
  · by_cases h2 : xs = ys
    · by_cases h3 : xk = yk
      · by_cases h4 : xy = yy
        · by_cases h5 : xa = ya
          · simp [h1, h2, h3, h4, h5]
          · have : (xa == ya) = false := by simpa using h5
            simp [h1, h2, h3, h4, h5, this]
        · have : (xy == yy) = false := by simpa using h4
          simp [h1, h2, h3, h4, this]
      · have : (xk == yk) = false := by simpa using h3
        simp [h1, h2, h3, this]
    · have : (xs == ys) = false := by simpa using h2
      simp [h1, h2, this]
  · have : (xg == yg) = false := by simpa using h1
    simp [h1, this]
theorem text_eq {x y : Lt} (hx : oneS x = true) (hy : oneS y = true) : (textS x == textS y) = eqLt x y := by
  unfold eqLt
  by_cases h : x = y
  · subst h
    simp
  · rw [decide_eq_false h, beq_eq_false_iff_ne]
    exact fun e => h (text_inj hx hy e)
theorem put_fails (l : List Lt) (x : Lt) : (∃ e : Int, (e == 0) = false ∧ putD l x = .tup [.list true [], .int .i64 e]) ∨
    (oneS x = true ∧ putD l x = .tup [lts false (ins x l), .int .i64 0] ∧ fitS (ins x l) = true ∧ findD x.g (ins x l) = .tup [x.d, .bool true] ∧ dropD (ins x l) x.g = .tup [resC l, .int .i64 0]) := by
  cases hf : fitS l
  · exact .inl ⟨12, rfl, by simp [putD, hf]⟩
  cases ho : oneS x
  · exact .inl ⟨1, rfl, by simp [putD, hf, ho]⟩
  cases hp : plc x.g l with
  | some n => exact .inl ⟨3, rfl, by simp [putD, hf, ho, hp]⟩
  | none =>
    by_cases h16 : l.length = 16
    · exact .inl ⟨4, rfl, by simp [putD, hf, ho, hp, h16]⟩
    · have hfl := hf
      simp only [fitS, Bool.and_eq_true, decide_eq_true_eq] at hfl
      have h1 := (oneS_iff.1 ho).1
      have hfi : fitS (ins x l) = true := by
        simp only [fitS, Bool.and_eq_true, decide_eq_true_eq]
        exact ⟨fit_ins ho hfl.1 (by omega) hp, by rw [ins_len]; omega⟩
      have hpi := plc_ins hp
      obtain ⟨g1, g2⟩ := ins_at x l
      exact .inr ⟨rfl, by simp [putD, hf, ho, hp, h16], hfi, by simp only [findD, hpi, g1], by simp [dropD, hfi, hpi, dropL, g2]⟩
set_option maxHeartbeats 8000000 in
theorem back9 (ht : Tab E.h0 1 .u64 Lib.pow10Tab) (hg : E.g = fun _ => .und) (l : List Lt) (x y : Lt) : PDen Tryd.prog E 9 [lts false l, x.d, y.d] (.bool true) := by
  refine pden_by (fn := Tryd.f9) mixed Tryd.func9 rfl (rfl) (rfl) ?_
  have hE := dEqLt x y
  have hS := dEqLt x x
  have hS' : eqLt x x = true := by simp [eqLt]
  rw [hS'] at hS
  have hT := text_eq (x := x) (y := y)
  clear hS'
  by_cases h20 : (20 : Int) < (l.length : Int)
  · obtain ⟨xg, xs, xk, xy, xa⟩ := x
    obtain ⟨yg, ys, yk, yy, ya⟩ := y
    skip
    repeat' (first
      | (simp -implicitDefEqProofs (maxSteps := 1000000) only [*, Tryd.f9, ↓cwp_skip, ↓cwp_region, ↓cwp_drawn, ↓cwp_seq, ↓cwp_cond, ↓cwp_block, ↓cwp_loop, ↓cwp_exit, ↓cwp_ret, ↓kont_normal, ↓kont_exit, ↓kont_ret, ↓block_normal, ↓block_ret, ↓block_exit, ↓then_normal, ↓then_ret, ↓then_exit, ↓finF_normal, ↓finF_ret, ↓cseq_nil, ↓cseq_free, ↓cseq_cons, ↓seqK_go, ↓anyK_go, ↓caq_zero, ↓caq_done, ↓caq_free, ↓caq_step, ↓cStep_move, ↓cStep_assign, ↓cStep_eq, ↓cPure_call, ↓reduceIte, keeps, wantD, callee, aop, ev, ofV, nth, List.cons_append, List.nil_append, List.append_nil, undL, putO, put, List.length_cons, List.length_nil, Nat.reduceSub, Nat.reduceAdd, dBinT, dBin, dUn, Option.map, List.getElem?_toArray, List.toList_toArray, List.getElem?_cons_succ, List.getElem?_cons_zero, Option.bind, ge_iff_le, gt_iff_lt, resD, resL, resV, beq_true, beq_false, Option.some.injEq, List.map, Bool.not_true, Bool.not_false, Bool.false_eq_true, exists_eq_left', Bool.not_eq_true', decide_eq_true_eq, decide_eq_false_iff_not, ite_not, decide_true, decide_false, not_true_eq_false, not_false_eq_true, D.bool.injEq, if_true, if_false, and_true, true_and, ty1, sz1, z1, ty2, sz2, z2, ty3, sz3, z3, ty4, sz4, z4, ty5, sz5, z5, ty6, sz6, z6, ty7, sz7, z7, ty8, sz8, z8, ty9, sz9, z9, ty10, sz10, z10, ty14, sz14, z14, ty19, sz19, z19, ty23, sz23, z23, ty35, sz35, z35, ty37, sz37, z37, k37, ty89, sz89, z89, k89, dLen, dIdxA, dLoad, part, Ty.isA, Ty.fi, D.cells, D.cells?, dField, dFieldA, dIdx, dFill, allCell, D.isCell, els, chunk, rep, splice, hget, hset, cellsOf, Blk.isC, Blk.cs, Blk.mut, Blk.setCs, dStore, dBuild, dSlice, dBnd, List.getElem?_map, Option.map_some, Int.toNat_natCast, List.length_map, Nat.lt_irrefl, Nat.zero_lt_one, Nat.zero_lt_succ, Nat.le_refl, Nat.zero_add, Bool.false_eq_true, false_or, or_true, true_or, List.drop_zero, Int.natCast_nonneg, D.int.injEq, Int.zero_le_ofNat, Nat.lt_add_one, List.getElem?_nil, Nat.zero_le, List.take, List.drop, Nat.reduceMul, Nat.reduceLeDiff, Nat.reduceLT, Nat.reducePow, Nat.reduceBEq, Nat.reduceEqDiff, and_self, D.closedL, D.closed, Bool.and_self, bne_self_eq_false, beq_self_eq_true, bne, Bool.true_and, Bool.and_true, Bool.or_true, Bool.or_false, Bool.true_or, Bool.false_or, Bool.and_false, Bool.false_and, List.all_cons, List.all_nil, List.all, List.replicate, exists_const, okK, dEqO, Option.isSome, nc0, nc1, nc2, nc3, nc4, nc5, nc6, nc7, nc8, nc9, nc10, nc11, nc12, wl0, wl1, wl2, wl3, wl4, wl5, wl6, wl7, wl8, wl9, wl10, wl11, wl12, Int.reduceAdd, Int.reduceLT, Int.reduceLE, Int.reduceToNat, Int.reduceEq, Int.reduceSub, Int.reduceBEq, Int.reduceBNe, List.length_singleton, Nat.reduceBNe, lts_def, Lt.d_mk, hget_len, hset_len', eq_self])
      | (refine .body (by kernel_rfl) (PDen.to (awake28 ht hg) ?_))
      | (refine PCall.to (by kernel_rfl) (awake28 ht hg) ?_)
      | (refine ⟨15, by decide +kernel, ?_⟩)
      | (refine ⟨16, by decide +kernel, ?_⟩)
      | (refine ⟨17, by decide +kernel, ?_⟩)
      | rfl
      | split)
  · have hn : l.length ≤ 1000000 := by omega
    have c1 := put35 (E := E) false l hn x
    rcases put_fails l x with ⟨e, he, hp⟩ | ⟨hox, hp, hfi, hfd, hdd⟩
    · rw [hp] at c1
      clear hp hS
      cases hox : oneS x
      · obtain ⟨xg, xs, xk, xy, xa⟩ := x
        obtain ⟨yg, ys, yk, yy, ya⟩ := y
        clear hT
        repeat' (first
          | (simp -implicitDefEqProofs (maxSteps := 1000000) only [*, Tryd.f9, ↓cwp_skip, ↓cwp_region, ↓cwp_drawn, ↓cwp_seq, ↓cwp_cond, ↓cwp_block, ↓cwp_loop, ↓cwp_exit, ↓cwp_ret, ↓kont_normal, ↓kont_exit, ↓kont_ret, ↓block_normal, ↓block_ret, ↓block_exit, ↓then_normal, ↓then_ret, ↓then_exit, ↓finF_normal, ↓finF_ret, ↓cseq_nil, ↓cseq_free, ↓cseq_cons, ↓seqK_go, ↓anyK_go, ↓caq_zero, ↓caq_done, ↓caq_free, ↓caq_step, ↓cStep_move, ↓cStep_assign, ↓cStep_eq, ↓cPure_call, ↓reduceIte, keeps, wantD, callee, aop, ev, ofV, nth, List.cons_append, List.nil_append, List.append_nil, undL, putO, put, List.length_cons, List.length_nil, Nat.reduceSub, Nat.reduceAdd, dBinT, dBin, dUn, Option.map, List.getElem?_toArray, List.toList_toArray, List.getElem?_cons_succ, List.getElem?_cons_zero, Option.bind, ge_iff_le, gt_iff_lt, resD, resL, resV, beq_true, beq_false, Option.some.injEq, List.map, Bool.not_true, Bool.not_false, Bool.false_eq_true, exists_eq_left', Bool.not_eq_true', decide_eq_true_eq, decide_eq_false_iff_not, ite_not, decide_true, decide_false, not_true_eq_false, not_false_eq_true, D.bool.injEq, if_true, if_false, and_true, true_and, ty1, sz1, z1, ty2, sz2, z2, ty3, sz3, z3, ty4, sz4, z4, ty5, sz5, z5, ty6, sz6, z6, ty7, sz7, z7, ty8, sz8, z8, ty9, sz9, z9, ty10, sz10, z10, ty14, sz14, z14, ty19, sz19, z19, ty23, sz23, z23, ty35, sz35, z35, ty37, sz37, z37, k37, ty89, sz89, z89, k89, dLen, dIdxA, dLoad, part, Ty.isA, Ty.fi, D.cells, D.cells?, dField, dFieldA, dIdx, dFill, allCell, D.isCell, els, chunk, rep, splice, hget, hset, cellsOf, Blk.isC, Blk.cs, Blk.mut, Blk.setCs, dStore, dBuild, dSlice, dBnd, List.getElem?_map, Option.map_some, Int.toNat_natCast, List.length_map, Nat.lt_irrefl, Nat.zero_lt_one, Nat.zero_lt_succ, Nat.le_refl, Nat.zero_add, Bool.false_eq_true, false_or, or_true, true_or, List.drop_zero, Int.natCast_nonneg, D.int.injEq, Int.zero_le_ofNat, Nat.lt_add_one, List.getElem?_nil, Nat.zero_le, List.take, List.drop, Nat.reduceMul, Nat.reduceLeDiff, Nat.reduceLT, Nat.reducePow, Nat.reduceBEq, Nat.reduceEqDiff, and_self, D.closedL, D.closed, Bool.and_self, bne_self_eq_false, beq_self_eq_true, bne, Bool.true_and, Bool.and_true, Bool.or_true, Bool.or_false, Bool.true_or, Bool.false_or, Bool.and_false, Bool.false_and, List.all_cons, List.all_nil, List.all, List.replicate, exists_const, okK, dEqO, Option.isSome, nc0, nc1, nc2, nc3, nc4, nc5, nc6, nc7, nc8, nc9, nc10, nc11, nc12, wl0, wl1, wl2, wl3, wl4, wl5, wl6, wl7, wl8, wl9, wl10, wl11, wl12, Int.reduceAdd, Int.reduceLT, Int.reduceLE, Int.reduceToNat, Int.reduceEq, Int.reduceSub, Int.reduceBEq, Int.reduceBNe, List.length_singleton, Nat.reduceBNe, lts_def, Lt.d_mk, hget_len, hset_len', eq_self])
          | (refine .body (by kernel_rfl) (PDen.to (c1) ?_))
          | (refine PCall.to (by kernel_rfl) (c1) ?_)
          | (refine .body (by kernel_rfl) (PDen.to (oneR ⟨xg, xs, xk, xy, xa⟩) ?_))
          | (refine PCall.to (by kernel_rfl) (oneR ⟨xg, xs, xk, xy, xa⟩) ?_)
          | (refine .body (by kernel_rfl) (PDen.to (oneR ⟨yg, ys, yk, yy, ya⟩) ?_))
          | (refine PCall.to (by kernel_rfl) (oneR ⟨yg, ys, yk, yy, ya⟩) ?_)
          | (refine .body (by kernel_rfl) (PDen.to (text33 ht ⟨xg, xs, xk, xy, xa⟩) ?_))
          | (refine PCall.to (by kernel_rfl) (text33 ht ⟨xg, xs, xk, xy, xa⟩) ?_)
          | (refine .body (by kernel_rfl) (PDen.to (text33 ht ⟨yg, ys, yk, yy, ya⟩) ?_))
          | (refine PCall.to (by kernel_rfl) (text33 ht ⟨yg, ys, yk, yy, ya⟩) ?_)
          | (refine .body (by kernel_rfl) (PDen.to (awake28 ht hg) ?_))
          | (refine PCall.to (by kernel_rfl) (awake28 ht hg) ?_)
          | (refine ⟨15, by decide +kernel, ?_⟩)
          | (refine ⟨16, by decide +kernel, ?_⟩)
          | (refine ⟨17, by decide +kernel, ?_⟩)
          | rfl
          | split)
      · cases hoy : oneS y
        · obtain ⟨xg, xs, xk, xy, xa⟩ := x
          obtain ⟨yg, ys, yk, yy, ya⟩ := y
          clear hT
          repeat' (first
            | (simp -implicitDefEqProofs (maxSteps := 1000000) only [*, Tryd.f9, ↓cwp_skip, ↓cwp_region, ↓cwp_drawn, ↓cwp_seq, ↓cwp_cond, ↓cwp_block, ↓cwp_loop, ↓cwp_exit, ↓cwp_ret, ↓kont_normal, ↓kont_exit, ↓kont_ret, ↓block_normal, ↓block_ret, ↓block_exit, ↓then_normal, ↓then_ret, ↓then_exit, ↓finF_normal, ↓finF_ret, ↓cseq_nil, ↓cseq_free, ↓cseq_cons, ↓seqK_go, ↓anyK_go, ↓caq_zero, ↓caq_done, ↓caq_free, ↓caq_step, ↓cStep_move, ↓cStep_assign, ↓cStep_eq, ↓cPure_call, ↓reduceIte, keeps, wantD, callee, aop, ev, ofV, nth, List.cons_append, List.nil_append, List.append_nil, undL, putO, put, List.length_cons, List.length_nil, Nat.reduceSub, Nat.reduceAdd, dBinT, dBin, dUn, Option.map, List.getElem?_toArray, List.toList_toArray, List.getElem?_cons_succ, List.getElem?_cons_zero, Option.bind, ge_iff_le, gt_iff_lt, resD, resL, resV, beq_true, beq_false, Option.some.injEq, List.map, Bool.not_true, Bool.not_false, Bool.false_eq_true, exists_eq_left', Bool.not_eq_true', decide_eq_true_eq, decide_eq_false_iff_not, ite_not, decide_true, decide_false, not_true_eq_false, not_false_eq_true, D.bool.injEq, if_true, if_false, and_true, true_and, ty1, sz1, z1, ty2, sz2, z2, ty3, sz3, z3, ty4, sz4, z4, ty5, sz5, z5, ty6, sz6, z6, ty7, sz7, z7, ty8, sz8, z8, ty9, sz9, z9, ty10, sz10, z10, ty14, sz14, z14, ty19, sz19, z19, ty23, sz23, z23, ty35, sz35, z35, ty37, sz37, z37, k37, ty89, sz89, z89, k89, dLen, dIdxA, dLoad, part, Ty.isA, Ty.fi, D.cells, D.cells?, dField, dFieldA, dIdx, dFill, allCell, D.isCell, els, chunk, rep, splice, hget, hset, cellsOf, Blk.isC, Blk.cs, Blk.mut, Blk.setCs, dStore, dBuild, dSlice, dBnd, List.getElem?_map, Option.map_some, Int.toNat_natCast, List.length_map, Nat.lt_irrefl, Nat.zero_lt_one, Nat.zero_lt_succ, Nat.le_refl, Nat.zero_add, Bool.false_eq_true, false_or, or_true, true_or, List.drop_zero, Int.natCast_nonneg, D.int.injEq, Int.zero_le_ofNat, Nat.lt_add_one, List.getElem?_nil, Nat.zero_le, List.take, List.drop, Nat.reduceMul, Nat.reduceLeDiff, Nat.reduceLT, Nat.reducePow, Nat.reduceBEq, Nat.reduceEqDiff, and_self, D.closedL, D.closed, Bool.and_self, bne_self_eq_false, beq_self_eq_true, bne, Bool.true_and, Bool.and_true, Bool.or_true, Bool.or_false, Bool.true_or, Bool.false_or, Bool.and_false, Bool.false_and, List.all_cons, List.all_nil, List.all, List.replicate, exists_const, okK, dEqO, Option.isSome, nc0, nc1, nc2, nc3, nc4, nc5, nc6, nc7, nc8, nc9, nc10, nc11, nc12, wl0, wl1, wl2, wl3, wl4, wl5, wl6, wl7, wl8, wl9, wl10, wl11, wl12, Int.reduceAdd, Int.reduceLT, Int.reduceLE, Int.reduceToNat, Int.reduceEq, Int.reduceSub, Int.reduceBEq, Int.reduceBNe, List.length_singleton, Nat.reduceBNe, lts_def, Lt.d_mk, hget_len, hset_len', eq_self])
            | (refine .body (by kernel_rfl) (PDen.to (c1) ?_))
            | (refine PCall.to (by kernel_rfl) (c1) ?_)
            | (refine .body (by kernel_rfl) (PDen.to (oneR ⟨xg, xs, xk, xy, xa⟩) ?_))
            | (refine PCall.to (by kernel_rfl) (oneR ⟨xg, xs, xk, xy, xa⟩) ?_)
            | (refine .body (by kernel_rfl) (PDen.to (oneR ⟨yg, ys, yk, yy, ya⟩) ?_))
            | (refine PCall.to (by kernel_rfl) (oneR ⟨yg, ys, yk, yy, ya⟩) ?_)
            | (refine .body (by kernel_rfl) (PDen.to (text33 ht ⟨xg, xs, xk, xy, xa⟩) ?_))
            | (refine PCall.to (by kernel_rfl) (text33 ht ⟨xg, xs, xk, xy, xa⟩) ?_)
            | (refine .body (by kernel_rfl) (PDen.to (text33 ht ⟨yg, ys, yk, yy, ya⟩) ?_))
            | (refine PCall.to (by kernel_rfl) (text33 ht ⟨yg, ys, yk, yy, ya⟩) ?_)
            | (refine .body (by kernel_rfl) (PDen.to (awake28 ht hg) ?_))
            | (refine PCall.to (by kernel_rfl) (awake28 ht hg) ?_)
            | (refine ⟨15, by decide +kernel, ?_⟩)
            | (refine ⟨16, by decide +kernel, ?_⟩)
            | (refine ⟨17, by decide +kernel, ?_⟩)
            | rfl
            | split)
        · have hT' := hT hox hoy
          clear hT
          generalize eqLt x y = q at hE hT'
          obtain ⟨xg, xs, xk, xy, xa⟩ := x
          obtain ⟨yg, ys, yk, yy, ya⟩ := y
          cases q
          · skip
            repeat' (first
              | (simp -implicitDefEqProofs (maxSteps := 1000000) only [*, Tryd.f9, ↓cwp_skip, ↓cwp_region, ↓cwp_drawn, ↓cwp_seq, ↓cwp_cond, ↓cwp_block, ↓cwp_loop, ↓cwp_exit, ↓cwp_ret, ↓kont_normal, ↓kont_exit, ↓kont_ret, ↓block_normal, ↓block_ret, ↓block_exit, ↓then_normal, ↓then_ret, ↓then_exit, ↓finF_normal, ↓finF_ret, ↓cseq_nil, ↓cseq_free, ↓cseq_cons, ↓seqK_go, ↓anyK_go, ↓caq_zero, ↓caq_done, ↓caq_free, ↓caq_step, ↓cStep_move, ↓cStep_assign, ↓cStep_eq, ↓cPure_call, ↓reduceIte, keeps, wantD, callee, aop, ev, ofV, nth, List.cons_append, List.nil_append, List.append_nil, undL, putO, put, List.length_cons, List.length_nil, Nat.reduceSub, Nat.reduceAdd, dBinT, dBin, dUn, Option.map, List.getElem?_toArray, List.toList_toArray, List.getElem?_cons_succ, List.getElem?_cons_zero, Option.bind, ge_iff_le, gt_iff_lt, resD, resL, resV, beq_true, beq_false, Option.some.injEq, List.map, Bool.not_true, Bool.not_false, Bool.false_eq_true, exists_eq_left', Bool.not_eq_true', decide_eq_true_eq, decide_eq_false_iff_not, ite_not, decide_true, decide_false, not_true_eq_false, not_false_eq_true, D.bool.injEq, if_true, if_false, and_true, true_and, ty1, sz1, z1, ty2, sz2, z2, ty3, sz3, z3, ty4, sz4, z4, ty5, sz5, z5, ty6, sz6, z6, ty7, sz7, z7, ty8, sz8, z8, ty9, sz9, z9, ty10, sz10, z10, ty14, sz14, z14, ty19, sz19, z19, ty23, sz23, z23, ty35, sz35, z35, ty37, sz37, z37, k37, ty89, sz89, z89, k89, dLen, dIdxA, dLoad, part, Ty.isA, Ty.fi, D.cells, D.cells?, dField, dFieldA, dIdx, dFill, allCell, D.isCell, els, chunk, rep, splice, hget, hset, cellsOf, Blk.isC, Blk.cs, Blk.mut, Blk.setCs, dStore, dBuild, dSlice, dBnd, List.getElem?_map, Option.map_some, Int.toNat_natCast, List.length_map, Nat.lt_irrefl, Nat.zero_lt_one, Nat.zero_lt_succ, Nat.le_refl, Nat.zero_add, Bool.false_eq_true, false_or, or_true, true_or, List.drop_zero, Int.natCast_nonneg, D.int.injEq, Int.zero_le_ofNat, Nat.lt_add_one, List.getElem?_nil, Nat.zero_le, List.take, List.drop, Nat.reduceMul, Nat.reduceLeDiff, Nat.reduceLT, Nat.reducePow, Nat.reduceBEq, Nat.reduceEqDiff, and_self, D.closedL, D.closed, Bool.and_self, bne_self_eq_false, beq_self_eq_true, bne, Bool.true_and, Bool.and_true, Bool.or_true, Bool.or_false, Bool.true_or, Bool.false_or, Bool.and_false, Bool.false_and, List.all_cons, List.all_nil, List.all, List.replicate, exists_const, okK, dEqO, Option.isSome, nc0, nc1, nc2, nc3, nc4, nc5, nc6, nc7, nc8, nc9, nc10, nc11, nc12, wl0, wl1, wl2, wl3, wl4, wl5, wl6, wl7, wl8, wl9, wl10, wl11, wl12, Int.reduceAdd, Int.reduceLT, Int.reduceLE, Int.reduceToNat, Int.reduceEq, Int.reduceSub, Int.reduceBEq, Int.reduceBNe, List.length_singleton, Nat.reduceBNe, lts_def, Lt.d_mk, hget_len, hset_len', eq_self])
              | (refine .body (by kernel_rfl) (PDen.to (c1) ?_))
              | (refine PCall.to (by kernel_rfl) (c1) ?_)
              | (refine .body (by kernel_rfl) (PDen.to (oneR ⟨xg, xs, xk, xy, xa⟩) ?_))
              | (refine PCall.to (by kernel_rfl) (oneR ⟨xg, xs, xk, xy, xa⟩) ?_)
              | (refine .body (by kernel_rfl) (PDen.to (oneR ⟨yg, ys, yk, yy, ya⟩) ?_))
              | (refine PCall.to (by kernel_rfl) (oneR ⟨yg, ys, yk, yy, ya⟩) ?_)
              | (refine .body (by kernel_rfl) (PDen.to (text33 ht ⟨xg, xs, xk, xy, xa⟩) ?_))
              | (refine PCall.to (by kernel_rfl) (text33 ht ⟨xg, xs, xk, xy, xa⟩) ?_)
              | (refine .body (by kernel_rfl) (PDen.to (text33 ht ⟨yg, ys, yk, yy, ya⟩) ?_))
              | (refine PCall.to (by kernel_rfl) (text33 ht ⟨yg, ys, yk, yy, ya⟩) ?_)
              | (refine .body (by kernel_rfl) (PDen.to (awake28 ht hg) ?_))
              | (refine PCall.to (by kernel_rfl) (awake28 ht hg) ?_)
              | (refine ⟨15, by decide +kernel, ?_⟩)
              | (refine ⟨16, by decide +kernel, ?_⟩)
              | (refine ⟨17, by decide +kernel, ?_⟩)
              | rfl
              | split)
          · skip
            repeat' (first
              | (simp -implicitDefEqProofs (maxSteps := 1000000) only [*, Tryd.f9, ↓cwp_skip, ↓cwp_region, ↓cwp_drawn, ↓cwp_seq, ↓cwp_cond, ↓cwp_block, ↓cwp_loop, ↓cwp_exit, ↓cwp_ret, ↓kont_normal, ↓kont_exit, ↓kont_ret, ↓block_normal, ↓block_ret, ↓block_exit, ↓then_normal, ↓then_ret, ↓then_exit, ↓finF_normal, ↓finF_ret, ↓cseq_nil, ↓cseq_free, ↓cseq_cons, ↓seqK_go, ↓anyK_go, ↓caq_zero, ↓caq_done, ↓caq_free, ↓caq_step, ↓cStep_move, ↓cStep_assign, ↓cStep_eq, ↓cPure_call, ↓reduceIte, keeps, wantD, callee, aop, ev, ofV, nth, List.cons_append, List.nil_append, List.append_nil, undL, putO, put, List.length_cons, List.length_nil, Nat.reduceSub, Nat.reduceAdd, dBinT, dBin, dUn, Option.map, List.getElem?_toArray, List.toList_toArray, List.getElem?_cons_succ, List.getElem?_cons_zero, Option.bind, ge_iff_le, gt_iff_lt, resD, resL, resV, beq_true, beq_false, Option.some.injEq, List.map, Bool.not_true, Bool.not_false, Bool.false_eq_true, exists_eq_left', Bool.not_eq_true', decide_eq_true_eq, decide_eq_false_iff_not, ite_not, decide_true, decide_false, not_true_eq_false, not_false_eq_true, D.bool.injEq, if_true, if_false, and_true, true_and, ty1, sz1, z1, ty2, sz2, z2, ty3, sz3, z3, ty4, sz4, z4, ty5, sz5, z5, ty6, sz6, z6, ty7, sz7, z7, ty8, sz8, z8, ty9, sz9, z9, ty10, sz10, z10, ty14, sz14, z14, ty19, sz19, z19, ty23, sz23, z23, ty35, sz35, z35, ty37, sz37, z37, k37, ty89, sz89, z89, k89, dLen, dIdxA, dLoad, part, Ty.isA, Ty.fi, D.cells, D.cells?, dField, dFieldA, dIdx, dFill, allCell, D.isCell, els, chunk, rep, splice, hget, hset, cellsOf, Blk.isC, Blk.cs, Blk.mut, Blk.setCs, dStore, dBuild, dSlice, dBnd, List.getElem?_map, Option.map_some, Int.toNat_natCast, List.length_map, Nat.lt_irrefl, Nat.zero_lt_one, Nat.zero_lt_succ, Nat.le_refl, Nat.zero_add, Bool.false_eq_true, false_or, or_true, true_or, List.drop_zero, Int.natCast_nonneg, D.int.injEq, Int.zero_le_ofNat, Nat.lt_add_one, List.getElem?_nil, Nat.zero_le, List.take, List.drop, Nat.reduceMul, Nat.reduceLeDiff, Nat.reduceLT, Nat.reducePow, Nat.reduceBEq, Nat.reduceEqDiff, and_self, D.closedL, D.closed, Bool.and_self, bne_self_eq_false, beq_self_eq_true, bne, Bool.true_and, Bool.and_true, Bool.or_true, Bool.or_false, Bool.true_or, Bool.false_or, Bool.and_false, Bool.false_and, List.all_cons, List.all_nil, List.all, List.replicate, exists_const, okK, dEqO, Option.isSome, nc0, nc1, nc2, nc3, nc4, nc5, nc6, nc7, nc8, nc9, nc10, nc11, nc12, wl0, wl1, wl2, wl3, wl4, wl5, wl6, wl7, wl8, wl9, wl10, wl11, wl12, Int.reduceAdd, Int.reduceLT, Int.reduceLE, Int.reduceToNat, Int.reduceEq, Int.reduceSub, Int.reduceBEq, Int.reduceBNe, List.length_singleton, Nat.reduceBNe, lts_def, Lt.d_mk, hget_len, hset_len', eq_self])
              | (refine .body (by kernel_rfl) (PDen.to (c1) ?_))
              | (refine PCall.to (by kernel_rfl) (c1) ?_)
              | (refine .body (by kernel_rfl) (PDen.to (oneR ⟨xg, xs, xk, xy, xa⟩) ?_))
              | (refine PCall.to (by kernel_rfl) (oneR ⟨xg, xs, xk, xy, xa⟩) ?_)
              | (refine .body (by kernel_rfl) (PDen.to (oneR ⟨yg, ys, yk, yy, ya⟩) ?_))
              | (refine PCall.to (by kernel_rfl) (oneR ⟨yg, ys, yk, yy, ya⟩) ?_)
              | (refine .body (by kernel_rfl) (PDen.to (text33 ht ⟨xg, xs, xk, xy, xa⟩) ?_))
              | (refine PCall.to (by kernel_rfl) (text33 ht ⟨xg, xs, xk, xy, xa⟩) ?_)
              | (refine .body (by kernel_rfl) (PDen.to (text33 ht ⟨yg, ys, yk, yy, ya⟩) ?_))
              | (refine PCall.to (by kernel_rfl) (text33 ht ⟨yg, ys, yk, yy, ya⟩) ?_)
              | (refine .body (by kernel_rfl) (PDen.to (awake28 ht hg) ?_))
              | (refine PCall.to (by kernel_rfl) (awake28 ht hg) ?_)
              | (refine ⟨15, by decide +kernel, ?_⟩)
              | (refine ⟨16, by decide +kernel, ?_⟩)
              | (refine ⟨17, by decide +kernel, ?_⟩)
              | rfl
              | split)
    · rw [hp] at c1
      have hni : (ins x l).length ≤ 1000000 := by rw [ins_len]; omega
      have hni4 : (ins x l).length ≤ 4611686018427387904 := by omega
      have c2 := find29 (E := E) false x.g (ins x l) hni4
      have c3 := drop37 (E := E) false (ins x l) hni x.g
      have c4 := fit31 (E := E) false (ins x l) hni4
      have c5 := same39 (E := E) l.isEmpty false l (by omega)
      have htx : (textS x == []) = false := by rw [beq_eq_false_iff_ne]; exact text_ne hox
      rw [hfd] at c2
      rw [hdd, resC] at c3
      rw [hfi] at c4
      generalize ins x l = m at c1 c2 c3 c4
      generalize l.isEmpty = fl at c3 c5
      clear hp hfi hfd hdd hni hni4
      cases hoy : oneS y
      · obtain ⟨xg, xs, xk, xy, xa⟩ := x
        obtain ⟨yg, ys, yk, yy, ya⟩ := y
        clear hT
        repeat' (first
          | (simp -implicitDefEqProofs (maxSteps := 1000000) only [*, Tryd.f9, ↓cwp_skip, ↓cwp_region, ↓cwp_drawn, ↓cwp_seq, ↓cwp_cond, ↓cwp_block, ↓cwp_loop, ↓cwp_exit, ↓cwp_ret, ↓kont_normal, ↓kont_exit, ↓kont_ret, ↓block_normal, ↓block_ret, ↓block_exit, ↓then_normal, ↓then_ret, ↓then_exit, ↓finF_normal, ↓finF_ret, ↓cseq_nil, ↓cseq_free, ↓cseq_cons, ↓seqK_go, ↓anyK_go, ↓caq_zero, ↓caq_done, ↓caq_free, ↓caq_step, ↓cStep_move, ↓cStep_assign, ↓cStep_eq, ↓cPure_call, ↓reduceIte, keeps, wantD, callee, aop, ev, ofV, nth, List.cons_append, List.nil_append, List.append_nil, undL, putO, put, List.length_cons, List.length_nil, Nat.reduceSub, Nat.reduceAdd, dBinT, dBin, dUn, Option.map, List.getElem?_toArray, List.toList_toArray, List.getElem?_cons_succ, List.getElem?_cons_zero, Option.bind, ge_iff_le, gt_iff_lt, resD, resL, resV, beq_true, beq_false, Option.some.injEq, List.map, Bool.not_true, Bool.not_false, Bool.false_eq_true, exists_eq_left', Bool.not_eq_true', decide_eq_true_eq, decide_eq_false_iff_not, ite_not, decide_true, decide_false, not_true_eq_false, not_false_eq_true, D.bool.injEq, if_true, if_false, and_true, true_and, ty1, sz1, z1, ty2, sz2, z2, ty3, sz3, z3, ty4, sz4, z4, ty5, sz5, z5, ty6, sz6, z6, ty7, sz7, z7, ty8, sz8, z8, ty9, sz9, z9, ty10, sz10, z10, ty14, sz14, z14, ty19, sz19, z19, ty23, sz23, z23, ty35, sz35, z35, ty37, sz37, z37, k37, ty89, sz89, z89, k89, dLen, dIdxA, dLoad, part, Ty.isA, Ty.fi, D.cells, D.cells?, dField, dFieldA, dIdx, dFill, allCell, D.isCell, els, chunk, rep, splice, hget, hset, cellsOf, Blk.isC, Blk.cs, Blk.mut, Blk.setCs, dStore, dBuild, dSlice, dBnd, List.getElem?_map, Option.map_some, Int.toNat_natCast, List.length_map, Nat.lt_irrefl, Nat.zero_lt_one, Nat.zero_lt_succ, Nat.le_refl, Nat.zero_add, Bool.false_eq_true, false_or, or_true, true_or, List.drop_zero, Int.natCast_nonneg, D.int.injEq, Int.zero_le_ofNat, Nat.lt_add_one, List.getElem?_nil, Nat.zero_le, List.take, List.drop, Nat.reduceMul, Nat.reduceLeDiff, Nat.reduceLT, Nat.reducePow, Nat.reduceBEq, Nat.reduceEqDiff, and_self, D.closedL, D.closed, Bool.and_self, bne_self_eq_false, beq_self_eq_true, bne, Bool.true_and, Bool.and_true, Bool.or_true, Bool.or_false, Bool.true_or, Bool.false_or, Bool.and_false, Bool.false_and, List.all_cons, List.all_nil, List.all, List.replicate, exists_const, okK, dEqO, Option.isSome, nc0, nc1, nc2, nc3, nc4, nc5, nc6, nc7, nc8, nc9, nc10, nc11, nc12, wl0, wl1, wl2, wl3, wl4, wl5, wl6, wl7, wl8, wl9, wl10, wl11, wl12, Int.reduceAdd, Int.reduceLT, Int.reduceLE, Int.reduceToNat, Int.reduceEq, Int.reduceSub, Int.reduceBEq, Int.reduceBNe, List.length_singleton, Nat.reduceBNe, lts_def, Lt.d_mk, hget_len, hset_len', eq_self])
          | (refine .body (by kernel_rfl) (PDen.to (c1) ?_))
          | (refine PCall.to (by kernel_rfl) (c1) ?_)
          | (refine .body (by kernel_rfl) (PDen.to (c2) ?_))
          | (refine PCall.to (by kernel_rfl) (c2) ?_)
          | (refine .body (by kernel_rfl) (PDen.to (c3) ?_))
          | (refine PCall.to (by kernel_rfl) (c3) ?_)
          | (refine .body (by kernel_rfl) (PDen.to (c4) ?_))
          | (refine PCall.to (by kernel_rfl) (c4) ?_)
          | (refine .body (by kernel_rfl) (PDen.to (c5) ?_))
          | (refine PCall.to (by kernel_rfl) (c5) ?_)
          | (refine .body (by kernel_rfl) (PDen.to (oneR ⟨xg, xs, xk, xy, xa⟩) ?_))
          | (refine PCall.to (by kernel_rfl) (oneR ⟨xg, xs, xk, xy, xa⟩) ?_)
          | (refine .body (by kernel_rfl) (PDen.to (oneR ⟨yg, ys, yk, yy, ya⟩) ?_))
          | (refine PCall.to (by kernel_rfl) (oneR ⟨yg, ys, yk, yy, ya⟩) ?_)
          | (refine .body (by kernel_rfl) (PDen.to (text33 ht ⟨xg, xs, xk, xy, xa⟩) ?_))
          | (refine PCall.to (by kernel_rfl) (text33 ht ⟨xg, xs, xk, xy, xa⟩) ?_)
          | (refine .body (by kernel_rfl) (PDen.to (text33 ht ⟨yg, ys, yk, yy, ya⟩) ?_))
          | (refine PCall.to (by kernel_rfl) (text33 ht ⟨yg, ys, yk, yy, ya⟩) ?_)
          | (refine .body (by kernel_rfl) (PDen.to (awake28 ht hg) ?_))
          | (refine PCall.to (by kernel_rfl) (awake28 ht hg) ?_)
          | (refine ⟨15, by decide +kernel, ?_⟩)
          | (refine ⟨16, by decide +kernel, ?_⟩)
          | (refine ⟨17, by decide +kernel, ?_⟩)
          | rfl
          | split)
      · have hT' := hT hox hoy
        clear hT
        generalize eqLt x y = q at hE hT'
        obtain ⟨xg, xs, xk, xy, xa⟩ := x
        obtain ⟨yg, ys, yk, yy, ya⟩ := y
        cases q
        · skip
          repeat' (first
            | (simp -implicitDefEqProofs (maxSteps := 1000000) only [*, Tryd.f9, ↓cwp_skip, ↓cwp_region, ↓cwp_drawn, ↓cwp_seq, ↓cwp_cond, ↓cwp_block, ↓cwp_loop, ↓cwp_exit, ↓cwp_ret, ↓kont_normal, ↓kont_exit, ↓kont_ret, ↓block_normal, ↓block_ret, ↓block_exit, ↓then_normal, ↓then_ret, ↓then_exit, ↓finF_normal, ↓finF_ret, ↓cseq_nil, ↓cseq_free, ↓cseq_cons, ↓seqK_go, ↓anyK_go, ↓caq_zero, ↓caq_done, ↓caq_free, ↓caq_step, ↓cStep_move, ↓cStep_assign, ↓cStep_eq, ↓cPure_call, ↓reduceIte, keeps, wantD, callee, aop, ev, ofV, nth, List.cons_append, List.nil_append, List.append_nil, undL, putO, put, List.length_cons, List.length_nil, Nat.reduceSub, Nat.reduceAdd, dBinT, dBin, dUn, Option.map, List.getElem?_toArray, List.toList_toArray, List.getElem?_cons_succ, List.getElem?_cons_zero, Option.bind, ge_iff_le, gt_iff_lt, resD, resL, resV, beq_true, beq_false, Option.some.injEq, List.map, Bool.not_true, Bool.not_false, Bool.false_eq_true, exists_eq_left', Bool.not_eq_true', decide_eq_true_eq, decide_eq_false_iff_not, ite_not, decide_true, decide_false, not_true_eq_false, not_false_eq_true, D.bool.injEq, if_true, if_false, and_true, true_and, ty1, sz1, z1, ty2, sz2, z2, ty3, sz3, z3, ty4, sz4, z4, ty5, sz5, z5, ty6, sz6, z6, ty7, sz7, z7, ty8, sz8, z8, ty9, sz9, z9, ty10, sz10, z10, ty14, sz14, z14, ty19, sz19, z19, ty23, sz23, z23, ty35, sz35, z35, ty37, sz37, z37, k37, ty89, sz89, z89, k89, dLen, dIdxA, dLoad, part, Ty.isA, Ty.fi, D.cells, D.cells?, dField, dFieldA, dIdx, dFill, allCell, D.isCell, els, chunk, rep, splice, hget, hset, cellsOf, Blk.isC, Blk.cs, Blk.mut, Blk.setCs, dStore, dBuild, dSlice, dBnd, List.getElem?_map, Option.map_some, Int.toNat_natCast, List.length_map, Nat.lt_irrefl, Nat.zero_lt_one, Nat.zero_lt_succ, Nat.le_refl, Nat.zero_add, Bool.false_eq_true, false_or, or_true, true_or, List.drop_zero, Int.natCast_nonneg, D.int.injEq, Int.zero_le_ofNat, Nat.lt_add_one, List.getElem?_nil, Nat.zero_le, List.take, List.drop, Nat.reduceMul, Nat.reduceLeDiff, Nat.reduceLT, Nat.reducePow, Nat.reduceBEq, Nat.reduceEqDiff, and_self, D.closedL, D.closed, Bool.and_self, bne_self_eq_false, beq_self_eq_true, bne, Bool.true_and, Bool.and_true, Bool.or_true, Bool.or_false, Bool.true_or, Bool.false_or, Bool.and_false, Bool.false_and, List.all_cons, List.all_nil, List.all, List.replicate, exists_const, okK, dEqO, Option.isSome, nc0, nc1, nc2, nc3, nc4, nc5, nc6, nc7, nc8, nc9, nc10, nc11, nc12, wl0, wl1, wl2, wl3, wl4, wl5, wl6, wl7, wl8, wl9, wl10, wl11, wl12, Int.reduceAdd, Int.reduceLT, Int.reduceLE, Int.reduceToNat, Int.reduceEq, Int.reduceSub, Int.reduceBEq, Int.reduceBNe, List.length_singleton, Nat.reduceBNe, lts_def, Lt.d_mk, hget_len, hset_len', eq_self])
            | (refine .body (by kernel_rfl) (PDen.to (c1) ?_))
            | (refine PCall.to (by kernel_rfl) (c1) ?_)
            | (refine .body (by kernel_rfl) (PDen.to (c2) ?_))
            | (refine PCall.to (by kernel_rfl) (c2) ?_)
            | (refine .body (by kernel_rfl) (PDen.to (c3) ?_))
            | (refine PCall.to (by kernel_rfl) (c3) ?_)
            | (refine .body (by kernel_rfl) (PDen.to (c4) ?_))
            | (refine PCall.to (by kernel_rfl) (c4) ?_)
            | (refine .body (by kernel_rfl) (PDen.to (c5) ?_))
            | (refine PCall.to (by kernel_rfl) (c5) ?_)
            | (refine .body (by kernel_rfl) (PDen.to (oneR ⟨xg, xs, xk, xy, xa⟩) ?_))
            | (refine PCall.to (by kernel_rfl) (oneR ⟨xg, xs, xk, xy, xa⟩) ?_)
            | (refine .body (by kernel_rfl) (PDen.to (oneR ⟨yg, ys, yk, yy, ya⟩) ?_))
            | (refine PCall.to (by kernel_rfl) (oneR ⟨yg, ys, yk, yy, ya⟩) ?_)
            | (refine .body (by kernel_rfl) (PDen.to (text33 ht ⟨xg, xs, xk, xy, xa⟩) ?_))
            | (refine PCall.to (by kernel_rfl) (text33 ht ⟨xg, xs, xk, xy, xa⟩) ?_)
            | (refine .body (by kernel_rfl) (PDen.to (text33 ht ⟨yg, ys, yk, yy, ya⟩) ?_))
            | (refine PCall.to (by kernel_rfl) (text33 ht ⟨yg, ys, yk, yy, ya⟩) ?_)
            | (refine .body (by kernel_rfl) (PDen.to (awake28 ht hg) ?_))
            | (refine PCall.to (by kernel_rfl) (awake28 ht hg) ?_)
            | (refine ⟨15, by decide +kernel, ?_⟩)
            | (refine ⟨16, by decide +kernel, ?_⟩)
            | (refine ⟨17, by decide +kernel, ?_⟩)
            | rfl
            | split)
        · skip
          repeat' (first
            | (simp -implicitDefEqProofs (maxSteps := 1000000) only [*, Tryd.f9, ↓cwp_skip, ↓cwp_region, ↓cwp_drawn, ↓cwp_seq, ↓cwp_cond, ↓cwp_block, ↓cwp_loop, ↓cwp_exit, ↓cwp_ret, ↓kont_normal, ↓kont_exit, ↓kont_ret, ↓block_normal, ↓block_ret, ↓block_exit, ↓then_normal, ↓then_ret, ↓then_exit, ↓finF_normal, ↓finF_ret, ↓cseq_nil, ↓cseq_free, ↓cseq_cons, ↓seqK_go, ↓anyK_go, ↓caq_zero, ↓caq_done, ↓caq_free, ↓caq_step, ↓cStep_move, ↓cStep_assign, ↓cStep_eq, ↓cPure_call, ↓reduceIte, keeps, wantD, callee, aop, ev, ofV, nth, List.cons_append, List.nil_append, List.append_nil, undL, putO, put, List.length_cons, List.length_nil, Nat.reduceSub, Nat.reduceAdd, dBinT, dBin, dUn, Option.map, List.getElem?_toArray, List.toList_toArray, List.getElem?_cons_succ, List.getElem?_cons_zero, Option.bind, ge_iff_le, gt_iff_lt, resD, resL, resV, beq_true, beq_false, Option.some.injEq, List.map, Bool.not_true, Bool.not_false, Bool.false_eq_true, exists_eq_left', Bool.not_eq_true', decide_eq_true_eq, decide_eq_false_iff_not, ite_not, decide_true, decide_false, not_true_eq_false, not_false_eq_true, D.bool.injEq, if_true, if_false, and_true, true_and, ty1, sz1, z1, ty2, sz2, z2, ty3, sz3, z3, ty4, sz4, z4, ty5, sz5, z5, ty6, sz6, z6, ty7, sz7, z7, ty8, sz8, z8, ty9, sz9, z9, ty10, sz10, z10, ty14, sz14, z14, ty19, sz19, z19, ty23, sz23, z23, ty35, sz35, z35, ty37, sz37, z37, k37, ty89, sz89, z89, k89, dLen, dIdxA, dLoad, part, Ty.isA, Ty.fi, D.cells, D.cells?, dField, dFieldA, dIdx, dFill, allCell, D.isCell, els, chunk, rep, splice, hget, hset, cellsOf, Blk.isC, Blk.cs, Blk.mut, Blk.setCs, dStore, dBuild, dSlice, dBnd, List.getElem?_map, Option.map_some, Int.toNat_natCast, List.length_map, Nat.lt_irrefl, Nat.zero_lt_one, Nat.zero_lt_succ, Nat.le_refl, Nat.zero_add, Bool.false_eq_true, false_or, or_true, true_or, List.drop_zero, Int.natCast_nonneg, D.int.injEq, Int.zero_le_ofNat, Nat.lt_add_one, List.getElem?_nil, Nat.zero_le, List.take, List.drop, Nat.reduceMul, Nat.reduceLeDiff, Nat.reduceLT, Nat.reducePow, Nat.reduceBEq, Nat.reduceEqDiff, and_self, D.closedL, D.closed, Bool.and_self, bne_self_eq_false, beq_self_eq_true, bne, Bool.true_and, Bool.and_true, Bool.or_true, Bool.or_false, Bool.true_or, Bool.false_or, Bool.and_false, Bool.false_and, List.all_cons, List.all_nil, List.all, List.replicate, exists_const, okK, dEqO, Option.isSome, nc0, nc1, nc2, nc3, nc4, nc5, nc6, nc7, nc8, nc9, nc10, nc11, nc12, wl0, wl1, wl2, wl3, wl4, wl5, wl6, wl7, wl8, wl9, wl10, wl11, wl12, Int.reduceAdd, Int.reduceLT, Int.reduceLE, Int.reduceToNat, Int.reduceEq, Int.reduceSub, Int.reduceBEq, Int.reduceBNe, List.length_singleton, Nat.reduceBNe, lts_def, Lt.d_mk, hget_len, hset_len', eq_self])
            | (refine .body (by kernel_rfl) (PDen.to (c1) ?_))
            | (refine PCall.to (by kernel_rfl) (c1) ?_)
            | (refine .body (by kernel_rfl) (PDen.to (c2) ?_))
            | (refine PCall.to (by kernel_rfl) (c2) ?_)
            | (refine .body (by kernel_rfl) (PDen.to (c3) ?_))
            | (refine PCall.to (by kernel_rfl) (c3) ?_)
            | (refine .body (by kernel_rfl) (PDen.to (c4) ?_))
            | (refine PCall.to (by kernel_rfl) (c4) ?_)
            | (refine .body (by kernel_rfl) (PDen.to (c5) ?_))
            | (refine PCall.to (by kernel_rfl) (c5) ?_)
            | (refine .body (by kernel_rfl) (PDen.to (oneR ⟨xg, xs, xk, xy, xa⟩) ?_))
            | (refine PCall.to (by kernel_rfl) (oneR ⟨xg, xs, xk, xy, xa⟩) ?_)
            | (refine .body (by kernel_rfl) (PDen.to (oneR ⟨yg, ys, yk, yy, ya⟩) ?_))
            | (refine PCall.to (by kernel_rfl) (oneR ⟨yg, ys, yk, yy, ya⟩) ?_)
            | (refine .body (by kernel_rfl) (PDen.to (text33 ht ⟨xg, xs, xk, xy, xa⟩) ?_))
            | (refine PCall.to (by kernel_rfl) (text33 ht ⟨xg, xs, xk, xy, xa⟩) ?_)
            | (refine .body (by kernel_rfl) (PDen.to (text33 ht ⟨yg, ys, yk, yy, ya⟩) ?_))
            | (refine PCall.to (by kernel_rfl) (text33 ht ⟨yg, ys, yk, yy, ya⟩) ?_)
            | (refine .body (by kernel_rfl) (PDen.to (awake28 ht hg) ?_))
            | (refine PCall.to (by kernel_rfl) (awake28 ht hg) ?_)
            | (refine ⟨15, by decide +kernel, ?_⟩)
            | (refine ⟨16, by decide +kernel, ?_⟩)
            | (refine ⟨17, by decide +kernel, ?_⟩)
            | rfl
            | split)
theorem backLaw9 (ht : Tab E.h0 1 .u64 Lib.pow10Tab) (hg : E.g = fun _ => .und) (l : List Lt) (x y : Lt) (_ _ _ : True) : PDen Tryd.prog E 9 [lts false l, x.d, y.d] (.bool true) := back9 ht hg l x y
end Go.Lv
