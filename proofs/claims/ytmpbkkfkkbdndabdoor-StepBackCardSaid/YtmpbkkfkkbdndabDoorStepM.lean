/- StepBack. -/
import Derived.Test.YtmpbkkfkkbdndabDoorStepK
namespace Go.Lv
open Go Go.Proofs Go.IntWalk
set_option maxRecDepth 100000
set_option linter.unusedSimpArgs false
set_option linter.unusedVariables false
variable {E : Env}
set_option maxHeartbeats 4000000 in
theorem back5 (ht : Tab E.h0 3 .u64 Lib.pow10Tab) (hg : E.g = fun _ => .und) (o c t b p w : Int) (s : List UInt8) : PDen Tryd.prog E 5 [.agg [.int .i64 o, .int .i64 c, .int .i64 t, .int .i64 b, .int .i64 p, .int .i64 w], .str s] (.bool true) := by
  refine pden_by (fn := Tryd.f5) mixed Tryd.func5 rfl (rfl) (rfl) ?_
  have ha := awake12 ht hg
  have hx := text16 (E := E) ht o c t b p w
  have hxf := fit15 (E := E) o c t b p w
  by_cases hl : s.length ≤ 80
  · have hl' : ¬ (80 : Int) < (s.length : Int) := by omega
    have h1 := read13 (E := E) s (by omega)
    rcases read_cases s with ⟨y, hy, hyf, hyt⟩ | hy
    · rw [hy, resS_mk] at h1
      have hyg := fit15 (E := E) y.o y.c y.t y.b y.p y.w
      have hyx := text16 (E := E) ht y.o y.c y.t y.b y.p y.w
      have e1 : sFit ⟨y.o, y.c, y.t, y.b, y.p, y.w⟩ = true := hyf
      have e2 : sText ⟨y.o, y.c, y.t, y.b, y.p, y.w⟩ = s := hyt
      rw [e1] at hyg
      rw [e2] at hyx
      clear hy hyf hyt e1 e2 ht hg hl
      obtain ⟨o', c', t', b', p', w'⟩ := y
      simp only at h1 hyg hyx
      cases hf : sFit ⟨o, c, t, b, p, w⟩
      · rw [sText_nofit hf] at hx
        have h3 := read13 (E := E) [] (by simp)
        rw [read_nil, resS_z] at h3
        rw [hf] at hxf
        clear hf
        repeat' (first
          | (simp -implicitDefEqProofs (maxSteps := 1000000) only [*, Tryd.f5, ↓cAny_eq, ↓anyP_go, fillT, fillH, ↓cwp_scope, ↓cwp_label, ↓scope_normal, ↓scope_ret, ↓scope_exit, ↓cwp_skip, ↓cwp_region, ↓cwp_drawn, ↓cwp_seq, ↓cwp_cond, ↓cwp_block, ↓cwp_loop, ↓cwp_exit, ↓cwp_ret, ↓kont_normal, ↓kont_exit, ↓kont_ret, ↓block_normal, ↓block_ret, ↓block_exit, ↓then_normal, ↓then_ret, ↓then_exit, ↓finF_normal, ↓finF_ret, ↓cseq_nil, ↓cseq_free, ↓cseq_cons, ↓seqK_go, ↓anyK_go, ↓caq_zero, ↓caq_done, ↓caq_free, ↓caq_step, ↓cStep_move, ↓cStep_assign, ↓cStep_eq, ↓cPure_call, ↓reduceIte, keeps, wantD, callee, aop, ev, ofV, nth, List.cons_append, List.nil_append, List.append_nil, undL, putO, put, List.length_cons, List.length_nil, Nat.reduceSub, Nat.reduceAdd, dBinT, dBin, dUn, Option.map, List.getElem?_toArray, List.toList_toArray, List.getElem?_cons_succ, List.getElem?_cons_zero, Option.bind, ge_iff_le, gt_iff_lt, resD, resL, resV, beq_true, beq_false, Option.some.injEq, List.map, Bool.not_true, Bool.not_false, Bool.false_eq_true, exists_eq_left', Bool.not_eq_true', decide_eq_true_eq, decide_eq_false_iff_not, ite_not, decide_true, decide_false, not_true_eq_false, not_false_eq_true, D.bool.injEq, if_true, if_false, and_true, true_and, ty1, sz1, z1, ty2, sz2, z2, ty3, sz3, z3, ty4, sz4, z4, ty5, sz5, z5, ty6, sz6, z6, ty7, sz7, z7, ty8, sz8, z8, ty9, sz9, z9, ty12, sz12, z12, ty15, sz15, z15, ty21, sz21, z21, ty29, sz29, z29, k29, ty30, sz30, z30, ty63, sz63, z63, dLen, dIdxA, dLoad, part, Ty.isA, Ty.fi, D.cells, D.cells?, dField, dFieldA, dIdx, dFill, allCell, D.isCell, els, chunk, rep, splice, hget, hset, cellsOf, Blk.isC, Blk.cs, Blk.mut, Blk.setCs, dStore, dBuild, dSlice, dBnd, List.getElem?_map, Option.map_some, Int.toNat_natCast, List.length_map, Nat.lt_irrefl, Nat.zero_lt_one, Nat.zero_lt_succ, Nat.le_refl, Nat.zero_add, Bool.false_eq_true, false_or, or_true, true_or, List.drop_zero, Int.natCast_nonneg, D.int.injEq, Int.zero_le_ofNat, Nat.lt_add_one, List.getElem?_nil, Nat.zero_le, List.take, List.drop, Nat.reduceMul, Nat.reduceLeDiff, Nat.reduceLT, Nat.reducePow, Nat.reduceBEq, Nat.reduceEqDiff, and_self, D.closedL, D.closed, Bool.and_self, bne_self_eq_false, beq_self_eq_true, bne, Bool.true_and, Bool.and_true, Bool.or_true, Bool.or_false, Bool.true_or, Bool.false_or, Bool.and_false, Bool.false_and, List.all_cons, List.all_nil, List.all, List.replicate, exists_const, okK, dEqL, dEqO, dEq, Option.isSome, nc0, nc1, nc2, nc3, nc4, nc5, nc6, nc7, nc8, nc9, nc10, nc11, nc12, wl0, wl1, wl2, wl3, wl4, wl5, wl6, wl7, wl8, wl9, wl10, wl11, wl12, Int.reduceAdd, Int.reduceLT, Int.reduceLE, Int.reduceToNat, Int.reduceEq, Int.reduceSub, Int.reduceBEq, Int.reduceBNe, List.length_singleton, Nat.reduceBNe, Sp.d_mk, eq_self, Option.isSome_none])
          | (refine .body (by kernel_rfl) (PDen.to (h1) ?_))
          | (refine PCall.to (by kernel_rfl) (h1) ?_)
          | (refine .body (by kernel_rfl) (PDen.to (h3) ?_))
          | (refine PCall.to (by kernel_rfl) (h3) ?_)
          | (refine .body (by kernel_rfl) (PDen.to (hxf) ?_))
          | (refine PCall.to (by kernel_rfl) (hxf) ?_)
          | (refine .body (by kernel_rfl) (PDen.to (hx) ?_))
          | (refine PCall.to (by kernel_rfl) (hx) ?_)
          | (refine .body (by kernel_rfl) (PDen.to (hyg) ?_))
          | (refine PCall.to (by kernel_rfl) (hyg) ?_)
          | (refine .body (by kernel_rfl) (PDen.to (hyx) ?_))
          | (refine PCall.to (by kernel_rfl) (hyx) ?_)
          | (refine .body (by kernel_rfl) (PDen.to (ha) ?_))
          | (refine PCall.to (by kernel_rfl) (ha) ?_)
          | (refine ⟨by decide +kernel, ?_⟩)
          | rfl
          | split)
      · have h3 := read13 (E := E) (sText ⟨o, c, t, b, p, w⟩) (Nat.le_trans (sText_len hf) (by omega))
        rw [read_text hf, resS_mk] at h3
        have hne : sText ⟨o, c, t, b, p, w⟩ ≠ [] := by
          intro h
          have := read_text hf
          rw [h, read_nil] at this
          simp at this
        have hd := dEq6 ⟨o, c, t, b, p, w⟩
        simp only at hd h3
        rw [hf] at hxf
        generalize sText ⟨o, c, t, b, p, w⟩ = tx at *
        have hne' : (tx == []) = false := by rw [beq_eq_false_iff_ne]; exact hne
        clear hf hne
        repeat' (first
          | (simp -implicitDefEqProofs (maxSteps := 1000000) only [*, Tryd.f5, ↓cAny_eq, ↓anyP_go, fillT, fillH, ↓cwp_scope, ↓cwp_label, ↓scope_normal, ↓scope_ret, ↓scope_exit, ↓cwp_skip, ↓cwp_region, ↓cwp_drawn, ↓cwp_seq, ↓cwp_cond, ↓cwp_block, ↓cwp_loop, ↓cwp_exit, ↓cwp_ret, ↓kont_normal, ↓kont_exit, ↓kont_ret, ↓block_normal, ↓block_ret, ↓block_exit, ↓then_normal, ↓then_ret, ↓then_exit, ↓finF_normal, ↓finF_ret, ↓cseq_nil, ↓cseq_free, ↓cseq_cons, ↓seqK_go, ↓anyK_go, ↓caq_zero, ↓caq_done, ↓caq_free, ↓caq_step, ↓cStep_move, ↓cStep_assign, ↓cStep_eq, ↓cPure_call, ↓reduceIte, keeps, wantD, callee, aop, ev, ofV, nth, List.cons_append, List.nil_append, List.append_nil, undL, putO, put, List.length_cons, List.length_nil, Nat.reduceSub, Nat.reduceAdd, dBinT, dBin, dUn, Option.map, List.getElem?_toArray, List.toList_toArray, List.getElem?_cons_succ, List.getElem?_cons_zero, Option.bind, ge_iff_le, gt_iff_lt, resD, resL, resV, beq_true, beq_false, Option.some.injEq, List.map, Bool.not_true, Bool.not_false, Bool.false_eq_true, exists_eq_left', Bool.not_eq_true', decide_eq_true_eq, decide_eq_false_iff_not, ite_not, decide_true, decide_false, not_true_eq_false, not_false_eq_true, D.bool.injEq, if_true, if_false, and_true, true_and, ty1, sz1, z1, ty2, sz2, z2, ty3, sz3, z3, ty4, sz4, z4, ty5, sz5, z5, ty6, sz6, z6, ty7, sz7, z7, ty8, sz8, z8, ty9, sz9, z9, ty12, sz12, z12, ty15, sz15, z15, ty21, sz21, z21, ty29, sz29, z29, k29, ty30, sz30, z30, ty63, sz63, z63, dLen, dIdxA, dLoad, part, Ty.isA, Ty.fi, D.cells, D.cells?, dField, dFieldA, dIdx, dFill, allCell, D.isCell, els, chunk, rep, splice, hget, hset, cellsOf, Blk.isC, Blk.cs, Blk.mut, Blk.setCs, dStore, dBuild, dSlice, dBnd, List.getElem?_map, Option.map_some, Int.toNat_natCast, List.length_map, Nat.lt_irrefl, Nat.zero_lt_one, Nat.zero_lt_succ, Nat.le_refl, Nat.zero_add, Bool.false_eq_true, false_or, or_true, true_or, List.drop_zero, Int.natCast_nonneg, D.int.injEq, Int.zero_le_ofNat, Nat.lt_add_one, List.getElem?_nil, Nat.zero_le, List.take, List.drop, Nat.reduceMul, Nat.reduceLeDiff, Nat.reduceLT, Nat.reducePow, Nat.reduceBEq, Nat.reduceEqDiff, and_self, D.closedL, D.closed, Bool.and_self, bne_self_eq_false, beq_self_eq_true, bne, Bool.true_and, Bool.and_true, Bool.or_true, Bool.or_false, Bool.true_or, Bool.false_or, Bool.and_false, Bool.false_and, List.all_cons, List.all_nil, List.all, List.replicate, exists_const, okK, dEqO, Option.isSome, nc0, nc1, nc2, nc3, nc4, nc5, nc6, nc7, nc8, nc9, nc10, nc11, nc12, wl0, wl1, wl2, wl3, wl4, wl5, wl6, wl7, wl8, wl9, wl10, wl11, wl12, Int.reduceAdd, Int.reduceLT, Int.reduceLE, Int.reduceToNat, Int.reduceEq, Int.reduceSub, Int.reduceBEq, Int.reduceBNe, List.length_singleton, Nat.reduceBNe, Sp.d_mk, eq_self, Option.isSome_none])
          | (refine .body (by kernel_rfl) (PDen.to (h1) ?_))
          | (refine PCall.to (by kernel_rfl) (h1) ?_)
          | (refine .body (by kernel_rfl) (PDen.to (h3) ?_))
          | (refine PCall.to (by kernel_rfl) (h3) ?_)
          | (refine .body (by kernel_rfl) (PDen.to (hxf) ?_))
          | (refine PCall.to (by kernel_rfl) (hxf) ?_)
          | (refine .body (by kernel_rfl) (PDen.to (hx) ?_))
          | (refine PCall.to (by kernel_rfl) (hx) ?_)
          | (refine .body (by kernel_rfl) (PDen.to (hyg) ?_))
          | (refine PCall.to (by kernel_rfl) (hyg) ?_)
          | (refine .body (by kernel_rfl) (PDen.to (hyx) ?_))
          | (refine PCall.to (by kernel_rfl) (hyx) ?_)
          | (refine .body (by kernel_rfl) (PDen.to (ha) ?_))
          | (refine PCall.to (by kernel_rfl) (ha) ?_)
          | (refine ⟨by decide +kernel, ?_⟩)
          | rfl
          | split)
    · rw [hy, resS_z] at h1
      clear hy ht hg hl
      cases hf : sFit ⟨o, c, t, b, p, w⟩
      · rw [sText_nofit hf] at hx
        have h3 := read13 (E := E) [] (by simp)
        rw [read_nil, resS_z] at h3
        rw [hf] at hxf
        clear hf
        repeat' (first
          | (simp -implicitDefEqProofs (maxSteps := 1000000) only [*, Tryd.f5, ↓cAny_eq, ↓anyP_go, fillT, fillH, ↓cwp_scope, ↓cwp_label, ↓scope_normal, ↓scope_ret, ↓scope_exit, ↓cwp_skip, ↓cwp_region, ↓cwp_drawn, ↓cwp_seq, ↓cwp_cond, ↓cwp_block, ↓cwp_loop, ↓cwp_exit, ↓cwp_ret, ↓kont_normal, ↓kont_exit, ↓kont_ret, ↓block_normal, ↓block_ret, ↓block_exit, ↓then_normal, ↓then_ret, ↓then_exit, ↓finF_normal, ↓finF_ret, ↓cseq_nil, ↓cseq_free, ↓cseq_cons, ↓seqK_go, ↓anyK_go, ↓caq_zero, ↓caq_done, ↓caq_free, ↓caq_step, ↓cStep_move, ↓cStep_assign, ↓cStep_eq, ↓cPure_call, ↓reduceIte, keeps, wantD, callee, aop, ev, ofV, nth, List.cons_append, List.nil_append, List.append_nil, undL, putO, put, List.length_cons, List.length_nil, Nat.reduceSub, Nat.reduceAdd, dBinT, dBin, dUn, Option.map, List.getElem?_toArray, List.toList_toArray, List.getElem?_cons_succ, List.getElem?_cons_zero, Option.bind, ge_iff_le, gt_iff_lt, resD, resL, resV, beq_true, beq_false, Option.some.injEq, List.map, Bool.not_true, Bool.not_false, Bool.false_eq_true, exists_eq_left', Bool.not_eq_true', decide_eq_true_eq, decide_eq_false_iff_not, ite_not, decide_true, decide_false, not_true_eq_false, not_false_eq_true, D.bool.injEq, if_true, if_false, and_true, true_and, ty1, sz1, z1, ty2, sz2, z2, ty3, sz3, z3, ty4, sz4, z4, ty5, sz5, z5, ty6, sz6, z6, ty7, sz7, z7, ty8, sz8, z8, ty9, sz9, z9, ty12, sz12, z12, ty15, sz15, z15, ty21, sz21, z21, ty29, sz29, z29, k29, ty30, sz30, z30, ty63, sz63, z63, dLen, dIdxA, dLoad, part, Ty.isA, Ty.fi, D.cells, D.cells?, dField, dFieldA, dIdx, dFill, allCell, D.isCell, els, chunk, rep, splice, hget, hset, cellsOf, Blk.isC, Blk.cs, Blk.mut, Blk.setCs, dStore, dBuild, dSlice, dBnd, List.getElem?_map, Option.map_some, Int.toNat_natCast, List.length_map, Nat.lt_irrefl, Nat.zero_lt_one, Nat.zero_lt_succ, Nat.le_refl, Nat.zero_add, Bool.false_eq_true, false_or, or_true, true_or, List.drop_zero, Int.natCast_nonneg, D.int.injEq, Int.zero_le_ofNat, Nat.lt_add_one, List.getElem?_nil, Nat.zero_le, List.take, List.drop, Nat.reduceMul, Nat.reduceLeDiff, Nat.reduceLT, Nat.reducePow, Nat.reduceBEq, Nat.reduceEqDiff, and_self, D.closedL, D.closed, Bool.and_self, bne_self_eq_false, beq_self_eq_true, bne, Bool.true_and, Bool.and_true, Bool.or_true, Bool.or_false, Bool.true_or, Bool.false_or, Bool.and_false, Bool.false_and, List.all_cons, List.all_nil, List.all, List.replicate, exists_const, okK, dEqL, dEqO, dEq, Option.isSome, nc0, nc1, nc2, nc3, nc4, nc5, nc6, nc7, nc8, nc9, nc10, nc11, nc12, wl0, wl1, wl2, wl3, wl4, wl5, wl6, wl7, wl8, wl9, wl10, wl11, wl12, Int.reduceAdd, Int.reduceLT, Int.reduceLE, Int.reduceToNat, Int.reduceEq, Int.reduceSub, Int.reduceBEq, Int.reduceBNe, List.length_singleton, Nat.reduceBNe, Sp.d_mk, eq_self, Option.isSome_none])
          | (refine .body (by kernel_rfl) (PDen.to (h1) ?_))
          | (refine PCall.to (by kernel_rfl) (h1) ?_)
          | (refine .body (by kernel_rfl) (PDen.to (h3) ?_))
          | (refine PCall.to (by kernel_rfl) (h3) ?_)
          | (refine .body (by kernel_rfl) (PDen.to (hxf) ?_))
          | (refine PCall.to (by kernel_rfl) (hxf) ?_)
          | (refine .body (by kernel_rfl) (PDen.to (hx) ?_))
          | (refine PCall.to (by kernel_rfl) (hx) ?_)
          | (refine .body (by kernel_rfl) (PDen.to (ha) ?_))
          | (refine PCall.to (by kernel_rfl) (ha) ?_)
          | (refine ⟨by decide +kernel, ?_⟩)
          | rfl
          | split)
      · have h3 := read13 (E := E) (sText ⟨o, c, t, b, p, w⟩) (Nat.le_trans (sText_len hf) (by omega))
        rw [read_text hf, resS_mk] at h3
        have hne : sText ⟨o, c, t, b, p, w⟩ ≠ [] := by
          intro h
          have := read_text hf
          rw [h, read_nil] at this
          simp at this
        have hd := dEq6 ⟨o, c, t, b, p, w⟩
        simp only at hd h3
        rw [hf] at hxf
        generalize sText ⟨o, c, t, b, p, w⟩ = tx at *
        have hne' : (tx == []) = false := by rw [beq_eq_false_iff_ne]; exact hne
        clear hf hne
        repeat' (first
          | (simp -implicitDefEqProofs (maxSteps := 1000000) only [*, Tryd.f5, ↓cAny_eq, ↓anyP_go, fillT, fillH, ↓cwp_scope, ↓cwp_label, ↓scope_normal, ↓scope_ret, ↓scope_exit, ↓cwp_skip, ↓cwp_region, ↓cwp_drawn, ↓cwp_seq, ↓cwp_cond, ↓cwp_block, ↓cwp_loop, ↓cwp_exit, ↓cwp_ret, ↓kont_normal, ↓kont_exit, ↓kont_ret, ↓block_normal, ↓block_ret, ↓block_exit, ↓then_normal, ↓then_ret, ↓then_exit, ↓finF_normal, ↓finF_ret, ↓cseq_nil, ↓cseq_free, ↓cseq_cons, ↓seqK_go, ↓anyK_go, ↓caq_zero, ↓caq_done, ↓caq_free, ↓caq_step, ↓cStep_move, ↓cStep_assign, ↓cStep_eq, ↓cPure_call, ↓reduceIte, keeps, wantD, callee, aop, ev, ofV, nth, List.cons_append, List.nil_append, List.append_nil, undL, putO, put, List.length_cons, List.length_nil, Nat.reduceSub, Nat.reduceAdd, dBinT, dBin, dUn, Option.map, List.getElem?_toArray, List.toList_toArray, List.getElem?_cons_succ, List.getElem?_cons_zero, Option.bind, ge_iff_le, gt_iff_lt, resD, resL, resV, beq_true, beq_false, Option.some.injEq, List.map, Bool.not_true, Bool.not_false, Bool.false_eq_true, exists_eq_left', Bool.not_eq_true', decide_eq_true_eq, decide_eq_false_iff_not, ite_not, decide_true, decide_false, not_true_eq_false, not_false_eq_true, D.bool.injEq, if_true, if_false, and_true, true_and, ty1, sz1, z1, ty2, sz2, z2, ty3, sz3, z3, ty4, sz4, z4, ty5, sz5, z5, ty6, sz6, z6, ty7, sz7, z7, ty8, sz8, z8, ty9, sz9, z9, ty12, sz12, z12, ty15, sz15, z15, ty21, sz21, z21, ty29, sz29, z29, k29, ty30, sz30, z30, ty63, sz63, z63, dLen, dIdxA, dLoad, part, Ty.isA, Ty.fi, D.cells, D.cells?, dField, dFieldA, dIdx, dFill, allCell, D.isCell, els, chunk, rep, splice, hget, hset, cellsOf, Blk.isC, Blk.cs, Blk.mut, Blk.setCs, dStore, dBuild, dSlice, dBnd, List.getElem?_map, Option.map_some, Int.toNat_natCast, List.length_map, Nat.lt_irrefl, Nat.zero_lt_one, Nat.zero_lt_succ, Nat.le_refl, Nat.zero_add, Bool.false_eq_true, false_or, or_true, true_or, List.drop_zero, Int.natCast_nonneg, D.int.injEq, Int.zero_le_ofNat, Nat.lt_add_one, List.getElem?_nil, Nat.zero_le, List.take, List.drop, Nat.reduceMul, Nat.reduceLeDiff, Nat.reduceLT, Nat.reducePow, Nat.reduceBEq, Nat.reduceEqDiff, and_self, D.closedL, D.closed, Bool.and_self, bne_self_eq_false, beq_self_eq_true, bne, Bool.true_and, Bool.and_true, Bool.or_true, Bool.or_false, Bool.true_or, Bool.false_or, Bool.and_false, Bool.false_and, List.all_cons, List.all_nil, List.all, List.replicate, exists_const, okK, dEqO, Option.isSome, nc0, nc1, nc2, nc3, nc4, nc5, nc6, nc7, nc8, nc9, nc10, nc11, nc12, wl0, wl1, wl2, wl3, wl4, wl5, wl6, wl7, wl8, wl9, wl10, wl11, wl12, Int.reduceAdd, Int.reduceLT, Int.reduceLE, Int.reduceToNat, Int.reduceEq, Int.reduceSub, Int.reduceBEq, Int.reduceBNe, List.length_singleton, Nat.reduceBNe, Sp.d_mk, eq_self, Option.isSome_none])
          | (refine .body (by kernel_rfl) (PDen.to (h1) ?_))
          | (refine PCall.to (by kernel_rfl) (h1) ?_)
          | (refine .body (by kernel_rfl) (PDen.to (h3) ?_))
          | (refine PCall.to (by kernel_rfl) (h3) ?_)
          | (refine .body (by kernel_rfl) (PDen.to (hxf) ?_))
          | (refine PCall.to (by kernel_rfl) (hxf) ?_)
          | (refine .body (by kernel_rfl) (PDen.to (hx) ?_))
          | (refine PCall.to (by kernel_rfl) (hx) ?_)
          | (refine .body (by kernel_rfl) (PDen.to (ha) ?_))
          | (refine PCall.to (by kernel_rfl) (ha) ?_)
          | (refine ⟨by decide +kernel, ?_⟩)
          | rfl
          | split)
  · have hl' : (80 : Int) < (s.length : Int) := by omega
    clear hl
    repeat' (first
      | (simp -implicitDefEqProofs (maxSteps := 1000000) only [*, Tryd.f5, ↓cAny_eq, ↓anyP_go, fillT, fillH, ↓cwp_scope, ↓cwp_label, ↓scope_normal, ↓scope_ret, ↓scope_exit, ↓cwp_skip, ↓cwp_region, ↓cwp_drawn, ↓cwp_seq, ↓cwp_cond, ↓cwp_block, ↓cwp_loop, ↓cwp_exit, ↓cwp_ret, ↓kont_normal, ↓kont_exit, ↓kont_ret, ↓block_normal, ↓block_ret, ↓block_exit, ↓then_normal, ↓then_ret, ↓then_exit, ↓finF_normal, ↓finF_ret, ↓cseq_nil, ↓cseq_free, ↓cseq_cons, ↓seqK_go, ↓anyK_go, ↓caq_zero, ↓caq_done, ↓caq_free, ↓caq_step, ↓cStep_move, ↓cStep_assign, ↓cStep_eq, ↓cPure_call, ↓reduceIte, keeps, wantD, callee, aop, ev, ofV, nth, List.cons_append, List.nil_append, List.append_nil, undL, putO, put, List.length_cons, List.length_nil, Nat.reduceSub, Nat.reduceAdd, dBinT, dBin, dUn, Option.map, List.getElem?_toArray, List.toList_toArray, List.getElem?_cons_succ, List.getElem?_cons_zero, Option.bind, ge_iff_le, gt_iff_lt, resD, resL, resV, beq_true, beq_false, Option.some.injEq, List.map, Bool.not_true, Bool.not_false, Bool.false_eq_true, exists_eq_left', Bool.not_eq_true', decide_eq_true_eq, decide_eq_false_iff_not, ite_not, decide_true, decide_false, not_true_eq_false, not_false_eq_true, D.bool.injEq, if_true, if_false, and_true, true_and, ty1, sz1, z1, ty2, sz2, z2, ty3, sz3, z3, ty4, sz4, z4, ty5, sz5, z5, ty6, sz6, z6, ty7, sz7, z7, ty8, sz8, z8, ty9, sz9, z9, ty12, sz12, z12, ty15, sz15, z15, ty21, sz21, z21, ty29, sz29, z29, k29, ty30, sz30, z30, ty63, sz63, z63, dLen, dIdxA, dLoad, part, Ty.isA, Ty.fi, D.cells, D.cells?, dField, dFieldA, dIdx, dFill, allCell, D.isCell, els, chunk, rep, splice, hget, hset, cellsOf, Blk.isC, Blk.cs, Blk.mut, Blk.setCs, dStore, dBuild, dSlice, dBnd, List.getElem?_map, Option.map_some, Int.toNat_natCast, List.length_map, Nat.lt_irrefl, Nat.zero_lt_one, Nat.zero_lt_succ, Nat.le_refl, Nat.zero_add, Bool.false_eq_true, false_or, or_true, true_or, List.drop_zero, Int.natCast_nonneg, D.int.injEq, Int.zero_le_ofNat, Nat.lt_add_one, List.getElem?_nil, Nat.zero_le, List.take, List.drop, Nat.reduceMul, Nat.reduceLeDiff, Nat.reduceLT, Nat.reducePow, Nat.reduceBEq, Nat.reduceEqDiff, and_self, D.closedL, D.closed, Bool.and_self, bne_self_eq_false, beq_self_eq_true, bne, Bool.true_and, Bool.and_true, Bool.or_true, Bool.or_false, Bool.true_or, Bool.false_or, Bool.and_false, Bool.false_and, List.all_cons, List.all_nil, List.all, List.replicate, exists_const, okK, dEqL, dEqO, dEq, Option.isSome, nc0, nc1, nc2, nc3, nc4, nc5, nc6, nc7, nc8, nc9, nc10, nc11, nc12, wl0, wl1, wl2, wl3, wl4, wl5, wl6, wl7, wl8, wl9, wl10, wl11, wl12, Int.reduceAdd, Int.reduceLT, Int.reduceLE, Int.reduceToNat, Int.reduceEq, Int.reduceSub, Int.reduceBEq, Int.reduceBNe, List.length_singleton, Nat.reduceBNe, Sp.d_mk, eq_self, Option.isSome_none])
      | (refine .body (by kernel_rfl) (PDen.to (ha) ?_))
      | (refine PCall.to (by kernel_rfl) (ha) ?_)
      | (refine ⟨by decide +kernel, ?_⟩)
      | rfl
      | split)
theorem backLaw5 (ht : Tab E.h0 3 .u64 Lib.pow10Tab) (hg : E.g = fun _ => .und) (x : Sp) (s : List UInt8) (_ : True) (_ : s.length ≤ maxLen) : PDen Tryd.prog E 5 [x.d, .str s] (.bool true) := back5 ht hg x.o x.c x.t x.b x.p x.w s
end Go.Lv
