/- Steps read. -/
import Derived.Test.YtmpbkkfkkbdndabDoorStepH
import Derived.Test.YtmpbkkfkkbdndabDoorNumH
namespace Go.Lv
open Go Go.Proofs Go.IntWalk
set_option maxRecDepth 100000
set_option linter.unusedSimpArgs false
set_option linter.unusedVariables false
variable {E : Env}
def zSp : Sp := ⟨0, 0, 0, 0, 0, 0⟩
def resS (p : Sp × Int) : D := .tup [p.1.d, .int .i64 p.2]
def rd6 (a b c d e f : List UInt8) : Sp := ⟨opIx a, clIx b, (numS c).1, (numS d).1, (numS e).1, (numS f).1⟩
def sRead (s : List UInt8) : Sp × Int := match splitC 47 s with
  | [a, b, c, d, e, f] => if a ≠ [] ∧ b ≠ [] ∧ (numS c).2 = 0 ∧ (numS d).2 = 0 ∧ (numS e).2 = 0 ∧ (numS f).2 = 0 ∧ sFit (rd6 a b c d e f) = true then (rd6 a b c d e f, 0) else (zSp, 7)
  | _ => (zSp, 7)
theorem sRead_ne {s : List UInt8} (h : (splitC 47 s).length ≠ 6) : sRead s = (zSp, 7) := by
  unfold sRead
  split
  · rename_i hs
    rw [hs] at h
    exact (h rfl).elim
  · rfl
theorem len6 {l : List (List UInt8)} (h : l.length = 6) : ∃ a b c d e f, l = [a, b, c, d, e, f] := by
  match l, h with
  | [a, b, c, d, e, f], _ => exact ⟨a, b, c, d, e, f, rfl⟩
theorem sRead_six {s a b c d e f : List UInt8} (h : splitC 47 s = [a, b, c, d, e, f]) : sRead s = if a ≠ [] ∧ b ≠ [] ∧ (numS c).2 = 0 ∧ (numS d).2 = 0 ∧ (numS e).2 = 0 ∧ (numS f).2 = 0 ∧ sFit (rd6 a b c d e f) = true then (rd6 a b c d e f, 0) else (zSp, 7) := by
  unfold sRead
  rw [h]
theorem resS_z : resS (zSp, 7) = .tup [.agg [.int .i64 0, .int .i64 0, .int .i64 0, .int .i64 0, .int .i64 0, .int .i64 0], .int .i64 7] := rfl
theorem number_at {l : List UInt8} {k e : Int} (hl : l.length ≤ 4611686018427387904) (h : numS l = (k, e)) : PDen Tryd.prog E 43 [.str l] (.tup [.int .i64 k, .int .i64 e]) := by
  have := number (E := E) l hl
  rw [h] at this
  exact this
set_option maxHeartbeats 8000000 in
theorem read13n (s : List UInt8) (hs : s.length ≤ 1099511627776) (hn : (splitC 47 s).length ≠ 6) : PDen Tryd.prog E 13 [.str s] (.tup [.agg [.int .i64 0, .int .i64 0, .int .i64 0, .int .i64 0, .int .i64 0, .int .i64 0], .int .i64 7]) := by
  refine pden_by (fn := Tryd.f13) mixed Tryd.func13 rfl (rfl) (rfl) ?_
  have hsp := split39 (E := E) 47 s hs
  generalize splitC 47 s = l at *
  have hl : ((l.length : Int) == 6) = false := by rw [beq_eq_false_iff_ne]; omega
  clear hn hs
  repeat' (first
  | (simp -implicitDefEqProofs (maxSteps := 1000000) only [*, Tryd.f13, ↓cAny_eq, ↓anyP_go, fillT, fillH, ↓cwp_scope, ↓cwp_label, ↓scope_normal, ↓scope_ret, ↓scope_exit, ↓cwp_skip, ↓cwp_region, ↓cwp_drawn, ↓cwp_seq, ↓cwp_cond, ↓cwp_block, ↓cwp_loop, ↓cwp_exit, ↓cwp_ret, ↓kont_normal, ↓kont_exit, ↓kont_ret, ↓block_normal, ↓block_ret, ↓block_exit, ↓then_normal, ↓then_ret, ↓then_exit, ↓finF_normal, ↓finF_ret, ↓cseq_nil, ↓cseq_free, ↓cseq_cons, ↓seqK_go, ↓anyK_go, ↓caq_zero, ↓caq_done, ↓caq_free, ↓caq_step, ↓cStep_move, ↓cStep_assign, ↓cStep_eq, ↓cPure_call, ↓reduceIte, keeps, wantD, callee, aop, ev, ofV, nth, List.cons_append, List.nil_append, List.append_nil, undL, putO, put, List.length_cons, List.length_nil, Nat.reduceSub, Nat.reduceAdd, dBinT, dBin, dUn, Option.map, List.getElem?_toArray, List.toList_toArray, List.getElem?_cons_succ, List.getElem?_cons_zero, Option.bind, ge_iff_le, gt_iff_lt, resD, resL, resV, beq_true, beq_false, Option.some.injEq, List.map, Bool.not_true, Bool.not_false, Bool.false_eq_true, exists_eq_left', Bool.not_eq_true', decide_eq_true_eq, decide_eq_false_iff_not, ite_not, decide_true, decide_false, not_true_eq_false, not_false_eq_true, D.bool.injEq, if_true, if_false, and_true, true_and, ty1, sz1, z1, ty2, sz2, z2, ty3, sz3, z3, ty4, sz4, z4, ty5, sz5, z5, ty6, sz6, z6, ty7, sz7, z7, ty8, sz8, z8, ty9, sz9, z9, ty10, sz10, z10, ty11, sz11, z11, ty12, sz12, z12, ty13, sz13, z13, ty14, sz14, z14, ty15, sz15, z15, ty16, sz16, z16, ty29, sz29, z29, k29, ty30, sz30, z30, ty56, sz56, z56, ty58, sz58, z58, k58, ty60, sz60, z60, k60, ty63, sz63, z63, ty64, sz64, z64, ty77, sz77, z77, dLen, dIdxA, dLoad, part, Ty.isA, Ty.fi, D.cells, D.cells?, dField, dFieldA, dIdx, dFill, allCell, D.isCell, els, chunk, rep, splice, hget, hset, cellsOf, Blk.isC, Blk.cs, Blk.mut, Blk.setCs, dStore, dBuild, dSlice, dBnd, List.getElem?_map, Option.map_some, Int.toNat_natCast, List.length_map, Nat.lt_irrefl, Nat.zero_lt_one, Nat.zero_lt_succ, Nat.le_refl, Nat.zero_add, Bool.false_eq_true, false_or, or_true, true_or, List.drop_zero, Int.natCast_nonneg, D.int.injEq, Int.zero_le_ofNat, Nat.lt_add_one, List.getElem?_nil, Nat.zero_le, List.take, List.drop, Nat.reduceMul, Nat.reduceLeDiff, Nat.reduceLT, Nat.reducePow, Nat.reduceBEq, Nat.reduceEqDiff, and_self, D.closedL, D.closed, Bool.and_self, bne_self_eq_false, beq_self_eq_true, bne, Bool.true_and, Bool.and_true, Bool.or_true, Bool.or_false, Bool.true_or, Bool.false_or, Bool.and_false, Bool.false_and, List.all_cons, List.all_nil, List.all, List.replicate, exists_const, okK, dEqL, dEqO, dEq, Option.isSome, nc0, nc1, nc2, nc3, nc4, nc5, nc6, nc7, nc8, nc9, nc10, nc11, nc12, wl0, wl1, wl2, wl3, wl4, wl5, wl6, wl7, wl8, wl9, wl10, wl11, wl12, Int.reduceAdd, Int.reduceLT, Int.reduceLE, Int.reduceToNat, Int.reduceEq, Int.reduceSub, Int.reduceBEq, Int.reduceBNe, List.length_singleton, Nat.reduceBNe, Sp.d_mk, eq_self, Option.isSome_none])
  | (refine .body (by kernel_rfl) (PDen.to (hsp) ?_))
  | (refine PCall.to (by kernel_rfl) (hsp) ?_)
  | (refine .body (by kernel_rfl) (PDen.to (ops40) ?_))
  | (refine PCall.to (by kernel_rfl) (ops40) ?_)
  | (refine .body (by kernel_rfl) (PDen.to (cls41) ?_))
  | (refine PCall.to (by kernel_rfl) (cls41) ?_)
  | (refine ⟨14, by decide +kernel, ?_⟩)
  | (refine ⟨15, by decide +kernel, ?_⟩)
  | (refine ⟨by decide +kernel, ?_⟩)
  | rfl
  | split)
set_option maxHeartbeats 8000000 in
theorem read13a (s a b c d e f : List UInt8) (hsp : PDen Tryd.prog E 39 [.str s, .str [47]] (.list false [.str a, .str b, .str c, .str d, .str e, .str f])) (ha : a = []) : PDen Tryd.prog E 13 [.str s] (.tup [.agg [.int .i64 0, .int .i64 0, .int .i64 0, .int .i64 0, .int .i64 0, .int .i64 0], .int .i64 7]) := by
  refine pden_by (fn := Tryd.f13) mixed Tryd.func13 rfl (rfl) (rfl) ?_
  subst ha
  skip
  repeat' (first
  | (simp -implicitDefEqProofs (maxSteps := 1000000) only [*, Tryd.f13, ↓cAny_eq, ↓anyP_go, fillT, fillH, ↓cwp_scope, ↓cwp_label, ↓scope_normal, ↓scope_ret, ↓scope_exit, ↓cwp_skip, ↓cwp_region, ↓cwp_drawn, ↓cwp_seq, ↓cwp_cond, ↓cwp_block, ↓cwp_loop, ↓cwp_exit, ↓cwp_ret, ↓kont_normal, ↓kont_exit, ↓kont_ret, ↓block_normal, ↓block_ret, ↓block_exit, ↓then_normal, ↓then_ret, ↓then_exit, ↓finF_normal, ↓finF_ret, ↓cseq_nil, ↓cseq_free, ↓cseq_cons, ↓seqK_go, ↓anyK_go, ↓caq_zero, ↓caq_done, ↓caq_free, ↓caq_step, ↓cStep_move, ↓cStep_assign, ↓cStep_eq, ↓cPure_call, ↓reduceIte, keeps, wantD, callee, aop, ev, ofV, nth, List.cons_append, List.nil_append, List.append_nil, undL, putO, put, List.length_cons, List.length_nil, Nat.reduceSub, Nat.reduceAdd, dBinT, dBin, dUn, Option.map, List.getElem?_toArray, List.toList_toArray, List.getElem?_cons_succ, List.getElem?_cons_zero, Option.bind, ge_iff_le, gt_iff_lt, resD, resL, resV, beq_true, beq_false, Option.some.injEq, List.map, Bool.not_true, Bool.not_false, Bool.false_eq_true, exists_eq_left', Bool.not_eq_true', decide_eq_true_eq, decide_eq_false_iff_not, ite_not, decide_true, decide_false, not_true_eq_false, not_false_eq_true, D.bool.injEq, if_true, if_false, and_true, true_and, ty1, sz1, z1, ty2, sz2, z2, ty3, sz3, z3, ty4, sz4, z4, ty5, sz5, z5, ty6, sz6, z6, ty7, sz7, z7, ty8, sz8, z8, ty9, sz9, z9, ty10, sz10, z10, ty11, sz11, z11, ty12, sz12, z12, ty13, sz13, z13, ty14, sz14, z14, ty15, sz15, z15, ty16, sz16, z16, ty29, sz29, z29, k29, ty30, sz30, z30, ty56, sz56, z56, ty58, sz58, z58, k58, ty60, sz60, z60, k60, ty63, sz63, z63, ty64, sz64, z64, ty77, sz77, z77, dLen, dIdxA, dLoad, part, Ty.isA, Ty.fi, D.cells, D.cells?, dField, dFieldA, dIdx, dFill, allCell, D.isCell, els, chunk, rep, splice, hget, hset, cellsOf, Blk.isC, Blk.cs, Blk.mut, Blk.setCs, dStore, dBuild, dSlice, dBnd, List.getElem?_map, Option.map_some, Int.toNat_natCast, List.length_map, Nat.lt_irrefl, Nat.zero_lt_one, Nat.zero_lt_succ, Nat.le_refl, Nat.zero_add, Bool.false_eq_true, false_or, or_true, true_or, List.drop_zero, Int.natCast_nonneg, D.int.injEq, Int.zero_le_ofNat, Nat.lt_add_one, List.getElem?_nil, Nat.zero_le, List.take, List.drop, Nat.reduceMul, Nat.reduceLeDiff, Nat.reduceLT, Nat.reducePow, Nat.reduceBEq, Nat.reduceEqDiff, and_self, D.closedL, D.closed, Bool.and_self, bne_self_eq_false, beq_self_eq_true, bne, Bool.true_and, Bool.and_true, Bool.or_true, Bool.or_false, Bool.true_or, Bool.false_or, Bool.and_false, Bool.false_and, List.all_cons, List.all_nil, List.all, List.replicate, exists_const, okK, dEqL, dEqO, dEq, Option.isSome, nc0, nc1, nc2, nc3, nc4, nc5, nc6, nc7, nc8, nc9, nc10, nc11, nc12, wl0, wl1, wl2, wl3, wl4, wl5, wl6, wl7, wl8, wl9, wl10, wl11, wl12, Int.reduceAdd, Int.reduceLT, Int.reduceLE, Int.reduceToNat, Int.reduceEq, Int.reduceSub, Int.reduceBEq, Int.reduceBNe, List.length_singleton, Nat.reduceBNe, Sp.d_mk, eq_self, Option.isSome_none])
  | (refine .body (by kernel_rfl) (PDen.to (hsp) ?_))
  | (refine PCall.to (by kernel_rfl) (hsp) ?_)
  | (refine .body (by kernel_rfl) (PDen.to (ops40) ?_))
  | (refine PCall.to (by kernel_rfl) (ops40) ?_)
  | (refine .body (by kernel_rfl) (PDen.to (cls41) ?_))
  | (refine PCall.to (by kernel_rfl) (cls41) ?_)
  | (refine ⟨14, by decide +kernel, ?_⟩)
  | (refine ⟨15, by decide +kernel, ?_⟩)
  | (refine ⟨by decide +kernel, ?_⟩)
  | rfl
  | split)
set_option maxHeartbeats 8000000 in
theorem read13b (s a b c d e f : List UInt8) (hsp : PDen Tryd.prog E 39 [.str s, .str [47]] (.list false [.str a, .str b, .str c, .str d, .str e, .str f])) (ha : a ≠ []) (hb : b = []) : PDen Tryd.prog E 13 [.str s] (.tup [.agg [.int .i64 0, .int .i64 0, .int .i64 0, .int .i64 0, .int .i64 0, .int .i64 0], .int .i64 7]) := by
  refine pden_by (fn := Tryd.f13) mixed Tryd.func13 rfl (rfl) (rfl) ?_
  subst hb
  have ha' : (a == []) = false := by rw [beq_eq_false_iff_ne]; exact ha
  clear ha
  skip
  repeat' (first
  | (simp -implicitDefEqProofs (maxSteps := 1000000) only [*, Tryd.f13, ↓cAny_eq, ↓anyP_go, fillT, fillH, ↓cwp_scope, ↓cwp_label, ↓scope_normal, ↓scope_ret, ↓scope_exit, ↓cwp_skip, ↓cwp_region, ↓cwp_drawn, ↓cwp_seq, ↓cwp_cond, ↓cwp_block, ↓cwp_loop, ↓cwp_exit, ↓cwp_ret, ↓kont_normal, ↓kont_exit, ↓kont_ret, ↓block_normal, ↓block_ret, ↓block_exit, ↓then_normal, ↓then_ret, ↓then_exit, ↓finF_normal, ↓finF_ret, ↓cseq_nil, ↓cseq_free, ↓cseq_cons, ↓seqK_go, ↓anyK_go, ↓caq_zero, ↓caq_done, ↓caq_free, ↓caq_step, ↓cStep_move, ↓cStep_assign, ↓cStep_eq, ↓cPure_call, ↓reduceIte, keeps, wantD, callee, aop, ev, ofV, nth, List.cons_append, List.nil_append, List.append_nil, undL, putO, put, List.length_cons, List.length_nil, Nat.reduceSub, Nat.reduceAdd, dBinT, dBin, dUn, Option.map, List.getElem?_toArray, List.toList_toArray, List.getElem?_cons_succ, List.getElem?_cons_zero, Option.bind, ge_iff_le, gt_iff_lt, resD, resL, resV, beq_true, beq_false, Option.some.injEq, List.map, Bool.not_true, Bool.not_false, Bool.false_eq_true, exists_eq_left', Bool.not_eq_true', decide_eq_true_eq, decide_eq_false_iff_not, ite_not, decide_true, decide_false, not_true_eq_false, not_false_eq_true, D.bool.injEq, if_true, if_false, and_true, true_and, ty1, sz1, z1, ty2, sz2, z2, ty3, sz3, z3, ty4, sz4, z4, ty5, sz5, z5, ty6, sz6, z6, ty7, sz7, z7, ty8, sz8, z8, ty9, sz9, z9, ty10, sz10, z10, ty11, sz11, z11, ty12, sz12, z12, ty13, sz13, z13, ty14, sz14, z14, ty15, sz15, z15, ty16, sz16, z16, ty29, sz29, z29, k29, ty30, sz30, z30, ty56, sz56, z56, ty58, sz58, z58, k58, ty60, sz60, z60, k60, ty63, sz63, z63, ty64, sz64, z64, ty77, sz77, z77, dLen, dIdxA, dLoad, part, Ty.isA, Ty.fi, D.cells, D.cells?, dField, dFieldA, dIdx, dFill, allCell, D.isCell, els, chunk, rep, splice, hget, hset, cellsOf, Blk.isC, Blk.cs, Blk.mut, Blk.setCs, dStore, dBuild, dSlice, dBnd, List.getElem?_map, Option.map_some, Int.toNat_natCast, List.length_map, Nat.lt_irrefl, Nat.zero_lt_one, Nat.zero_lt_succ, Nat.le_refl, Nat.zero_add, Bool.false_eq_true, false_or, or_true, true_or, List.drop_zero, Int.natCast_nonneg, D.int.injEq, Int.zero_le_ofNat, Nat.lt_add_one, List.getElem?_nil, Nat.zero_le, List.take, List.drop, Nat.reduceMul, Nat.reduceLeDiff, Nat.reduceLT, Nat.reducePow, Nat.reduceBEq, Nat.reduceEqDiff, and_self, D.closedL, D.closed, Bool.and_self, bne_self_eq_false, beq_self_eq_true, bne, Bool.true_and, Bool.and_true, Bool.or_true, Bool.or_false, Bool.true_or, Bool.false_or, Bool.and_false, Bool.false_and, List.all_cons, List.all_nil, List.all, List.replicate, exists_const, okK, dEqL, dEqO, dEq, Option.isSome, nc0, nc1, nc2, nc3, nc4, nc5, nc6, nc7, nc8, nc9, nc10, nc11, nc12, wl0, wl1, wl2, wl3, wl4, wl5, wl6, wl7, wl8, wl9, wl10, wl11, wl12, Int.reduceAdd, Int.reduceLT, Int.reduceLE, Int.reduceToNat, Int.reduceEq, Int.reduceSub, Int.reduceBEq, Int.reduceBNe, List.length_singleton, Nat.reduceBNe, Sp.d_mk, eq_self, Option.isSome_none])
  | (refine .body (by kernel_rfl) (PDen.to (hsp) ?_))
  | (refine PCall.to (by kernel_rfl) (hsp) ?_)
  | (refine .body (by kernel_rfl) (PDen.to (ops40) ?_))
  | (refine PCall.to (by kernel_rfl) (ops40) ?_)
  | (refine .body (by kernel_rfl) (PDen.to (cls41) ?_))
  | (refine PCall.to (by kernel_rfl) (cls41) ?_)
  | (refine ⟨14, by decide +kernel, ?_⟩)
  | (refine ⟨15, by decide +kernel, ?_⟩)
  | (refine ⟨by decide +kernel, ?_⟩)
  | rfl
  | split)
set_option maxHeartbeats 8000000 in
theorem read13c (s a b c d e f : List UInt8) (hsp : PDen Tryd.prog E 39 [.str s, .str [47]] (.list false [.str a, .str b, .str c, .str d, .str e, .str f])) (ha : a ≠ []) (hb : b ≠ []) (kc ec : Int) (nc : PDen Tryd.prog E 43 [.str c] (.tup [.int .i64 kc, .int .i64 ec])) (he : ec ≠ 0) : PDen Tryd.prog E 13 [.str s] (.tup [.agg [.int .i64 0, .int .i64 0, .int .i64 0, .int .i64 0, .int .i64 0, .int .i64 0], .int .i64 7]) := by
  refine pden_by (fn := Tryd.f13) mixed Tryd.func13 rfl (rfl) (rfl) ?_
  have ha' : (a == []) = false := by rw [beq_eq_false_iff_ne]; exact ha
  have hb' : (b == []) = false := by rw [beq_eq_false_iff_ne]; exact hb
  have hma := opMax a ha
  have hmb := clMax b hb
  clear ha hb
  generalize hka : opIx a = ka at *
  generalize hkb : clIx b = kb at *
  clear hka hkb
  have he' : (ec == 0) = false := by rw [beq_eq_false_iff_ne]; exact he
  clear he
  skip
  repeat' (first
  | (simp -implicitDefEqProofs (maxSteps := 1000000) only [*, Tryd.f13, ↓cAny_eq, ↓anyP_go, fillT, fillH, ↓cwp_scope, ↓cwp_label, ↓scope_normal, ↓scope_ret, ↓scope_exit, ↓cwp_skip, ↓cwp_region, ↓cwp_drawn, ↓cwp_seq, ↓cwp_cond, ↓cwp_block, ↓cwp_loop, ↓cwp_exit, ↓cwp_ret, ↓kont_normal, ↓kont_exit, ↓kont_ret, ↓block_normal, ↓block_ret, ↓block_exit, ↓then_normal, ↓then_ret, ↓then_exit, ↓finF_normal, ↓finF_ret, ↓cseq_nil, ↓cseq_free, ↓cseq_cons, ↓seqK_go, ↓anyK_go, ↓caq_zero, ↓caq_done, ↓caq_free, ↓caq_step, ↓cStep_move, ↓cStep_assign, ↓cStep_eq, ↓cPure_call, ↓reduceIte, keeps, wantD, callee, aop, ev, ofV, nth, List.cons_append, List.nil_append, List.append_nil, undL, putO, put, List.length_cons, List.length_nil, Nat.reduceSub, Nat.reduceAdd, dBinT, dBin, dUn, Option.map, List.getElem?_toArray, List.toList_toArray, List.getElem?_cons_succ, List.getElem?_cons_zero, Option.bind, ge_iff_le, gt_iff_lt, resD, resL, resV, beq_true, beq_false, Option.some.injEq, List.map, Bool.not_true, Bool.not_false, Bool.false_eq_true, exists_eq_left', Bool.not_eq_true', decide_eq_true_eq, decide_eq_false_iff_not, ite_not, decide_true, decide_false, not_true_eq_false, not_false_eq_true, D.bool.injEq, if_true, if_false, and_true, true_and, ty1, sz1, z1, ty2, sz2, z2, ty3, sz3, z3, ty4, sz4, z4, ty5, sz5, z5, ty6, sz6, z6, ty7, sz7, z7, ty8, sz8, z8, ty9, sz9, z9, ty10, sz10, z10, ty11, sz11, z11, ty12, sz12, z12, ty13, sz13, z13, ty14, sz14, z14, ty15, sz15, z15, ty16, sz16, z16, ty29, sz29, z29, k29, ty30, sz30, z30, ty56, sz56, z56, ty58, sz58, z58, k58, ty60, sz60, z60, k60, ty63, sz63, z63, ty64, sz64, z64, ty77, sz77, z77, dLen, dIdxA, dLoad, part, Ty.isA, Ty.fi, D.cells, D.cells?, dField, dFieldA, dIdx, dFill, allCell, D.isCell, els, chunk, rep, splice, hget, hset, cellsOf, Blk.isC, Blk.cs, Blk.mut, Blk.setCs, dStore, dBuild, dSlice, dBnd, List.getElem?_map, Option.map_some, Int.toNat_natCast, List.length_map, Nat.lt_irrefl, Nat.zero_lt_one, Nat.zero_lt_succ, Nat.le_refl, Nat.zero_add, Bool.false_eq_true, false_or, or_true, true_or, List.drop_zero, Int.natCast_nonneg, D.int.injEq, Int.zero_le_ofNat, Nat.lt_add_one, List.getElem?_nil, Nat.zero_le, List.take, List.drop, Nat.reduceMul, Nat.reduceLeDiff, Nat.reduceLT, Nat.reducePow, Nat.reduceBEq, Nat.reduceEqDiff, and_self, D.closedL, D.closed, Bool.and_self, bne_self_eq_false, beq_self_eq_true, bne, Bool.true_and, Bool.and_true, Bool.or_true, Bool.or_false, Bool.true_or, Bool.false_or, Bool.and_false, Bool.false_and, List.all_cons, List.all_nil, List.all, List.replicate, exists_const, okK, dEqL, dEqO, dEq, Option.isSome, nc0, nc1, nc2, nc3, nc4, nc5, nc6, nc7, nc8, nc9, nc10, nc11, nc12, wl0, wl1, wl2, wl3, wl4, wl5, wl6, wl7, wl8, wl9, wl10, wl11, wl12, Int.reduceAdd, Int.reduceLT, Int.reduceLE, Int.reduceToNat, Int.reduceEq, Int.reduceSub, Int.reduceBEq, Int.reduceBNe, List.length_singleton, Nat.reduceBNe, Sp.d_mk, eq_self, Option.isSome_none])
  | (refine .body (by kernel_rfl) (PDen.to (hsp) ?_))
  | (refine PCall.to (by kernel_rfl) (hsp) ?_)
  | (refine .body (by kernel_rfl) (PDen.to (ops40) ?_))
  | (refine PCall.to (by kernel_rfl) (ops40) ?_)
  | (refine .body (by kernel_rfl) (PDen.to (cls41) ?_))
  | (refine PCall.to (by kernel_rfl) (cls41) ?_)
  | (refine PCall.mem (by kernel_rfl) (index42 _ 1 opsL a 7 rfl (by decide) rfl) ?_)
  | (refine PCall.mem (by kernel_rfl) (index42 _ 2 clsL b 4 rfl (by decide) rfl) ?_)
  | (refine .body (by kernel_rfl) (PDen.to (nc) ?_))
  | (refine PCall.to (by kernel_rfl) (nc) ?_)
  | (refine ⟨14, by decide +kernel, ?_⟩)
  | (refine ⟨15, by decide +kernel, ?_⟩)
  | (refine loopM_start 6 ?_)
  | (refine loopM_step ?_)
  | (refine ⟨by decide +kernel, ?_⟩)
  | rfl
  | split)
set_option maxHeartbeats 8000000 in
theorem read13d (s a b c d e f : List UInt8) (hsp : PDen Tryd.prog E 39 [.str s, .str [47]] (.list false [.str a, .str b, .str c, .str d, .str e, .str f])) (ha : a ≠ []) (hb : b ≠ []) (kc : Int) (nc : PDen Tryd.prog E 43 [.str c] (.tup [.int .i64 kc, .int .i64 0])) (kd ed : Int) (nd : PDen Tryd.prog E 43 [.str d] (.tup [.int .i64 kd, .int .i64 ed])) (he : ed ≠ 0) : PDen Tryd.prog E 13 [.str s] (.tup [.agg [.int .i64 0, .int .i64 0, .int .i64 0, .int .i64 0, .int .i64 0, .int .i64 0], .int .i64 7]) := by
  refine pden_by (fn := Tryd.f13) mixed Tryd.func13 rfl (rfl) (rfl) ?_
  have ha' : (a == []) = false := by rw [beq_eq_false_iff_ne]; exact ha
  have hb' : (b == []) = false := by rw [beq_eq_false_iff_ne]; exact hb
  have hma := opMax a ha
  have hmb := clMax b hb
  clear ha hb
  generalize hka : opIx a = ka at *
  generalize hkb : clIx b = kb at *
  clear hka hkb
  have he' : (ed == 0) = false := by rw [beq_eq_false_iff_ne]; exact he
  clear he
  skip
  repeat' (first
  | (simp -implicitDefEqProofs (maxSteps := 1000000) only [*, Tryd.f13, ↓cAny_eq, ↓anyP_go, fillT, fillH, ↓cwp_scope, ↓cwp_label, ↓scope_normal, ↓scope_ret, ↓scope_exit, ↓cwp_skip, ↓cwp_region, ↓cwp_drawn, ↓cwp_seq, ↓cwp_cond, ↓cwp_block, ↓cwp_loop, ↓cwp_exit, ↓cwp_ret, ↓kont_normal, ↓kont_exit, ↓kont_ret, ↓block_normal, ↓block_ret, ↓block_exit, ↓then_normal, ↓then_ret, ↓then_exit, ↓finF_normal, ↓finF_ret, ↓cseq_nil, ↓cseq_free, ↓cseq_cons, ↓seqK_go, ↓anyK_go, ↓caq_zero, ↓caq_done, ↓caq_free, ↓caq_step, ↓cStep_move, ↓cStep_assign, ↓cStep_eq, ↓cPure_call, ↓reduceIte, keeps, wantD, callee, aop, ev, ofV, nth, List.cons_append, List.nil_append, List.append_nil, undL, putO, put, List.length_cons, List.length_nil, Nat.reduceSub, Nat.reduceAdd, dBinT, dBin, dUn, Option.map, List.getElem?_toArray, List.toList_toArray, List.getElem?_cons_succ, List.getElem?_cons_zero, Option.bind, ge_iff_le, gt_iff_lt, resD, resL, resV, beq_true, beq_false, Option.some.injEq, List.map, Bool.not_true, Bool.not_false, Bool.false_eq_true, exists_eq_left', Bool.not_eq_true', decide_eq_true_eq, decide_eq_false_iff_not, ite_not, decide_true, decide_false, not_true_eq_false, not_false_eq_true, D.bool.injEq, if_true, if_false, and_true, true_and, ty1, sz1, z1, ty2, sz2, z2, ty3, sz3, z3, ty4, sz4, z4, ty5, sz5, z5, ty6, sz6, z6, ty7, sz7, z7, ty8, sz8, z8, ty9, sz9, z9, ty10, sz10, z10, ty11, sz11, z11, ty12, sz12, z12, ty13, sz13, z13, ty14, sz14, z14, ty15, sz15, z15, ty16, sz16, z16, ty29, sz29, z29, k29, ty30, sz30, z30, ty56, sz56, z56, ty58, sz58, z58, k58, ty60, sz60, z60, k60, ty63, sz63, z63, ty64, sz64, z64, ty77, sz77, z77, dLen, dIdxA, dLoad, part, Ty.isA, Ty.fi, D.cells, D.cells?, dField, dFieldA, dIdx, dFill, allCell, D.isCell, els, chunk, rep, splice, hget, hset, cellsOf, Blk.isC, Blk.cs, Blk.mut, Blk.setCs, dStore, dBuild, dSlice, dBnd, List.getElem?_map, Option.map_some, Int.toNat_natCast, List.length_map, Nat.lt_irrefl, Nat.zero_lt_one, Nat.zero_lt_succ, Nat.le_refl, Nat.zero_add, Bool.false_eq_true, false_or, or_true, true_or, List.drop_zero, Int.natCast_nonneg, D.int.injEq, Int.zero_le_ofNat, Nat.lt_add_one, List.getElem?_nil, Nat.zero_le, List.take, List.drop, Nat.reduceMul, Nat.reduceLeDiff, Nat.reduceLT, Nat.reducePow, Nat.reduceBEq, Nat.reduceEqDiff, and_self, D.closedL, D.closed, Bool.and_self, bne_self_eq_false, beq_self_eq_true, bne, Bool.true_and, Bool.and_true, Bool.or_true, Bool.or_false, Bool.true_or, Bool.false_or, Bool.and_false, Bool.false_and, List.all_cons, List.all_nil, List.all, List.replicate, exists_const, okK, dEqL, dEqO, dEq, Option.isSome, nc0, nc1, nc2, nc3, nc4, nc5, nc6, nc7, nc8, nc9, nc10, nc11, nc12, wl0, wl1, wl2, wl3, wl4, wl5, wl6, wl7, wl8, wl9, wl10, wl11, wl12, Int.reduceAdd, Int.reduceLT, Int.reduceLE, Int.reduceToNat, Int.reduceEq, Int.reduceSub, Int.reduceBEq, Int.reduceBNe, List.length_singleton, Nat.reduceBNe, Sp.d_mk, eq_self, Option.isSome_none])
  | (refine .body (by kernel_rfl) (PDen.to (hsp) ?_))
  | (refine PCall.to (by kernel_rfl) (hsp) ?_)
  | (refine .body (by kernel_rfl) (PDen.to (ops40) ?_))
  | (refine PCall.to (by kernel_rfl) (ops40) ?_)
  | (refine .body (by kernel_rfl) (PDen.to (cls41) ?_))
  | (refine PCall.to (by kernel_rfl) (cls41) ?_)
  | (refine PCall.mem (by kernel_rfl) (index42 _ 1 opsL a 7 rfl (by decide) rfl) ?_)
  | (refine PCall.mem (by kernel_rfl) (index42 _ 2 clsL b 4 rfl (by decide) rfl) ?_)
  | (refine .body (by kernel_rfl) (PDen.to (nc) ?_))
  | (refine PCall.to (by kernel_rfl) (nc) ?_)
  | (refine .body (by kernel_rfl) (PDen.to (nd) ?_))
  | (refine PCall.to (by kernel_rfl) (nd) ?_)
  | (refine ⟨14, by decide +kernel, ?_⟩)
  | (refine ⟨15, by decide +kernel, ?_⟩)
  | (refine loopM_start 6 ?_)
  | (refine loopM_step ?_)
  | (refine ⟨by decide +kernel, ?_⟩)
  | rfl
  | split)
set_option maxHeartbeats 8000000 in
theorem read13e (s a b c d e f : List UInt8) (hsp : PDen Tryd.prog E 39 [.str s, .str [47]] (.list false [.str a, .str b, .str c, .str d, .str e, .str f])) (ha : a ≠ []) (hb : b ≠ []) (kc : Int) (nc : PDen Tryd.prog E 43 [.str c] (.tup [.int .i64 kc, .int .i64 0])) (kd : Int) (nd : PDen Tryd.prog E 43 [.str d] (.tup [.int .i64 kd, .int .i64 0])) (ke ee : Int) (ne : PDen Tryd.prog E 43 [.str e] (.tup [.int .i64 ke, .int .i64 ee])) (he : ee ≠ 0) : PDen Tryd.prog E 13 [.str s] (.tup [.agg [.int .i64 0, .int .i64 0, .int .i64 0, .int .i64 0, .int .i64 0, .int .i64 0], .int .i64 7]) := by
  refine pden_by (fn := Tryd.f13) mixed Tryd.func13 rfl (rfl) (rfl) ?_
  have ha' : (a == []) = false := by rw [beq_eq_false_iff_ne]; exact ha
  have hb' : (b == []) = false := by rw [beq_eq_false_iff_ne]; exact hb
  have hma := opMax a ha
  have hmb := clMax b hb
  clear ha hb
  generalize hka : opIx a = ka at *
  generalize hkb : clIx b = kb at *
  clear hka hkb
  have he' : (ee == 0) = false := by rw [beq_eq_false_iff_ne]; exact he
  clear he
  skip
  repeat' (first
  | (simp -implicitDefEqProofs (maxSteps := 1000000) only [*, Tryd.f13, ↓cAny_eq, ↓anyP_go, fillT, fillH, ↓cwp_scope, ↓cwp_label, ↓scope_normal, ↓scope_ret, ↓scope_exit, ↓cwp_skip, ↓cwp_region, ↓cwp_drawn, ↓cwp_seq, ↓cwp_cond, ↓cwp_block, ↓cwp_loop, ↓cwp_exit, ↓cwp_ret, ↓kont_normal, ↓kont_exit, ↓kont_ret, ↓block_normal, ↓block_ret, ↓block_exit, ↓then_normal, ↓then_ret, ↓then_exit, ↓finF_normal, ↓finF_ret, ↓cseq_nil, ↓cseq_free, ↓cseq_cons, ↓seqK_go, ↓anyK_go, ↓caq_zero, ↓caq_done, ↓caq_free, ↓caq_step, ↓cStep_move, ↓cStep_assign, ↓cStep_eq, ↓cPure_call, ↓reduceIte, keeps, wantD, callee, aop, ev, ofV, nth, List.cons_append, List.nil_append, List.append_nil, undL, putO, put, List.length_cons, List.length_nil, Nat.reduceSub, Nat.reduceAdd, dBinT, dBin, dUn, Option.map, List.getElem?_toArray, List.toList_toArray, List.getElem?_cons_succ, List.getElem?_cons_zero, Option.bind, ge_iff_le, gt_iff_lt, resD, resL, resV, beq_true, beq_false, Option.some.injEq, List.map, Bool.not_true, Bool.not_false, Bool.false_eq_true, exists_eq_left', Bool.not_eq_true', decide_eq_true_eq, decide_eq_false_iff_not, ite_not, decide_true, decide_false, not_true_eq_false, not_false_eq_true, D.bool.injEq, if_true, if_false, and_true, true_and, ty1, sz1, z1, ty2, sz2, z2, ty3, sz3, z3, ty4, sz4, z4, ty5, sz5, z5, ty6, sz6, z6, ty7, sz7, z7, ty8, sz8, z8, ty9, sz9, z9, ty10, sz10, z10, ty11, sz11, z11, ty12, sz12, z12, ty13, sz13, z13, ty14, sz14, z14, ty15, sz15, z15, ty16, sz16, z16, ty29, sz29, z29, k29, ty30, sz30, z30, ty56, sz56, z56, ty58, sz58, z58, k58, ty60, sz60, z60, k60, ty63, sz63, z63, ty64, sz64, z64, ty77, sz77, z77, dLen, dIdxA, dLoad, part, Ty.isA, Ty.fi, D.cells, D.cells?, dField, dFieldA, dIdx, dFill, allCell, D.isCell, els, chunk, rep, splice, hget, hset, cellsOf, Blk.isC, Blk.cs, Blk.mut, Blk.setCs, dStore, dBuild, dSlice, dBnd, List.getElem?_map, Option.map_some, Int.toNat_natCast, List.length_map, Nat.lt_irrefl, Nat.zero_lt_one, Nat.zero_lt_succ, Nat.le_refl, Nat.zero_add, Bool.false_eq_true, false_or, or_true, true_or, List.drop_zero, Int.natCast_nonneg, D.int.injEq, Int.zero_le_ofNat, Nat.lt_add_one, List.getElem?_nil, Nat.zero_le, List.take, List.drop, Nat.reduceMul, Nat.reduceLeDiff, Nat.reduceLT, Nat.reducePow, Nat.reduceBEq, Nat.reduceEqDiff, and_self, D.closedL, D.closed, Bool.and_self, bne_self_eq_false, beq_self_eq_true, bne, Bool.true_and, Bool.and_true, Bool.or_true, Bool.or_false, Bool.true_or, Bool.false_or, Bool.and_false, Bool.false_and, List.all_cons, List.all_nil, List.all, List.replicate, exists_const, okK, dEqL, dEqO, dEq, Option.isSome, nc0, nc1, nc2, nc3, nc4, nc5, nc6, nc7, nc8, nc9, nc10, nc11, nc12, wl0, wl1, wl2, wl3, wl4, wl5, wl6, wl7, wl8, wl9, wl10, wl11, wl12, Int.reduceAdd, Int.reduceLT, Int.reduceLE, Int.reduceToNat, Int.reduceEq, Int.reduceSub, Int.reduceBEq, Int.reduceBNe, List.length_singleton, Nat.reduceBNe, Sp.d_mk, eq_self, Option.isSome_none])
  | (refine .body (by kernel_rfl) (PDen.to (hsp) ?_))
  | (refine PCall.to (by kernel_rfl) (hsp) ?_)
  | (refine .body (by kernel_rfl) (PDen.to (ops40) ?_))
  | (refine PCall.to (by kernel_rfl) (ops40) ?_)
  | (refine .body (by kernel_rfl) (PDen.to (cls41) ?_))
  | (refine PCall.to (by kernel_rfl) (cls41) ?_)
  | (refine PCall.mem (by kernel_rfl) (index42 _ 1 opsL a 7 rfl (by decide) rfl) ?_)
  | (refine PCall.mem (by kernel_rfl) (index42 _ 2 clsL b 4 rfl (by decide) rfl) ?_)
  | (refine .body (by kernel_rfl) (PDen.to (nc) ?_))
  | (refine PCall.to (by kernel_rfl) (nc) ?_)
  | (refine .body (by kernel_rfl) (PDen.to (nd) ?_))
  | (refine PCall.to (by kernel_rfl) (nd) ?_)
  | (refine .body (by kernel_rfl) (PDen.to (ne) ?_))
  | (refine PCall.to (by kernel_rfl) (ne) ?_)
  | (refine ⟨14, by decide +kernel, ?_⟩)
  | (refine ⟨15, by decide +kernel, ?_⟩)
  | (refine loopM_start 6 ?_)
  | (refine loopM_step ?_)
  | (refine ⟨by decide +kernel, ?_⟩)
  | rfl
  | split)
set_option maxHeartbeats 8000000 in
theorem read13f' (s a b c d e f : List UInt8) (hsp : PDen Tryd.prog E 39 [.str s, .str [47]] (.list false [.str a, .str b, .str c, .str d, .str e, .str f])) (ha : a ≠ []) (hb : b ≠ []) (kc : Int) (nc : PDen Tryd.prog E 43 [.str c] (.tup [.int .i64 kc, .int .i64 0])) (kd : Int) (nd : PDen Tryd.prog E 43 [.str d] (.tup [.int .i64 kd, .int .i64 0])) (ke : Int) (ne : PDen Tryd.prog E 43 [.str e] (.tup [.int .i64 ke, .int .i64 0])) (kf ef : Int) (nf : PDen Tryd.prog E 43 [.str f] (.tup [.int .i64 kf, .int .i64 ef])) (he : ef ≠ 0) : PDen Tryd.prog E 13 [.str s] (.tup [.agg [.int .i64 0, .int .i64 0, .int .i64 0, .int .i64 0, .int .i64 0, .int .i64 0], .int .i64 7]) := by
  refine pden_by (fn := Tryd.f13) mixed Tryd.func13 rfl (rfl) (rfl) ?_
  have ha' : (a == []) = false := by rw [beq_eq_false_iff_ne]; exact ha
  have hb' : (b == []) = false := by rw [beq_eq_false_iff_ne]; exact hb
  have hma := opMax a ha
  have hmb := clMax b hb
  clear ha hb
  generalize hka : opIx a = ka at *
  generalize hkb : clIx b = kb at *
  clear hka hkb
  have he' : (ef == 0) = false := by rw [beq_eq_false_iff_ne]; exact he
  clear he
  skip
  repeat' (first
  | (simp -implicitDefEqProofs (maxSteps := 1000000) only [*, Tryd.f13, ↓cAny_eq, ↓anyP_go, fillT, fillH, ↓cwp_scope, ↓cwp_label, ↓scope_normal, ↓scope_ret, ↓scope_exit, ↓cwp_skip, ↓cwp_region, ↓cwp_drawn, ↓cwp_seq, ↓cwp_cond, ↓cwp_block, ↓cwp_loop, ↓cwp_exit, ↓cwp_ret, ↓kont_normal, ↓kont_exit, ↓kont_ret, ↓block_normal, ↓block_ret, ↓block_exit, ↓then_normal, ↓then_ret, ↓then_exit, ↓finF_normal, ↓finF_ret, ↓cseq_nil, ↓cseq_free, ↓cseq_cons, ↓seqK_go, ↓anyK_go, ↓caq_zero, ↓caq_done, ↓caq_free, ↓caq_step, ↓cStep_move, ↓cStep_assign, ↓cStep_eq, ↓cPure_call, ↓reduceIte, keeps, wantD, callee, aop, ev, ofV, nth, List.cons_append, List.nil_append, List.append_nil, undL, putO, put, List.length_cons, List.length_nil, Nat.reduceSub, Nat.reduceAdd, dBinT, dBin, dUn, Option.map, List.getElem?_toArray, List.toList_toArray, List.getElem?_cons_succ, List.getElem?_cons_zero, Option.bind, ge_iff_le, gt_iff_lt, resD, resL, resV, beq_true, beq_false, Option.some.injEq, List.map, Bool.not_true, Bool.not_false, Bool.false_eq_true, exists_eq_left', Bool.not_eq_true', decide_eq_true_eq, decide_eq_false_iff_not, ite_not, decide_true, decide_false, not_true_eq_false, not_false_eq_true, D.bool.injEq, if_true, if_false, and_true, true_and, ty1, sz1, z1, ty2, sz2, z2, ty3, sz3, z3, ty4, sz4, z4, ty5, sz5, z5, ty6, sz6, z6, ty7, sz7, z7, ty8, sz8, z8, ty9, sz9, z9, ty10, sz10, z10, ty11, sz11, z11, ty12, sz12, z12, ty13, sz13, z13, ty14, sz14, z14, ty15, sz15, z15, ty16, sz16, z16, ty29, sz29, z29, k29, ty30, sz30, z30, ty56, sz56, z56, ty58, sz58, z58, k58, ty60, sz60, z60, k60, ty63, sz63, z63, ty64, sz64, z64, ty77, sz77, z77, dLen, dIdxA, dLoad, part, Ty.isA, Ty.fi, D.cells, D.cells?, dField, dFieldA, dIdx, dFill, allCell, D.isCell, els, chunk, rep, splice, hget, hset, cellsOf, Blk.isC, Blk.cs, Blk.mut, Blk.setCs, dStore, dBuild, dSlice, dBnd, List.getElem?_map, Option.map_some, Int.toNat_natCast, List.length_map, Nat.lt_irrefl, Nat.zero_lt_one, Nat.zero_lt_succ, Nat.le_refl, Nat.zero_add, Bool.false_eq_true, false_or, or_true, true_or, List.drop_zero, Int.natCast_nonneg, D.int.injEq, Int.zero_le_ofNat, Nat.lt_add_one, List.getElem?_nil, Nat.zero_le, List.take, List.drop, Nat.reduceMul, Nat.reduceLeDiff, Nat.reduceLT, Nat.reducePow, Nat.reduceBEq, Nat.reduceEqDiff, and_self, D.closedL, D.closed, Bool.and_self, bne_self_eq_false, beq_self_eq_true, bne, Bool.true_and, Bool.and_true, Bool.or_true, Bool.or_false, Bool.true_or, Bool.false_or, Bool.and_false, Bool.false_and, List.all_cons, List.all_nil, List.all, List.replicate, exists_const, okK, dEqL, dEqO, dEq, Option.isSome, nc0, nc1, nc2, nc3, nc4, nc5, nc6, nc7, nc8, nc9, nc10, nc11, nc12, wl0, wl1, wl2, wl3, wl4, wl5, wl6, wl7, wl8, wl9, wl10, wl11, wl12, Int.reduceAdd, Int.reduceLT, Int.reduceLE, Int.reduceToNat, Int.reduceEq, Int.reduceSub, Int.reduceBEq, Int.reduceBNe, List.length_singleton, Nat.reduceBNe, Sp.d_mk, eq_self, Option.isSome_none])
  | (refine .body (by kernel_rfl) (PDen.to (hsp) ?_))
  | (refine PCall.to (by kernel_rfl) (hsp) ?_)
  | (refine .body (by kernel_rfl) (PDen.to (ops40) ?_))
  | (refine PCall.to (by kernel_rfl) (ops40) ?_)
  | (refine .body (by kernel_rfl) (PDen.to (cls41) ?_))
  | (refine PCall.to (by kernel_rfl) (cls41) ?_)
  | (refine PCall.mem (by kernel_rfl) (index42 _ 1 opsL a 7 rfl (by decide) rfl) ?_)
  | (refine PCall.mem (by kernel_rfl) (index42 _ 2 clsL b 4 rfl (by decide) rfl) ?_)
  | (refine .body (by kernel_rfl) (PDen.to (nc) ?_))
  | (refine PCall.to (by kernel_rfl) (nc) ?_)
  | (refine .body (by kernel_rfl) (PDen.to (nd) ?_))
  | (refine PCall.to (by kernel_rfl) (nd) ?_)
  | (refine .body (by kernel_rfl) (PDen.to (ne) ?_))
  | (refine PCall.to (by kernel_rfl) (ne) ?_)
  | (refine .body (by kernel_rfl) (PDen.to (nf) ?_))
  | (refine PCall.to (by kernel_rfl) (nf) ?_)
  | (refine ⟨14, by decide +kernel, ?_⟩)
  | (refine ⟨15, by decide +kernel, ?_⟩)
  | (refine loopM_start 6 ?_)
  | (refine loopM_step ?_)
  | (refine ⟨by decide +kernel, ?_⟩)
  | rfl
  | split)
set_option maxHeartbeats 8000000 in
theorem read13f (s a b c d e f : List UInt8) (hsp : PDen Tryd.prog E 39 [.str s, .str [47]] (.list false [.str a, .str b, .str c, .str d, .str e, .str f])) (ha : a ≠ []) (hb : b ≠ []) (kc : Int) (nc : PDen Tryd.prog E 43 [.str c] (.tup [.int .i64 kc, .int .i64 0])) (kd : Int) (nd : PDen Tryd.prog E 43 [.str d] (.tup [.int .i64 kd, .int .i64 0])) (ke : Int) (ne : PDen Tryd.prog E 43 [.str e] (.tup [.int .i64 ke, .int .i64 0])) (kf : Int) (nf : PDen Tryd.prog E 43 [.str f] (.tup [.int .i64 kf, .int .i64 0])) (hf : sFit ⟨opIx a, clIx b, kc, kd, ke, kf⟩ = false) : PDen Tryd.prog E 13 [.str s] (.tup [.agg [.int .i64 0, .int .i64 0, .int .i64 0, .int .i64 0, .int .i64 0, .int .i64 0], .int .i64 7]) := by
  refine pden_by (fn := Tryd.f13) mixed Tryd.func13 rfl (rfl) (rfl) ?_
  have ha' : (a == []) = false := by rw [beq_eq_false_iff_ne]; exact ha
  have hb' : (b == []) = false := by rw [beq_eq_false_iff_ne]; exact hb
  have hma := opMax a ha
  have hmb := clMax b hb
  clear ha hb
  generalize hka : opIx a = ka at *
  generalize hkb : clIx b = kb at *
  clear hka hkb
  skip
  repeat' (first
  | (simp -implicitDefEqProofs (maxSteps := 1000000) only [*, Tryd.f13, ↓cAny_eq, ↓anyP_go, fillT, fillH, ↓cwp_scope, ↓cwp_label, ↓scope_normal, ↓scope_ret, ↓scope_exit, ↓cwp_skip, ↓cwp_region, ↓cwp_drawn, ↓cwp_seq, ↓cwp_cond, ↓cwp_block, ↓cwp_loop, ↓cwp_exit, ↓cwp_ret, ↓kont_normal, ↓kont_exit, ↓kont_ret, ↓block_normal, ↓block_ret, ↓block_exit, ↓then_normal, ↓then_ret, ↓then_exit, ↓finF_normal, ↓finF_ret, ↓cseq_nil, ↓cseq_free, ↓cseq_cons, ↓seqK_go, ↓anyK_go, ↓caq_zero, ↓caq_done, ↓caq_free, ↓caq_step, ↓cStep_move, ↓cStep_assign, ↓cStep_eq, ↓cPure_call, ↓reduceIte, keeps, wantD, callee, aop, ev, ofV, nth, List.cons_append, List.nil_append, List.append_nil, undL, putO, put, List.length_cons, List.length_nil, Nat.reduceSub, Nat.reduceAdd, dBinT, dBin, dUn, Option.map, List.getElem?_toArray, List.toList_toArray, List.getElem?_cons_succ, List.getElem?_cons_zero, Option.bind, ge_iff_le, gt_iff_lt, resD, resL, resV, beq_true, beq_false, Option.some.injEq, List.map, Bool.not_true, Bool.not_false, Bool.false_eq_true, exists_eq_left', Bool.not_eq_true', decide_eq_true_eq, decide_eq_false_iff_not, ite_not, decide_true, decide_false, not_true_eq_false, not_false_eq_true, D.bool.injEq, if_true, if_false, and_true, true_and, ty1, sz1, z1, ty2, sz2, z2, ty3, sz3, z3, ty4, sz4, z4, ty5, sz5, z5, ty6, sz6, z6, ty7, sz7, z7, ty8, sz8, z8, ty9, sz9, z9, ty10, sz10, z10, ty11, sz11, z11, ty12, sz12, z12, ty13, sz13, z13, ty14, sz14, z14, ty15, sz15, z15, ty16, sz16, z16, ty29, sz29, z29, k29, ty30, sz30, z30, ty56, sz56, z56, ty58, sz58, z58, k58, ty60, sz60, z60, k60, ty63, sz63, z63, ty64, sz64, z64, ty77, sz77, z77, dLen, dIdxA, dLoad, part, Ty.isA, Ty.fi, D.cells, D.cells?, dField, dFieldA, dIdx, dFill, allCell, D.isCell, els, chunk, rep, splice, hget, hset, cellsOf, Blk.isC, Blk.cs, Blk.mut, Blk.setCs, dStore, dBuild, dSlice, dBnd, List.getElem?_map, Option.map_some, Int.toNat_natCast, List.length_map, Nat.lt_irrefl, Nat.zero_lt_one, Nat.zero_lt_succ, Nat.le_refl, Nat.zero_add, Bool.false_eq_true, false_or, or_true, true_or, List.drop_zero, Int.natCast_nonneg, D.int.injEq, Int.zero_le_ofNat, Nat.lt_add_one, List.getElem?_nil, Nat.zero_le, List.take, List.drop, Nat.reduceMul, Nat.reduceLeDiff, Nat.reduceLT, Nat.reducePow, Nat.reduceBEq, Nat.reduceEqDiff, and_self, D.closedL, D.closed, Bool.and_self, bne_self_eq_false, beq_self_eq_true, bne, Bool.true_and, Bool.and_true, Bool.or_true, Bool.or_false, Bool.true_or, Bool.false_or, Bool.and_false, Bool.false_and, List.all_cons, List.all_nil, List.all, List.replicate, exists_const, okK, dEqL, dEqO, dEq, Option.isSome, nc0, nc1, nc2, nc3, nc4, nc5, nc6, nc7, nc8, nc9, nc10, nc11, nc12, wl0, wl1, wl2, wl3, wl4, wl5, wl6, wl7, wl8, wl9, wl10, wl11, wl12, Int.reduceAdd, Int.reduceLT, Int.reduceLE, Int.reduceToNat, Int.reduceEq, Int.reduceSub, Int.reduceBEq, Int.reduceBNe, List.length_singleton, Nat.reduceBNe, Sp.d_mk, eq_self, Option.isSome_none])
  | (refine .body (by kernel_rfl) (PDen.to (hsp) ?_))
  | (refine PCall.to (by kernel_rfl) (hsp) ?_)
  | (refine .body (by kernel_rfl) (PDen.to (ops40) ?_))
  | (refine PCall.to (by kernel_rfl) (ops40) ?_)
  | (refine .body (by kernel_rfl) (PDen.to (cls41) ?_))
  | (refine PCall.to (by kernel_rfl) (cls41) ?_)
  | (refine PCall.mem (by kernel_rfl) (index42 _ 1 opsL a 7 rfl (by decide) rfl) ?_)
  | (refine PCall.mem (by kernel_rfl) (index42 _ 2 clsL b 4 rfl (by decide) rfl) ?_)
  | (refine .body (by kernel_rfl) (PDen.to (nc) ?_))
  | (refine PCall.to (by kernel_rfl) (nc) ?_)
  | (refine .body (by kernel_rfl) (PDen.to (nd) ?_))
  | (refine PCall.to (by kernel_rfl) (nd) ?_)
  | (refine .body (by kernel_rfl) (PDen.to (ne) ?_))
  | (refine PCall.to (by kernel_rfl) (ne) ?_)
  | (refine .body (by kernel_rfl) (PDen.to (nf) ?_))
  | (refine PCall.to (by kernel_rfl) (nf) ?_)
  | (refine .body (by kernel_rfl) (PDen.to (fit15 _ _ _ _ _ _) ?_))
  | (refine PCall.to (by kernel_rfl) (fit15 _ _ _ _ _ _) ?_)
  | (refine ⟨14, by decide +kernel, ?_⟩)
  | (refine ⟨15, by decide +kernel, ?_⟩)
  | (refine loopM_start 6 ?_)
  | (refine loopM_step ?_)
  | (refine ⟨by decide +kernel, ?_⟩)
  | rfl
  | split)
set_option maxHeartbeats 8000000 in
theorem read13y (s a b c d e f : List UInt8) (hsp : PDen Tryd.prog E 39 [.str s, .str [47]] (.list false [.str a, .str b, .str c, .str d, .str e, .str f])) (ha : a ≠ []) (hb : b ≠ []) (kc : Int) (nc : PDen Tryd.prog E 43 [.str c] (.tup [.int .i64 kc, .int .i64 0])) (kd : Int) (nd : PDen Tryd.prog E 43 [.str d] (.tup [.int .i64 kd, .int .i64 0])) (ke : Int) (ne : PDen Tryd.prog E 43 [.str e] (.tup [.int .i64 ke, .int .i64 0])) (kf : Int) (nf : PDen Tryd.prog E 43 [.str f] (.tup [.int .i64 kf, .int .i64 0])) (hf : sFit ⟨opIx a, clIx b, kc, kd, ke, kf⟩ = true) : PDen Tryd.prog E 13 [.str s] (.tup [.agg [.int .i64 (opIx a), .int .i64 (clIx b), .int .i64 kc, .int .i64 kd, .int .i64 ke, .int .i64 kf], .int .i64 0]) := by
  refine pden_by (fn := Tryd.f13) mixed Tryd.func13 rfl (rfl) (rfl) ?_
  have ha' : (a == []) = false := by rw [beq_eq_false_iff_ne]; exact ha
  have hb' : (b == []) = false := by rw [beq_eq_false_iff_ne]; exact hb
  have hma := opMax a ha
  have hmb := clMax b hb
  clear ha hb
  generalize hka : opIx a = ka at *
  generalize hkb : clIx b = kb at *
  clear hka hkb
  skip
  repeat' (first
  | (simp -implicitDefEqProofs (maxSteps := 1000000) only [*, Tryd.f13, ↓cAny_eq, ↓anyP_go, fillT, fillH, ↓cwp_scope, ↓cwp_label, ↓scope_normal, ↓scope_ret, ↓scope_exit, ↓cwp_skip, ↓cwp_region, ↓cwp_drawn, ↓cwp_seq, ↓cwp_cond, ↓cwp_block, ↓cwp_loop, ↓cwp_exit, ↓cwp_ret, ↓kont_normal, ↓kont_exit, ↓kont_ret, ↓block_normal, ↓block_ret, ↓block_exit, ↓then_normal, ↓then_ret, ↓then_exit, ↓finF_normal, ↓finF_ret, ↓cseq_nil, ↓cseq_free, ↓cseq_cons, ↓seqK_go, ↓anyK_go, ↓caq_zero, ↓caq_done, ↓caq_free, ↓caq_step, ↓cStep_move, ↓cStep_assign, ↓cStep_eq, ↓cPure_call, ↓reduceIte, keeps, wantD, callee, aop, ev, ofV, nth, List.cons_append, List.nil_append, List.append_nil, undL, putO, put, List.length_cons, List.length_nil, Nat.reduceSub, Nat.reduceAdd, dBinT, dBin, dUn, Option.map, List.getElem?_toArray, List.toList_toArray, List.getElem?_cons_succ, List.getElem?_cons_zero, Option.bind, ge_iff_le, gt_iff_lt, resD, resL, resV, beq_true, beq_false, Option.some.injEq, List.map, Bool.not_true, Bool.not_false, Bool.false_eq_true, exists_eq_left', Bool.not_eq_true', decide_eq_true_eq, decide_eq_false_iff_not, ite_not, decide_true, decide_false, not_true_eq_false, not_false_eq_true, D.bool.injEq, if_true, if_false, and_true, true_and, ty1, sz1, z1, ty2, sz2, z2, ty3, sz3, z3, ty4, sz4, z4, ty5, sz5, z5, ty6, sz6, z6, ty7, sz7, z7, ty8, sz8, z8, ty9, sz9, z9, ty10, sz10, z10, ty11, sz11, z11, ty12, sz12, z12, ty13, sz13, z13, ty14, sz14, z14, ty15, sz15, z15, ty16, sz16, z16, ty29, sz29, z29, k29, ty30, sz30, z30, ty56, sz56, z56, ty58, sz58, z58, k58, ty60, sz60, z60, k60, ty63, sz63, z63, ty64, sz64, z64, ty77, sz77, z77, dLen, dIdxA, dLoad, part, Ty.isA, Ty.fi, D.cells, D.cells?, dField, dFieldA, dIdx, dFill, allCell, D.isCell, els, chunk, rep, splice, hget, hset, cellsOf, Blk.isC, Blk.cs, Blk.mut, Blk.setCs, dStore, dBuild, dSlice, dBnd, List.getElem?_map, Option.map_some, Int.toNat_natCast, List.length_map, Nat.lt_irrefl, Nat.zero_lt_one, Nat.zero_lt_succ, Nat.le_refl, Nat.zero_add, Bool.false_eq_true, false_or, or_true, true_or, List.drop_zero, Int.natCast_nonneg, D.int.injEq, Int.zero_le_ofNat, Nat.lt_add_one, List.getElem?_nil, Nat.zero_le, List.take, List.drop, Nat.reduceMul, Nat.reduceLeDiff, Nat.reduceLT, Nat.reducePow, Nat.reduceBEq, Nat.reduceEqDiff, and_self, D.closedL, D.closed, Bool.and_self, bne_self_eq_false, beq_self_eq_true, bne, Bool.true_and, Bool.and_true, Bool.or_true, Bool.or_false, Bool.true_or, Bool.false_or, Bool.and_false, Bool.false_and, List.all_cons, List.all_nil, List.all, List.replicate, exists_const, okK, dEqL, dEqO, dEq, Option.isSome, nc0, nc1, nc2, nc3, nc4, nc5, nc6, nc7, nc8, nc9, nc10, nc11, nc12, wl0, wl1, wl2, wl3, wl4, wl5, wl6, wl7, wl8, wl9, wl10, wl11, wl12, Int.reduceAdd, Int.reduceLT, Int.reduceLE, Int.reduceToNat, Int.reduceEq, Int.reduceSub, Int.reduceBEq, Int.reduceBNe, List.length_singleton, Nat.reduceBNe, Sp.d_mk, eq_self, Option.isSome_none])
  | (refine .body (by kernel_rfl) (PDen.to (hsp) ?_))
  | (refine PCall.to (by kernel_rfl) (hsp) ?_)
  | (refine .body (by kernel_rfl) (PDen.to (ops40) ?_))
  | (refine PCall.to (by kernel_rfl) (ops40) ?_)
  | (refine .body (by kernel_rfl) (PDen.to (cls41) ?_))
  | (refine PCall.to (by kernel_rfl) (cls41) ?_)
  | (refine PCall.mem (by kernel_rfl) (index42 _ 1 opsL a 7 rfl (by decide) rfl) ?_)
  | (refine PCall.mem (by kernel_rfl) (index42 _ 2 clsL b 4 rfl (by decide) rfl) ?_)
  | (refine .body (by kernel_rfl) (PDen.to (nc) ?_))
  | (refine PCall.to (by kernel_rfl) (nc) ?_)
  | (refine .body (by kernel_rfl) (PDen.to (nd) ?_))
  | (refine PCall.to (by kernel_rfl) (nd) ?_)
  | (refine .body (by kernel_rfl) (PDen.to (ne) ?_))
  | (refine PCall.to (by kernel_rfl) (ne) ?_)
  | (refine .body (by kernel_rfl) (PDen.to (nf) ?_))
  | (refine PCall.to (by kernel_rfl) (nf) ?_)
  | (refine .body (by kernel_rfl) (PDen.to (fit15 _ _ _ _ _ _) ?_))
  | (refine PCall.to (by kernel_rfl) (fit15 _ _ _ _ _ _) ?_)
  | (refine ⟨14, by decide +kernel, ?_⟩)
  | (refine ⟨15, by decide +kernel, ?_⟩)
  | (refine loopM_start 6 ?_)
  | (refine loopM_step ?_)
  | (refine ⟨by decide +kernel, ?_⟩)
  | rfl
  | split)
theorem read13 (s : List UInt8) (hs : s.length ≤ 1099511627776) : PDen Tryd.prog E 13 [.str s] (resS (sRead s)) := by
  by_cases hl : (splitC 47 s).length = 6
  · obtain ⟨a, b, c, d, e, f, h6⟩ := len6 hl
    have hsp := split39 (E := E) 47 s hs
    have hpl : ∀ p ∈ splitC 47 s, p.length ≤ 4611686018427387904 := fun p hp => by
      have := split_plen s [] p hp
      simp at this
      omega
    rw [h6] at hsp hpl
    rw [sRead_six h6]
    have hc := number_at (E := E) (hpl c (by simp)) (Prod.eta (numS c)).symm
    have hd := number_at (E := E) (hpl d (by simp)) (Prod.eta (numS d)).symm
    have he := number_at (E := E) (hpl e (by simp)) (Prod.eta (numS e)).symm
    have hf := number_at (E := E) (hpl f (by simp)) (Prod.eta (numS f)).symm
    by_cases ha : a = []
    · rw [if_neg (by simp [ha])]; exact read13a s a b c d e f hsp ha
    by_cases hb : b = []
    · rw [if_neg (by simp [hb])]; exact read13b s a b c d e f hsp ha hb
    by_cases ec : (numS c).2 = 0
    case neg => rw [if_neg (by simp [ec])]; exact read13c s a b c d e f hsp ha hb _ _ hc ec
    rw [ec] at hc
    by_cases ed : (numS d).2 = 0
    case neg => rw [if_neg (by simp [ed])]; exact read13d s a b c d e f hsp ha hb _ hc _ _ hd ed
    rw [ed] at hd
    by_cases ee : (numS e).2 = 0
    case neg => rw [if_neg (by simp [ee])]; exact read13e s a b c d e f hsp ha hb _ hc _ hd _ _ he ee
    rw [ee] at he
    by_cases ef : (numS f).2 = 0
    case neg => rw [if_neg (by simp [ef])]; exact read13f' s a b c d e f hsp ha hb _ hc _ hd _ he _ _ hf ef
    rw [ef] at hf
    cases hfit : sFit (rd6 a b c d e f)
    · rw [if_neg (by simp)]; exact read13f s a b c d e f hsp ha hb _ hc _ hd _ he _ hf hfit
    · rw [if_pos ⟨ha, hb, ec, ed, ee, ef, rfl⟩]; exact read13y s a b c d e f hsp ha hb _ hc _ hd _ he _ hf hfit
  · rw [sRead_ne hl]
    exact read13n s hs hl
end Go.Lv
