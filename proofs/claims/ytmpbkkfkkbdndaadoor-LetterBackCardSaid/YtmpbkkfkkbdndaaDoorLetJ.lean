/- Letters: texts. -/
import Derived.Test.YtmpbkkfkkbdndaaDoorLetI
import Derived.Test.YtmpbkkfkkbdndaaDoorNumB
import Derived.Test.YtmpbkkfkkbdndaaDoorNumF
import Derived.Test.YtmpbkkfkkbdndaaDoorKeyT
namespace Go.Lv
open Go Go.Proofs Go.IntWalk
set_option maxRecDepth 100000
set_option linter.unusedSimpArgs false
set_option linter.unusedVariables false
variable {E : Env}
theorem strsD_len (ws : List (List UInt8)) : (strsD ws).length = ws.length := by simp [strsD]
theorem strsD_sz (ws : List (List UInt8)) : allSz 1 (strsD ws) = true := by
  unfold allSz
  rw [List.all_eq_true]
  intro x hx
  obtain ⟨y, _, rfl⟩ := List.mem_map.1 hx
  rfl
theorem strsD_flat : ∀ ws : List (List UInt8), (strsD ws).flatMap D.cells = strsD ws
  | [] => rfl
  | x :: ws => by
    have := strsD_flat ws
    simp only [strsD, List.map_cons, List.flatMap_cons] at *
    rw [this]
    rfl
theorem strsD_app (us ws : List (List UInt8)) : strsD us ++ strsD ws = strsD (us ++ ws) := by simp [strsD]
def sagaB : List UInt8 := [115, 97, 103, 97]
def stepB : List UInt8 := [115, 116, 101, 112]
def backB : List UInt8 := [98, 97, 99, 107]
def triesB : List UInt8 := [116, 114, 105, 101, 115]
def parkedB : List UInt8 := [112, 97, 114, 107, 101, 100]
def atB : List UInt8 := [97, 116]
def wordsS (x : Lt) : List (List UInt8) := [sagaB, itoaD x.g, stepB, itoaD x.s] ++ (if x.k then [backB] else []) ++ [if x.y == 7 then triesB else parkedB] ++ [atB, itoaD x.a]
def textS (x : Lt) : List UInt8 := if oneS x then Lib.join (wordsS x) [32] else []
set_option maxHeartbeats 8000000 in
theorem put57a (B0 : Blk) (ws : List (List UInt8)) (h1 : 0 < ws.length) (h2 : ws.length ≤ 1000000) : Fun Tryd.prog E 57 [.ptr 1 0 1, .list true (strsD ws)] ([B0, .var [.list true []]]) (fun d H' => d = .tup [] ∧ H' = [B0, .var [.own 2 ws.length ws.length], .row 1 false (strsD ws)]) := by
  refine fun_by (fn := Tryd.f57) mixed Tryd.func57 rfl ?_
  have hl := strsD_len ws
  have hs := strsD_sz ws
  have hf := strsD_flat ws
  have h0 : allSz 1 ([] : List D) = true := rfl
  have hb : ws.length * 16 ≤ 70368744177664 := by omega
  have hz : ¬ ws.length = 0 := by omega
  repeat' (first
  | (simp -implicitDefEqProofs (maxSteps := 1000000) only [*, Tryd.f57, ↓cwp_skip, ↓cwp_region, ↓cwp_drawn, ↓cwp_seq, ↓cwp_cond, ↓cwp_block, ↓cwp_loop, ↓cwp_exit, ↓cwp_ret, ↓kont_normal, ↓kont_exit, ↓kont_ret, ↓block_normal, ↓block_ret, ↓block_exit, ↓then_normal, ↓then_ret, ↓then_exit, ↓finF_normal, ↓finF_ret, ↓cseq_nil, ↓cseq_free, ↓cseq_cons, ↓seqK_go, ↓anyK_go, ↓caq_zero, ↓caq_done, ↓caq_free, ↓caq_step, ↓cStep_move, ↓cStep_assign, ↓cStep_eq, ↓cPure_call, ↓reduceIte, keeps, wantD, callee, aop, ev, ofV, nth, List.cons_append, List.nil_append, List.append_nil, undL, putO, put, List.length_cons, List.length_nil, Nat.reduceSub, Nat.reduceAdd, dBinT, dBin, dUn, Option.map, List.getElem?_toArray, List.toList_toArray, List.getElem?_cons_succ, List.getElem?_cons_zero, Option.bind, ge_iff_le, gt_iff_lt, resD, resL, resV, beq_true, beq_false, Option.some.injEq, List.map, Bool.not_true, Bool.not_false, Bool.false_eq_true, exists_eq_left', Bool.not_eq_true', decide_eq_true_eq, decide_eq_false_iff_not, ite_not, decide_true, decide_false, not_true_eq_false, not_false_eq_true, D.bool.injEq, if_true, if_false, and_true, true_and, ty11, sz11, z11, ty75, sz75, z75, ty76, sz76, z76, ty92, sz92, z92, dLen, dIdxA, dLoad, part, Ty.isA, Ty.fi, D.cells, D.cells?, dField, dFieldA, dIdx, dFill, allCell, D.isCell, els, chunk, rep, splice, hget, hset, cellsOf, Blk.isC, Blk.cs, Blk.mut, Blk.setCs, dStore, dBuild, dSlice, dBnd, List.getElem?_map, Option.map_some, Int.toNat_natCast, List.length_map, Nat.lt_irrefl, Nat.zero_lt_one, Nat.zero_lt_succ, Nat.le_refl, Nat.zero_add, Bool.false_eq_true, false_or, or_true, true_or, List.drop_zero, Int.natCast_nonneg, D.int.injEq, Int.zero_le_ofNat, Nat.lt_add_one, List.getElem?_nil, Nat.zero_le, List.take, List.drop, Nat.reduceMul, Nat.reduceLeDiff, Nat.reduceLT, Nat.reducePow, Nat.reduceBEq, Nat.reduceEqDiff, and_self, D.closedL, D.closed, Bool.and_self, bne_self_eq_false, beq_self_eq_true, bne, Bool.true_and, Bool.and_true, Bool.or_true, Bool.or_false, Bool.true_or, Bool.false_or, Bool.and_false, Bool.false_and, List.all_cons, List.all_nil, List.all, List.replicate, exists_const, okK, dEqL, dEqO, dEq, Option.isSome, nc0, nc1, nc2, nc3, nc4, nc5, nc6, nc7, nc8, nc9, nc10, nc11, nc12, wl0, wl1, wl2, wl3, wl4, wl5, wl6, wl7, wl8, wl9, wl10, wl11, wl12, Int.reduceAdd, Int.reduceLT, Int.reduceLE, Int.reduceToNat, Int.reduceEq, Int.reduceSub, Int.reduceBEq, Int.reduceBNe, List.length_singleton, Nat.reduceBNe, z9, sz9, ty9, lts_def, Lt.d_mk, hget_len, hset_len', eq_self, dAppend, dLenN, srcCells, List.flatMap_nil, List.nil_append, Nat.mul_one, and_true, exists_eq_left'])
  | rfl
  | split)
set_option maxHeartbeats 8000000 in
theorem put57b (B0 : Blk) (us ws : List (List UInt8)) (h1 : 0 < ws.length) (h2 : ws.length + us.length ≤ 1000000) : Fun Tryd.prog E 57 [.ptr 1 0 1, .list true (strsD ws)] ([B0, .var [.own 2 us.length us.length], .row 1 false (strsD us)]) (fun d H' => d = .tup [] ∧ H' = [B0, .var [.own 2 (us ++ ws).length (us ++ ws).length], .row 1 false (strsD (us ++ ws))]) := by
  refine fun_by (fn := Tryd.f57) mixed Tryd.func57 rfl ?_
  have hl := strsD_len ws
  have hlu := strsD_len us
  have hs := strsD_sz ws
  have hf := strsD_flat ws
  have ha := strsD_app us ws
  have hb : (us.length + ws.length) * 16 ≤ 70368744177664 := by omega
  have hz : ¬ ws.length = 0 := by omega
  have hla : (us ++ ws).length = us.length + ws.length := by simp
  repeat' (first
  | (simp -implicitDefEqProofs (maxSteps := 1000000) only [*, Tryd.f57, ↓cwp_skip, ↓cwp_region, ↓cwp_drawn, ↓cwp_seq, ↓cwp_cond, ↓cwp_block, ↓cwp_loop, ↓cwp_exit, ↓cwp_ret, ↓kont_normal, ↓kont_exit, ↓kont_ret, ↓block_normal, ↓block_ret, ↓block_exit, ↓then_normal, ↓then_ret, ↓then_exit, ↓finF_normal, ↓finF_ret, ↓cseq_nil, ↓cseq_free, ↓cseq_cons, ↓seqK_go, ↓anyK_go, ↓caq_zero, ↓caq_done, ↓caq_free, ↓caq_step, ↓cStep_move, ↓cStep_assign, ↓cStep_eq, ↓cPure_call, ↓reduceIte, keeps, wantD, callee, aop, ev, ofV, nth, List.cons_append, List.nil_append, List.append_nil, undL, putO, put, List.length_cons, List.length_nil, Nat.reduceSub, Nat.reduceAdd, dBinT, dBin, dUn, Option.map, List.getElem?_toArray, List.toList_toArray, List.getElem?_cons_succ, List.getElem?_cons_zero, Option.bind, ge_iff_le, gt_iff_lt, resD, resL, resV, beq_true, beq_false, Option.some.injEq, List.map, Bool.not_true, Bool.not_false, Bool.false_eq_true, exists_eq_left', Bool.not_eq_true', decide_eq_true_eq, decide_eq_false_iff_not, ite_not, decide_true, decide_false, not_true_eq_false, not_false_eq_true, D.bool.injEq, if_true, if_false, and_true, true_and, ty11, sz11, z11, ty75, sz75, z75, ty76, sz76, z76, ty92, sz92, z92, dLen, dIdxA, dLoad, part, Ty.isA, Ty.fi, D.cells, D.cells?, dField, dFieldA, dIdx, dFill, allCell, D.isCell, els, chunk, rep, splice, hget, hset, cellsOf, Blk.isC, Blk.cs, Blk.mut, Blk.setCs, dStore, dBuild, dSlice, dBnd, List.getElem?_map, Option.map_some, Int.toNat_natCast, List.length_map, Nat.lt_irrefl, Nat.zero_lt_one, Nat.zero_lt_succ, Nat.le_refl, Nat.zero_add, Bool.false_eq_true, false_or, or_true, true_or, List.drop_zero, Int.natCast_nonneg, D.int.injEq, Int.zero_le_ofNat, Nat.lt_add_one, List.getElem?_nil, Nat.zero_le, List.take, List.drop, Nat.reduceMul, Nat.reduceLeDiff, Nat.reduceLT, Nat.reducePow, Nat.reduceBEq, Nat.reduceEqDiff, and_self, D.closedL, D.closed, Bool.and_self, bne_self_eq_false, beq_self_eq_true, bne, Bool.true_and, Bool.and_true, Bool.or_true, Bool.or_false, Bool.true_or, Bool.false_or, Bool.and_false, Bool.false_and, List.all_cons, List.all_nil, List.all, List.replicate, exists_const, okK, dEqL, dEqO, dEq, Option.isSome, nc0, nc1, nc2, nc3, nc4, nc5, nc6, nc7, nc8, nc9, nc10, nc11, nc12, wl0, wl1, wl2, wl3, wl4, wl5, wl6, wl7, wl8, wl9, wl10, wl11, wl12, Int.reduceAdd, Int.reduceLT, Int.reduceLE, Int.reduceToNat, Int.reduceEq, Int.reduceSub, Int.reduceBEq, Int.reduceBNe, List.length_singleton, Nat.reduceBNe, z9, sz9, ty9, lts_def, Lt.d_mk, hget_len, hset_len', eq_self, dAppend, dLenN, srcCells, List.flatMap_nil, List.nil_append, Nat.mul_one, and_true, exists_eq_left'])
  | rfl
  | split)
set_option maxHeartbeats 8000000 in
theorem text33 (ht : Tab E.h0 1 .u64 Lib.pow10Tab) (x : Lt) : PDen Tryd.prog E 33 [x.d] (.str (textS x)) := by
  refine pden_by (fn := Tryd.f33) mixed Tryd.func33 rfl (rfl) (rfl) ?_
  obtain ⟨xg, xs, xk, xy, xa⟩ := x
  cases ho : oneS ⟨xg, xs, xk, xy, xa⟩
  · have hr : textS ⟨xg, xs, xk, xy, xa⟩ = [] := by simp [textS, ho]
    rw [hr]
    repeat' (first
      | (simp -implicitDefEqProofs (maxSteps := 1000000) only [*, Tryd.f33, ↓cwp_skip, ↓cwp_region, ↓cwp_drawn, ↓cwp_seq, ↓cwp_cond, ↓cwp_block, ↓cwp_loop, ↓cwp_exit, ↓cwp_ret, ↓kont_normal, ↓kont_exit, ↓kont_ret, ↓block_normal, ↓block_ret, ↓block_exit, ↓then_normal, ↓then_ret, ↓then_exit, ↓finF_normal, ↓finF_ret, ↓cseq_nil, ↓cseq_free, ↓cseq_cons, ↓seqK_go, ↓anyK_go, ↓caq_zero, ↓caq_done, ↓caq_free, ↓caq_step, ↓cStep_move, ↓cStep_assign, ↓cStep_eq, ↓cPure_call, ↓reduceIte, keeps, wantD, callee, aop, ev, ofV, nth, List.cons_append, List.nil_append, List.append_nil, undL, putO, put, List.length_cons, List.length_nil, Nat.reduceSub, Nat.reduceAdd, dBinT, dBin, dUn, Option.map, List.getElem?_toArray, List.toList_toArray, List.getElem?_cons_succ, List.getElem?_cons_zero, Option.bind, ge_iff_le, gt_iff_lt, resD, resL, resV, beq_true, beq_false, Option.some.injEq, List.map, Bool.not_true, Bool.not_false, Bool.false_eq_true, exists_eq_left', Bool.not_eq_true', decide_eq_true_eq, decide_eq_false_iff_not, ite_not, decide_true, decide_false, not_true_eq_false, not_false_eq_true, D.bool.injEq, if_true, if_false, and_true, true_and, ty1, sz1, z1, ty2, sz2, z2, ty3, sz3, z3, ty4, sz4, z4, ty5, sz5, z5, ty6, sz6, z6, ty7, sz7, z7, ty8, sz8, z8, ty9, sz9, z9, ty10, sz10, z10, ty11, sz11, z11, ty12, sz12, z12, ty34, sz34, z34, ty37, sz37, z37, k37, ty75, sz75, z75, ty76, sz76, z76, dLen, dIdxA, dLoad, part, Ty.isA, Ty.fi, D.cells, D.cells?, dField, dFieldA, dIdx, dFill, allCell, D.isCell, els, chunk, rep, splice, hget, hset, cellsOf, Blk.isC, Blk.cs, Blk.mut, Blk.setCs, dStore, dBuild, dSlice, dBnd, List.getElem?_map, Option.map_some, Int.toNat_natCast, List.length_map, Nat.lt_irrefl, Nat.zero_lt_one, Nat.zero_lt_succ, Nat.le_refl, Nat.zero_add, Bool.false_eq_true, false_or, or_true, true_or, List.drop_zero, Int.natCast_nonneg, D.int.injEq, Int.zero_le_ofNat, Nat.lt_add_one, List.getElem?_nil, Nat.zero_le, List.take, List.drop, Nat.reduceMul, Nat.reduceLeDiff, Nat.reduceLT, Nat.reducePow, Nat.reduceBEq, Nat.reduceEqDiff, and_self, D.closedL, D.closed, Bool.and_self, bne_self_eq_false, beq_self_eq_true, bne, Bool.true_and, Bool.and_true, Bool.or_true, Bool.or_false, Bool.true_or, Bool.false_or, Bool.and_false, Bool.false_and, List.all_cons, List.all_nil, List.all, List.replicate, exists_const, okK, dEqL, dEqO, dEq, Option.isSome, nc0, nc1, nc2, nc3, nc4, nc5, nc6, nc7, nc8, nc9, nc10, nc11, nc12, wl0, wl1, wl2, wl3, wl4, wl5, wl6, wl7, wl8, wl9, wl10, wl11, wl12, Int.reduceAdd, Int.reduceLT, Int.reduceLE, Int.reduceToNat, Int.reduceEq, Int.reduceSub, Int.reduceBEq, Int.reduceBNe, List.length_singleton, Nat.reduceBNe, z9, sz9, ty9, lts_def, Lt.d_mk, hget_len, hset_len', eq_self])
      | (refine .body (by kernel_rfl) (PDen.to (oneP ⟨xg, xs, xk, xy, xa⟩) ?_))
      | (refine PCall.to (by kernel_rfl) (oneP ⟨xg, xs, xk, xy, xa⟩) ?_)
      | (refine ⟨5, by decide +kernel, ?_⟩)
      | (refine ⟨6, by decide +kernel, ?_⟩)
      | (refine ⟨7, by decide +kernel, ?_⟩)
      | (refine ⟨8, by decide +kernel, ?_⟩)
      | rfl
      | split)
  · have h1 := oneS_iff.1 ho
    simp only at h1
    have hF := F_iff.1 h1.2.2.2.2.2
    have hg0 : -9223372036854775808 ≤ xg := by omega
    have hg1 : xg ≤ 9223372036854775807 := by omega
    have hs0 : -9223372036854775808 ≤ xs := by omega
    have hs1 : xs ≤ 9223372036854775807 := by omega
    have ha0 : -9223372036854775808 ≤ xa := by omega
    have ha1 : xa ≤ 9223372036854775807 := by omega
    have lg := itoaD_len20 xg (by omega) (by omega)
    have ls := itoaD_len20 xs (by omega) (by omega)
    have la := itoaD_len20 xa (by omega) (by omega)
    clear h1 hF
    cases xk
    · by_cases hy7 : xy = 7
      · have hy : (xy == 7) = true := by simpa using hy7
        clear hy7
        have hr : textS ⟨xg, xs, false, xy, xa⟩ = Lib.join [sagaB, itoaD xg, stepB, itoaD xs, triesB, atB, itoaD xa] [32] := by simp [textS, wordsS, ho, hy]
        have hjl : (Lib.join [sagaB, itoaD xg, stepB, itoaD xs, triesB, atB, itoaD xa] [32]).length ≤ 140737488355328 := by
          rw [Lib.join_length]
          simp only [Lib.lens, List.map, List.sum_cons, List.sum_nil, List.length_cons, List.length_nil, sagaB, stepB, backB, triesB, parkedB, atB]
          omega
        rw [hr]
        clear hr
        repeat' (first
          | (simp -implicitDefEqProofs (maxSteps := 1000000) only [*, Tryd.f33, ↓cwp_skip, ↓cwp_region, ↓cwp_drawn, ↓cwp_seq, ↓cwp_cond, ↓cwp_block, ↓cwp_loop, ↓cwp_exit, ↓cwp_ret, ↓kont_normal, ↓kont_exit, ↓kont_ret, ↓block_normal, ↓block_ret, ↓block_exit, ↓then_normal, ↓then_ret, ↓then_exit, ↓finF_normal, ↓finF_ret, ↓cseq_nil, ↓cseq_free, ↓cseq_cons, ↓seqK_go, ↓anyK_go, ↓caq_zero, ↓caq_done, ↓caq_free, ↓caq_step, ↓cStep_move, ↓cStep_assign, ↓cStep_eq, ↓cPure_call, ↓reduceIte, keeps, wantD, callee, aop, ev, ofV, nth, List.cons_append, List.nil_append, List.append_nil, undL, putO, put, List.length_cons, List.length_nil, Nat.reduceSub, Nat.reduceAdd, dBinT, dBin, dUn, Option.map, List.getElem?_toArray, List.toList_toArray, List.getElem?_cons_succ, List.getElem?_cons_zero, Option.bind, ge_iff_le, gt_iff_lt, resD, resL, resV, beq_true, beq_false, Option.some.injEq, List.map, Bool.not_true, Bool.not_false, Bool.false_eq_true, exists_eq_left', Bool.not_eq_true', decide_eq_true_eq, decide_eq_false_iff_not, ite_not, decide_true, decide_false, not_true_eq_false, not_false_eq_true, D.bool.injEq, if_true, if_false, and_true, true_and, ty1, sz1, z1, ty2, sz2, z2, ty3, sz3, z3, ty4, sz4, z4, ty5, sz5, z5, ty6, sz6, z6, ty7, sz7, z7, ty8, sz8, z8, ty9, sz9, z9, ty10, sz10, z10, ty11, sz11, z11, ty12, sz12, z12, ty34, sz34, z34, ty37, sz37, z37, k37, ty75, sz75, z75, ty76, sz76, z76, dLen, dIdxA, dLoad, part, Ty.isA, Ty.fi, D.cells, D.cells?, dField, dFieldA, dIdx, dFill, allCell, D.isCell, els, chunk, rep, splice, hget, hset, cellsOf, Blk.isC, Blk.cs, Blk.mut, Blk.setCs, dStore, dBuild, dSlice, dBnd, List.getElem?_map, Option.map_some, Int.toNat_natCast, List.length_map, Nat.lt_irrefl, Nat.zero_lt_one, Nat.zero_lt_succ, Nat.le_refl, Nat.zero_add, Bool.false_eq_true, false_or, or_true, true_or, List.drop_zero, Int.natCast_nonneg, D.int.injEq, Int.zero_le_ofNat, Nat.lt_add_one, List.getElem?_nil, Nat.zero_le, List.take, List.drop, Nat.reduceMul, Nat.reduceLeDiff, Nat.reduceLT, Nat.reducePow, Nat.reduceBEq, Nat.reduceEqDiff, and_self, D.closedL, D.closed, Bool.and_self, bne_self_eq_false, beq_self_eq_true, bne, Bool.true_and, Bool.and_true, Bool.or_true, Bool.or_false, Bool.true_or, Bool.false_or, Bool.and_false, Bool.false_and, List.all_cons, List.all_nil, List.all, List.replicate, exists_const, okK, dEqL, dEqO, dEq, Option.isSome, nc0, nc1, nc2, nc3, nc4, nc5, nc6, nc7, nc8, nc9, nc10, nc11, nc12, wl0, wl1, wl2, wl3, wl4, wl5, wl6, wl7, wl8, wl9, wl10, wl11, wl12, Int.reduceAdd, Int.reduceLT, Int.reduceLE, Int.reduceToNat, Int.reduceEq, Int.reduceSub, Int.reduceBEq, Int.reduceBNe, List.length_singleton, Nat.reduceBNe, z9, sz9, ty9, lts_def, Lt.d_mk, hget_len, hset_len', eq_self])
          | (refine .body (by kernel_rfl) (PDen.to (oneP ⟨xg, xs, false, xy, xa⟩) ?_))
          | (refine PCall.to (by kernel_rfl) (oneP ⟨xg, xs, false, xy, xa⟩) ?_)
          | (refine .body (by kernel_rfl) (PDen.to (digits ht xg hg0 hg1) ?_))
          | (refine PCall.to (by kernel_rfl) (digits ht xg hg0 hg1) ?_)
          | (refine .body (by kernel_rfl) (PDen.to (digits ht xs hs0 hs1) ?_))
          | (refine PCall.to (by kernel_rfl) (digits ht xs hs0 hs1) ?_)
          | (refine .body (by kernel_rfl) (PDen.to (digits ht xa ha0 ha1) ?_))
          | (refine PCall.to (by kernel_rfl) (digits ht xa ha0 ha1) ?_)
          | (refine .body (by kernel_rfl) (Fun.to (put57a (.var [.int .i64 xg, .int .i64 xs, .bool false, .int .i64 xy, .int .i64 xa]) [sagaB, itoaD xg, stepB, itoaD xs] (Nat.succ_pos _) (by simp)) ?_); rintro _ _ ⟨rfl, rfl⟩)
          | (refine .body (by kernel_rfl) (Fun.to (put57b (.var [.int .i64 xg, .int .i64 xs, .bool false, .int .i64 xy, .int .i64 xa]) [sagaB, itoaD xg, stepB, itoaD xs] [triesB] (Nat.succ_pos _) (by simp)) ?_); rintro _ _ ⟨rfl, rfl⟩)
          | (refine .body (by kernel_rfl) (Fun.to (put57b (.var [.int .i64 xg, .int .i64 xs, .bool false, .int .i64 xy, .int .i64 xa]) [sagaB, itoaD xg, stepB, itoaD xs, triesB] [atB, itoaD xa] (Nat.succ_pos _) (by simp)) ?_); rintro _ _ ⟨rfl, rfl⟩)
          | (refine .body (by kernel_rfl) (Fun.to (joinOwn _ 2 [sagaB, itoaD xg, stepB, itoaD xs, triesB, atB, itoaD xa] [32] rfl (by simp) hjl) ?_); rintro _ _ ⟨rfl, rfl⟩)
          | (refine ⟨5, by decide +kernel, ?_⟩)
          | (refine ⟨6, by decide +kernel, ?_⟩)
          | (refine ⟨7, by decide +kernel, ?_⟩)
          | (refine ⟨8, by decide +kernel, ?_⟩)
          | rfl
          | split)
      · have hy : (xy == 7) = false := by simpa using hy7
        clear hy7
        have hr : textS ⟨xg, xs, false, xy, xa⟩ = Lib.join [sagaB, itoaD xg, stepB, itoaD xs, parkedB, atB, itoaD xa] [32] := by simp [textS, wordsS, ho, hy]
        have hjl : (Lib.join [sagaB, itoaD xg, stepB, itoaD xs, parkedB, atB, itoaD xa] [32]).length ≤ 140737488355328 := by
          rw [Lib.join_length]
          simp only [Lib.lens, List.map, List.sum_cons, List.sum_nil, List.length_cons, List.length_nil, sagaB, stepB, backB, triesB, parkedB, atB]
          omega
        rw [hr]
        clear hr
        repeat' (first
          | (simp -implicitDefEqProofs (maxSteps := 1000000) only [*, Tryd.f33, ↓cwp_skip, ↓cwp_region, ↓cwp_drawn, ↓cwp_seq, ↓cwp_cond, ↓cwp_block, ↓cwp_loop, ↓cwp_exit, ↓cwp_ret, ↓kont_normal, ↓kont_exit, ↓kont_ret, ↓block_normal, ↓block_ret, ↓block_exit, ↓then_normal, ↓then_ret, ↓then_exit, ↓finF_normal, ↓finF_ret, ↓cseq_nil, ↓cseq_free, ↓cseq_cons, ↓seqK_go, ↓anyK_go, ↓caq_zero, ↓caq_done, ↓caq_free, ↓caq_step, ↓cStep_move, ↓cStep_assign, ↓cStep_eq, ↓cPure_call, ↓reduceIte, keeps, wantD, callee, aop, ev, ofV, nth, List.cons_append, List.nil_append, List.append_nil, undL, putO, put, List.length_cons, List.length_nil, Nat.reduceSub, Nat.reduceAdd, dBinT, dBin, dUn, Option.map, List.getElem?_toArray, List.toList_toArray, List.getElem?_cons_succ, List.getElem?_cons_zero, Option.bind, ge_iff_le, gt_iff_lt, resD, resL, resV, beq_true, beq_false, Option.some.injEq, List.map, Bool.not_true, Bool.not_false, Bool.false_eq_true, exists_eq_left', Bool.not_eq_true', decide_eq_true_eq, decide_eq_false_iff_not, ite_not, decide_true, decide_false, not_true_eq_false, not_false_eq_true, D.bool.injEq, if_true, if_false, and_true, true_and, ty1, sz1, z1, ty2, sz2, z2, ty3, sz3, z3, ty4, sz4, z4, ty5, sz5, z5, ty6, sz6, z6, ty7, sz7, z7, ty8, sz8, z8, ty9, sz9, z9, ty10, sz10, z10, ty11, sz11, z11, ty12, sz12, z12, ty34, sz34, z34, ty37, sz37, z37, k37, ty75, sz75, z75, ty76, sz76, z76, dLen, dIdxA, dLoad, part, Ty.isA, Ty.fi, D.cells, D.cells?, dField, dFieldA, dIdx, dFill, allCell, D.isCell, els, chunk, rep, splice, hget, hset, cellsOf, Blk.isC, Blk.cs, Blk.mut, Blk.setCs, dStore, dBuild, dSlice, dBnd, List.getElem?_map, Option.map_some, Int.toNat_natCast, List.length_map, Nat.lt_irrefl, Nat.zero_lt_one, Nat.zero_lt_succ, Nat.le_refl, Nat.zero_add, Bool.false_eq_true, false_or, or_true, true_or, List.drop_zero, Int.natCast_nonneg, D.int.injEq, Int.zero_le_ofNat, Nat.lt_add_one, List.getElem?_nil, Nat.zero_le, List.take, List.drop, Nat.reduceMul, Nat.reduceLeDiff, Nat.reduceLT, Nat.reducePow, Nat.reduceBEq, Nat.reduceEqDiff, and_self, D.closedL, D.closed, Bool.and_self, bne_self_eq_false, beq_self_eq_true, bne, Bool.true_and, Bool.and_true, Bool.or_true, Bool.or_false, Bool.true_or, Bool.false_or, Bool.and_false, Bool.false_and, List.all_cons, List.all_nil, List.all, List.replicate, exists_const, okK, dEqL, dEqO, dEq, Option.isSome, nc0, nc1, nc2, nc3, nc4, nc5, nc6, nc7, nc8, nc9, nc10, nc11, nc12, wl0, wl1, wl2, wl3, wl4, wl5, wl6, wl7, wl8, wl9, wl10, wl11, wl12, Int.reduceAdd, Int.reduceLT, Int.reduceLE, Int.reduceToNat, Int.reduceEq, Int.reduceSub, Int.reduceBEq, Int.reduceBNe, List.length_singleton, Nat.reduceBNe, z9, sz9, ty9, lts_def, Lt.d_mk, hget_len, hset_len', eq_self])
          | (refine .body (by kernel_rfl) (PDen.to (oneP ⟨xg, xs, false, xy, xa⟩) ?_))
          | (refine PCall.to (by kernel_rfl) (oneP ⟨xg, xs, false, xy, xa⟩) ?_)
          | (refine .body (by kernel_rfl) (PDen.to (digits ht xg hg0 hg1) ?_))
          | (refine PCall.to (by kernel_rfl) (digits ht xg hg0 hg1) ?_)
          | (refine .body (by kernel_rfl) (PDen.to (digits ht xs hs0 hs1) ?_))
          | (refine PCall.to (by kernel_rfl) (digits ht xs hs0 hs1) ?_)
          | (refine .body (by kernel_rfl) (PDen.to (digits ht xa ha0 ha1) ?_))
          | (refine PCall.to (by kernel_rfl) (digits ht xa ha0 ha1) ?_)
          | (refine .body (by kernel_rfl) (Fun.to (put57a (.var [.int .i64 xg, .int .i64 xs, .bool false, .int .i64 xy, .int .i64 xa]) [sagaB, itoaD xg, stepB, itoaD xs] (Nat.succ_pos _) (by simp)) ?_); rintro _ _ ⟨rfl, rfl⟩)
          | (refine .body (by kernel_rfl) (Fun.to (put57b (.var [.int .i64 xg, .int .i64 xs, .bool false, .int .i64 xy, .int .i64 xa]) [sagaB, itoaD xg, stepB, itoaD xs] [parkedB] (Nat.succ_pos _) (by simp)) ?_); rintro _ _ ⟨rfl, rfl⟩)
          | (refine .body (by kernel_rfl) (Fun.to (put57b (.var [.int .i64 xg, .int .i64 xs, .bool false, .int .i64 xy, .int .i64 xa]) [sagaB, itoaD xg, stepB, itoaD xs, parkedB] [atB, itoaD xa] (Nat.succ_pos _) (by simp)) ?_); rintro _ _ ⟨rfl, rfl⟩)
          | (refine .body (by kernel_rfl) (Fun.to (joinOwn _ 2 [sagaB, itoaD xg, stepB, itoaD xs, parkedB, atB, itoaD xa] [32] rfl (by simp) hjl) ?_); rintro _ _ ⟨rfl, rfl⟩)
          | (refine ⟨5, by decide +kernel, ?_⟩)
          | (refine ⟨6, by decide +kernel, ?_⟩)
          | (refine ⟨7, by decide +kernel, ?_⟩)
          | (refine ⟨8, by decide +kernel, ?_⟩)
          | rfl
          | split)
    · by_cases hy7 : xy = 7
      · have hy : (xy == 7) = true := by simpa using hy7
        clear hy7
        have hr : textS ⟨xg, xs, true, xy, xa⟩ = Lib.join [sagaB, itoaD xg, stepB, itoaD xs, backB, triesB, atB, itoaD xa] [32] := by simp [textS, wordsS, ho, hy]
        have hjl : (Lib.join [sagaB, itoaD xg, stepB, itoaD xs, backB, triesB, atB, itoaD xa] [32]).length ≤ 140737488355328 := by
          rw [Lib.join_length]
          simp only [Lib.lens, List.map, List.sum_cons, List.sum_nil, List.length_cons, List.length_nil, sagaB, stepB, backB, triesB, parkedB, atB]
          omega
        rw [hr]
        clear hr
        repeat' (first
          | (simp -implicitDefEqProofs (maxSteps := 1000000) only [*, Tryd.f33, ↓cwp_skip, ↓cwp_region, ↓cwp_drawn, ↓cwp_seq, ↓cwp_cond, ↓cwp_block, ↓cwp_loop, ↓cwp_exit, ↓cwp_ret, ↓kont_normal, ↓kont_exit, ↓kont_ret, ↓block_normal, ↓block_ret, ↓block_exit, ↓then_normal, ↓then_ret, ↓then_exit, ↓finF_normal, ↓finF_ret, ↓cseq_nil, ↓cseq_free, ↓cseq_cons, ↓seqK_go, ↓anyK_go, ↓caq_zero, ↓caq_done, ↓caq_free, ↓caq_step, ↓cStep_move, ↓cStep_assign, ↓cStep_eq, ↓cPure_call, ↓reduceIte, keeps, wantD, callee, aop, ev, ofV, nth, List.cons_append, List.nil_append, List.append_nil, undL, putO, put, List.length_cons, List.length_nil, Nat.reduceSub, Nat.reduceAdd, dBinT, dBin, dUn, Option.map, List.getElem?_toArray, List.toList_toArray, List.getElem?_cons_succ, List.getElem?_cons_zero, Option.bind, ge_iff_le, gt_iff_lt, resD, resL, resV, beq_true, beq_false, Option.some.injEq, List.map, Bool.not_true, Bool.not_false, Bool.false_eq_true, exists_eq_left', Bool.not_eq_true', decide_eq_true_eq, decide_eq_false_iff_not, ite_not, decide_true, decide_false, not_true_eq_false, not_false_eq_true, D.bool.injEq, if_true, if_false, and_true, true_and, ty1, sz1, z1, ty2, sz2, z2, ty3, sz3, z3, ty4, sz4, z4, ty5, sz5, z5, ty6, sz6, z6, ty7, sz7, z7, ty8, sz8, z8, ty9, sz9, z9, ty10, sz10, z10, ty11, sz11, z11, ty12, sz12, z12, ty34, sz34, z34, ty37, sz37, z37, k37, ty75, sz75, z75, ty76, sz76, z76, dLen, dIdxA, dLoad, part, Ty.isA, Ty.fi, D.cells, D.cells?, dField, dFieldA, dIdx, dFill, allCell, D.isCell, els, chunk, rep, splice, hget, hset, cellsOf, Blk.isC, Blk.cs, Blk.mut, Blk.setCs, dStore, dBuild, dSlice, dBnd, List.getElem?_map, Option.map_some, Int.toNat_natCast, List.length_map, Nat.lt_irrefl, Nat.zero_lt_one, Nat.zero_lt_succ, Nat.le_refl, Nat.zero_add, Bool.false_eq_true, false_or, or_true, true_or, List.drop_zero, Int.natCast_nonneg, D.int.injEq, Int.zero_le_ofNat, Nat.lt_add_one, List.getElem?_nil, Nat.zero_le, List.take, List.drop, Nat.reduceMul, Nat.reduceLeDiff, Nat.reduceLT, Nat.reducePow, Nat.reduceBEq, Nat.reduceEqDiff, and_self, D.closedL, D.closed, Bool.and_self, bne_self_eq_false, beq_self_eq_true, bne, Bool.true_and, Bool.and_true, Bool.or_true, Bool.or_false, Bool.true_or, Bool.false_or, Bool.and_false, Bool.false_and, List.all_cons, List.all_nil, List.all, List.replicate, exists_const, okK, dEqL, dEqO, dEq, Option.isSome, nc0, nc1, nc2, nc3, nc4, nc5, nc6, nc7, nc8, nc9, nc10, nc11, nc12, wl0, wl1, wl2, wl3, wl4, wl5, wl6, wl7, wl8, wl9, wl10, wl11, wl12, Int.reduceAdd, Int.reduceLT, Int.reduceLE, Int.reduceToNat, Int.reduceEq, Int.reduceSub, Int.reduceBEq, Int.reduceBNe, List.length_singleton, Nat.reduceBNe, z9, sz9, ty9, lts_def, Lt.d_mk, hget_len, hset_len', eq_self])
          | (refine .body (by kernel_rfl) (PDen.to (oneP ⟨xg, xs, true, xy, xa⟩) ?_))
          | (refine PCall.to (by kernel_rfl) (oneP ⟨xg, xs, true, xy, xa⟩) ?_)
          | (refine .body (by kernel_rfl) (PDen.to (digits ht xg hg0 hg1) ?_))
          | (refine PCall.to (by kernel_rfl) (digits ht xg hg0 hg1) ?_)
          | (refine .body (by kernel_rfl) (PDen.to (digits ht xs hs0 hs1) ?_))
          | (refine PCall.to (by kernel_rfl) (digits ht xs hs0 hs1) ?_)
          | (refine .body (by kernel_rfl) (PDen.to (digits ht xa ha0 ha1) ?_))
          | (refine PCall.to (by kernel_rfl) (digits ht xa ha0 ha1) ?_)
          | (refine .body (by kernel_rfl) (Fun.to (put57a (.var [.int .i64 xg, .int .i64 xs, .bool true, .int .i64 xy, .int .i64 xa]) [sagaB, itoaD xg, stepB, itoaD xs] (Nat.succ_pos _) (by simp)) ?_); rintro _ _ ⟨rfl, rfl⟩)
          | (refine .body (by kernel_rfl) (Fun.to (put57b (.var [.int .i64 xg, .int .i64 xs, .bool true, .int .i64 xy, .int .i64 xa]) [sagaB, itoaD xg, stepB, itoaD xs] [backB] (Nat.succ_pos _) (by simp)) ?_); rintro _ _ ⟨rfl, rfl⟩)
          | (refine .body (by kernel_rfl) (Fun.to (put57b (.var [.int .i64 xg, .int .i64 xs, .bool true, .int .i64 xy, .int .i64 xa]) [sagaB, itoaD xg, stepB, itoaD xs, backB] [triesB] (Nat.succ_pos _) (by simp)) ?_); rintro _ _ ⟨rfl, rfl⟩)
          | (refine .body (by kernel_rfl) (Fun.to (put57b (.var [.int .i64 xg, .int .i64 xs, .bool true, .int .i64 xy, .int .i64 xa]) [sagaB, itoaD xg, stepB, itoaD xs, backB, triesB] [atB, itoaD xa] (Nat.succ_pos _) (by simp)) ?_); rintro _ _ ⟨rfl, rfl⟩)
          | (refine .body (by kernel_rfl) (Fun.to (joinOwn _ 2 [sagaB, itoaD xg, stepB, itoaD xs, backB, triesB, atB, itoaD xa] [32] rfl (by simp) hjl) ?_); rintro _ _ ⟨rfl, rfl⟩)
          | (refine ⟨5, by decide +kernel, ?_⟩)
          | (refine ⟨6, by decide +kernel, ?_⟩)
          | (refine ⟨7, by decide +kernel, ?_⟩)
          | (refine ⟨8, by decide +kernel, ?_⟩)
          | rfl
          | split)
      · have hy : (xy == 7) = false := by simpa using hy7
        clear hy7
        have hr : textS ⟨xg, xs, true, xy, xa⟩ = Lib.join [sagaB, itoaD xg, stepB, itoaD xs, backB, parkedB, atB, itoaD xa] [32] := by simp [textS, wordsS, ho, hy]
        have hjl : (Lib.join [sagaB, itoaD xg, stepB, itoaD xs, backB, parkedB, atB, itoaD xa] [32]).length ≤ 140737488355328 := by
          rw [Lib.join_length]
          simp only [Lib.lens, List.map, List.sum_cons, List.sum_nil, List.length_cons, List.length_nil, sagaB, stepB, backB, triesB, parkedB, atB]
          omega
        rw [hr]
        clear hr
        repeat' (first
          | (simp -implicitDefEqProofs (maxSteps := 1000000) only [*, Tryd.f33, ↓cwp_skip, ↓cwp_region, ↓cwp_drawn, ↓cwp_seq, ↓cwp_cond, ↓cwp_block, ↓cwp_loop, ↓cwp_exit, ↓cwp_ret, ↓kont_normal, ↓kont_exit, ↓kont_ret, ↓block_normal, ↓block_ret, ↓block_exit, ↓then_normal, ↓then_ret, ↓then_exit, ↓finF_normal, ↓finF_ret, ↓cseq_nil, ↓cseq_free, ↓cseq_cons, ↓seqK_go, ↓anyK_go, ↓caq_zero, ↓caq_done, ↓caq_free, ↓caq_step, ↓cStep_move, ↓cStep_assign, ↓cStep_eq, ↓cPure_call, ↓reduceIte, keeps, wantD, callee, aop, ev, ofV, nth, List.cons_append, List.nil_append, List.append_nil, undL, putO, put, List.length_cons, List.length_nil, Nat.reduceSub, Nat.reduceAdd, dBinT, dBin, dUn, Option.map, List.getElem?_toArray, List.toList_toArray, List.getElem?_cons_succ, List.getElem?_cons_zero, Option.bind, ge_iff_le, gt_iff_lt, resD, resL, resV, beq_true, beq_false, Option.some.injEq, List.map, Bool.not_true, Bool.not_false, Bool.false_eq_true, exists_eq_left', Bool.not_eq_true', decide_eq_true_eq, decide_eq_false_iff_not, ite_not, decide_true, decide_false, not_true_eq_false, not_false_eq_true, D.bool.injEq, if_true, if_false, and_true, true_and, ty1, sz1, z1, ty2, sz2, z2, ty3, sz3, z3, ty4, sz4, z4, ty5, sz5, z5, ty6, sz6, z6, ty7, sz7, z7, ty8, sz8, z8, ty9, sz9, z9, ty10, sz10, z10, ty11, sz11, z11, ty12, sz12, z12, ty34, sz34, z34, ty37, sz37, z37, k37, ty75, sz75, z75, ty76, sz76, z76, dLen, dIdxA, dLoad, part, Ty.isA, Ty.fi, D.cells, D.cells?, dField, dFieldA, dIdx, dFill, allCell, D.isCell, els, chunk, rep, splice, hget, hset, cellsOf, Blk.isC, Blk.cs, Blk.mut, Blk.setCs, dStore, dBuild, dSlice, dBnd, List.getElem?_map, Option.map_some, Int.toNat_natCast, List.length_map, Nat.lt_irrefl, Nat.zero_lt_one, Nat.zero_lt_succ, Nat.le_refl, Nat.zero_add, Bool.false_eq_true, false_or, or_true, true_or, List.drop_zero, Int.natCast_nonneg, D.int.injEq, Int.zero_le_ofNat, Nat.lt_add_one, List.getElem?_nil, Nat.zero_le, List.take, List.drop, Nat.reduceMul, Nat.reduceLeDiff, Nat.reduceLT, Nat.reducePow, Nat.reduceBEq, Nat.reduceEqDiff, and_self, D.closedL, D.closed, Bool.and_self, bne_self_eq_false, beq_self_eq_true, bne, Bool.true_and, Bool.and_true, Bool.or_true, Bool.or_false, Bool.true_or, Bool.false_or, Bool.and_false, Bool.false_and, List.all_cons, List.all_nil, List.all, List.replicate, exists_const, okK, dEqL, dEqO, dEq, Option.isSome, nc0, nc1, nc2, nc3, nc4, nc5, nc6, nc7, nc8, nc9, nc10, nc11, nc12, wl0, wl1, wl2, wl3, wl4, wl5, wl6, wl7, wl8, wl9, wl10, wl11, wl12, Int.reduceAdd, Int.reduceLT, Int.reduceLE, Int.reduceToNat, Int.reduceEq, Int.reduceSub, Int.reduceBEq, Int.reduceBNe, List.length_singleton, Nat.reduceBNe, z9, sz9, ty9, lts_def, Lt.d_mk, hget_len, hset_len', eq_self])
          | (refine .body (by kernel_rfl) (PDen.to (oneP ⟨xg, xs, true, xy, xa⟩) ?_))
          | (refine PCall.to (by kernel_rfl) (oneP ⟨xg, xs, true, xy, xa⟩) ?_)
          | (refine .body (by kernel_rfl) (PDen.to (digits ht xg hg0 hg1) ?_))
          | (refine PCall.to (by kernel_rfl) (digits ht xg hg0 hg1) ?_)
          | (refine .body (by kernel_rfl) (PDen.to (digits ht xs hs0 hs1) ?_))
          | (refine PCall.to (by kernel_rfl) (digits ht xs hs0 hs1) ?_)
          | (refine .body (by kernel_rfl) (PDen.to (digits ht xa ha0 ha1) ?_))
          | (refine PCall.to (by kernel_rfl) (digits ht xa ha0 ha1) ?_)
          | (refine .body (by kernel_rfl) (Fun.to (put57a (.var [.int .i64 xg, .int .i64 xs, .bool true, .int .i64 xy, .int .i64 xa]) [sagaB, itoaD xg, stepB, itoaD xs] (Nat.succ_pos _) (by simp)) ?_); rintro _ _ ⟨rfl, rfl⟩)
          | (refine .body (by kernel_rfl) (Fun.to (put57b (.var [.int .i64 xg, .int .i64 xs, .bool true, .int .i64 xy, .int .i64 xa]) [sagaB, itoaD xg, stepB, itoaD xs] [backB] (Nat.succ_pos _) (by simp)) ?_); rintro _ _ ⟨rfl, rfl⟩)
          | (refine .body (by kernel_rfl) (Fun.to (put57b (.var [.int .i64 xg, .int .i64 xs, .bool true, .int .i64 xy, .int .i64 xa]) [sagaB, itoaD xg, stepB, itoaD xs, backB] [parkedB] (Nat.succ_pos _) (by simp)) ?_); rintro _ _ ⟨rfl, rfl⟩)
          | (refine .body (by kernel_rfl) (Fun.to (put57b (.var [.int .i64 xg, .int .i64 xs, .bool true, .int .i64 xy, .int .i64 xa]) [sagaB, itoaD xg, stepB, itoaD xs, backB, parkedB] [atB, itoaD xa] (Nat.succ_pos _) (by simp)) ?_); rintro _ _ ⟨rfl, rfl⟩)
          | (refine .body (by kernel_rfl) (Fun.to (joinOwn _ 2 [sagaB, itoaD xg, stepB, itoaD xs, backB, parkedB, atB, itoaD xa] [32] rfl (by simp) hjl) ?_); rintro _ _ ⟨rfl, rfl⟩)
          | (refine ⟨5, by decide +kernel, ?_⟩)
          | (refine ⟨6, by decide +kernel, ?_⟩)
          | (refine ⟨7, by decide +kernel, ?_⟩)
          | (refine ⟨8, by decide +kernel, ?_⟩)
          | rfl
          | split)
end Go.Lv
