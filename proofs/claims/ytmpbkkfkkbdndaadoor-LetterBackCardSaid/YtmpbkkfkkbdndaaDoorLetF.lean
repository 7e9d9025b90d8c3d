/- Letters: put. -/
import Derived.Test.YtmpbkkfkkbdndaaDoorLetE
namespace Go.Lv
open Go Go.Proofs Go.IntWalk
set_option maxRecDepth 100000
set_option linter.unusedSimpArgs false
set_option linter.unusedVariables false
variable {E : Env}
def pos (g : Int) : List Lt → Nat
  | [] => 0
  | y :: l => if y.g < g then pos g l + 1 else 0
def ins (x : Lt) (l : List Lt) : List Lt := l.take (pos x.g l) ++ [x] ++ l.drop (pos x.g l)
theorem pos_le (g : Int) : ∀ l : List Lt, pos g l ≤ l.length
  | [] => Nat.le_refl _
  | y :: l => by
    have := pos_le g l
    simp only [pos, List.length_cons]
    split <;> omega
def putD (l : List Lt) (x : Lt) : D :=
  if fitS l = false then .tup [.list true [], .int .i64 12]
  else if oneS x = false then .tup [.list true [], .int .i64 1]
  else if (plc x.g l).isSome then .tup [.list true [], .int .i64 3]
  else if l.length = 16 then .tup [.list true [], .int .i64 4]
  else .tup [lts false (ins x l), .int .i64 0]
theorem putD_closed (l : List Lt) (x : Lt) : (putD l x).closed = true := by unfold putD; (repeat' split) <;> rfl
theorem pos_drop {g : Int} {l : List Lt} {i : Nat} {x : Lt} {tl : List Lt} (hd : l.drop i = x :: tl) (ht : tl = l.drop (i + 1)) (hp : pos g (l.drop i) + i = pos g l) :
    (x.g < g → pos g (l.drop (i + 1)) + (i + 1) = pos g l) ∧ (¬ x.g < g → i = pos g l) := by
  rw [hd] at hp
  simp only [pos] at hp
  refine ⟨fun h => ?_, fun h => ?_⟩
  · rw [if_pos h, ht] at hp
    omega
  · rw [if_neg h] at hp
    omega
def Inv35 (t : Bool) (g s : Int) (k : Bool) (y a : Int) (l : List Lt) (m : Nat) (ts : List D) (H : Hp) : Prop := ∃ (i : Nat) (g1 g2 g7 g8 g9 g10 g11 g12 g13 g14 g15 g16 g17 g18 g19 g20 g21 g22 g23 g24 g25 g26 g27 g28 g29 g30 g31 g32 g33 g34 g35 g36 g37 g38 g39 g40 g41 g42 g43 g44 g45 g46 g47 g48 g49 g50 : D), (i + m = l.length) ∧ (pos g (l.drop i) + i = pos g l) ∧ H = [.var [.int .i64 g, .int .i64 s, .bool k, .int .i64 y, .int .i64 a]] ∧ ts = [lts t l, g1, g2, .ptr 0 0 5, .list true [], .int .i64 0, .int .i64 (i : Nat), g7, g8, g9, g10, g11, g12, g13, g14, g15, g16, g17, g18, g19, g20, g21, g22, g23, g24, g25, g26, g27, g28, g29, g30, g31, g32, g33, g34, g35, g36, g37, g38, g39, g40, g41, g42, g43, g44, g45, g46, g47, g48, g49, g50]
set_option maxHeartbeats 8000000 in
theorem put35 (t : Bool) (l : List Lt) (hn : l.length ≤ 1000000) (x : Lt) : PDen Tryd.prog E 35 [lts t l, x.d] (putD l x) := by
  refine pden_by (fn := Tryd.f35) mixed Tryd.func35 rfl (rfl) (putD_closed _ _) ?_
  have hn4 : l.length ≤ 4611686018427387904 := by omega
  obtain ⟨xg, xs, xk, xy, xa⟩ := x
  have cp := place (E := E) t xg l hn4
  cases hf : fitS l
  · have hr : putD l ⟨xg, xs, xk, xy, xa⟩ = .tup [.list true [], .int .i64 12] := by simp [putD, hf]
    rw [hr]
    clear hr
    repeat' (first
      | (simp -implicitDefEqProofs (maxSteps := 1000000) only [*, Tryd.f35, ↓cwp_skip, ↓cwp_region, ↓cwp_drawn, ↓cwp_seq, ↓cwp_cond, ↓cwp_block, ↓cwp_loop, ↓cwp_exit, ↓cwp_ret, ↓kont_normal, ↓kont_exit, ↓kont_ret, ↓block_normal, ↓block_ret, ↓block_exit, ↓then_normal, ↓then_ret, ↓then_exit, ↓finF_normal, ↓finF_ret, ↓cseq_nil, ↓cseq_free, ↓cseq_cons, ↓seqK_go, ↓anyK_go, ↓caq_zero, ↓caq_done, ↓caq_free, ↓caq_step, ↓cStep_move, ↓cStep_assign, ↓cStep_eq, ↓cPure_call, ↓reduceIte, keeps, wantD, callee, aop, ev, ofV, nth, List.cons_append, List.nil_append, List.append_nil, undL, putO, put, List.length_cons, List.length_nil, Nat.reduceSub, Nat.reduceAdd, dBinT, dBin, dUn, Option.map, List.getElem?_toArray, List.toList_toArray, List.getElem?_cons_succ, List.getElem?_cons_zero, Option.bind, ge_iff_le, gt_iff_lt, resD, resL, resV, beq_true, beq_false, Option.some.injEq, List.map, Bool.not_true, Bool.not_false, Bool.false_eq_true, exists_eq_left', Bool.not_eq_true', decide_eq_true_eq, decide_eq_false_iff_not, ite_not, decide_true, decide_false, not_true_eq_false, not_false_eq_true, D.bool.injEq, if_true, if_false, and_true, true_and, ty1, sz1, z1, ty2, sz2, z2, ty3, sz3, z3, ty4, sz4, z4, ty5, sz5, z5, ty6, sz6, z6, ty7, sz7, z7, ty8, sz8, z8, ty9, sz9, z9, ty10, sz10, z10, ty11, sz11, z11, ty12, sz12, z12, ty23, sz23, z23, ty35, sz35, z35, ty37, sz37, z37, k37, ty51, sz51, z51, k51, ty102, sz102, z102, dLen, dIdxA, dLoad, part, Ty.isA, Ty.fi, D.cells, D.cells?, dField, dFieldA, dIdx, dFill, allCell, D.isCell, els, chunk, rep, splice, hget, hset, cellsOf, Blk.isC, Blk.cs, Blk.mut, Blk.setCs, dStore, dBuild, dSlice, dBnd, List.getElem?_map, Option.map_some, Int.toNat_natCast, List.length_map, Nat.lt_irrefl, Nat.zero_lt_one, Nat.zero_lt_succ, Nat.le_refl, Nat.zero_add, Bool.false_eq_true, false_or, or_true, true_or, List.drop_zero, Int.natCast_nonneg, D.int.injEq, Int.zero_le_ofNat, Nat.lt_add_one, List.getElem?_nil, Nat.zero_le, List.take, List.drop, Nat.reduceMul, Nat.reduceLeDiff, Nat.reduceLT, Nat.reducePow, Nat.reduceBEq, Nat.reduceEqDiff, and_self, D.closedL, D.closed, Bool.and_self, bne_self_eq_false, beq_self_eq_true, bne, Bool.true_and, Bool.and_true, Bool.or_true, Bool.or_false, Bool.true_or, Bool.false_or, Bool.and_false, Bool.false_and, List.all_cons, List.all_nil, List.all, List.replicate, exists_const, okK, dEqL, dEqO, dEq, Option.isSome, nc0, nc1, nc2, nc3, nc4, nc5, nc6, nc7, nc8, nc9, nc10, nc11, nc12, wl0, wl1, wl2, wl3, wl4, wl5, wl6, wl7, wl8, wl9, wl10, wl11, wl12, Int.reduceAdd, Int.reduceLT, Int.reduceLE, Int.reduceToNat, Int.reduceEq, Int.reduceSub, Int.reduceBEq, Int.reduceBNe, List.length_singleton, Nat.reduceBNe, z37, sz37, ty37, lts_def, Lt.d_mk, hget_len, hset_len', eq_self, ← List.map_take, ← List.map_drop, List.take_length])
      | (refine .body (by kernel_rfl) (PDen.to (fit31 _ _ hn4) ?_))
      | (refine PCall.to (by kernel_rfl) (fit31 _ _ hn4) ?_)
      | (refine .body (by kernel_rfl) (PDen.to (oneP ⟨xg, xs, xk, xy, xa⟩) ?_))
      | (refine PCall.to (by kernel_rfl) (oneP ⟨xg, xs, xk, xy, xa⟩) ?_)
      | (refine .body (by kernel_rfl) (PDen.to (cp) ?_))
      | (refine PCall.to (by kernel_rfl) (cp) ?_)
      | (refine ⟨12, by decide +kernel, ?_⟩)
      | (refine ⟨13, by decide +kernel, ?_⟩)
      | (refine ⟨14, by decide +kernel, ?_⟩)
      | (refine ⟨8, by decide +kernel, ?_⟩)
      | (refine ⟨9, by decide +kernel, ?_⟩)
      | (refine ⟨10, by decide +kernel, ?_⟩)
      | rfl
      | split)
  cases ho : oneS ⟨xg, xs, xk, xy, xa⟩
  · have hr : putD l ⟨xg, xs, xk, xy, xa⟩ = .tup [.list true [], .int .i64 1] := by simp [putD, hf, ho]
    rw [hr]
    clear hr
    repeat' (first
      | (simp -implicitDefEqProofs (maxSteps := 1000000) only [*, Tryd.f35, ↓cwp_skip, ↓cwp_region, ↓cwp_drawn, ↓cwp_seq, ↓cwp_cond, ↓cwp_block, ↓cwp_loop, ↓cwp_exit, ↓cwp_ret, ↓kont_normal, ↓kont_exit, ↓kont_ret, ↓block_normal, ↓block_ret, ↓block_exit, ↓then_normal, ↓then_ret, ↓then_exit, ↓finF_normal, ↓finF_ret, ↓cseq_nil, ↓cseq_free, ↓cseq_cons, ↓seqK_go, ↓anyK_go, ↓caq_zero, ↓caq_done, ↓caq_free, ↓caq_step, ↓cStep_move, ↓cStep_assign, ↓cStep_eq, ↓cPure_call, ↓reduceIte, keeps, wantD, callee, aop, ev, ofV, nth, List.cons_append, List.nil_append, List.append_nil, undL, putO, put, List.length_cons, List.length_nil, Nat.reduceSub, Nat.reduceAdd, dBinT, dBin, dUn, Option.map, List.getElem?_toArray, List.toList_toArray, List.getElem?_cons_succ, List.getElem?_cons_zero, Option.bind, ge_iff_le, gt_iff_lt, resD, resL, resV, beq_true, beq_false, Option.some.injEq, List.map, Bool.not_true, Bool.not_false, Bool.false_eq_true, exists_eq_left', Bool.not_eq_true', decide_eq_true_eq, decide_eq_false_iff_not, ite_not, decide_true, decide_false, not_true_eq_false, not_false_eq_true, D.bool.injEq, if_true, if_false, and_true, true_and, ty1, sz1, z1, ty2, sz2, z2, ty3, sz3, z3, ty4, sz4, z4, ty5, sz5, z5, ty6, sz6, z6, ty7, sz7, z7, ty8, sz8, z8, ty9, sz9, z9, ty10, sz10, z10, ty11, sz11, z11, ty12, sz12, z12, ty23, sz23, z23, ty35, sz35, z35, ty37, sz37, z37, k37, ty51, sz51, z51, k51, ty102, sz102, z102, dLen, dIdxA, dLoad, part, Ty.isA, Ty.fi, D.cells, D.cells?, dField, dFieldA, dIdx, dFill, allCell, D.isCell, els, chunk, rep, splice, hget, hset, cellsOf, Blk.isC, Blk.cs, Blk.mut, Blk.setCs, dStore, dBuild, dSlice, dBnd, List.getElem?_map, Option.map_some, Int.toNat_natCast, List.length_map, Nat.lt_irrefl, Nat.zero_lt_one, Nat.zero_lt_succ, Nat.le_refl, Nat.zero_add, Bool.false_eq_true, false_or, or_true, true_or, List.drop_zero, Int.natCast_nonneg, D.int.injEq, Int.zero_le_ofNat, Nat.lt_add_one, List.getElem?_nil, Nat.zero_le, List.take, List.drop, Nat.reduceMul, Nat.reduceLeDiff, Nat.reduceLT, Nat.reducePow, Nat.reduceBEq, Nat.reduceEqDiff, and_self, D.closedL, D.closed, Bool.and_self, bne_self_eq_false, beq_self_eq_true, bne, Bool.true_and, Bool.and_true, Bool.or_true, Bool.or_false, Bool.true_or, Bool.false_or, Bool.and_false, Bool.false_and, List.all_cons, List.all_nil, List.all, List.replicate, exists_const, okK, dEqL, dEqO, dEq, Option.isSome, nc0, nc1, nc2, nc3, nc4, nc5, nc6, nc7, nc8, nc9, nc10, nc11, nc12, wl0, wl1, wl2, wl3, wl4, wl5, wl6, wl7, wl8, wl9, wl10, wl11, wl12, Int.reduceAdd, Int.reduceLT, Int.reduceLE, Int.reduceToNat, Int.reduceEq, Int.reduceSub, Int.reduceBEq, Int.reduceBNe, List.length_singleton, Nat.reduceBNe, z37, sz37, ty37, lts_def, Lt.d_mk, hget_len, hset_len', eq_self, ← List.map_take, ← List.map_drop, List.take_length])
      | (refine .body (by kernel_rfl) (PDen.to (fit31 _ _ hn4) ?_))
      | (refine PCall.to (by kernel_rfl) (fit31 _ _ hn4) ?_)
      | (refine .body (by kernel_rfl) (PDen.to (oneP ⟨xg, xs, xk, xy, xa⟩) ?_))
      | (refine PCall.to (by kernel_rfl) (oneP ⟨xg, xs, xk, xy, xa⟩) ?_)
      | (refine .body (by kernel_rfl) (PDen.to (cp) ?_))
      | (refine PCall.to (by kernel_rfl) (cp) ?_)
      | (refine ⟨12, by decide +kernel, ?_⟩)
      | (refine ⟨13, by decide +kernel, ?_⟩)
      | (refine ⟨14, by decide +kernel, ?_⟩)
      | (refine ⟨8, by decide +kernel, ?_⟩)
      | (refine ⟨9, by decide +kernel, ?_⟩)
      | (refine ⟨10, by decide +kernel, ?_⟩)
      | rfl
      | split)
  cases hp : plc xg l with
  | some n =>
    have hr : putD l ⟨xg, xs, xk, xy, xa⟩ = .tup [.list true [], .int .i64 3] := by simp [putD, hf, ho, hp]
    have hI : plcI xg l = (n : Int) := by simp only [plcI, hp]
    have hge : (0 : Int) ≤ (n : Int) := by omega
    rw [hr]
    rw [hI] at cp
    clear hr hI hp
    repeat' (first
      | (simp -implicitDefEqProofs (maxSteps := 1000000) only [*, Tryd.f35, ↓cwp_skip, ↓cwp_region, ↓cwp_drawn, ↓cwp_seq, ↓cwp_cond, ↓cwp_block, ↓cwp_loop, ↓cwp_exit, ↓cwp_ret, ↓kont_normal, ↓kont_exit, ↓kont_ret, ↓block_normal, ↓block_ret, ↓block_exit, ↓then_normal, ↓then_ret, ↓then_exit, ↓finF_normal, ↓finF_ret, ↓cseq_nil, ↓cseq_free, ↓cseq_cons, ↓seqK_go, ↓anyK_go, ↓caq_zero, ↓caq_done, ↓caq_free, ↓caq_step, ↓cStep_move, ↓cStep_assign, ↓cStep_eq, ↓cPure_call, ↓reduceIte, keeps, wantD, callee, aop, ev, ofV, nth, List.cons_append, List.nil_append, List.append_nil, undL, putO, put, List.length_cons, List.length_nil, Nat.reduceSub, Nat.reduceAdd, dBinT, dBin, dUn, Option.map, List.getElem?_toArray, List.toList_toArray, List.getElem?_cons_succ, List.getElem?_cons_zero, Option.bind, ge_iff_le, gt_iff_lt, resD, resL, resV, beq_true, beq_false, Option.some.injEq, List.map, Bool.not_true, Bool.not_false, Bool.false_eq_true, exists_eq_left', Bool.not_eq_true', decide_eq_true_eq, decide_eq_false_iff_not, ite_not, decide_true, decide_false, not_true_eq_false, not_false_eq_true, D.bool.injEq, if_true, if_false, and_true, true_and, ty1, sz1, z1, ty2, sz2, z2, ty3, sz3, z3, ty4, sz4, z4, ty5, sz5, z5, ty6, sz6, z6, ty7, sz7, z7, ty8, sz8, z8, ty9, sz9, z9, ty10, sz10, z10, ty11, sz11, z11, ty12, sz12, z12, ty23, sz23, z23, ty35, sz35, z35, ty37, sz37, z37, k37, ty51, sz51, z51, k51, ty102, sz102, z102, dLen, dIdxA, dLoad, part, Ty.isA, Ty.fi, D.cells, D.cells?, dField, dFieldA, dIdx, dFill, allCell, D.isCell, els, chunk, rep, splice, hget, hset, cellsOf, Blk.isC, Blk.cs, Blk.mut, Blk.setCs, dStore, dBuild, dSlice, dBnd, List.getElem?_map, Option.map_some, Int.toNat_natCast, List.length_map, Nat.lt_irrefl, Nat.zero_lt_one, Nat.zero_lt_succ, Nat.le_refl, Nat.zero_add, Bool.false_eq_true, false_or, or_true, true_or, List.drop_zero, Int.natCast_nonneg, D.int.injEq, Int.zero_le_ofNat, Nat.lt_add_one, List.getElem?_nil, Nat.zero_le, List.take, List.drop, Nat.reduceMul, Nat.reduceLeDiff, Nat.reduceLT, Nat.reducePow, Nat.reduceBEq, Nat.reduceEqDiff, and_self, D.closedL, D.closed, Bool.and_self, bne_self_eq_false, beq_self_eq_true, bne, Bool.true_and, Bool.and_true, Bool.or_true, Bool.or_false, Bool.true_or, Bool.false_or, Bool.and_false, Bool.false_and, List.all_cons, List.all_nil, List.all, List.replicate, exists_const, okK, dEqL, dEqO, dEq, Option.isSome, nc0, nc1, nc2, nc3, nc4, nc5, nc6, nc7, nc8, nc9, nc10, nc11, nc12, wl0, wl1, wl2, wl3, wl4, wl5, wl6, wl7, wl8, wl9, wl10, wl11, wl12, Int.reduceAdd, Int.reduceLT, Int.reduceLE, Int.reduceToNat, Int.reduceEq, Int.reduceSub, Int.reduceBEq, Int.reduceBNe, List.length_singleton, Nat.reduceBNe, z37, sz37, ty37, lts_def, Lt.d_mk, hget_len, hset_len', eq_self, ← List.map_take, ← List.map_drop, List.take_length])
      | (refine .body (by kernel_rfl) (PDen.to (fit31 _ _ hn4) ?_))
      | (refine PCall.to (by kernel_rfl) (fit31 _ _ hn4) ?_)
      | (refine .body (by kernel_rfl) (PDen.to (oneP ⟨xg, xs, xk, xy, xa⟩) ?_))
      | (refine PCall.to (by kernel_rfl) (oneP ⟨xg, xs, xk, xy, xa⟩) ?_)
      | (refine .body (by kernel_rfl) (PDen.to (cp) ?_))
      | (refine PCall.to (by kernel_rfl) (cp) ?_)
      | (refine ⟨12, by decide +kernel, ?_⟩)
      | (refine ⟨13, by decide +kernel, ?_⟩)
      | (refine ⟨14, by decide +kernel, ?_⟩)
      | (refine ⟨8, by decide +kernel, ?_⟩)
      | (refine ⟨9, by decide +kernel, ?_⟩)
      | (refine ⟨10, by decide +kernel, ?_⟩)
      | rfl
      | split)
  | none =>
    have hI : plcI xg l = -1 := by simp only [plcI, hp]
    have hge : ¬ (0 : Int) ≤ -1 := by omega
    rw [hI] at cp
    by_cases h16 : l.length = 16
    · have hr : putD l ⟨xg, xs, xk, xy, xa⟩ = .tup [.list true [], .int .i64 4] := by simp [putD, hf, ho, hp, h16]
      have hl16 : ((l.length : Int) == 16) = true := by rw [beq_iff_eq]; omega
      rw [hr]
      clear hr hI hp h16
      repeat' (first
        | (simp -implicitDefEqProofs (maxSteps := 1000000) only [*, Tryd.f35, ↓cwp_skip, ↓cwp_region, ↓cwp_drawn, ↓cwp_seq, ↓cwp_cond, ↓cwp_block, ↓cwp_loop, ↓cwp_exit, ↓cwp_ret, ↓kont_normal, ↓kont_exit, ↓kont_ret, ↓block_normal, ↓block_ret, ↓block_exit, ↓then_normal, ↓then_ret, ↓then_exit, ↓finF_normal, ↓finF_ret, ↓cseq_nil, ↓cseq_free, ↓cseq_cons, ↓seqK_go, ↓anyK_go, ↓caq_zero, ↓caq_done, ↓caq_free, ↓caq_step, ↓cStep_move, ↓cStep_assign, ↓cStep_eq, ↓cPure_call, ↓reduceIte, keeps, wantD, callee, aop, ev, ofV, nth, List.cons_append, List.nil_append, List.append_nil, undL, putO, put, List.length_cons, List.length_nil, Nat.reduceSub, Nat.reduceAdd, dBinT, dBin, dUn, Option.map, List.getElem?_toArray, List.toList_toArray, List.getElem?_cons_succ, List.getElem?_cons_zero, Option.bind, ge_iff_le, gt_iff_lt, resD, resL, resV, beq_true, beq_false, Option.some.injEq, List.map, Bool.not_true, Bool.not_false, Bool.false_eq_true, exists_eq_left', Bool.not_eq_true', decide_eq_true_eq, decide_eq_false_iff_not, ite_not, decide_true, decide_false, not_true_eq_false, not_false_eq_true, D.bool.injEq, if_true, if_false, and_true, true_and, ty1, sz1, z1, ty2, sz2, z2, ty3, sz3, z3, ty4, sz4, z4, ty5, sz5, z5, ty6, sz6, z6, ty7, sz7, z7, ty8, sz8, z8, ty9, sz9, z9, ty10, sz10, z10, ty11, sz11, z11, ty12, sz12, z12, ty23, sz23, z23, ty35, sz35, z35, ty37, sz37, z37, k37, ty51, sz51, z51, k51, ty102, sz102, z102, dLen, dIdxA, dLoad, part, Ty.isA, Ty.fi, D.cells, D.cells?, dField, dFieldA, dIdx, dFill, allCell, D.isCell, els, chunk, rep, splice, hget, hset, cellsOf, Blk.isC, Blk.cs, Blk.mut, Blk.setCs, dStore, dBuild, dSlice, dBnd, List.getElem?_map, Option.map_some, Int.toNat_natCast, List.length_map, Nat.lt_irrefl, Nat.zero_lt_one, Nat.zero_lt_succ, Nat.le_refl, Nat.zero_add, Bool.false_eq_true, false_or, or_true, true_or, List.drop_zero, Int.natCast_nonneg, D.int.injEq, Int.zero_le_ofNat, Nat.lt_add_one, List.getElem?_nil, Nat.zero_le, List.take, List.drop, Nat.reduceMul, Nat.reduceLeDiff, Nat.reduceLT, Nat.reducePow, Nat.reduceBEq, Nat.reduceEqDiff, and_self, D.closedL, D.closed, Bool.and_self, bne_self_eq_false, beq_self_eq_true, bne, Bool.true_and, Bool.and_true, Bool.or_true, Bool.or_false, Bool.true_or, Bool.false_or, Bool.and_false, Bool.false_and, List.all_cons, List.all_nil, List.all, List.replicate, exists_const, okK, dEqL, dEqO, dEq, Option.isSome, nc0, nc1, nc2, nc3, nc4, nc5, nc6, nc7, nc8, nc9, nc10, nc11, nc12, wl0, wl1, wl2, wl3, wl4, wl5, wl6, wl7, wl8, wl9, wl10, wl11, wl12, Int.reduceAdd, Int.reduceLT, Int.reduceLE, Int.reduceToNat, Int.reduceEq, Int.reduceSub, Int.reduceBEq, Int.reduceBNe, List.length_singleton, Nat.reduceBNe, z37, sz37, ty37, lts_def, Lt.d_mk, hget_len, hset_len', eq_self, ← List.map_take, ← List.map_drop, List.take_length])
        | (refine .body (by kernel_rfl) (PDen.to (fit31 _ _ hn4) ?_))
        | (refine PCall.to (by kernel_rfl) (fit31 _ _ hn4) ?_)
        | (refine .body (by kernel_rfl) (PDen.to (oneP ⟨xg, xs, xk, xy, xa⟩) ?_))
        | (refine PCall.to (by kernel_rfl) (oneP ⟨xg, xs, xk, xy, xa⟩) ?_)
        | (refine .body (by kernel_rfl) (PDen.to (cp) ?_))
        | (refine PCall.to (by kernel_rfl) (cp) ?_)
        | (refine ⟨12, by decide +kernel, ?_⟩)
        | (refine ⟨13, by decide +kernel, ?_⟩)
        | (refine ⟨14, by decide +kernel, ?_⟩)
        | (refine ⟨8, by decide +kernel, ?_⟩)
        | (refine ⟨9, by decide +kernel, ?_⟩)
        | (refine ⟨10, by decide +kernel, ?_⟩)
        | rfl
        | split)
    · have hr : putD l ⟨xg, xs, xk, xy, xa⟩ = .tup [lts false (ins ⟨xg, xs, xk, xy, xa⟩ l), .int .i64 0] := by simp [putD, hf, ho, hp, h16]
      have hl16 : ((l.length : Int) == 16) = false := by rw [beq_eq_false_iff_ne]; omega
      rw [hr]
      clear hr hI hp
      repeat' (first
        | (simp -implicitDefEqProofs (maxSteps := 1000000) only [*, Tryd.f35, ↓cwp_skip, ↓cwp_region, ↓cwp_drawn, ↓cwp_seq, ↓cwp_cond, ↓cwp_block, ↓cwp_loop, ↓cwp_exit, ↓cwp_ret, ↓kont_normal, ↓kont_exit, ↓kont_ret, ↓block_normal, ↓block_ret, ↓block_exit, ↓then_normal, ↓then_ret, ↓then_exit, ↓finF_normal, ↓finF_ret, ↓cseq_nil, ↓cseq_free, ↓cseq_cons, ↓seqK_go, ↓anyK_go, ↓caq_zero, ↓caq_done, ↓caq_free, ↓caq_step, ↓cStep_move, ↓cStep_assign, ↓cStep_eq, ↓cPure_call, ↓reduceIte, keeps, wantD, callee, aop, ev, ofV, nth, List.cons_append, List.nil_append, List.append_nil, undL, putO, put, List.length_cons, List.length_nil, Nat.reduceSub, Nat.reduceAdd, dBinT, dBin, dUn, Option.map, List.getElem?_toArray, List.toList_toArray, List.getElem?_cons_succ, List.getElem?_cons_zero, Option.bind, ge_iff_le, gt_iff_lt, resD, resL, resV, beq_true, beq_false, Option.some.injEq, List.map, Bool.not_true, Bool.not_false, Bool.false_eq_true, exists_eq_left', Bool.not_eq_true', decide_eq_true_eq, decide_eq_false_iff_not, ite_not, decide_true, decide_false, not_true_eq_false, not_false_eq_true, D.bool.injEq, if_true, if_false, and_true, true_and, ty1, sz1, z1, ty2, sz2, z2, ty3, sz3, z3, ty4, sz4, z4, ty5, sz5, z5, ty6, sz6, z6, ty7, sz7, z7, ty8, sz8, z8, ty9, sz9, z9, ty10, sz10, z10, ty11, sz11, z11, ty12, sz12, z12, ty23, sz23, z23, ty35, sz35, z35, ty37, sz37, z37, k37, ty51, sz51, z51, k51, ty102, sz102, z102, dLen, dIdxA, dLoad, part, Ty.isA, Ty.fi, D.cells, D.cells?, dField, dFieldA, dIdx, dFill, allCell, D.isCell, els, chunk, rep, splice, hget, hset, cellsOf, Blk.isC, Blk.cs, Blk.mut, Blk.setCs, dStore, dBuild, dSlice, dBnd, List.getElem?_map, Option.map_some, Int.toNat_natCast, List.length_map, Nat.lt_irrefl, Nat.zero_lt_one, Nat.zero_lt_succ, Nat.le_refl, Nat.zero_add, Bool.false_eq_true, false_or, or_true, true_or, List.drop_zero, Int.natCast_nonneg, D.int.injEq, Int.zero_le_ofNat, Nat.lt_add_one, List.getElem?_nil, Nat.zero_le, List.take, List.drop, Nat.reduceMul, Nat.reduceLeDiff, Nat.reduceLT, Nat.reducePow, Nat.reduceBEq, Nat.reduceEqDiff, and_self, D.closedL, D.closed, Bool.and_self, bne_self_eq_false, beq_self_eq_true, bne, Bool.true_and, Bool.and_true, Bool.or_true, Bool.or_false, Bool.true_or, Bool.false_or, Bool.and_false, Bool.false_and, List.all_cons, List.all_nil, List.all, List.replicate, exists_const, okK, dEqL, dEqO, dEq, Option.isSome, nc0, nc1, nc2, nc3, nc4, nc5, nc6, nc7, nc8, nc9, nc10, nc11, nc12, wl0, wl1, wl2, wl3, wl4, wl5, wl6, wl7, wl8, wl9, wl10, wl11, wl12, Int.reduceAdd, Int.reduceLT, Int.reduceLE, Int.reduceToNat, Int.reduceEq, Int.reduceSub, Int.reduceBEq, Int.reduceBNe, List.length_singleton, Nat.reduceBNe, z37, sz37, ty37, lts_def, Lt.d_mk, hget_len, hset_len', eq_self, ← List.map_take, ← List.map_drop, List.take_length])
        | (refine .body (by kernel_rfl) (PDen.to (fit31 _ _ hn4) ?_))
        | (refine PCall.to (by kernel_rfl) (fit31 _ _ hn4) ?_)
        | (refine .body (by kernel_rfl) (PDen.to (oneP ⟨xg, xs, xk, xy, xa⟩) ?_))
        | (refine PCall.to (by kernel_rfl) (oneP ⟨xg, xs, xk, xy, xa⟩) ?_)
        | (refine .body (by kernel_rfl) (PDen.to (cp) ?_))
        | (refine PCall.to (by kernel_rfl) (cp) ?_)
        | (refine ⟨12, by decide +kernel, ?_⟩)
        | (refine ⟨13, by decide +kernel, ?_⟩)
        | (refine ⟨14, by decide +kernel, ?_⟩)
        | (refine ⟨8, by decide +kernel, ?_⟩)
        | (refine ⟨9, by decide +kernel, ?_⟩)
        | (refine ⟨10, by decide +kernel, ?_⟩)
        | rfl
        | split)
      refine loop_rule (Inv35 t xg xs xk xy xa l) ?_ l.length ⟨0, _, _, _, _, _, _, _, _, _, _, _, _, _, _, _, _, _, _, _, _, _, _, _, _, _, _, _, _, _, _, _, _, _, _, _, _, _, _, _, _, _, _, _, _, _, _, by omega, by simp, rfl, rfl⟩
      rintro m ts H ⟨i, g1, g2, g7, g8, g9, g10, g11, g12, g13, g14, g15, g16, g17, g18, g19, g20, g21, g22, g23, g24, g25, g26, g27, g28, g29, g30, g31, g32, g33, g34, g35, g36, g37, g38, g39, g40, g41, g42, g43, g44, g45, g46, g47, g48, g49, g50, him, hq, rfl, rfl⟩
      have hle := pos_le xg l
      have cc : ∀ f1 f2, PDen Tryd.prog E 59 [.list true [.list f1 ((l.take (pos xg l)).map Lt.d), .list true [.agg [.int .i64 xg, .int .i64 xs, .bool xk, .int .i64 xy, .int .i64 xa]], .list f2 ((l.drop (pos xg l)).map Lt.d)]] (lts false (ins ⟨xg, xs, xk, xy, xa⟩ l)) := by
        intro f1 f2
        have h := concat59 (E := E) [(f1, l.take (pos xg l)), (true, [⟨xg, xs, xk, xy, xa⟩]), (f2, l.drop (pos xg l))] (by simp [total]; omega) (by simp)
        have e : cat [(f1, l.take (pos xg l)), (true, [(⟨xg, xs, xk, xy, xa⟩ : Lt)]), (f2, l.drop (pos xg l))] = ins ⟨xg, xs, xk, xy, xa⟩ l := by simp [cat, ins]
        rw [e] at h
        have e2 : resC (ins ⟨xg, xs, xk, xy, xa⟩ l) = lts false (ins ⟨xg, xs, xk, xy, xa⟩ l) := by
          unfold resC
          congr 1
          simp [ins]
        rw [e2] at h
        exact h
      have hall := allSz_lts l
      have hi0 : (0 : Int) ≤ (i : Int) := by omega
      by_cases hi : i < l.length
      · obtain ⟨z, hz, hd⟩ := lt_getL hi
        obtain ⟨hp1, hp2⟩ := pos_drop hd rfl hq
        have hi' : (i : Int) < (l.length : Int) := by omega
        have hidx : IntKind.i64.wrap ((i : Int) + 1) = ((i + 1 : Nat) : Int) := by rw [i64_in _ (by omega)]; rfl
        obtain ⟨g2, s2, k2, y2, a2⟩ := z
        simp only at hp1 hp2
        clear hd hq
        by_cases hg : g2 < xg
        · have hp3 := hp1 hg
          clear hp1 hp2
          repeat' (first
            | (simp -implicitDefEqProofs (maxSteps := 1000000) only [*, Tryd.f35, ↓cwp_skip, ↓cwp_region, ↓cwp_drawn, ↓cwp_seq, ↓cwp_cond, ↓cwp_block, ↓cwp_loop, ↓cwp_exit, ↓cwp_ret, ↓kont_normal, ↓kont_exit, ↓kont_ret, ↓block_normal, ↓block_ret, ↓block_exit, ↓then_normal, ↓then_ret, ↓then_exit, ↓finF_normal, ↓finF_ret, ↓cseq_nil, ↓cseq_free, ↓cseq_cons, ↓seqK_go, ↓anyK_go, ↓caq_zero, ↓caq_done, ↓caq_free, ↓caq_step, ↓cStep_move, ↓cStep_assign, ↓cStep_eq, ↓cPure_call, ↓reduceIte, keeps, wantD, callee, aop, ev, ofV, nth, List.cons_append, List.nil_append, List.append_nil, undL, putO, put, List.length_cons, List.length_nil, Nat.reduceSub, Nat.reduceAdd, dBinT, dBin, dUn, Option.map, List.getElem?_toArray, List.toList_toArray, List.getElem?_cons_succ, List.getElem?_cons_zero, Option.bind, ge_iff_le, gt_iff_lt, resD, resL, resV, beq_true, beq_false, Option.some.injEq, List.map, Bool.not_true, Bool.not_false, Bool.false_eq_true, exists_eq_left', Bool.not_eq_true', decide_eq_true_eq, decide_eq_false_iff_not, ite_not, decide_true, decide_false, not_true_eq_false, not_false_eq_true, D.bool.injEq, if_true, if_false, and_true, true_and, ty1, sz1, z1, ty2, sz2, z2, ty3, sz3, z3, ty4, sz4, z4, ty5, sz5, z5, ty6, sz6, z6, ty7, sz7, z7, ty8, sz8, z8, ty9, sz9, z9, ty10, sz10, z10, ty11, sz11, z11, ty12, sz12, z12, ty23, sz23, z23, ty35, sz35, z35, ty37, sz37, z37, k37, ty51, sz51, z51, k51, ty102, sz102, z102, dLen, dIdxA, dLoad, part, Ty.isA, Ty.fi, D.cells, D.cells?, dField, dFieldA, dIdx, dFill, allCell, D.isCell, els, chunk, rep, splice, hget, hset, cellsOf, Blk.isC, Blk.cs, Blk.mut, Blk.setCs, dStore, dBuild, dSlice, dBnd, List.getElem?_map, Option.map_some, Int.toNat_natCast, List.length_map, Nat.lt_irrefl, Nat.zero_lt_one, Nat.zero_lt_succ, Nat.le_refl, Nat.zero_add, Bool.false_eq_true, false_or, or_true, true_or, List.drop_zero, Int.natCast_nonneg, D.int.injEq, Int.zero_le_ofNat, Nat.lt_add_one, List.getElem?_nil, Nat.zero_le, List.take, List.drop, Nat.reduceMul, Nat.reduceLeDiff, Nat.reduceLT, Nat.reducePow, Nat.reduceBEq, Nat.reduceEqDiff, and_self, D.closedL, D.closed, Bool.and_self, bne_self_eq_false, beq_self_eq_true, bne, Bool.true_and, Bool.and_true, Bool.or_true, Bool.or_false, Bool.true_or, Bool.false_or, Bool.and_false, Bool.false_and, List.all_cons, List.all_nil, List.all, List.replicate, exists_const, okK, dEqL, dEqO, dEq, Option.isSome, nc0, nc1, nc2, nc3, nc4, nc5, nc6, nc7, nc8, nc9, nc10, nc11, nc12, wl0, wl1, wl2, wl3, wl4, wl5, wl6, wl7, wl8, wl9, wl10, wl11, wl12, Int.reduceAdd, Int.reduceLT, Int.reduceLE, Int.reduceToNat, Int.reduceEq, Int.reduceSub, Int.reduceBEq, Int.reduceBNe, List.length_singleton, Nat.reduceBNe, z37, sz37, ty37, lts_def, Lt.d_mk, hget_len, hset_len', eq_self, ← List.map_take, ← List.map_drop, List.take_length])
            | (refine .body (by kernel_rfl) (PDen.to (fit31 _ _ hn4) ?_))
            | (refine PCall.to (by kernel_rfl) (fit31 _ _ hn4) ?_)
            | (refine .body (by kernel_rfl) (PDen.to (oneP ⟨xg, xs, xk, xy, xa⟩) ?_))
            | (refine PCall.to (by kernel_rfl) (oneP ⟨xg, xs, xk, xy, xa⟩) ?_)
            | (refine .body (by kernel_rfl) (PDen.to (cp) ?_))
            | (refine PCall.to (by kernel_rfl) (cp) ?_)
            | (refine .body (by kernel_rfl) (PDen.to (cc _ _) ?_))
            | (refine PCall.to (by kernel_rfl) (cc _ _) ?_)
            | (refine ⟨12, by decide +kernel, ?_⟩)
            | (refine ⟨13, by decide +kernel, ?_⟩)
            | (refine ⟨14, by decide +kernel, ?_⟩)
            | (refine ⟨8, by decide +kernel, ?_⟩)
            | (refine ⟨9, by decide +kernel, ?_⟩)
            | (refine ⟨10, by decide +kernel, ?_⟩)
            | rfl
            | split)
          exact ⟨m - 1, by omega, i + 1, _, _, _, _, _, _, _, _, _, _, _, _, _, _, _, _, _, _, _, _, _, _, _, _, _, _, _, _, _, _, _, _, _, _, _, _, _, _, _, _, _, _, _, _, _, _, by omega, hp3, rfl, rfl⟩
        · have hp3 := hp2 hg
          clear hp1 hp2
          subst hp3
          have hle2 : pos xg l ≤ l.length := hle
          repeat' (first
            | (simp -implicitDefEqProofs (maxSteps := 1000000) only [*, Tryd.f35, ↓cwp_skip, ↓cwp_region, ↓cwp_drawn, ↓cwp_seq, ↓cwp_cond, ↓cwp_block, ↓cwp_loop, ↓cwp_exit, ↓cwp_ret, ↓kont_normal, ↓kont_exit, ↓kont_ret, ↓block_normal, ↓block_ret, ↓block_exit, ↓then_normal, ↓then_ret, ↓then_exit, ↓finF_normal, ↓finF_ret, ↓cseq_nil, ↓cseq_free, ↓cseq_cons, ↓seqK_go, ↓anyK_go, ↓caq_zero, ↓caq_done, ↓caq_free, ↓caq_step, ↓cStep_move, ↓cStep_assign, ↓cStep_eq, ↓cPure_call, ↓reduceIte, keeps, wantD, callee, aop, ev, ofV, nth, List.cons_append, List.nil_append, List.append_nil, undL, putO, put, List.length_cons, List.length_nil, Nat.reduceSub, Nat.reduceAdd, dBinT, dBin, dUn, Option.map, List.getElem?_toArray, List.toList_toArray, List.getElem?_cons_succ, List.getElem?_cons_zero, Option.bind, ge_iff_le, gt_iff_lt, resD, resL, resV, beq_true, beq_false, Option.some.injEq, List.map, Bool.not_true, Bool.not_false, Bool.false_eq_true, exists_eq_left', Bool.not_eq_true', decide_eq_true_eq, decide_eq_false_iff_not, ite_not, decide_true, decide_false, not_true_eq_false, not_false_eq_true, D.bool.injEq, if_true, if_false, and_true, true_and, ty1, sz1, z1, ty2, sz2, z2, ty3, sz3, z3, ty4, sz4, z4, ty5, sz5, z5, ty6, sz6, z6, ty7, sz7, z7, ty8, sz8, z8, ty9, sz9, z9, ty10, sz10, z10, ty11, sz11, z11, ty12, sz12, z12, ty23, sz23, z23, ty35, sz35, z35, ty37, sz37, z37, k37, ty51, sz51, z51, k51, ty102, sz102, z102, dLen, dIdxA, dLoad, part, Ty.isA, Ty.fi, D.cells, D.cells?, dField, dFieldA, dIdx, dFill, allCell, D.isCell, els, chunk, rep, splice, hget, hset, cellsOf, Blk.isC, Blk.cs, Blk.mut, Blk.setCs, dStore, dBuild, dSlice, dBnd, List.getElem?_map, Option.map_some, Int.toNat_natCast, List.length_map, Nat.lt_irrefl, Nat.zero_lt_one, Nat.zero_lt_succ, Nat.le_refl, Nat.zero_add, Bool.false_eq_true, false_or, or_true, true_or, List.drop_zero, Int.natCast_nonneg, D.int.injEq, Int.zero_le_ofNat, Nat.lt_add_one, List.getElem?_nil, Nat.zero_le, List.take, List.drop, Nat.reduceMul, Nat.reduceLeDiff, Nat.reduceLT, Nat.reducePow, Nat.reduceBEq, Nat.reduceEqDiff, and_self, D.closedL, D.closed, Bool.and_self, bne_self_eq_false, beq_self_eq_true, bne, Bool.true_and, Bool.and_true, Bool.or_true, Bool.or_false, Bool.true_or, Bool.false_or, Bool.and_false, Bool.false_and, List.all_cons, List.all_nil, List.all, List.replicate, exists_const, okK, dEqL, dEqO, dEq, Option.isSome, nc0, nc1, nc2, nc3, nc4, nc5, nc6, nc7, nc8, nc9, nc10, nc11, nc12, wl0, wl1, wl2, wl3, wl4, wl5, wl6, wl7, wl8, wl9, wl10, wl11, wl12, Int.reduceAdd, Int.reduceLT, Int.reduceLE, Int.reduceToNat, Int.reduceEq, Int.reduceSub, Int.reduceBEq, Int.reduceBNe, List.length_singleton, Nat.reduceBNe, z37, sz37, ty37, lts_def, Lt.d_mk, hget_len, hset_len', eq_self, ← List.map_take, ← List.map_drop, List.take_length])
            | (refine .body (by kernel_rfl) (PDen.to (fit31 _ _ hn4) ?_))
            | (refine PCall.to (by kernel_rfl) (fit31 _ _ hn4) ?_)
            | (refine .body (by kernel_rfl) (PDen.to (oneP ⟨xg, xs, xk, xy, xa⟩) ?_))
            | (refine PCall.to (by kernel_rfl) (oneP ⟨xg, xs, xk, xy, xa⟩) ?_)
            | (refine .body (by kernel_rfl) (PDen.to (cp) ?_))
            | (refine PCall.to (by kernel_rfl) (cp) ?_)
            | (refine .body (by kernel_rfl) (PDen.to (cc _ _) ?_))
            | (refine PCall.to (by kernel_rfl) (cc _ _) ?_)
            | (refine ⟨12, by decide +kernel, ?_⟩)
            | (refine ⟨13, by decide +kernel, ?_⟩)
            | (refine ⟨14, by decide +kernel, ?_⟩)
            | (refine ⟨8, by decide +kernel, ?_⟩)
            | (refine ⟨9, by decide +kernel, ?_⟩)
            | (refine ⟨10, by decide +kernel, ?_⟩)
            | rfl
            | split)
      · have hi' : ¬ (i : Int) < (l.length : Int) := by omega
        rw [List.drop_eq_nil_of_le (by omega)] at hq
        obtain rfl : i = pos xg l := by simpa [pos] using hq
        repeat' (first
          | (simp -implicitDefEqProofs (maxSteps := 1000000) only [*, Tryd.f35, ↓cwp_skip, ↓cwp_region, ↓cwp_drawn, ↓cwp_seq, ↓cwp_cond, ↓cwp_block, ↓cwp_loop, ↓cwp_exit, ↓cwp_ret, ↓kont_normal, ↓kont_exit, ↓kont_ret, ↓block_normal, ↓block_ret, ↓block_exit, ↓then_normal, ↓then_ret, ↓then_exit, ↓finF_normal, ↓finF_ret, ↓cseq_nil, ↓cseq_free, ↓cseq_cons, ↓seqK_go, ↓anyK_go, ↓caq_zero, ↓caq_done, ↓caq_free, ↓caq_step, ↓cStep_move, ↓cStep_assign, ↓cStep_eq, ↓cPure_call, ↓reduceIte, keeps, wantD, callee, aop, ev, ofV, nth, List.cons_append, List.nil_append, List.append_nil, undL, putO, put, List.length_cons, List.length_nil, Nat.reduceSub, Nat.reduceAdd, dBinT, dBin, dUn, Option.map, List.getElem?_toArray, List.toList_toArray, List.getElem?_cons_succ, List.getElem?_cons_zero, Option.bind, ge_iff_le, gt_iff_lt, resD, resL, resV, beq_true, beq_false, Option.some.injEq, List.map, Bool.not_true, Bool.not_false, Bool.false_eq_true, exists_eq_left', Bool.not_eq_true', decide_eq_true_eq, decide_eq_false_iff_not, ite_not, decide_true, decide_false, not_true_eq_false, not_false_eq_true, D.bool.injEq, if_true, if_false, and_true, true_and, ty1, sz1, z1, ty2, sz2, z2, ty3, sz3, z3, ty4, sz4, z4, ty5, sz5, z5, ty6, sz6, z6, ty7, sz7, z7, ty8, sz8, z8, ty9, sz9, z9, ty10, sz10, z10, ty11, sz11, z11, ty12, sz12, z12, ty23, sz23, z23, ty35, sz35, z35, ty37, sz37, z37, k37, ty51, sz51, z51, k51, ty102, sz102, z102, dLen, dIdxA, dLoad, part, Ty.isA, Ty.fi, D.cells, D.cells?, dField, dFieldA, dIdx, dFill, allCell, D.isCell, els, chunk, rep, splice, hget, hset, cellsOf, Blk.isC, Blk.cs, Blk.mut, Blk.setCs, dStore, dBuild, dSlice, dBnd, List.getElem?_map, Option.map_some, Int.toNat_natCast, List.length_map, Nat.lt_irrefl, Nat.zero_lt_one, Nat.zero_lt_succ, Nat.le_refl, Nat.zero_add, Bool.false_eq_true, false_or, or_true, true_or, List.drop_zero, Int.natCast_nonneg, D.int.injEq, Int.zero_le_ofNat, Nat.lt_add_one, List.getElem?_nil, Nat.zero_le, List.take, List.drop, Nat.reduceMul, Nat.reduceLeDiff, Nat.reduceLT, Nat.reducePow, Nat.reduceBEq, Nat.reduceEqDiff, and_self, D.closedL, D.closed, Bool.and_self, bne_self_eq_false, beq_self_eq_true, bne, Bool.true_and, Bool.and_true, Bool.or_true, Bool.or_false, Bool.true_or, Bool.false_or, Bool.and_false, Bool.false_and, List.all_cons, List.all_nil, List.all, List.replicate, exists_const, okK, dEqL, dEqO, dEq, Option.isSome, nc0, nc1, nc2, nc3, nc4, nc5, nc6, nc7, nc8, nc9, nc10, nc11, nc12, wl0, wl1, wl2, wl3, wl4, wl5, wl6, wl7, wl8, wl9, wl10, wl11, wl12, Int.reduceAdd, Int.reduceLT, Int.reduceLE, Int.reduceToNat, Int.reduceEq, Int.reduceSub, Int.reduceBEq, Int.reduceBNe, List.length_singleton, Nat.reduceBNe, z37, sz37, ty37, lts_def, Lt.d_mk, hget_len, hset_len', eq_self, ← List.map_take, ← List.map_drop, List.take_length])
          | (refine .body (by kernel_rfl) (PDen.to (fit31 _ _ hn4) ?_))
          | (refine PCall.to (by kernel_rfl) (fit31 _ _ hn4) ?_)
          | (refine .body (by kernel_rfl) (PDen.to (oneP ⟨xg, xs, xk, xy, xa⟩) ?_))
          | (refine PCall.to (by kernel_rfl) (oneP ⟨xg, xs, xk, xy, xa⟩) ?_)
          | (refine .body (by kernel_rfl) (PDen.to (cp) ?_))
          | (refine PCall.to (by kernel_rfl) (cp) ?_)
          | (refine .body (by kernel_rfl) (PDen.to (cc _ _) ?_))
          | (refine PCall.to (by kernel_rfl) (cc _ _) ?_)
          | (refine ⟨12, by decide +kernel, ?_⟩)
          | (refine ⟨13, by decide +kernel, ?_⟩)
          | (refine ⟨14, by decide +kernel, ?_⟩)
          | (refine ⟨8, by decide +kernel, ?_⟩)
          | (refine ⟨9, by decide +kernel, ?_⟩)
          | (refine ⟨10, by decide +kernel, ?_⟩)
          | rfl
          | split)
def Inv36 (t : Bool) (g s : Int) (k : Bool) (y a : Int) (l : List Lt) (m : Nat) (ts : List D) (H : Hp) : Prop := ∃ (i : Nat) (g1 g2 g10 g11 g12 g13 g14 g15 g16 g17 g18 g19 g20 g21 g22 g23 g24 g25 g26 g27 g28 g29 g30 g31 g32 g33 g34 g35 g36 g37 g38 g39 g40 g41 g42 g43 g44 g45 g46 g47 g48 g49 g50 g51 g52 g53 g54 g55 g56 : D), (i + m = l.length) ∧ (pos g (l.drop i) + i = pos g l) ∧ H = [.var [.int .i64 g, .int .i64 s, .bool k, .int .i64 y, .int .i64 a], .var [.int .i64 0, .int .i64 0, .bool false, .int .i64 0, .int .i64 0]] ∧ ts = [lts t l, g1, g2, .ptr 0 0 5, .list true [], .int .i64 0, .ptr 1 0 5, .bool false, .list true [], .int .i64 (i : Nat), g10, g11, g12, g13, g14, g15, g16, g17, g18, g19, g20, g21, g22, g23, g24, g25, g26, g27, g28, g29, g30, g31, g32, g33, g34, g35, g36, g37, g38, g39, g40, g41, g42, g43, g44, g45, g46, g47, g48, g49, g50, g51, g52, g53, g54, g55, g56]
theorem Lt_zero_d : Lt.zero.d = .agg [.int .i64 0, .int .i64 0, .bool false, .int .i64 0, .int .i64 0] := rfl
theorem flatL_cons (g s : Int) (k : Bool) (y a : Int) (l : List Lt) : flatL (⟨g, s, k, y, a⟩ :: l) = .int .i64 g :: .int .i64 s :: .bool k :: .int .i64 y :: .int .i64 a :: flatL l := rfl
end Go.Lv
