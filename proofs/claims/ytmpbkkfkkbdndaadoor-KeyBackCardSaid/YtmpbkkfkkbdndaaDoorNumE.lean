/- Num: the reference's sum, and NumSums. -/
import Derived.Test.YtmpbkkfkkbdndaaDoorNumD
namespace Go.Lv
open Go Go.Proofs Go.IntWalk
set_option maxRecDepth 100000
set_option linter.unusedSimpArgs false
variable {E : Env}
def Inv21a (t : Bool) (xs : List Int) (m : Nat) (ts : List D) (H : Hp) : Prop := ∃ (i : Nat) (g7 g8 g9 g10 g11 g12 g13 g14 g15 g16 g17 g18 : D), (i + m = xs.length) ∧ H = [] ∧ ts = [D.list t (List.map I xs), D.und, D.int IntKind.i64 0, D.int IntKind.i64 0, D.int IntKind.i64 (i : Nat), D.und, D.und, g7, g8, g9, g10, g11, g12, g13, g14, g15, g16, g17, g18, D.und, D.und, D.und, D.und, D.und, D.und, D.und, D.und, D.und, D.und, D.und, D.und, D.und, D.und, D.und, D.und, D.und, D.und, D.und, D.und]
def Inv21b (t : Bool) (r : Int × Int) (xs : List Int) (m : Nat) (ts : List D) (H : Hp) : Prop := ∃ (i : Nat) (s : Int) (g4 g7 g8 g9 g10 g11 g12 g13 g14 g15 g16 g17 g18 g19 g20 g21 g22 g23 g24 g25 g26 g27 g28 g29 g30 g31 g32 g33 g34 g35 g36 g37 g38 : D), (i + m = xs.length) ∧ (0 ≤ s ∧ s ≤ 1099511627776) ∧ (sumG s (xs.drop i) = r) ∧ H = [] ∧ ts = [D.list t (List.map I xs), D.und, D.int IntKind.i64 0, D.int IntKind.i64 0, g4, D.int IntKind.i64 s, D.int IntKind.i64 (i : Nat), g7, g8, g9, g10, g11, g12, g13, g14, g15, g16, g17, g18, g19, g20, g21, g22, g23, g24, g25, g26, g27, g28, g29, g30, g31, g32, g33, g34, g35, g36, g37, g38]
def Inv21c (t : Bool) (xs : List Int) (m : Nat) (ts : List D) (H : Hp) : Prop := ∃ (i : Nat) (g7 g8 g9 g10 g11 g12 g13 g14 g15 g16 g17 g18 : D), (i + m = xs.length) ∧ ((xs.drop i).all F = false) ∧ H = [] ∧ ts = [D.list t (List.map I xs), D.und, D.int IntKind.i64 0, D.int IntKind.i64 0, D.int IntKind.i64 (i : Nat), D.und, D.und, g7, g8, g9, g10, g11, g12, g13, g14, g15, g16, g17, g18, D.und, D.und, D.und, D.und, D.und, D.und, D.und, D.und, D.und, D.und, D.und, D.und, D.und, D.und, D.und, D.und, D.und, D.und, D.und, D.und]
theorem sumR (t : Bool) (xs : List Int) (hn : xs.length ≤ 4611686018427387904) : PDen Tryd.prog E 21 [.list t (xs.map I)] (res (sumS xs)) := by
  refine pden_by (fn := Tryd.f21) mixed Tryd.func21 rfl (closed_ints _ _) rfl ?_
  by_cases ha : xs.all F = true
  · have hs : sumS xs = sumG 0 xs := by unfold sumS; rw [if_pos ha]
    rw [hs]
    clear hs
    generalize hr : sumG 0 xs = r
    repeat' (first
      | (simp -implicitDefEqProofs only [*, Tryd.f21, ↓cwp_skip, ↓cwp_region, ↓cwp_drawn, ↓cwp_seq, ↓cwp_cond, ↓cwp_block, ↓cwp_loop, ↓cwp_exit, ↓cwp_ret, ↓kont_normal, ↓kont_exit, ↓kont_ret, ↓block_normal, ↓block_ret, ↓block_exit, ↓then_normal, ↓then_ret, ↓then_exit, ↓finF_normal, ↓finF_ret, ↓cseq_nil, ↓cseq_free, ↓cseq_cons, ↓seqK_go, ↓anyK_go, ↓caq_zero, ↓caq_nil, ↓caq_cons, ↓cStep_move, ↓cStep_assign, ↓cStep_eq, ↓cPure_eq, ↓cAny_eq, ↓anyP_go, fillT, fillH, ↓reduceIte, keeps, wantD, callee, aop, ev, ofV, nth, List.cons_append, List.nil_append, List.append_nil, undL, putO, put, List.length_cons, List.length_nil, Nat.reduceSub, Nat.reduceAdd, dBinT, dBin, dUn, Option.map, List.getElem?_toArray, List.toList_toArray, List.getElem?_cons_succ, List.getElem?_cons_zero, Option.bind, ge_iff_le, gt_iff_lt, resD, resL, resV, beq_true, beq_false, Option.some.injEq, List.map, Bool.not_true, Bool.not_false, Bool.false_eq_true, exists_eq_left', Bool.not_eq_true', decide_eq_true_eq, decide_eq_false_iff_not, ite_not, decide_true, decide_false, not_true_eq_false, not_false_eq_true, D.bool.injEq, if_true, if_false, and_true, true_and, ty3, ty4, ty31, ty23, sz3, z3, res_mk, dLen, dIdxA, dLoad, part, Ty.isA, D.cells, D.cells?, dField, dFieldA, dIdx, dFill, allCell, D.isCell, els, List.getElem?_map, Option.map_some, Int.toNat_natCast, List.length_map, Nat.lt_irrefl, Nat.zero_lt_one, Nat.zero_lt_succ, Option.some.injEq, Nat.le_refl, Nat.zero_add, Bool.false_eq_true, false_or, or_true, true_or, List.drop_zero, Int.natCast_nonneg, D.int.injEq, callee, Int.zero_le_ofNat, Nat.lt_add_one, List.getElem?_nil, dFill, rep, splice, List.take, List.drop, Nat.reduceMul, Nat.reduceLeDiff, Nat.reduceLT, Nat.reducePow, and_self, D.closedL, D.closed, Bool.and_self, bne_self_eq_false, beq_self_eq_true, bne, Bool.true_and, Bool.and_true, Bool.or_true, Bool.or_false])
      | (refine .body (by kernel_rfl) (PDen.to (fitR _) ?_))
      | rfl
      | split)
    refine loop_rule (Inv21a t xs) ?_ xs.length ⟨0, _, _, _, _, _, _, _, _, _, _, _, _, by omega, rfl, rfl⟩
    rintro m ts H ⟨i, g7, g8, g9, g10, g11, g12, g13, g14, g15, g16, g17, g18, him, rfl, rfl⟩
    by_cases hi : i < xs.length
    · obtain ⟨x, hx, hd⟩ := lt_get hi
      have hi' : (i : Int) < (xs.length : Int) := by omega
      have hidx := idx hn hi
      have hI : I x = .int .i64 x := rfl
      have hF := List.all_eq_true.1 ha x (List.mem_of_getElem? hx)
      clear ha
      repeat' (first
        | (simp -implicitDefEqProofs only [*, Tryd.f21, ↓cwp_skip, ↓cwp_region, ↓cwp_drawn, ↓cwp_seq, ↓cwp_cond, ↓cwp_block, ↓cwp_loop, ↓cwp_exit, ↓cwp_ret, ↓kont_normal, ↓kont_exit, ↓kont_ret, ↓block_normal, ↓block_ret, ↓block_exit, ↓then_normal, ↓then_ret, ↓then_exit, ↓finF_normal, ↓finF_ret, ↓cseq_nil, ↓cseq_free, ↓cseq_cons, ↓seqK_go, ↓anyK_go, ↓caq_zero, ↓caq_nil, ↓caq_cons, ↓cStep_move, ↓cStep_assign, ↓cStep_eq, ↓cPure_eq, ↓cAny_eq, ↓anyP_go, fillT, fillH, ↓reduceIte, keeps, wantD, callee, aop, ev, ofV, nth, List.cons_append, List.nil_append, List.append_nil, undL, putO, put, List.length_cons, List.length_nil, Nat.reduceSub, Nat.reduceAdd, dBinT, dBin, dUn, Option.map, List.getElem?_toArray, List.toList_toArray, List.getElem?_cons_succ, List.getElem?_cons_zero, Option.bind, ge_iff_le, gt_iff_lt, resD, resL, resV, beq_true, beq_false, Option.some.injEq, List.map, Bool.not_true, Bool.not_false, Bool.false_eq_true, exists_eq_left', Bool.not_eq_true', decide_eq_true_eq, decide_eq_false_iff_not, ite_not, decide_true, decide_false, not_true_eq_false, not_false_eq_true, D.bool.injEq, if_true, if_false, and_true, true_and, ty3, ty4, ty31, ty23, sz3, z3, res_mk, dLen, dIdxA, dLoad, part, Ty.isA, D.cells, D.cells?, dField, dFieldA, dIdx, dFill, allCell, D.isCell, els, List.getElem?_map, Option.map_some, Int.toNat_natCast, List.length_map, Nat.lt_irrefl, Nat.zero_lt_one, Nat.zero_lt_succ, Option.some.injEq, Nat.le_refl, Nat.zero_add, Bool.false_eq_true, false_or, or_true, true_or, List.drop_zero, Int.natCast_nonneg, D.int.injEq, callee, Int.zero_le_ofNat, Nat.lt_add_one, List.getElem?_nil, dFill, rep, splice, List.take, List.drop, Nat.reduceMul, Nat.reduceLeDiff, Nat.reduceLT, Nat.reducePow, and_self, D.closedL, D.closed, Bool.and_self, bne_self_eq_false, beq_self_eq_true, bne, Bool.true_and, Bool.and_true, Bool.or_true, Bool.or_false])
        | (refine .body (by kernel_rfl) (PDen.to (fitR _) ?_))
        | rfl
        | split)
      exact ⟨m - 1, by omega, i + 1, _, _, _, _, _, _, _, _, _, _, _, _, by omega, rfl, rfl⟩
    · have hi' : ¬ (i : Int) < (xs.length : Int) := by omega
      repeat' (first
        | (simp -implicitDefEqProofs only [*, Tryd.f21, ↓cwp_skip, ↓cwp_region, ↓cwp_drawn, ↓cwp_seq, ↓cwp_cond, ↓cwp_block, ↓cwp_loop, ↓cwp_exit, ↓cwp_ret, ↓kont_normal, ↓kont_exit, ↓kont_ret, ↓block_normal, ↓block_ret, ↓block_exit, ↓then_normal, ↓then_ret, ↓then_exit, ↓finF_normal, ↓finF_ret, ↓cseq_nil, ↓cseq_free, ↓cseq_cons, ↓seqK_go, ↓anyK_go, ↓caq_zero, ↓caq_nil, ↓caq_cons, ↓cStep_move, ↓cStep_assign, ↓cStep_eq, ↓cPure_eq, ↓cAny_eq, ↓anyP_go, fillT, fillH, ↓reduceIte, keeps, wantD, callee, aop, ev, ofV, nth, List.cons_append, List.nil_append, List.append_nil, undL, putO, put, List.length_cons, List.length_nil, Nat.reduceSub, Nat.reduceAdd, dBinT, dBin, dUn, Option.map, List.getElem?_toArray, List.toList_toArray, List.getElem?_cons_succ, List.getElem?_cons_zero, Option.bind, ge_iff_le, gt_iff_lt, resD, resL, resV, beq_true, beq_false, Option.some.injEq, List.map, Bool.not_true, Bool.not_false, Bool.false_eq_true, exists_eq_left', Bool.not_eq_true', decide_eq_true_eq, decide_eq_false_iff_not, ite_not, decide_true, decide_false, not_true_eq_false, not_false_eq_true, D.bool.injEq, if_true, if_false, and_true, true_and, ty3, ty4, ty31, ty23, sz3, z3, res_mk, dLen, dIdxA, dLoad, part, Ty.isA, D.cells, D.cells?, dField, dFieldA, dIdx, dFill, allCell, D.isCell, els, List.getElem?_map, Option.map_some, Int.toNat_natCast, List.length_map, Nat.lt_irrefl, Nat.zero_lt_one, Nat.zero_lt_succ, Option.some.injEq, Nat.le_refl, Nat.zero_add, Bool.false_eq_true, false_or, or_true, true_or, List.drop_zero, Int.natCast_nonneg, D.int.injEq, callee, Int.zero_le_ofNat, Nat.lt_add_one, List.getElem?_nil, dFill, rep, splice, List.take, List.drop, Nat.reduceMul, Nat.reduceLeDiff, Nat.reduceLT, Nat.reducePow, and_self, D.closedL, D.closed, Bool.and_self, bne_self_eq_false, beq_self_eq_true, bne, Bool.true_and, Bool.and_true, Bool.or_true, Bool.or_false])
        | (refine .body (by kernel_rfl) (PDen.to (fitR _) ?_))
        | rfl
        | split)
      refine loop_rule (Inv21b t r xs) ?_ xs.length ⟨0, 0, _, _, _, _, _, _, _, _, _, _, _, _, _, _, _, _, _, _, _, _, _, _, _, _, _, _, _, _, _, _, _, _, _, by omega, ⟨by omega, by omega⟩, hr, rfl, rfl⟩
      clear hr him hi hi'
      rintro m' ts H ⟨i', s, g4, g7, g8, g9, g10, g11, g12, g13, g14, g15, g16, g17, g18, g19, g20, g21, g22, g23, g24, g25, g26, g27, g28, g29, g30, g31, g32, g33, g34, g35, g36, g37, g38, him, ⟨hs0, hs1⟩, hgo, rfl, rfl⟩
      by_cases hi : i' < xs.length
      · obtain ⟨x, hx, hd⟩ := lt_get hi
        have hi' : (i' : Int) < (xs.length : Int) := by omega
        have hidx := idx hn hi
        have hI : I x = .int .i64 x := rfl
        have hx01 := F_iff.1 (List.all_eq_true.1 ha x (List.mem_of_getElem? hx))
        have hw : IntKind.i64.wrap (s + x) = s + x := i64_in _ (by omega)
        have hw' : IntKind.i64.wrap (1099511627776 - s) = 1099511627776 - s := i64_in _ (by omega)
        rw [hd, sumG] at hgo
        by_cases hb : 1099511627776 < s + x
        · rw [if_pos hb] at hgo
          subst hgo
          clear ha
          have hc : 1099511627776 - s < x := by omega
          repeat' (first
            | (simp -implicitDefEqProofs only [*, Tryd.f21, ↓cwp_skip, ↓cwp_region, ↓cwp_drawn, ↓cwp_seq, ↓cwp_cond, ↓cwp_block, ↓cwp_loop, ↓cwp_exit, ↓cwp_ret, ↓kont_normal, ↓kont_exit, ↓kont_ret, ↓block_normal, ↓block_ret, ↓block_exit, ↓then_normal, ↓then_ret, ↓then_exit, ↓finF_normal, ↓finF_ret, ↓cseq_nil, ↓cseq_free, ↓cseq_cons, ↓seqK_go, ↓anyK_go, ↓caq_zero, ↓caq_nil, ↓caq_cons, ↓cStep_move, ↓cStep_assign, ↓cStep_eq, ↓cPure_eq, ↓cAny_eq, ↓anyP_go, fillT, fillH, ↓reduceIte, keeps, wantD, callee, aop, ev, ofV, nth, List.cons_append, List.nil_append, List.append_nil, undL, putO, put, List.length_cons, List.length_nil, Nat.reduceSub, Nat.reduceAdd, dBinT, dBin, dUn, Option.map, List.getElem?_toArray, List.toList_toArray, List.getElem?_cons_succ, List.getElem?_cons_zero, Option.bind, ge_iff_le, gt_iff_lt, resD, resL, resV, beq_true, beq_false, Option.some.injEq, List.map, Bool.not_true, Bool.not_false, Bool.false_eq_true, exists_eq_left', Bool.not_eq_true', decide_eq_true_eq, decide_eq_false_iff_not, ite_not, decide_true, decide_false, not_true_eq_false, not_false_eq_true, D.bool.injEq, if_true, if_false, and_true, true_and, ty3, ty4, ty31, ty23, sz3, z3, res_mk, dLen, dIdxA, dLoad, part, Ty.isA, D.cells, D.cells?, dField, dFieldA, dIdx, dFill, allCell, D.isCell, els, List.getElem?_map, Option.map_some, Int.toNat_natCast, List.length_map, Nat.lt_irrefl, Nat.zero_lt_one, Nat.zero_lt_succ, Option.some.injEq, Nat.le_refl, Nat.zero_add, Bool.false_eq_true, false_or, or_true, true_or, List.drop_zero, Int.natCast_nonneg, D.int.injEq, callee, Int.zero_le_ofNat, Nat.lt_add_one, List.getElem?_nil, dFill, rep, splice, List.take, List.drop, Nat.reduceMul, Nat.reduceLeDiff, Nat.reduceLT, Nat.reducePow, and_self, D.closedL, D.closed, Bool.and_self, bne_self_eq_false, beq_self_eq_true, bne, Bool.true_and, Bool.and_true, Bool.or_true, Bool.or_false])
            | (refine .body (by kernel_rfl) (PDen.to (fitR _) ?_))
            | rfl
            | split)
        · rw [if_neg hb] at hgo
          have hc : ¬ 1099511627776 - s < x := by omega
          repeat' (first
            | (simp -implicitDefEqProofs only [*, Tryd.f21, ↓cwp_skip, ↓cwp_region, ↓cwp_drawn, ↓cwp_seq, ↓cwp_cond, ↓cwp_block, ↓cwp_loop, ↓cwp_exit, ↓cwp_ret, ↓kont_normal, ↓kont_exit, ↓kont_ret, ↓block_normal, ↓block_ret, ↓block_exit, ↓then_normal, ↓then_ret, ↓then_exit, ↓finF_normal, ↓finF_ret, ↓cseq_nil, ↓cseq_free, ↓cseq_cons, ↓seqK_go, ↓anyK_go, ↓caq_zero, ↓caq_nil, ↓caq_cons, ↓cStep_move, ↓cStep_assign, ↓cStep_eq, ↓cPure_eq, ↓cAny_eq, ↓anyP_go, fillT, fillH, ↓reduceIte, keeps, wantD, callee, aop, ev, ofV, nth, List.cons_append, List.nil_append, List.append_nil, undL, putO, put, List.length_cons, List.length_nil, Nat.reduceSub, Nat.reduceAdd, dBinT, dBin, dUn, Option.map, List.getElem?_toArray, List.toList_toArray, List.getElem?_cons_succ, List.getElem?_cons_zero, Option.bind, ge_iff_le, gt_iff_lt, resD, resL, resV, beq_true, beq_false, Option.some.injEq, List.map, Bool.not_true, Bool.not_false, Bool.false_eq_true, exists_eq_left', Bool.not_eq_true', decide_eq_true_eq, decide_eq_false_iff_not, ite_not, decide_true, decide_false, not_true_eq_false, not_false_eq_true, D.bool.injEq, if_true, if_false, and_true, true_and, ty3, ty4, ty31, ty23, sz3, z3, res_mk, dLen, dIdxA, dLoad, part, Ty.isA, D.cells, D.cells?, dField, dFieldA, dIdx, dFill, allCell, D.isCell, els, List.getElem?_map, Option.map_some, Int.toNat_natCast, List.length_map, Nat.lt_irrefl, Nat.zero_lt_one, Nat.zero_lt_succ, Option.some.injEq, Nat.le_refl, Nat.zero_add, Bool.false_eq_true, false_or, or_true, true_or, List.drop_zero, Int.natCast_nonneg, D.int.injEq, callee, Int.zero_le_ofNat, Nat.lt_add_one, List.getElem?_nil, dFill, rep, splice, List.take, List.drop, Nat.reduceMul, Nat.reduceLeDiff, Nat.reduceLT, Nat.reducePow, and_self, D.closedL, D.closed, Bool.and_self, bne_self_eq_false, beq_self_eq_true, bne, Bool.true_and, Bool.and_true, Bool.or_true, Bool.or_false])
            | (refine .body (by kernel_rfl) (PDen.to (fitR _) ?_))
            | rfl
            | split)
          exact ⟨m' - 1, by omega, i' + 1, s + x, _, _, _, _, _, _, _, _, _, _, _, _, _, _, _, _, _, _, _, _, _, _, _, _, _, _, _, _, _, _, _, _, _, by omega, ⟨by omega, by omega⟩, hgo, rfl, rfl⟩
      · have hi' : ¬ (i' : Int) < (xs.length : Int) := by omega
        rw [List.drop_eq_nil_of_le (by omega), sumG] at hgo
        subst hgo
        clear ha hs0 hs1
        repeat' (first
          | (simp -implicitDefEqProofs only [*, Tryd.f21, ↓cwp_skip, ↓cwp_region, ↓cwp_drawn, ↓cwp_seq, ↓cwp_cond, ↓cwp_block, ↓cwp_loop, ↓cwp_exit, ↓cwp_ret, ↓kont_normal, ↓kont_exit, ↓kont_ret, ↓block_normal, ↓block_ret, ↓block_exit, ↓then_normal, ↓then_ret, ↓then_exit, ↓finF_normal, ↓finF_ret, ↓cseq_nil, ↓cseq_free, ↓cseq_cons, ↓seqK_go, ↓anyK_go, ↓caq_zero, ↓caq_nil, ↓caq_cons, ↓cStep_move, ↓cStep_assign, ↓cStep_eq, ↓cPure_eq, ↓cAny_eq, ↓anyP_go, fillT, fillH, ↓reduceIte, keeps, wantD, callee, aop, ev, ofV, nth, List.cons_append, List.nil_append, List.append_nil, undL, putO, put, List.length_cons, List.length_nil, Nat.reduceSub, Nat.reduceAdd, dBinT, dBin, dUn, Option.map, List.getElem?_toArray, List.toList_toArray, List.getElem?_cons_succ, List.getElem?_cons_zero, Option.bind, ge_iff_le, gt_iff_lt, resD, resL, resV, beq_true, beq_false, Option.some.injEq, List.map, Bool.not_true, Bool.not_false, Bool.false_eq_true, exists_eq_left', Bool.not_eq_true', decide_eq_true_eq, decide_eq_false_iff_not, ite_not, decide_true, decide_false, not_true_eq_false, not_false_eq_true, D.bool.injEq, if_true, if_false, and_true, true_and, ty3, ty4, ty31, ty23, sz3, z3, res_mk, dLen, dIdxA, dLoad, part, Ty.isA, D.cells, D.cells?, dField, dFieldA, dIdx, dFill, allCell, D.isCell, els, List.getElem?_map, Option.map_some, Int.toNat_natCast, List.length_map, Nat.lt_irrefl, Nat.zero_lt_one, Nat.zero_lt_succ, Option.some.injEq, Nat.le_refl, Nat.zero_add, Bool.false_eq_true, false_or, or_true, true_or, List.drop_zero, Int.natCast_nonneg, D.int.injEq, callee, Int.zero_le_ofNat, Nat.lt_add_one, List.getElem?_nil, dFill, rep, splice, List.take, List.drop, Nat.reduceMul, Nat.reduceLeDiff, Nat.reduceLT, Nat.reducePow, and_self, D.closedL, D.closed, Bool.and_self, bne_self_eq_false, beq_self_eq_true, bne, Bool.true_and, Bool.and_true, Bool.or_true, Bool.or_false])
          | (refine .body (by kernel_rfl) (PDen.to (fitR _) ?_))
          | rfl
          | split)
  · have hs : sumS xs = (0, 11) := by unfold sumS; rw [if_neg ha]
    rw [hs]
    have ha' : xs.all F = false := by simpa using ha
    clear ha hs
    repeat' (first
      | (simp -implicitDefEqProofs only [*, Tryd.f21, ↓cwp_skip, ↓cwp_region, ↓cwp_drawn, ↓cwp_seq, ↓cwp_cond, ↓cwp_block, ↓cwp_loop, ↓cwp_exit, ↓cwp_ret, ↓kont_normal, ↓kont_exit, ↓kont_ret, ↓block_normal, ↓block_ret, ↓block_exit, ↓then_normal, ↓then_ret, ↓then_exit, ↓finF_normal, ↓finF_ret, ↓cseq_nil, ↓cseq_free, ↓cseq_cons, ↓seqK_go, ↓anyK_go, ↓caq_zero, ↓caq_nil, ↓caq_cons, ↓cStep_move, ↓cStep_assign, ↓cStep_eq, ↓cPure_eq, ↓cAny_eq, ↓anyP_go, fillT, fillH, ↓reduceIte, keeps, wantD, callee, aop, ev, ofV, nth, List.cons_append, List.nil_append, List.append_nil, undL, putO, put, List.length_cons, List.length_nil, Nat.reduceSub, Nat.reduceAdd, dBinT, dBin, dUn, Option.map, List.getElem?_toArray, List.toList_toArray, List.getElem?_cons_succ, List.getElem?_cons_zero, Option.bind, ge_iff_le, gt_iff_lt, resD, resL, resV, beq_true, beq_false, Option.some.injEq, List.map, Bool.not_true, Bool.not_false, Bool.false_eq_true, exists_eq_left', Bool.not_eq_true', decide_eq_true_eq, decide_eq_false_iff_not, ite_not, decide_true, decide_false, not_true_eq_false, not_false_eq_true, D.bool.injEq, if_true, if_false, and_true, true_and, ty3, ty4, ty31, ty23, sz3, z3, res_mk, dLen, dIdxA, dLoad, part, Ty.isA, D.cells, D.cells?, dField, dFieldA, dIdx, dFill, allCell, D.isCell, els, List.getElem?_map, Option.map_some, Int.toNat_natCast, List.length_map, Nat.lt_irrefl, Nat.zero_lt_one, Nat.zero_lt_succ, Option.some.injEq, Nat.le_refl, Nat.zero_add, Bool.false_eq_true, false_or, or_true, true_or, List.drop_zero, Int.natCast_nonneg, D.int.injEq, callee, Int.zero_le_ofNat, Nat.lt_add_one, List.getElem?_nil, dFill, rep, splice, List.take, List.drop, Nat.reduceMul, Nat.reduceLeDiff, Nat.reduceLT, Nat.reducePow, and_self, D.closedL, D.closed, Bool.and_self, bne_self_eq_false, beq_self_eq_true, bne, Bool.true_and, Bool.and_true, Bool.or_true, Bool.or_false])
      | (refine .body (by kernel_rfl) (PDen.to (fitR _) ?_))
      | rfl
      | split)
    refine loop_rule (Inv21c t xs) ?_ xs.length ⟨0, _, _, _, _, _, _, _, _, _, _, _, _, by omega, ha', rfl, rfl⟩
    clear ha'
    rintro m ts H ⟨i, g7, g8, g9, g10, g11, g12, g13, g14, g15, g16, g17, g18, him, hall, rfl, rfl⟩
    by_cases hi : i < xs.length
    · obtain ⟨x, hx, hd⟩ := lt_get hi
      have hi' : (i : Int) < (xs.length : Int) := by omega
      have hidx := idx hn hi
      have hI : I x = .int .i64 x := rfl
      rw [hd, List.all_cons] at hall
      by_cases hF : F x = true
      · rw [hF, Bool.true_and] at hall
        repeat' (first
          | (simp -implicitDefEqProofs only [*, Tryd.f21, ↓cwp_skip, ↓cwp_region, ↓cwp_drawn, ↓cwp_seq, ↓cwp_cond, ↓cwp_block, ↓cwp_loop, ↓cwp_exit, ↓cwp_ret, ↓kont_normal, ↓kont_exit, ↓kont_ret, ↓block_normal, ↓block_ret, ↓block_exit, ↓then_normal, ↓then_ret, ↓then_exit, ↓finF_normal, ↓finF_ret, ↓cseq_nil, ↓cseq_free, ↓cseq_cons, ↓seqK_go, ↓anyK_go, ↓caq_zero, ↓caq_nil, ↓caq_cons, ↓cStep_move, ↓cStep_assign, ↓cStep_eq, ↓cPure_eq, ↓cAny_eq, ↓anyP_go, fillT, fillH, ↓reduceIte, keeps, wantD, callee, aop, ev, ofV, nth, List.cons_append, List.nil_append, List.append_nil, undL, putO, put, List.length_cons, List.length_nil, Nat.reduceSub, Nat.reduceAdd, dBinT, dBin, dUn, Option.map, List.getElem?_toArray, List.toList_toArray, List.getElem?_cons_succ, List.getElem?_cons_zero, Option.bind, ge_iff_le, gt_iff_lt, resD, resL, resV, beq_true, beq_false, Option.some.injEq, List.map, Bool.not_true, Bool.not_false, Bool.false_eq_true, exists_eq_left', Bool.not_eq_true', decide_eq_true_eq, decide_eq_false_iff_not, ite_not, decide_true, decide_false, not_true_eq_false, not_false_eq_true, D.bool.injEq, if_true, if_false, and_true, true_and, ty3, ty4, ty31, ty23, sz3, z3, res_mk, dLen, dIdxA, dLoad, part, Ty.isA, D.cells, D.cells?, dField, dFieldA, dIdx, dFill, allCell, D.isCell, els, List.getElem?_map, Option.map_some, Int.toNat_natCast, List.length_map, Nat.lt_irrefl, Nat.zero_lt_one, Nat.zero_lt_succ, Option.some.injEq, Nat.le_refl, Nat.zero_add, Bool.false_eq_true, false_or, or_true, true_or, List.drop_zero, Int.natCast_nonneg, D.int.injEq, callee, Int.zero_le_ofNat, Nat.lt_add_one, List.getElem?_nil, dFill, rep, splice, List.take, List.drop, Nat.reduceMul, Nat.reduceLeDiff, Nat.reduceLT, Nat.reducePow, and_self, D.closedL, D.closed, Bool.and_self, bne_self_eq_false, beq_self_eq_true, bne, Bool.true_and, Bool.and_true, Bool.or_true, Bool.or_false])
          | (refine .body (by kernel_rfl) (PDen.to (fitR _) ?_))
          | rfl
          | split)
        exact ⟨m - 1, by omega, i + 1, _, _, _, _, _, _, _, _, _, _, _, _, by omega, hall, rfl, rfl⟩
      · have hF' : F x = false := by simpa using hF
        clear hF hall
        repeat' (first
          | (simp -implicitDefEqProofs only [*, Tryd.f21, ↓cwp_skip, ↓cwp_region, ↓cwp_drawn, ↓cwp_seq, ↓cwp_cond, ↓cwp_block, ↓cwp_loop, ↓cwp_exit, ↓cwp_ret, ↓kont_normal, ↓kont_exit, ↓kont_ret, ↓block_normal, ↓block_ret, ↓block_exit, ↓then_normal, ↓then_ret, ↓then_exit, ↓finF_normal, ↓finF_ret, ↓cseq_nil, ↓cseq_free, ↓cseq_cons, ↓seqK_go, ↓anyK_go, ↓caq_zero, ↓caq_nil, ↓caq_cons, ↓cStep_move, ↓cStep_assign, ↓cStep_eq, ↓cPure_eq, ↓cAny_eq, ↓anyP_go, fillT, fillH, ↓reduceIte, keeps, wantD, callee, aop, ev, ofV, nth, List.cons_append, List.nil_append, List.append_nil, undL, putO, put, List.length_cons, List.length_nil, Nat.reduceSub, Nat.reduceAdd, dBinT, dBin, dUn, Option.map, List.getElem?_toArray, List.toList_toArray, List.getElem?_cons_succ, List.getElem?_cons_zero, Option.bind, ge_iff_le, gt_iff_lt, resD, resL, resV, beq_true, beq_false, Option.some.injEq, List.map, Bool.not_true, Bool.not_false, Bool.false_eq_true, exists_eq_left', Bool.not_eq_true', decide_eq_true_eq, decide_eq_false_iff_not, ite_not, decide_true, decide_false, not_true_eq_false, not_false_eq_true, D.bool.injEq, if_true, if_false, and_true, true_and, ty3, ty4, ty31, ty23, sz3, z3, res_mk, dLen, dIdxA, dLoad, part, Ty.isA, D.cells, D.cells?, dField, dFieldA, dIdx, dFill, allCell, D.isCell, els, List.getElem?_map, Option.map_some, Int.toNat_natCast, List.length_map, Nat.lt_irrefl, Nat.zero_lt_one, Nat.zero_lt_succ, Option.some.injEq, Nat.le_refl, Nat.zero_add, Bool.false_eq_true, false_or, or_true, true_or, List.drop_zero, Int.natCast_nonneg, D.int.injEq, callee, Int.zero_le_ofNat, Nat.lt_add_one, List.getElem?_nil, dFill, rep, splice, List.take, List.drop, Nat.reduceMul, Nat.reduceLeDiff, Nat.reduceLT, Nat.reducePow, and_self, D.closedL, D.closed, Bool.and_self, bne_self_eq_false, beq_self_eq_true, bne, Bool.true_and, Bool.and_true, Bool.or_true, Bool.or_false])
          | (refine .body (by kernel_rfl) (PDen.to (fitR _) ?_))
          | rfl
          | split)
    · rw [List.drop_eq_nil_of_le (by omega)] at hall
      cases hall
theorem sums (ht : Tab E.h0 1 .u64 Lib.pow10Tab) (hg : E.g = fun _ => .und) (t : Bool) (xs : List Int) (a b : Int) : PDen Tryd.prog E 6 [.list t (xs.map I), .int .i64 a, .int .i64 b] (.bool true) := by
  refine pden_by (fn := Tryd.f6) mixed Tryd.func6 rfl (by simp only [D.closedL, D.closed, Bool.and_self]) rfl ?_
  by_cases h : (40 : Int) < xs.length
  · repeat' (first
      | (simp -implicitDefEqProofs only [*, Tryd.f6, ↓cwp_skip, ↓cwp_region, ↓cwp_drawn, ↓cwp_seq, ↓cwp_cond, ↓cwp_block, ↓cwp_loop, ↓cwp_exit, ↓cwp_ret, ↓kont_normal, ↓kont_exit, ↓kont_ret, ↓block_normal, ↓block_ret, ↓block_exit, ↓then_normal, ↓then_ret, ↓then_exit, ↓finF_normal, ↓finF_ret, ↓cseq_nil, ↓cseq_free, ↓cseq_cons, ↓seqK_go, ↓anyK_go, ↓caq_zero, ↓caq_nil, ↓caq_cons, ↓cStep_move, ↓cStep_assign, ↓cStep_eq, ↓cPure_eq, ↓cAny_eq, ↓anyP_go, fillT, fillH, ↓reduceIte, keeps, wantD, callee, aop, ev, ofV, nth, List.cons_append, List.nil_append, List.append_nil, undL, putO, put, List.length_cons, List.length_nil, Nat.reduceSub, Nat.reduceAdd, dBinT, dBin, dUn, Option.map, List.getElem?_toArray, List.toList_toArray, List.getElem?_cons_succ, List.getElem?_cons_zero, Option.bind, ge_iff_le, gt_iff_lt, resD, resL, resV, beq_true, beq_false, Option.some.injEq, List.map, Bool.not_true, Bool.not_false, Bool.false_eq_true, exists_eq_left', Bool.not_eq_true', decide_eq_true_eq, decide_eq_false_iff_not, ite_not, decide_true, decide_false, not_true_eq_false, not_false_eq_true, D.bool.injEq, if_true, if_false, and_true, true_and, ty3, ty4, ty31, ty23, sz3, z3, res_mk, dLen, dIdxA, dLoad, part, Ty.isA, D.cells, D.cells?, dField, dFieldA, dIdx, dFill, allCell, D.isCell, els, List.getElem?_map, Option.map_some, Int.toNat_natCast, List.length_map, Nat.lt_irrefl, Nat.zero_lt_one, Nat.zero_lt_succ, Option.some.injEq, Nat.le_refl, Nat.zero_add, Bool.false_eq_true, false_or, or_true, true_or, List.drop_zero, Int.natCast_nonneg, D.int.injEq, callee, Int.zero_le_ofNat, Nat.lt_add_one, List.getElem?_nil, dFill, rep, splice, List.take, List.drop, Nat.reduceMul, Nat.reduceLeDiff, Nat.reduceLT, Nat.reducePow, and_self, D.closedL, D.closed, Bool.and_self, bne_self_eq_false, beq_self_eq_true, bne, Bool.true_and, Bool.and_true, Bool.or_true, Bool.or_false])
      | (refine .body (by kernel_rfl) (PDen.to (awake ht hg) ?_))
      | rfl
      | split)
  · have hn : xs.length ≤ 4611686018427387904 := by omega
    repeat' (first
      | (simp -implicitDefEqProofs only [*, Tryd.f6, ↓cwp_skip, ↓cwp_region, ↓cwp_drawn, ↓cwp_seq, ↓cwp_cond, ↓cwp_block, ↓cwp_loop, ↓cwp_exit, ↓cwp_ret, ↓kont_normal, ↓kont_exit, ↓kont_ret, ↓block_normal, ↓block_ret, ↓block_exit, ↓then_normal, ↓then_ret, ↓then_exit, ↓finF_normal, ↓finF_ret, ↓cseq_nil, ↓cseq_free, ↓cseq_cons, ↓seqK_go, ↓anyK_go, ↓caq_zero, ↓caq_nil, ↓caq_cons, ↓cStep_move, ↓cStep_assign, ↓cStep_eq, ↓cPure_eq, ↓cAny_eq, ↓anyP_go, fillT, fillH, ↓reduceIte, keeps, wantD, callee, aop, ev, ofV, nth, List.cons_append, List.nil_append, List.append_nil, undL, putO, put, List.length_cons, List.length_nil, Nat.reduceSub, Nat.reduceAdd, dBinT, dBin, dUn, Option.map, List.getElem?_toArray, List.toList_toArray, List.getElem?_cons_succ, List.getElem?_cons_zero, Option.bind, ge_iff_le, gt_iff_lt, resD, resL, resV, beq_true, beq_false, Option.some.injEq, List.map, Bool.not_true, Bool.not_false, Bool.false_eq_true, exists_eq_left', Bool.not_eq_true', decide_eq_true_eq, decide_eq_false_iff_not, ite_not, decide_true, decide_false, not_true_eq_false, not_false_eq_true, D.bool.injEq, if_true, if_false, and_true, true_and, ty3, ty4, ty31, ty23, sz3, z3, res_mk, dLen, dIdxA, dLoad, part, Ty.isA, D.cells, D.cells?, dField, dFieldA, dIdx, dFill, allCell, D.isCell, els, List.getElem?_map, Option.map_some, Int.toNat_natCast, List.length_map, Nat.lt_irrefl, Nat.zero_lt_one, Nat.zero_lt_succ, Option.some.injEq, Nat.le_refl, Nat.zero_add, Bool.false_eq_true, false_or, or_true, true_or, List.drop_zero, Int.natCast_nonneg, D.int.injEq, callee, Int.zero_le_ofNat, Nat.lt_add_one, List.getElem?_nil, dFill, rep, splice, List.take, List.drop, Nat.reduceMul, Nat.reduceLeDiff, Nat.reduceLT, Nat.reducePow, and_self, D.closedL, D.closed, Bool.and_self, bne_self_eq_false, beq_self_eq_true, bne, Bool.true_and, Bool.and_true, Bool.or_true, Bool.or_false, res, dEqO, Bool.not_eq_false'])
      | (refine .body (by kernel_rfl) (PDen.to (awake ht hg) ?_))
      | (refine .body (by kernel_rfl) (PDen.to (sum _ _ hn) ?_))
      | (refine .body (by kernel_rfl) (PDen.to (sumR _ _ hn) ?_))
      | (refine .body (by kernel_rfl) (PDen.to (less _ _) ?_))
      | (refine .body (by kernel_rfl) (PDen.to (lessR _ _) ?_))
      | (refine .body (by kernel_rfl) (PDen.to (fit _) ?_))
      | (refine .body (by kernel_rfl) (PDen.to (fitR _) ?_))
      | (refine .body (by kernel_rfl) (PDen.to (shift _ _) ?_))
      | (refine .body (by kernel_rfl) (PDen.to (shiftR _ _) ?_))
      | (refine .body (by kernel_rfl) (PDen.to (times _ _) ?_))
      | (refine .body (by kernel_rfl) (PDen.to (timesR _ _) ?_))
      | rfl
      | split)
end Go.Lv
