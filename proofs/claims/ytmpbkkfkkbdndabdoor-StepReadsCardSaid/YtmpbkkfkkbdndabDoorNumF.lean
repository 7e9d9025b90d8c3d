/- Num: the reference's digits. -/
import Derived.Test.YtmpbkkfkkbdndabDoorBaseB
namespace Go.Lv
open Go Go.Proofs Go.IntWalk
set_option maxRecDepth 100000
set_option linter.unusedSimpArgs false
variable {E : Env}
theorem dec_small {u : Nat} (h : u < 10) : Lib.decDigits u = [UInt8.ofNat (48 + u)] := by rw [Lib.decDigits, dif_pos h]
theorem dec_big {q d : Nat} (hd : d < 10) (hq : 1 ≤ q) : Lib.decDigits (10 * q + d) = Lib.decDigits q ++ [UInt8.ofNat (48 + d)] := by
  rw [Lib.decDigits, dif_neg (by omega)]
  have h1 : (10 * q + d) / 10 = q := by omega
  have h2 : (10 * q + d) % 10 = d := by omega
  rw [h1, h2]
theorem dec_len (u : Nat) (h : u < 10 ^ 20) : (Lib.decDigits u).length ≤ 20 := by
  rw [← digs_eq 19 u h]
  have : ∀ k u, (digs k u).length ≤ k + 1 := by
    intro k
    induction k with
    | zero => intro u; simp [digs]
    | succ k ih =>
      intro u
      simp only [digs]
      split
      · simp
      · have := ih (u / 10)
        simp
        omega
  exact this 19 u
def Inv17p (n : Int) (u : Nat) (m : Nat) (ts : List D) (H : Hp) : Prop := ∃ (k : Nat) (s : List UInt8) (g5 g6 g7 g8 g9 g10 g11 g12 g13 g14 g15 g16 g17 g18 g19 g20 g21 g22 g23 g24 g25 g26 g27 g28 g29 g30 g31 g32 g33 g34 g35 g36 g37 g38 g39 g40 g41 g42 g43 g44 : D), (k = m) ∧ (k ≤ 9223372036854775807) ∧ (Lib.decDigits u = Lib.decDigits k ++ s) ∧ H = [] ∧ ts = [D.int IntKind.i64 n, D.und, D.str [], D.str s, D.int IntKind.i64 (k : Int), g5, g6, g7, g8, g9, g10, g11, g12, g13, g14, g15, g16, g17, g18, g19, g20, g21, g22, g23, g24, g25, g26, g27, g28, g29, g30, g31, g32, g33, g34, g35, g36, g37, g38, g39, g40, g41, g42, g43, g44]
def Inv17n (n : Int) (u : Nat) (m : Nat) (ts : List D) (H : Hp) : Prop := ∃ (k : Nat) (s : List UInt8) (g5 g6 g7 g8 g9 g10 g11 g12 g13 g14 g15 g16 g17 g18 g19 g20 g21 g22 g23 g24 g25 g26 g27 g28 g29 g30 g31 g32 g33 g34 g35 g36 g37 g38 g39 g40 g41 g42 g43 g44 : D), (k = m) ∧ (1 ≤ k ∧ k ≤ 9223372036854775808) ∧ (Lib.decDigits u = Lib.decDigits k ++ s) ∧ H = [] ∧ ts = [D.int IntKind.i64 n, D.und, D.str [], D.str s, D.int IntKind.i64 (-(k : Int)), g5, g6, g7, g8, g9, g10, g11, g12, g13, g14, g15, g16, g17, g18, g19, g20, g21, g22, g23, g24, g25, g26, g27, g28, g29, g30, g31, g32, g33, g34, g35, g36, g37, g38, g39, g40, g41, g42, g43, g44]
theorem digits_pos (u : Nat) (hu : u ≤ 9223372036854775807) : PDen Tryd.prog E 54 [.int .i64 (u : Int)] (.str (Lib.decDigits u)) := by
  refine pden_by (fn := Tryd.f54) mixed Tryd.func54 rfl rfl rfl ?_
  have hlen := dec_len u (by omega)
  generalize hr : Lib.decDigits u = r at hlen ⊢
  repeat' (first
    | (simp -implicitDefEqProofs only [*, Tryd.f54, ↓cwp_skip, ↓cwp_region, ↓cwp_drawn, ↓cwp_seq, ↓cwp_cond, ↓cwp_block, ↓cwp_loop, ↓cwp_exit, ↓cwp_ret, ↓kont_normal, ↓kont_exit, ↓kont_ret, ↓block_normal, ↓block_ret, ↓block_exit, ↓then_normal, ↓then_ret, ↓then_exit, ↓finF_normal, ↓finF_ret, ↓cseq_nil, ↓cseq_free, ↓cseq_cons, ↓seqK_go, ↓anyK_go, ↓caq_zero, ↓caq_nil, ↓caq_cons, ↓cStep_move, ↓cStep_assign, ↓cStep_eq, ↓cPure_eq, ↓reduceIte, keeps, wantD, callee, aop, ev, ofV, nth, List.cons_append, List.nil_append, List.append_nil, undL, putO, put, List.length_cons, List.length_nil, Nat.reduceSub, Nat.reduceAdd, dBinT, dBin, dUn, Option.map, List.getElem?_toArray, List.toList_toArray, List.getElem?_cons_succ, List.getElem?_cons_zero, Option.bind, ge_iff_le, gt_iff_lt, resD, resL, resV, beq_true, beq_false, Option.some.injEq, List.map, Bool.not_true, Bool.not_false, Bool.false_eq_true, exists_eq_left', Bool.not_eq_true', decide_eq_true_eq, decide_eq_false_iff_not, ite_not, decide_true, decide_false, not_true_eq_false, not_false_eq_true, D.bool.injEq, if_true, if_false, and_true, true_and, ty3, ty4, ty5, ty9, ty87, z5, dLen, dIdxA, dLoad, part, Ty.isA, D.cells, D.cells?, dField, dFieldA, dIdx, dFill, allCell, D.isCell, els, List.getElem?_map, Option.map_some, Int.toNat_natCast, List.length_map, Nat.lt_irrefl, Nat.zero_lt_one, Nat.zero_lt_succ, Option.some.injEq, Nat.le_refl, Nat.zero_add, Bool.false_eq_true, false_or, or_true, true_or, List.drop_zero, Int.natCast_nonneg, D.int.injEq, callee, Int.zero_le_ofNat, Nat.lt_add_one, List.getElem?_nil, dFill, rep, splice, List.take, List.drop, Nat.reduceMul, Nat.reduceLeDiff, Nat.reduceLT, Nat.reducePow, and_self, D.closedL, D.closed, Bool.and_self, bne_self_eq_false, beq_self_eq_true, bne, Bool.true_and, Bool.and_true, Bool.or_true, Bool.or_false, dConvH, dConv, dBytes, srcCells, bytesOfD, allSz, List.all_cons, List.all_nil, List.flatMap_cons, List.flatMap_nil, beq_self_eq_true, Bool.and_true, List.length_singleton, List.singleton_append, Nat.reduceAdd])
    | rfl
    | split)
  refine loop_rule (Inv17p (u : Int) u) ?_ u ⟨u, [], _, _, _, _, _, _, _, _, _, _, _, _, _, _, _, _, _, _, _, _, _, _, _, _, _, _, _, _, _, _, _, _, _, _, _, _, _, _, _, _, rfl, hu, by rw [List.append_nil], rfl, rfl⟩
  rintro m ts H ⟨k, s, g5, g6, g7, g8, g9, g10, g11, g12, g13, g14, g15, g16, g17, g18, g19, g20, g21, g22, g23, g24, g25, g26, g27, g28, g29, g30, g31, g32, g33, g34, g35, g36, g37, g38, g39, g40, g41, g42, g43, g44, rfl, hk, hdec, rfl, rfl⟩
  rw [hr] at hdec
  by_cases h10 : 10 ≤ (k : Int)
  · obtain ⟨q, d, hkq, hd⟩ : ∃ q d, k = 10 * q + d ∧ d < 10 := ⟨k / 10, k % 10, by omega, by omega⟩
    have hq : 1 ≤ q := by omega
    have hs : s.length ≤ 20 := by
      have := congrArg List.length hdec
      rw [List.length_append] at this
      omega
    have e1 : Int.tmod (k : Int) 10 = (d : Int) := by rw [Int.tmod_eq_emod_of_nonneg (by omega)]; omega
    have e2 : IntKind.i64.wrap (Int.tdiv (k : Int) 10) = (q : Int) := by rw [i64_quo _ _ (by omega)]; omega
    have e3 : ¬ (d : Int) < 0 := by omega
    have e4 : IntKind.i64.wrap (48 + (d : Int)) = 48 + (d : Int) := i64_in _ (by omega)
    have e5 : IntKind.u8.wrap (48 + (d : Int)) = 48 + (d : Int) := u8_in _ (by omega)
    have e6 : 0 ≤ 48 + (d : Int) := by omega
    have e7 : 48 + (d : Int) ≤ 255 := by omega
    have e8 : (48 + (d : Int)).toNat = 48 + d := by omega
    have e9 : 1 + s.length ≤ 4611686018427387904 := by omega
    have e10 : ¬ (10 : Int) = 0 := by omega
    rw [hkq, dec_big hd hq, List.append_assoc] at hdec
    have hqk : q < k := by omega
    have hq9 : q ≤ 9223372036854775807 := by omega
    clear hlen hs hkq
    subst hr
    repeat' (first
      | (simp -implicitDefEqProofs only [*, Tryd.f54, ↓cwp_skip, ↓cwp_region, ↓cwp_drawn, ↓cwp_seq, ↓cwp_cond, ↓cwp_block, ↓cwp_loop, ↓cwp_exit, ↓cwp_ret, ↓kont_normal, ↓kont_exit, ↓kont_ret, ↓block_normal, ↓block_ret, ↓block_exit, ↓then_normal, ↓then_ret, ↓then_exit, ↓finF_normal, ↓finF_ret, ↓cseq_nil, ↓cseq_free, ↓cseq_cons, ↓seqK_go, ↓anyK_go, ↓caq_zero, ↓caq_nil, ↓caq_cons, ↓cStep_move, ↓cStep_assign, ↓cStep_eq, ↓cPure_eq, ↓reduceIte, keeps, wantD, callee, aop, ev, ofV, nth, List.cons_append, List.nil_append, List.append_nil, undL, putO, put, List.length_cons, List.length_nil, Nat.reduceSub, Nat.reduceAdd, dBinT, dBin, dUn, Option.map, List.getElem?_toArray, List.toList_toArray, List.getElem?_cons_succ, List.getElem?_cons_zero, Option.bind, ge_iff_le, gt_iff_lt, resD, resL, resV, beq_true, beq_false, Option.some.injEq, List.map, Bool.not_true, Bool.not_false, Bool.false_eq_true, exists_eq_left', Bool.not_eq_true', decide_eq_true_eq, decide_eq_false_iff_not, ite_not, decide_true, decide_false, not_true_eq_false, not_false_eq_true, D.bool.injEq, if_true, if_false, and_true, true_and, ty3, ty4, ty5, ty9, ty87, z5, dLen, dIdxA, dLoad, part, Ty.isA, D.cells, D.cells?, dField, dFieldA, dIdx, dFill, allCell, D.isCell, els, List.getElem?_map, Option.map_some, Int.toNat_natCast, List.length_map, Nat.lt_irrefl, Nat.zero_lt_one, Nat.zero_lt_succ, Option.some.injEq, Nat.le_refl, Nat.zero_add, Bool.false_eq_true, false_or, or_true, true_or, List.drop_zero, Int.natCast_nonneg, D.int.injEq, callee, Int.zero_le_ofNat, Nat.lt_add_one, List.getElem?_nil, dFill, rep, splice, List.take, List.drop, Nat.reduceMul, Nat.reduceLeDiff, Nat.reduceLT, Nat.reducePow, and_self, D.closedL, D.closed, Bool.and_self, bne_self_eq_false, beq_self_eq_true, bne, Bool.true_and, Bool.and_true, Bool.or_true, Bool.or_false, dConvH, dConv, dBytes, srcCells, bytesOfD, allSz, List.all_cons, List.all_nil, List.flatMap_cons, List.flatMap_nil, beq_self_eq_true, Bool.and_true, List.length_singleton, List.singleton_append, Nat.reduceAdd])
      | rfl
      | split)
    exact ⟨q, hqk, q, _, _, _, _, _, _, _, _, _, _, _, _, _, _, _, _, _, _, _, _, _, _, _, _, _, _, _, _, _, _, _, _, _, _, _, _, _, _, _, _, _, rfl, hq9, hdec, rfl, rfl⟩
  · have hk0 : ¬ (k : Int) ≤ -10 := by omega
    have hs : s.length ≤ 20 := by
      have := congrArg List.length hdec
      rw [List.length_append] at this
      omega
    have e3 : ¬ (k : Int) < 0 := by omega
    have e4 : IntKind.i64.wrap (48 + (k : Int)) = 48 + (k : Int) := i64_in _ (by omega)
    have e5 : IntKind.u8.wrap (48 + (k : Int)) = 48 + (k : Int) := u8_in _ (by omega)
    have e6 : 0 ≤ 48 + (k : Int) := by omega
    have e7 : 48 + (k : Int) ≤ 255 := by omega
    have e8 : (48 + (k : Int)).toNat = 48 + k := by omega
    have e9 : 1 + s.length ≤ 4611686018427387904 := by omega
    rw [dec_small (by omega)] at hdec
    have hdec' := hdec.symm
    subst hr
    clear hdec hlen hs
    repeat' (first
      | (simp -implicitDefEqProofs only [*, Tryd.f54, ↓cwp_skip, ↓cwp_region, ↓cwp_drawn, ↓cwp_seq, ↓cwp_cond, ↓cwp_block, ↓cwp_loop, ↓cwp_exit, ↓cwp_ret, ↓kont_normal, ↓kont_exit, ↓kont_ret, ↓block_normal, ↓block_ret, ↓block_exit, ↓then_normal, ↓then_ret, ↓then_exit, ↓finF_normal, ↓finF_ret, ↓cseq_nil, ↓cseq_free, ↓cseq_cons, ↓seqK_go, ↓anyK_go, ↓caq_zero, ↓caq_nil, ↓caq_cons, ↓cStep_move, ↓cStep_assign, ↓cStep_eq, ↓cPure_eq, ↓reduceIte, keeps, wantD, callee, aop, ev, ofV, nth, List.cons_append, List.nil_append, List.append_nil, undL, putO, put, List.length_cons, List.length_nil, Nat.reduceSub, Nat.reduceAdd, dBinT, dBin, dUn, Option.map, List.getElem?_toArray, List.toList_toArray, List.getElem?_cons_succ, List.getElem?_cons_zero, Option.bind, ge_iff_le, gt_iff_lt, resD, resL, resV, beq_true, beq_false, Option.some.injEq, List.map, Bool.not_true, Bool.not_false, Bool.false_eq_true, exists_eq_left', Bool.not_eq_true', decide_eq_true_eq, decide_eq_false_iff_not, ite_not, decide_true, decide_false, not_true_eq_false, not_false_eq_true, D.bool.injEq, if_true, if_false, and_true, true_and, ty3, ty4, ty5, ty9, ty87, z5, dLen, dIdxA, dLoad, part, Ty.isA, D.cells, D.cells?, dField, dFieldA, dIdx, dFill, allCell, D.isCell, els, List.getElem?_map, Option.map_some, Int.toNat_natCast, List.length_map, Nat.lt_irrefl, Nat.zero_lt_one, Nat.zero_lt_succ, Option.some.injEq, Nat.le_refl, Nat.zero_add, Bool.false_eq_true, false_or, or_true, true_or, List.drop_zero, Int.natCast_nonneg, D.int.injEq, callee, Int.zero_le_ofNat, Nat.lt_add_one, List.getElem?_nil, dFill, rep, splice, List.take, List.drop, Nat.reduceMul, Nat.reduceLeDiff, Nat.reduceLT, Nat.reducePow, and_self, D.closedL, D.closed, Bool.and_self, bne_self_eq_false, beq_self_eq_true, bne, Bool.true_and, Bool.and_true, Bool.or_true, Bool.or_false, dConvH, dConv, dBytes, srcCells, bytesOfD, allSz, List.all_cons, List.all_nil, List.flatMap_cons, List.flatMap_nil, beq_self_eq_true, Bool.and_true, List.length_singleton, List.singleton_append, Nat.reduceAdd])
      | rfl
      | split)
theorem digits_neg (u : Nat) (h1 : 1 ≤ u) (hu : u ≤ 9223372036854775808) : PDen Tryd.prog E 54 [.int .i64 (-(u : Int))] (.str (45 :: Lib.decDigits u)) := by
  refine pden_by (fn := Tryd.f54) mixed Tryd.func54 rfl rfl rfl ?_
  have hlen := dec_len u (by omega)
  generalize hr : Lib.decDigits u = r at hlen ⊢
  repeat' (first
    | (simp -implicitDefEqProofs only [*, Tryd.f54, ↓cwp_skip, ↓cwp_region, ↓cwp_drawn, ↓cwp_seq, ↓cwp_cond, ↓cwp_block, ↓cwp_loop, ↓cwp_exit, ↓cwp_ret, ↓kont_normal, ↓kont_exit, ↓kont_ret, ↓block_normal, ↓block_ret, ↓block_exit, ↓then_normal, ↓then_ret, ↓then_exit, ↓finF_normal, ↓finF_ret, ↓cseq_nil, ↓cseq_free, ↓cseq_cons, ↓seqK_go, ↓anyK_go, ↓caq_zero, ↓caq_nil, ↓caq_cons, ↓cStep_move, ↓cStep_assign, ↓cStep_eq, ↓cPure_eq, ↓reduceIte, keeps, wantD, callee, aop, ev, ofV, nth, List.cons_append, List.nil_append, List.append_nil, undL, putO, put, List.length_cons, List.length_nil, Nat.reduceSub, Nat.reduceAdd, dBinT, dBin, dUn, Option.map, List.getElem?_toArray, List.toList_toArray, List.getElem?_cons_succ, List.getElem?_cons_zero, Option.bind, ge_iff_le, gt_iff_lt, resD, resL, resV, beq_true, beq_false, Option.some.injEq, List.map, Bool.not_true, Bool.not_false, Bool.false_eq_true, exists_eq_left', Bool.not_eq_true', decide_eq_true_eq, decide_eq_false_iff_not, ite_not, decide_true, decide_false, not_true_eq_false, not_false_eq_true, D.bool.injEq, if_true, if_false, and_true, true_and, ty3, ty4, ty5, ty9, ty87, z5, dLen, dIdxA, dLoad, part, Ty.isA, D.cells, D.cells?, dField, dFieldA, dIdx, dFill, allCell, D.isCell, els, List.getElem?_map, Option.map_some, Int.toNat_natCast, List.length_map, Nat.lt_irrefl, Nat.zero_lt_one, Nat.zero_lt_succ, Option.some.injEq, Nat.le_refl, Nat.zero_add, Bool.false_eq_true, false_or, or_true, true_or, List.drop_zero, Int.natCast_nonneg, D.int.injEq, callee, Int.zero_le_ofNat, Nat.lt_add_one, List.getElem?_nil, dFill, rep, splice, List.take, List.drop, Nat.reduceMul, Nat.reduceLeDiff, Nat.reduceLT, Nat.reducePow, and_self, D.closedL, D.closed, Bool.and_self, bne_self_eq_false, beq_self_eq_true, bne, Bool.true_and, Bool.and_true, Bool.or_true, Bool.or_false, dConvH, dConv, dBytes, srcCells, bytesOfD, allSz, List.all_cons, List.all_nil, List.flatMap_cons, List.flatMap_nil, beq_self_eq_true, Bool.and_true, List.length_singleton, List.singleton_append, Nat.reduceAdd])
    | rfl
    | split)
  refine loop_rule (Inv17n (-(u : Int)) u) ?_ u ⟨u, [], _, _, _, _, _, _, _, _, _, _, _, _, _, _, _, _, _, _, _, _, _, _, _, _, _, _, _, _, _, _, _, _, _, _, _, _, _, _, _, _, rfl, ⟨h1, hu⟩, by rw [List.append_nil], rfl, rfl⟩
  rintro m ts H ⟨k, s, g5, g6, g7, g8, g9, g10, g11, g12, g13, g14, g15, g16, g17, g18, g19, g20, g21, g22, g23, g24, g25, g26, g27, g28, g29, g30, g31, g32, g33, g34, g35, g36, g37, g38, g39, g40, g41, g42, g43, g44, rfl, ⟨hk1, hk⟩, hdec, rfl, rfl⟩
  rw [hr] at hdec
  have h10' : ¬ 10 ≤ -(k : Int) := by omega
  have hs : s.length ≤ 20 := by
    have := congrArg List.length hdec
    rw [List.length_append] at this
    omega
  have e9 : 1 + s.length ≤ 4611686018427387904 := by omega
  have e9' : 2 + s.length ≤ 4611686018427387904 := by omega
  by_cases h10 : -(k : Int) ≤ -10
  · obtain ⟨q, d, hkq, hd⟩ : ∃ q d, k = 10 * q + d ∧ d < 10 := ⟨k / 10, k % 10, by omega, by omega⟩
    have hq : 1 ≤ q := by omega
    have e1 : Int.tmod (-(k : Int)) 10 = -(d : Int) := by rw [Int.neg_tmod, Int.tmod_eq_emod_of_nonneg (by omega)]; omega
    have e2 : IntKind.i64.wrap (Int.tdiv (-(k : Int)) 10) = -(q : Int) := by
      rw [Int.neg_tdiv, Int.tdiv_eq_ediv_of_nonneg (by omega), i64_in _ (by omega)]
      omega
    have e10 : ¬ (10 : Int) = 0 := by omega
    rw [hkq, dec_big hd hq, List.append_assoc] at hdec
    have hqk : q < k := by omega
    have hq9 : q ≤ 9223372036854775808 := by omega
    clear hlen hs hkq
    subst hr
    by_cases hd0 : d = 0
    · subst hd0
      have e1' : Int.tmod (-(k : Int)) 10 = 0 := by rw [e1]; rfl
      have e3 : ¬ (0 : Int) < 0 := by omega
      have e4 : IntKind.i64.wrap (48 + 0) = 48 := i64_in _ (by omega)
      have e5 : IntKind.u8.wrap 48 = 48 := u8_in _ (by omega)
      have e6 : (0 : Int) ≤ 48 := by omega
      have e7 : (48 : Int) ≤ 255 := by omega
      have e8 : (48 : Int).toNat = 48 := by rfl
      clear e1
      repeat' (first
        | (simp -implicitDefEqProofs only [*, Tryd.f54, ↓cwp_skip, ↓cwp_region, ↓cwp_drawn, ↓cwp_seq, ↓cwp_cond, ↓cwp_block, ↓cwp_loop, ↓cwp_exit, ↓cwp_ret, ↓kont_normal, ↓kont_exit, ↓kont_ret, ↓block_normal, ↓block_ret, ↓block_exit, ↓then_normal, ↓then_ret, ↓then_exit, ↓finF_normal, ↓finF_ret, ↓cseq_nil, ↓cseq_free, ↓cseq_cons, ↓seqK_go, ↓anyK_go, ↓caq_zero, ↓caq_nil, ↓caq_cons, ↓cStep_move, ↓cStep_assign, ↓cStep_eq, ↓cPure_eq, ↓reduceIte, keeps, wantD, callee, aop, ev, ofV, nth, List.cons_append, List.nil_append, List.append_nil, undL, putO, put, List.length_cons, List.length_nil, Nat.reduceSub, Nat.reduceAdd, dBinT, dBin, dUn, Option.map, List.getElem?_toArray, List.toList_toArray, List.getElem?_cons_succ, List.getElem?_cons_zero, Option.bind, ge_iff_le, gt_iff_lt, resD, resL, resV, beq_true, beq_false, Option.some.injEq, List.map, Bool.not_true, Bool.not_false, Bool.false_eq_true, exists_eq_left', Bool.not_eq_true', decide_eq_true_eq, decide_eq_false_iff_not, ite_not, decide_true, decide_false, not_true_eq_false, not_false_eq_true, D.bool.injEq, if_true, if_false, and_true, true_and, ty3, ty4, ty5, ty9, ty87, z5, dLen, dIdxA, dLoad, part, Ty.isA, D.cells, D.cells?, dField, dFieldA, dIdx, dFill, allCell, D.isCell, els, List.getElem?_map, Option.map_some, Int.toNat_natCast, List.length_map, Nat.lt_irrefl, Nat.zero_lt_one, Nat.zero_lt_succ, Option.some.injEq, Nat.le_refl, Nat.zero_add, Bool.false_eq_true, false_or, or_true, true_or, List.drop_zero, Int.natCast_nonneg, D.int.injEq, callee, Int.zero_le_ofNat, Nat.lt_add_one, List.getElem?_nil, dFill, rep, splice, List.take, List.drop, Nat.reduceMul, Nat.reduceLeDiff, Nat.reduceLT, Nat.reducePow, and_self, D.closedL, D.closed, Bool.and_self, bne_self_eq_false, beq_self_eq_true, bne, Bool.true_and, Bool.and_true, Bool.or_true, Bool.or_false, dConvH, dConv, dBytes, srcCells, bytesOfD, allSz, List.all_cons, List.all_nil, List.flatMap_cons, List.flatMap_nil, beq_self_eq_true, Bool.and_true, List.length_singleton, List.singleton_append, Nat.reduceAdd])
        | rfl
        | split)
      exact ⟨q, hqk, q, _, _, _, _, _, _, _, _, _, _, _, _, _, _, _, _, _, _, _, _, _, _, _, _, _, _, _, _, _, _, _, _, _, _, _, _, _, _, _, _, _, rfl, ⟨hq, hq9⟩, hdec, rfl, rfl⟩
    · have e3 : -(d : Int) < 0 := by omega
      have e3' : IntKind.i64.wrap (0 - -(d : Int)) = (d : Int) := by rw [i64_in _ (by omega)]; omega
      have e4 : IntKind.i64.wrap (48 + (d : Int)) = 48 + (d : Int) := i64_in _ (by omega)
      have e5 : IntKind.u8.wrap (48 + (d : Int)) = 48 + (d : Int) := u8_in _ (by omega)
      have e6 : 0 ≤ 48 + (d : Int) := by omega
      have e7 : 48 + (d : Int) ≤ 255 := by omega
      have e8 : (48 + (d : Int)).toNat = 48 + d := by omega
      clear hd0
      repeat' (first
        | (simp -implicitDefEqProofs only [*, Tryd.f54, ↓cwp_skip, ↓cwp_region, ↓cwp_drawn, ↓cwp_seq, ↓cwp_cond, ↓cwp_block, ↓cwp_loop, ↓cwp_exit, ↓cwp_ret, ↓kont_normal, ↓kont_exit, ↓kont_ret, ↓block_normal, ↓block_ret, ↓block_exit, ↓then_normal, ↓then_ret, ↓then_exit, ↓finF_normal, ↓finF_ret, ↓cseq_nil, ↓cseq_free, ↓cseq_cons, ↓seqK_go, ↓anyK_go, ↓caq_zero, ↓caq_nil, ↓caq_cons, ↓cStep_move, ↓cStep_assign, ↓cStep_eq, ↓cPure_eq, ↓reduceIte, keeps, wantD, callee, aop, ev, ofV, nth, List.cons_append, List.nil_append, List.append_nil, undL, putO, put, List.length_cons, List.length_nil, Nat.reduceSub, Nat.reduceAdd, dBinT, dBin, dUn, Option.map, List.getElem?_toArray, List.toList_toArray, List.getElem?_cons_succ, List.getElem?_cons_zero, Option.bind, ge_iff_le, gt_iff_lt, resD, resL, resV, beq_true, beq_false, Option.some.injEq, List.map, Bool.not_true, Bool.not_false, Bool.false_eq_true, exists_eq_left', Bool.not_eq_true', decide_eq_true_eq, decide_eq_false_iff_not, ite_not, decide_true, decide_false, not_true_eq_false, not_false_eq_true, D.bool.injEq, if_true, if_false, and_true, true_and, ty3, ty4, ty5, ty9, ty87, z5, dLen, dIdxA, dLoad, part, Ty.isA, D.cells, D.cells?, dField, dFieldA, dIdx, dFill, allCell, D.isCell, els, List.getElem?_map, Option.map_some, Int.toNat_natCast, List.length_map, Nat.lt_irrefl, Nat.zero_lt_one, Nat.zero_lt_succ, Option.some.injEq, Nat.le_refl, Nat.zero_add, Bool.false_eq_true, false_or, or_true, true_or, List.drop_zero, Int.natCast_nonneg, D.int.injEq, callee, Int.zero_le_ofNat, Nat.lt_add_one, List.getElem?_nil, dFill, rep, splice, List.take, List.drop, Nat.reduceMul, Nat.reduceLeDiff, Nat.reduceLT, Nat.reducePow, and_self, D.closedL, D.closed, Bool.and_self, bne_self_eq_false, beq_self_eq_true, bne, Bool.true_and, Bool.and_true, Bool.or_true, Bool.or_false, dConvH, dConv, dBytes, srcCells, bytesOfD, allSz, List.all_cons, List.all_nil, List.flatMap_cons, List.flatMap_nil, beq_self_eq_true, Bool.and_true, List.length_singleton, List.singleton_append, Nat.reduceAdd])
        | rfl
        | split)
      exact ⟨q, hqk, q, _, _, _, _, _, _, _, _, _, _, _, _, _, _, _, _, _, _, _, _, _, _, _, _, _, _, _, _, _, _, _, _, _, _, _, _, _, _, _, _, _, rfl, ⟨hq, hq9⟩, hdec, rfl, rfl⟩
  · have e3 : -(k : Int) < 0 := by omega
    have e4 : IntKind.i64.wrap (48 - -(k : Int)) = 48 + (k : Int) := by rw [i64_in _ (by omega)]; omega
    have e5 : IntKind.u8.wrap (48 + (k : Int)) = 48 + (k : Int) := u8_in _ (by omega)
    have e6 : 0 ≤ 48 + (k : Int) := by omega
    have e7 : 48 + (k : Int) ≤ 255 := by omega
    have e8 : (48 + (k : Int)).toNat = 48 + k := by omega
    rw [dec_small (by omega)] at hdec
    subst hr
    have hdec' := hdec
    clear hdec hlen hs
    repeat' (first
      | (simp -implicitDefEqProofs only [*, Tryd.f54, ↓cwp_skip, ↓cwp_region, ↓cwp_drawn, ↓cwp_seq, ↓cwp_cond, ↓cwp_block, ↓cwp_loop, ↓cwp_exit, ↓cwp_ret, ↓kont_normal, ↓kont_exit, ↓kont_ret, ↓block_normal, ↓block_ret, ↓block_exit, ↓then_normal, ↓then_ret, ↓then_exit, ↓finF_normal, ↓finF_ret, ↓cseq_nil, ↓cseq_free, ↓cseq_cons, ↓seqK_go, ↓anyK_go, ↓caq_zero, ↓caq_nil, ↓caq_cons, ↓cStep_move, ↓cStep_assign, ↓cStep_eq, ↓cPure_eq, ↓reduceIte, keeps, wantD, callee, aop, ev, ofV, nth, List.cons_append, List.nil_append, List.append_nil, undL, putO, put, List.length_cons, List.length_nil, Nat.reduceSub, Nat.reduceAdd, dBinT, dBin, dUn, Option.map, List.getElem?_toArray, List.toList_toArray, List.getElem?_cons_succ, List.getElem?_cons_zero, Option.bind, ge_iff_le, gt_iff_lt, resD, resL, resV, beq_true, beq_false, Option.some.injEq, List.map, Bool.not_true, Bool.not_false, Bool.false_eq_true, exists_eq_left', Bool.not_eq_true', decide_eq_true_eq, decide_eq_false_iff_not, ite_not, decide_true, decide_false, not_true_eq_false, not_false_eq_true, D.bool.injEq, if_true, if_false, and_true, true_and, ty3, ty4, ty5, ty9, ty87, z5, dLen, dIdxA, dLoad, part, Ty.isA, D.cells, D.cells?, dField, dFieldA, dIdx, dFill, allCell, D.isCell, els, List.getElem?_map, Option.map_some, Int.toNat_natCast, List.length_map, Nat.lt_irrefl, Nat.zero_lt_one, Nat.zero_lt_succ, Option.some.injEq, Nat.le_refl, Nat.zero_add, Bool.false_eq_true, false_or, or_true, true_or, List.drop_zero, Int.natCast_nonneg, D.int.injEq, callee, Int.zero_le_ofNat, Nat.lt_add_one, List.getElem?_nil, dFill, rep, splice, List.take, List.drop, Nat.reduceMul, Nat.reduceLeDiff, Nat.reduceLT, Nat.reducePow, and_self, D.closedL, D.closed, Bool.and_self, bne_self_eq_false, beq_self_eq_true, bne, Bool.true_and, Bool.and_true, Bool.or_true, Bool.or_false, dConvH, dConv, dBytes, srcCells, bytesOfD, allSz, List.all_cons, List.all_nil, List.flatMap_cons, List.flatMap_nil, beq_self_eq_true, Bool.and_true, List.length_singleton, List.singleton_append, Nat.reduceAdd])
      | rfl
      | split)
theorem digitsR (n : Int) (h0 : -9223372036854775808 ≤ n) (h1 : n ≤ 9223372036854775807) : PDen Tryd.prog E 54 [.int .i64 n] (.str (itoaD n)) := by
  rw [itoaD_eq h0 h1]
  unfold Lib.itoa
  by_cases hn : n < 0
  · rw [if_pos hn]
    have e : n = -(n.natAbs : Int) := by omega
    have := digits_neg (E := E) n.natAbs (by omega) (by omega)
    rwa [← e] at this
  · rw [if_neg hn]
    have e : n = (n.toNat : Int) := by omega
    have := digits_pos (E := E) n.toNat (by omega)
    rwa [← e] at this
theorem digits (ht : Tab E.h0 3 .u64 Lib.pow10Tab) (n : Int) (h0 : -9223372036854775808 ≤ n) (h1 : n ≤ 9223372036854775807) : PDen Tryd.prog E 49 [.int .i64 n] (.str (itoaD n)) := by
  refine pden_by (fn := Tryd.f49) mixed Tryd.func49 rfl rfl rfl ?_
  repeat' (first
    | (simp -implicitDefEqProofs only [*, Tryd.f49, ↓cwp_skip, ↓cwp_region, ↓cwp_drawn, ↓cwp_seq, ↓cwp_cond, ↓cwp_block, ↓cwp_loop, ↓cwp_exit, ↓cwp_ret, ↓kont_normal, ↓kont_exit, ↓kont_ret, ↓block_normal, ↓block_ret, ↓block_exit, ↓then_normal, ↓then_ret, ↓then_exit, ↓finF_normal, ↓finF_ret, ↓cseq_nil, ↓cseq_free, ↓cseq_cons, ↓seqK_go, ↓anyK_go, ↓caq_zero, ↓caq_nil, ↓caq_cons, ↓cStep_move, ↓cStep_assign, ↓cStep_eq, ↓cPure_eq, ↓reduceIte, keeps, wantD, callee, aop, ev, ofV, nth, List.cons_append, List.nil_append, List.append_nil, undL, putO, put, List.length_cons, List.length_nil, Nat.reduceSub, Nat.reduceAdd, dBinT, dBin, dUn, Option.map, List.getElem?_toArray, List.toList_toArray, List.getElem?_cons_succ, List.getElem?_cons_zero, Option.bind, ge_iff_le, gt_iff_lt, resD, resL, resV, beq_true, beq_false, Option.some.injEq, List.map, Bool.not_true, Bool.not_false, Bool.false_eq_true, exists_eq_left', Bool.not_eq_true', decide_eq_true_eq, decide_eq_false_iff_not, ite_not, decide_true, decide_false, not_true_eq_false, not_false_eq_true, D.bool.injEq, if_true, if_false, and_true, true_and, ty3, ty4, ty5, ty9, ty87, z5, dLen, dIdxA, dLoad, part, Ty.isA, D.cells, D.cells?, dField, dFieldA, dIdx, dFill, allCell, D.isCell, els, List.getElem?_map, Option.map_some, Int.toNat_natCast, List.length_map, Nat.lt_irrefl, Nat.zero_lt_one, Nat.zero_lt_succ, Option.some.injEq, Nat.le_refl, Nat.zero_add, Bool.false_eq_true, false_or, or_true, true_or, List.drop_zero, Int.natCast_nonneg, D.int.injEq, callee, Int.zero_le_ofNat, Nat.lt_add_one, List.getElem?_nil, dFill, rep, splice, List.take, List.drop, Nat.reduceMul, Nat.reduceLeDiff, Nat.reduceLT, Nat.reducePow, and_self, D.closedL, D.closed, Bool.and_self, bne_self_eq_false, beq_self_eq_true, bne, Bool.true_and, Bool.and_true, Bool.or_true, Bool.or_false, dConvH, dConv, dBytes, srcCells, bytesOfD, allSz, List.all_cons, List.all_nil, List.flatMap_cons, List.flatMap_nil, beq_self_eq_true, Bool.and_true, List.length_singleton, List.singleton_append, Nat.reduceAdd])
    | (refine .body (by kernel_rfl) (PDen.to (itoa ht _ h0 h1) ?_))
    | rfl
    | split)
end Go.Lv
