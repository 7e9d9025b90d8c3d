/- NumThere. -/
import Derived.Test.YtmpbkkfkkbdndaaDoorNumB
namespace Go.Lv
open Go Go.Proofs Go.IntWalk
set_option maxRecDepth 100000
set_option linter.unusedSimpArgs false
variable {E : Env}
def lessS (a b : Int) : Int × Int := if F a = true ∧ F b = true then if a < b then (0, 6) else (a - b, 0) else (0, 11)
theorem less (a b : Int) : PDen Tryd.prog E 20 [.int .i64 a, .int .i64 b] (res (lessS a b)) := by
  refine pden_by (fn := Tryd.f20) mixed Tryd.func20 rfl rfl rfl ?_
  have hall : [a, b].all F = (F a && F b) := by simp
  by_cases h : F a = true ∧ F b = true
  · have hl : [a, b].all F = true := by rw [hall, h.1, h.2]; rfl
    have hw : IntKind.i64.wrap (a - b) = a - b := i64_in _ (by have := F_iff.1 h.1; have := F_iff.1 h.2; omega)
    unfold lessS
    rw [if_pos h]
    clear hall h
    by_cases hab : a < b
    · repeat' (first
      | (simp -implicitDefEqProofs only [*, Tryd.f20, ↓cwp_skip, ↓cwp_region, ↓cwp_drawn, ↓cwp_seq, ↓cwp_cond, ↓cwp_block, ↓cwp_loop, ↓cwp_exit, ↓cwp_ret, ↓kont_normal, ↓kont_exit, ↓kont_ret, ↓block_normal, ↓block_ret, ↓block_exit, ↓then_normal, ↓then_ret, ↓then_exit, ↓finF_normal, ↓finF_ret, ↓cseq_nil, ↓cseq_free, ↓cseq_cons, ↓seqK_go, ↓anyK_go, ↓caq_zero, ↓caq_nil, ↓caq_cons, ↓cStep_move, ↓cStep_assign, ↓cStep_eq, ↓cPure_eq, ↓cAny_eq, ↓anyP_go, fillT, fillH, ↓reduceIte, keeps, wantD, callee, aop, ev, ofV, nth, List.cons_append, List.nil_append, List.append_nil, undL, putO, put, List.length_cons, List.length_nil, Nat.reduceSub, Nat.reduceAdd, dBinT, dBin, dUn, Option.map, List.getElem?_toArray, List.toList_toArray, List.getElem?_cons_succ, List.getElem?_cons_zero, Option.bind, ge_iff_le, gt_iff_lt, resD, resL, resV, beq_true, beq_false, Option.some.injEq, List.map, Bool.not_true, Bool.not_false, Bool.false_eq_true, exists_eq_left', Bool.not_eq_true', decide_eq_true_eq, decide_eq_false_iff_not, ite_not, decide_true, decide_false, not_true_eq_false, not_false_eq_true, D.bool.injEq, if_true, if_false, and_true, true_and, ty3, ty4, ty31, sz3, z3, res_mk, dLen, dIdxA, dLoad, part, Ty.isA, D.cells, D.cells?, dField, dFieldA, dIdx, dFill, allCell, D.isCell, els, List.getElem?_map, Option.map_some, Int.toNat_natCast, List.length_map, Nat.lt_irrefl, Nat.zero_lt_one, Nat.zero_lt_succ, Option.some.injEq, Nat.le_refl, Nat.zero_add, Bool.false_eq_true, false_or, or_true, true_or, List.drop_zero, Int.natCast_nonneg, D.int.injEq, callee, Int.zero_le_ofNat, Nat.lt_add_one, List.getElem?_nil, dFill, rep, splice, List.take, List.drop, Nat.reduceMul, Nat.reduceLeDiff, Nat.reduceLT, Nat.reducePow, and_self, D.closedL, D.closed, Bool.and_self])
      | (refine .body (by kernel_rfl) (PDen.to (all54 true [a, b] (by exact Nat.le_of_ble_eq_true rfl)) ?_))
      | rfl
      | split)
    · repeat' (first
        | (simp -implicitDefEqProofs only [*, Tryd.f20, ↓cwp_skip, ↓cwp_region, ↓cwp_drawn, ↓cwp_seq, ↓cwp_cond, ↓cwp_block, ↓cwp_loop, ↓cwp_exit, ↓cwp_ret, ↓kont_normal, ↓kont_exit, ↓kont_ret, ↓block_normal, ↓block_ret, ↓block_exit, ↓then_normal, ↓then_ret, ↓then_exit, ↓finF_normal, ↓finF_ret, ↓cseq_nil, ↓cseq_free, ↓cseq_cons, ↓seqK_go, ↓anyK_go, ↓caq_zero, ↓caq_nil, ↓caq_cons, ↓cStep_move, ↓cStep_assign, ↓cStep_eq, ↓cPure_eq, ↓cAny_eq, ↓anyP_go, fillT, fillH, ↓reduceIte, keeps, wantD, callee, aop, ev, ofV, nth, List.cons_append, List.nil_append, List.append_nil, undL, putO, put, List.length_cons, List.length_nil, Nat.reduceSub, Nat.reduceAdd, dBinT, dBin, dUn, Option.map, List.getElem?_toArray, List.toList_toArray, List.getElem?_cons_succ, List.getElem?_cons_zero, Option.bind, ge_iff_le, gt_iff_lt, resD, resL, resV, beq_true, beq_false, Option.some.injEq, List.map, Bool.not_true, Bool.not_false, Bool.false_eq_true, exists_eq_left', Bool.not_eq_true', decide_eq_true_eq, decide_eq_false_iff_not, ite_not, decide_true, decide_false, not_true_eq_false, not_false_eq_true, D.bool.injEq, if_true, if_false, and_true, true_and, ty3, ty4, ty31, sz3, z3, res_mk, dLen, dIdxA, dLoad, part, Ty.isA, D.cells, D.cells?, dField, dFieldA, dIdx, dFill, allCell, D.isCell, els, List.getElem?_map, Option.map_some, Int.toNat_natCast, List.length_map, Nat.lt_irrefl, Nat.zero_lt_one, Nat.zero_lt_succ, Option.some.injEq, Nat.le_refl, Nat.zero_add, Bool.false_eq_true, false_or, or_true, true_or, List.drop_zero, Int.natCast_nonneg, D.int.injEq, callee, Int.zero_le_ofNat, Nat.lt_add_one, List.getElem?_nil, dFill, rep, splice, List.take, List.drop, Nat.reduceMul, Nat.reduceLeDiff, Nat.reduceLT, Nat.reducePow, and_self, D.closedL, D.closed, Bool.and_self])
        | (refine .body (by kernel_rfl) (PDen.to (all54 true [a, b] (by exact Nat.le_of_ble_eq_true rfl)) ?_))
        | rfl
        | split)
  · have hl : [a, b].all F = false := by
      rw [hall]
      cases h1 : F a <;> cases h2 : F b <;> simp_all
    unfold lessS
    rw [if_neg h]
    clear hall h
    repeat' (first
      | (simp -implicitDefEqProofs only [*, Tryd.f20, ↓cwp_skip, ↓cwp_region, ↓cwp_drawn, ↓cwp_seq, ↓cwp_cond, ↓cwp_block, ↓cwp_loop, ↓cwp_exit, ↓cwp_ret, ↓kont_normal, ↓kont_exit, ↓kont_ret, ↓block_normal, ↓block_ret, ↓block_exit, ↓then_normal, ↓then_ret, ↓then_exit, ↓finF_normal, ↓finF_ret, ↓cseq_nil, ↓cseq_free, ↓cseq_cons, ↓seqK_go, ↓anyK_go, ↓caq_zero, ↓caq_nil, ↓caq_cons, ↓cStep_move, ↓cStep_assign, ↓cStep_eq, ↓cPure_eq, ↓cAny_eq, ↓anyP_go, fillT, fillH, ↓reduceIte, keeps, wantD, callee, aop, ev, ofV, nth, List.cons_append, List.nil_append, List.append_nil, undL, putO, put, List.length_cons, List.length_nil, Nat.reduceSub, Nat.reduceAdd, dBinT, dBin, dUn, Option.map, List.getElem?_toArray, List.toList_toArray, List.getElem?_cons_succ, List.getElem?_cons_zero, Option.bind, ge_iff_le, gt_iff_lt, resD, resL, resV, beq_true, beq_false, Option.some.injEq, List.map, Bool.not_true, Bool.not_false, Bool.false_eq_true, exists_eq_left', Bool.not_eq_true', decide_eq_true_eq, decide_eq_false_iff_not, ite_not, decide_true, decide_false, not_true_eq_false, not_false_eq_true, D.bool.injEq, if_true, if_false, and_true, true_and, ty3, ty4, ty31, sz3, z3, res_mk, dLen, dIdxA, dLoad, part, Ty.isA, D.cells, D.cells?, dField, dFieldA, dIdx, dFill, allCell, D.isCell, els, List.getElem?_map, Option.map_some, Int.toNat_natCast, List.length_map, Nat.lt_irrefl, Nat.zero_lt_one, Nat.zero_lt_succ, Option.some.injEq, Nat.le_refl, Nat.zero_add, Bool.false_eq_true, false_or, or_true, true_or, List.drop_zero, Int.natCast_nonneg, D.int.injEq, callee, Int.zero_le_ofNat, Nat.lt_add_one, List.getElem?_nil, dFill, rep, splice, List.take, List.drop, Nat.reduceMul, Nat.reduceLeDiff, Nat.reduceLT, Nat.reducePow, and_self, D.closedL, D.closed, Bool.and_self])
      | (refine .body (by kernel_rfl) (PDen.to (all54 true [a, b] (by exact Nat.le_of_ble_eq_true rfl)) ?_))
      | rfl
      | split)

theorem shift_back {a b x : Int} (h : shiftS a b = (x, 0)) : shiftS x (-b) = (a, 0) ∧ IntKind.i64.wrap (0 - b) = -b := by
  unfold shiftS at h ⊢
  split at h
  · rename_i hh
    obtain ⟨hF, h1, h2⟩ := hh
    have hF' := F_iff.1 hF
    split at h
    · simp at h
    · split at h
      · simp at h
      · rename_i h3 h4
        simp only [Prod.mk.injEq, and_true] at h
        subst h
        refine ⟨?_, by rw [i64_in _ (by omega)]; omega⟩
        rw [if_pos ⟨F_iff.2 (by omega), by omega, by omega⟩, if_neg (by omega), if_neg (by omega)]
        congr 1
        omega
  · simp at h
theorem sum_two (a b : Int) : sumS [a, b] = if F a = true ∧ F b = true then if 1099511627776 < a + b then (0, 5) else (a + b, 0) else (0, 11) := by
  unfold sumS
  by_cases h : F a = true ∧ F b = true
  · have h1 := F_iff.1 h.1
    have h2 := F_iff.1 h.2
    rw [if_pos h, if_pos (by simp [h.1, h.2])]
    simp only [sumG, Int.zero_add]
    rw [if_neg (by omega)]
  · rw [if_neg h, if_neg (by simpa using h)]
theorem sum_comm (a b : Int) : sumS [b, a] = sumS [a, b] := by
  rw [sum_two, sum_two, Int.add_comm b a]
  by_cases h : F a = true ∧ F b = true
  · rw [if_pos h, if_pos ⟨h.2, h.1⟩]
  · rw [if_neg h, if_neg (fun h' => h ⟨h'.2, h'.1⟩)]
theorem sum_less {a b s : Int} (h : sumS [a, b] = (s, 0)) : lessS s b = (a, 0) := by
  rw [sum_two] at h
  split at h
  · rename_i hF
    have h1 := F_iff.1 hF.1
    have h2 := F_iff.1 hF.2
    split at h
    · simp at h
    · rename_i hs
      simp only [Prod.mk.injEq, and_true] at h
      subst h
      unfold lessS
      rw [if_pos ⟨F_iff.2 (by omega), hF.2⟩, if_neg (by omega)]
      congr 1
      omega
  · simp at h
theorem sum_zero {a b s e : Int} (h : sumS [a, b] = (s, e)) (he : e ≠ 0) : s = 0 := by
  rw [sum_two] at h
  split at h
  · split at h
    · simp at h; omega
    · simp at h; omega
  · simp at h; omega

theorem there (ht : Tab E.h0 1 .u64 Lib.pow10Tab) (hg : E.g = fun _ => .und) (a b : Int) : PDen Tryd.prog E 5 [.int .i64 a, .int .i64 b] (.bool true) := by
  refine pden_by (fn := Tryd.f5) mixed Tryd.func5 rfl rfl rfl ?_
  rcases hs : shiftS a b with ⟨x, e⟩
  rcases hu : sumS [a, b] with ⟨s, f⟩
  have hv : sumS [b, a] = (s, f) := (sum_comm a b).trans hu
  have cab : PDen Tryd.prog E 19 [.list true [.int .i64 a, .int .i64 b]] (res (s, f)) := hu ▸ sum true [a, b] (by simp)
  have cba : PDen Tryd.prog E 19 [.list true [.int .i64 b, .int .i64 a]] (res (s, f)) := hv ▸ sum true [b, a] (by simp)
  clear hv
  by_cases he : e = 0
  · subst he
    obtain ⟨hb1, hb2⟩ := shift_back hs
    by_cases hf : f = 0
    · subst hf
      have hl := sum_less hu
      repeat' (first
        | (simp -implicitDefEqProofs only [*, Tryd.f5, ↓cwp_skip, ↓cwp_region, ↓cwp_drawn, ↓cwp_seq, ↓cwp_cond, ↓cwp_block, ↓cwp_loop, ↓cwp_exit, ↓cwp_ret, ↓kont_normal, ↓kont_exit, ↓kont_ret, ↓block_normal, ↓block_ret, ↓block_exit, ↓then_normal, ↓then_ret, ↓then_exit, ↓finF_normal, ↓finF_ret, ↓cseq_nil, ↓cseq_free, ↓cseq_cons, ↓seqK_go, ↓anyK_go, ↓caq_zero, ↓caq_nil, ↓caq_cons, ↓cStep_move, ↓cStep_assign, ↓cStep_eq, ↓cPure_eq, ↓cAny_eq, ↓anyP_go, fillT, fillH, ↓reduceIte, keeps, wantD, callee, aop, ev, ofV, nth, List.cons_append, List.nil_append, List.append_nil, undL, putO, put, List.length_cons, List.length_nil, Nat.reduceSub, Nat.reduceAdd, dBinT, dBin, dUn, Option.map, List.getElem?_toArray, List.toList_toArray, List.getElem?_cons_succ, List.getElem?_cons_zero, Option.bind, ge_iff_le, gt_iff_lt, resD, resL, resV, beq_true, beq_false, Option.some.injEq, List.map, Bool.not_true, Bool.not_false, Bool.false_eq_true, exists_eq_left', Bool.not_eq_true', decide_eq_true_eq, decide_eq_false_iff_not, ite_not, decide_true, decide_false, not_true_eq_false, not_false_eq_true, D.bool.injEq, if_true, if_false, and_true, true_and, ty3, ty4, ty31, ty23, sz3, z3, res, dLen, dIdxA, dLoad, part, Ty.isA, D.cells, D.cells?, dField, dFieldA, dIdx, dFill, allCell, D.isCell, els, List.getElem?_map, Option.map_some, Int.toNat_natCast, List.length_map, Nat.lt_irrefl, Nat.zero_lt_one, Nat.zero_lt_succ, Option.some.injEq, Nat.le_refl, Nat.zero_add, Bool.false_eq_true, false_or, or_true, true_or, List.drop_zero, Int.natCast_nonneg, D.int.injEq, callee, Int.zero_le_ofNat, Nat.lt_add_one, List.getElem?_nil, dFill, rep, splice, List.take, List.drop, Nat.reduceMul, Nat.reduceLeDiff, Nat.reduceLT, Nat.reducePow, and_self, D.closedL, D.closed, Bool.and_self, bne_self_eq_false, beq_self_eq_true, bne, beq_eq_false_iff_ne])
        | (refine .body (by kernel_rfl) (PDen.to (shift _ _) ?_))
        | (refine .body (by kernel_rfl) (PDen.to (cab) ?_))
        | (refine .body (by kernel_rfl) (PDen.to (cba) ?_))
        | (refine .body (by kernel_rfl) (PDen.to (less _ _) ?_))
        | (refine .body (by kernel_rfl) (PDen.to (awake ht hg) ?_))
        | rfl
        | split)
    · have hz := sum_zero hu hf
      subst hz
      have hf' : (f == 0) = false := by simpa using hf
      repeat' (first
        | (simp -implicitDefEqProofs only [*, Tryd.f5, ↓cwp_skip, ↓cwp_region, ↓cwp_drawn, ↓cwp_seq, ↓cwp_cond, ↓cwp_block, ↓cwp_loop, ↓cwp_exit, ↓cwp_ret, ↓kont_normal, ↓kont_exit, ↓kont_ret, ↓block_normal, ↓block_ret, ↓block_exit, ↓then_normal, ↓then_ret, ↓then_exit, ↓finF_normal, ↓finF_ret, ↓cseq_nil, ↓cseq_free, ↓cseq_cons, ↓seqK_go, ↓anyK_go, ↓caq_zero, ↓caq_nil, ↓caq_cons, ↓cStep_move, ↓cStep_assign, ↓cStep_eq, ↓cPure_eq, ↓cAny_eq, ↓anyP_go, fillT, fillH, ↓reduceIte, keeps, wantD, callee, aop, ev, ofV, nth, List.cons_append, List.nil_append, List.append_nil, undL, putO, put, List.length_cons, List.length_nil, Nat.reduceSub, Nat.reduceAdd, dBinT, dBin, dUn, Option.map, List.getElem?_toArray, List.toList_toArray, List.getElem?_cons_succ, List.getElem?_cons_zero, Option.bind, ge_iff_le, gt_iff_lt, resD, resL, resV, beq_true, beq_false, Option.some.injEq, List.map, Bool.not_true, Bool.not_false, Bool.false_eq_true, exists_eq_left', Bool.not_eq_true', decide_eq_true_eq, decide_eq_false_iff_not, ite_not, decide_true, decide_false, not_true_eq_false, not_false_eq_true, D.bool.injEq, if_true, if_false, and_true, true_and, ty3, ty4, ty31, ty23, sz3, z3, res, dLen, dIdxA, dLoad, part, Ty.isA, D.cells, D.cells?, dField, dFieldA, dIdx, dFill, allCell, D.isCell, els, List.getElem?_map, Option.map_some, Int.toNat_natCast, List.length_map, Nat.lt_irrefl, Nat.zero_lt_one, Nat.zero_lt_succ, Option.some.injEq, Nat.le_refl, Nat.zero_add, Bool.false_eq_true, false_or, or_true, true_or, List.drop_zero, Int.natCast_nonneg, D.int.injEq, callee, Int.zero_le_ofNat, Nat.lt_add_one, List.getElem?_nil, dFill, rep, splice, List.take, List.drop, Nat.reduceMul, Nat.reduceLeDiff, Nat.reduceLT, Nat.reducePow, and_self, D.closedL, D.closed, Bool.and_self, bne_self_eq_false, beq_self_eq_true, bne, beq_eq_false_iff_ne])
        | (refine .body (by kernel_rfl) (PDen.to (shift _ _) ?_))
        | (refine .body (by kernel_rfl) (PDen.to (cab) ?_))
        | (refine .body (by kernel_rfl) (PDen.to (cba) ?_))
        | (refine .body (by kernel_rfl) (PDen.to (less _ _) ?_))
        | (refine .body (by kernel_rfl) (PDen.to (awake ht hg) ?_))
        | rfl
        | split)
  · have he' : (e == 0) = false := by simpa using he
    by_cases hf : f = 0
    · subst hf
      have hl := sum_less hu
      repeat' (first
        | (simp -implicitDefEqProofs only [*, Tryd.f5, ↓cwp_skip, ↓cwp_region, ↓cwp_drawn, ↓cwp_seq, ↓cwp_cond, ↓cwp_block, ↓cwp_loop, ↓cwp_exit, ↓cwp_ret, ↓kont_normal, ↓kont_exit, ↓kont_ret, ↓block_normal, ↓block_ret, ↓block_exit, ↓then_normal, ↓then_ret, ↓then_exit, ↓finF_normal, ↓finF_ret, ↓cseq_nil, ↓cseq_free, ↓cseq_cons, ↓seqK_go, ↓anyK_go, ↓caq_zero, ↓caq_nil, ↓caq_cons, ↓cStep_move, ↓cStep_assign, ↓cStep_eq, ↓cPure_eq, ↓cAny_eq, ↓anyP_go, fillT, fillH, ↓reduceIte, keeps, wantD, callee, aop, ev, ofV, nth, List.cons_append, List.nil_append, List.append_nil, undL, putO, put, List.length_cons, List.length_nil, Nat.reduceSub, Nat.reduceAdd, dBinT, dBin, dUn, Option.map, List.getElem?_toArray, List.toList_toArray, List.getElem?_cons_succ, List.getElem?_cons_zero, Option.bind, ge_iff_le, gt_iff_lt, resD, resL, resV, beq_true, beq_false, Option.some.injEq, List.map, Bool.not_true, Bool.not_false, Bool.false_eq_true, exists_eq_left', Bool.not_eq_true', decide_eq_true_eq, decide_eq_false_iff_not, ite_not, decide_true, decide_false, not_true_eq_false, not_false_eq_true, D.bool.injEq, if_true, if_false, and_true, true_and, ty3, ty4, ty31, ty23, sz3, z3, res, dLen, dIdxA, dLoad, part, Ty.isA, D.cells, D.cells?, dField, dFieldA, dIdx, dFill, allCell, D.isCell, els, List.getElem?_map, Option.map_some, Int.toNat_natCast, List.length_map, Nat.lt_irrefl, Nat.zero_lt_one, Nat.zero_lt_succ, Option.some.injEq, Nat.le_refl, Nat.zero_add, Bool.false_eq_true, false_or, or_true, true_or, List.drop_zero, Int.natCast_nonneg, D.int.injEq, callee, Int.zero_le_ofNat, Nat.lt_add_one, List.getElem?_nil, dFill, rep, splice, List.take, List.drop, Nat.reduceMul, Nat.reduceLeDiff, Nat.reduceLT, Nat.reducePow, and_self, D.closedL, D.closed, Bool.and_self, bne_self_eq_false, beq_self_eq_true, bne, beq_eq_false_iff_ne])
        | (refine .body (by kernel_rfl) (PDen.to (shift _ _) ?_))
        | (refine .body (by kernel_rfl) (PDen.to (cab) ?_))
        | (refine .body (by kernel_rfl) (PDen.to (cba) ?_))
        | (refine .body (by kernel_rfl) (PDen.to (less _ _) ?_))
        | (refine .body (by kernel_rfl) (PDen.to (awake ht hg) ?_))
        | rfl
        | split)
    · have hz := sum_zero hu hf
      subst hz
      have hf' : (f == 0) = false := by simpa using hf
      repeat' (first
        | (simp -implicitDefEqProofs only [*, Tryd.f5, ↓cwp_skip, ↓cwp_region, ↓cwp_drawn, ↓cwp_seq, ↓cwp_cond, ↓cwp_block, ↓cwp_loop, ↓cwp_exit, ↓cwp_ret, ↓kont_normal, ↓kont_exit, ↓kont_ret, ↓block_normal, ↓block_ret, ↓block_exit, ↓then_normal, ↓then_ret, ↓then_exit, ↓finF_normal, ↓finF_ret, ↓cseq_nil, ↓cseq_free, ↓cseq_cons, ↓seqK_go, ↓anyK_go, ↓caq_zero, ↓caq_nil, ↓caq_cons, ↓cStep_move, ↓cStep_assign, ↓cStep_eq, ↓cPure_eq, ↓cAny_eq, ↓anyP_go, fillT, fillH, ↓reduceIte, keeps, wantD, callee, aop, ev, ofV, nth, List.cons_append, List.nil_append, List.append_nil, undL, putO, put, List.length_cons, List.length_nil, Nat.reduceSub, Nat.reduceAdd, dBinT, dBin, dUn, Option.map, List.getElem?_toArray, List.toList_toArray, List.getElem?_cons_succ, List.getElem?_cons_zero, Option.bind, ge_iff_le, gt_iff_lt, resD, resL, resV, beq_true, beq_false, Option.some.injEq, List.map, Bool.not_true, Bool.not_false, Bool.false_eq_true, exists_eq_left', Bool.not_eq_true', decide_eq_true_eq, decide_eq_false_iff_not, ite_not, decide_true, decide_false, not_true_eq_false, not_false_eq_true, D.bool.injEq, if_true, if_false, and_true, true_and, ty3, ty4, ty31, ty23, sz3, z3, res, dLen, dIdxA, dLoad, part, Ty.isA, D.cells, D.cells?, dField, dFieldA, dIdx, dFill, allCell, D.isCell, els, List.getElem?_map, Option.map_some, Int.toNat_natCast, List.length_map, Nat.lt_irrefl, Nat.zero_lt_one, Nat.zero_lt_succ, Option.some.injEq, Nat.le_refl, Nat.zero_add, Bool.false_eq_true, false_or, or_true, true_or, List.drop_zero, Int.natCast_nonneg, D.int.injEq, callee, Int.zero_le_ofNat, Nat.lt_add_one, List.getElem?_nil, dFill, rep, splice, List.take, List.drop, Nat.reduceMul, Nat.reduceLeDiff, Nat.reduceLT, Nat.reducePow, and_self, D.closedL, D.closed, Bool.and_self, bne_self_eq_false, beq_self_eq_true, bne, beq_eq_false_iff_ne])
        | (refine .body (by kernel_rfl) (PDen.to (shift _ _) ?_))
        | (refine .body (by kernel_rfl) (PDen.to (cab) ?_))
        | (refine .body (by kernel_rfl) (PDen.to (cba) ?_))
        | (refine .body (by kernel_rfl) (PDen.to (less _ _) ?_))
        | (refine .body (by kernel_rfl) (PDen.to (awake ht hg) ?_))
        | rfl
        | split)
end Go.Lv
