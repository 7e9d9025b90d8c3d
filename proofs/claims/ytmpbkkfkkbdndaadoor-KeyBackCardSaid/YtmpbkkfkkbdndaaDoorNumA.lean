/- Num's functions of the program. -/
import Derived.Test.YtmpbkkfkkbdndaaDoorLv6
import Derived.KernelRfl
import Derived.IntWalk
import Derived.Test.YtmpbkkfkkbdndaaDoorProg
namespace Go.Lv
open Go Go.Proofs Go.IntWalk
set_option maxRecDepth 100000
set_option linter.unusedSimpArgs false
theorem mixed : Tryd.prog.follows .mixedOrders = true := by kernel_rfl
theorem ty3 : ty Tryd.prog 3 = .int .i64 := by kernel_rfl
theorem ty4 : ty Tryd.prog 4 = .bool := by kernel_rfl
theorem ty31 : ty Tryd.prog 31 = .slice 3 1 8 false := by kernel_rfl
theorem ty23 : ty Tryd.prog 23 = .int .i64 := by kernel_rfl
theorem sz3 : szOf Tryd.prog 3 = 1 := by kernel_rfl
theorem z3 : zcells Tryd.prog 3 = [.int .i64 0] := by kernel_rfl
theorem PDen.to {P : Program} {E : Env} {g : FuncId} {args : List D} {r : D} {H : Hp} {R : D → Hp → Prop} (h : PDen P E g args r) (hr : R r H) : Fun P E g args H R :=
  (h.fun H).mono fun d H' hh => by obtain ⟨rfl, rfl⟩ := hh; exact hr
variable {E : Env}
def I (x : Int) : D := .int .i64 x
theorem I_def (x : Int) : I x = .int .i64 x := rfl
def res (p : Int × Int) : D := .tup [.int .i64 p.1, .int .i64 p.2]
theorem res_mk (a b : Int) : res (a, b) = .tup [.int .i64 a, .int .i64 b] := rfl
def F (a : Int) : Bool := decide (0 ≤ a) && decide (a ≤ 1099511627776)
theorem F_iff {a : Int} : F a = true ↔ 0 ≤ a ∧ a ≤ 1099511627776 := by simp [F]
theorem fit (a : Int) : PDen Tryd.prog E 23 [.int .i64 a] (.bool (F a)) := by
  refine pden_by (fn := Tryd.f23) mixed Tryd.func23 rfl rfl rfl ?_
  repeat' (first
    | (simp -implicitDefEqProofs only [*, Tryd.f23, ↓cwp_skip, ↓cwp_region, ↓cwp_drawn, ↓cwp_seq, ↓cwp_cond, ↓cwp_block, ↓cwp_loop, ↓cwp_exit, ↓cwp_ret, ↓kont_normal, ↓kont_exit, ↓kont_ret, ↓block_normal, ↓block_ret, ↓block_exit, ↓then_normal, ↓then_ret, ↓then_exit, ↓finF_normal, ↓finF_ret, ↓cseq_nil, ↓cseq_free, ↓cseq_cons, ↓seqK_go, ↓anyK_go, ↓caq_zero, ↓caq_nil, ↓caq_cons, ↓cStep_move, ↓cStep_assign, ↓cStep_eq, ↓cPure_eq, ↓cAny_eq, ↓anyP_go, fillT, fillH, ↓reduceIte, keeps, wantD, callee, aop, ev, ofV, nth, List.cons_append, List.nil_append, List.append_nil, undL, putO, put, List.length_cons, List.length_nil, Nat.reduceSub, Nat.reduceAdd, dBinT, dBin, dUn, Option.map, List.getElem?_toArray, List.toList_toArray, List.getElem?_cons_succ, List.getElem?_cons_zero, Option.bind, ge_iff_le, gt_iff_lt, resD, resL, resV, beq_true, beq_false, Option.some.injEq, List.map, Bool.not_true, Bool.not_false, Bool.false_eq_true, exists_eq_left', Bool.not_eq_true', decide_eq_true_eq, decide_eq_false_iff_not, ite_not, decide_true, decide_false, not_true_eq_false, not_false_eq_true, D.bool.injEq, if_true, if_false, and_true, true_and, F])
    | rfl
    | split)
  all_goals simp_all
  all_goals omega

def shiftS (a b : Int) : Int × Int :=
  if F a = true ∧ -1099511627776 ≤ b ∧ b ≤ 1099511627776 then if a + b < 0 then (0, 6) else if 1099511627776 < a + b then (0, 5) else (a + b, 0) else (0, 11)
theorem shift (a b : Int) : PDen Tryd.prog E 18 [.int .i64 a, .int .i64 b] (res (shiftS a b)) := by
  refine pden_by (fn := Tryd.f18) mixed Tryd.func18 rfl rfl rfl ?_
  by_cases h : F a = true ∧ -1099511627776 ≤ b ∧ b ≤ 1099511627776
  · obtain ⟨ha, hb1, hb2⟩ := h
    have h1 : ¬ b < -1099511627776 := by omega
    have h2 : ¬ 1099511627776 < b := by omega
    have hw : IntKind.i64.wrap (a + b) = a + b := i64_in _ (by have := F_iff.1 ha; omega)
    repeat' (first
      | (simp -implicitDefEqProofs only [*, Tryd.f18, ↓cwp_skip, ↓cwp_region, ↓cwp_drawn, ↓cwp_seq, ↓cwp_cond, ↓cwp_block, ↓cwp_loop, ↓cwp_exit, ↓cwp_ret, ↓kont_normal, ↓kont_exit, ↓kont_ret, ↓block_normal, ↓block_ret, ↓block_exit, ↓then_normal, ↓then_ret, ↓then_exit, ↓finF_normal, ↓finF_ret, ↓cseq_nil, ↓cseq_free, ↓cseq_cons, ↓seqK_go, ↓anyK_go, ↓caq_zero, ↓caq_nil, ↓caq_cons, ↓cStep_move, ↓cStep_assign, ↓cStep_eq, ↓cPure_eq, ↓cAny_eq, ↓anyP_go, fillT, fillH, ↓reduceIte, keeps, wantD, callee, aop, ev, ofV, nth, List.cons_append, List.nil_append, List.append_nil, undL, putO, put, List.length_cons, List.length_nil, Nat.reduceSub, Nat.reduceAdd, dBinT, dBin, dUn, Option.map, List.getElem?_toArray, List.toList_toArray, List.getElem?_cons_succ, List.getElem?_cons_zero, Option.bind, ge_iff_le, gt_iff_lt, resD, resL, resV, beq_true, beq_false, Option.some.injEq, List.map, Bool.not_true, Bool.not_false, Bool.false_eq_true, exists_eq_left', Bool.not_eq_true', decide_eq_true_eq, decide_eq_false_iff_not, ite_not, decide_true, decide_false, not_true_eq_false, not_false_eq_true, D.bool.injEq, if_true, if_false, and_true, true_and, ty3, ty4, shiftS, res])
      | (refine .body (by kernel_rfl) (PDen.to (fit _) ?_))
      | rfl
      | split)
  · have hs : shiftS a b = (0, 11) := by unfold shiftS; rw [if_neg h]
    by_cases ha : F a = true
    · by_cases hb1 : b < -1099511627776
      · repeat' (first
        | (simp -implicitDefEqProofs only [*, Tryd.f18, ↓cwp_skip, ↓cwp_region, ↓cwp_drawn, ↓cwp_seq, ↓cwp_cond, ↓cwp_block, ↓cwp_loop, ↓cwp_exit, ↓cwp_ret, ↓kont_normal, ↓kont_exit, ↓kont_ret, ↓block_normal, ↓block_ret, ↓block_exit, ↓then_normal, ↓then_ret, ↓then_exit, ↓finF_normal, ↓finF_ret, ↓cseq_nil, ↓cseq_free, ↓cseq_cons, ↓seqK_go, ↓anyK_go, ↓caq_zero, ↓caq_nil, ↓caq_cons, ↓cStep_move, ↓cStep_assign, ↓cStep_eq, ↓cPure_eq, ↓cAny_eq, ↓anyP_go, fillT, fillH, ↓reduceIte, keeps, wantD, callee, aop, ev, ofV, nth, List.cons_append, List.nil_append, List.append_nil, undL, putO, put, List.length_cons, List.length_nil, Nat.reduceSub, Nat.reduceAdd, dBinT, dBin, dUn, Option.map, List.getElem?_toArray, List.toList_toArray, List.getElem?_cons_succ, List.getElem?_cons_zero, Option.bind, ge_iff_le, gt_iff_lt, resD, resL, resV, beq_true, beq_false, Option.some.injEq, List.map, Bool.not_true, Bool.not_false, Bool.false_eq_true, exists_eq_left', Bool.not_eq_true', decide_eq_true_eq, decide_eq_false_iff_not, ite_not, decide_true, decide_false, not_true_eq_false, not_false_eq_true, D.bool.injEq, if_true, if_false, and_true, true_and, ty3, ty4, res])
        | (refine .body (by kernel_rfl) (PDen.to (fit _) ?_))
        | rfl
        | split)
      · have hb2 : 1099511627776 < b := by
          have : ¬ b ≤ 1099511627776 := fun h2 => h ⟨ha, by omega, h2⟩
          omega
        repeat' (first
        | (simp -implicitDefEqProofs only [*, Tryd.f18, ↓cwp_skip, ↓cwp_region, ↓cwp_drawn, ↓cwp_seq, ↓cwp_cond, ↓cwp_block, ↓cwp_loop, ↓cwp_exit, ↓cwp_ret, ↓kont_normal, ↓kont_exit, ↓kont_ret, ↓block_normal, ↓block_ret, ↓block_exit, ↓then_normal, ↓then_ret, ↓then_exit, ↓finF_normal, ↓finF_ret, ↓cseq_nil, ↓cseq_free, ↓cseq_cons, ↓seqK_go, ↓anyK_go, ↓caq_zero, ↓caq_nil, ↓caq_cons, ↓cStep_move, ↓cStep_assign, ↓cStep_eq, ↓cPure_eq, ↓cAny_eq, ↓anyP_go, fillT, fillH, ↓reduceIte, keeps, wantD, callee, aop, ev, ofV, nth, List.cons_append, List.nil_append, List.append_nil, undL, putO, put, List.length_cons, List.length_nil, Nat.reduceSub, Nat.reduceAdd, dBinT, dBin, dUn, Option.map, List.getElem?_toArray, List.toList_toArray, List.getElem?_cons_succ, List.getElem?_cons_zero, Option.bind, ge_iff_le, gt_iff_lt, resD, resL, resV, beq_true, beq_false, Option.some.injEq, List.map, Bool.not_true, Bool.not_false, Bool.false_eq_true, exists_eq_left', Bool.not_eq_true', decide_eq_true_eq, decide_eq_false_iff_not, ite_not, decide_true, decide_false, not_true_eq_false, not_false_eq_true, D.bool.injEq, if_true, if_false, and_true, true_and, ty3, ty4, res])
        | (refine .body (by kernel_rfl) (PDen.to (fit _) ?_))
        | rfl
        | split)
    · have ha' : F a = false := by simpa using ha
      clear ha h
      repeat' (first
        | (simp -implicitDefEqProofs only [*, Tryd.f18, ↓cwp_skip, ↓cwp_region, ↓cwp_drawn, ↓cwp_seq, ↓cwp_cond, ↓cwp_block, ↓cwp_loop, ↓cwp_exit, ↓cwp_ret, ↓kont_normal, ↓kont_exit, ↓kont_ret, ↓block_normal, ↓block_ret, ↓block_exit, ↓then_normal, ↓then_ret, ↓then_exit, ↓finF_normal, ↓finF_ret, ↓cseq_nil, ↓cseq_free, ↓cseq_cons, ↓seqK_go, ↓anyK_go, ↓caq_zero, ↓caq_nil, ↓caq_cons, ↓cStep_move, ↓cStep_assign, ↓cStep_eq, ↓cPure_eq, ↓cAny_eq, ↓anyP_go, fillT, fillH, ↓reduceIte, keeps, wantD, callee, aop, ev, ofV, nth, List.cons_append, List.nil_append, List.append_nil, undL, putO, put, List.length_cons, List.length_nil, Nat.reduceSub, Nat.reduceAdd, dBinT, dBin, dUn, Option.map, List.getElem?_toArray, List.toList_toArray, List.getElem?_cons_succ, List.getElem?_cons_zero, Option.bind, ge_iff_le, gt_iff_lt, resD, resL, resV, beq_true, beq_false, Option.some.injEq, List.map, Bool.not_true, Bool.not_false, Bool.false_eq_true, exists_eq_left', Bool.not_eq_true', decide_eq_true_eq, decide_eq_false_iff_not, ite_not, decide_true, decide_false, not_true_eq_false, not_false_eq_true, D.bool.injEq, if_true, if_false, and_true, true_and, ty3, ty4, res])
        | (refine .body (by kernel_rfl) (PDen.to (fit _) ?_))
        | rfl
        | split)

theorem closedI : ∀ xs : List Int, D.closedL (xs.map I) = true
  | [] => rfl
  | x :: xs => by simp only [List.map, D.closedL, I, D.closed, closedI xs, Bool.and_self]
theorem closed_ints (t : Bool) (xs : List Int) : D.closedL [.list t (xs.map I)] = true := by simp only [D.closedL, D.closed, Bool.and_self]
theorem lt_get {xs : List Int} {i : Nat} (h : i < xs.length) : ∃ x, xs[i]? = some x ∧ xs.drop i = x :: xs.drop (i + 1) := ⟨xs[i], List.getElem?_eq_getElem h, List.drop_eq_getElem_cons h⟩
theorem idx {n i : Nat} (hn : n ≤ 4611686018427387904) (h : i < n) : IntKind.i64.wrap ((i : Int) + 1) = ((i + 1 : Nat) : Int) := by
  rw [i64_in _ (by omega)]
  rfl
def Inv54 (t r : Bool) (xs : List Int) (m : Nat) (ts : List D) (H : Hp) : Prop := ∃ (i : Nat) (g4 g8 g9 g10 g11 g12 g13 g14 : D), (i + m = xs.length) ∧ ((xs.drop i).all F = r) ∧ H = [] ∧ ts = [D.list t (List.map I xs), D.und, D.bool false, D.und, g4, D.list t (List.map I xs), D.int IntKind.i64 ↑xs.length, D.int IntKind.i64 (i : Nat), g8, g9, g10, g11, g12, g13, g14]
theorem all54 (t : Bool) (xs : List Int) (hn : xs.length ≤ 4611686018427387904) : PDen Tryd.prog E 54 [.list t (xs.map I)] (.bool (xs.all F)) := by
  refine pden_by (fn := Tryd.f54) mixed Tryd.func54 rfl (closed_ints _ _) rfl ?_
  generalize hr : xs.all F = r
  repeat' (first
    | (simp -implicitDefEqProofs only [*, Tryd.f54, ↓cwp_skip, ↓cwp_region, ↓cwp_drawn, ↓cwp_seq, ↓cwp_cond, ↓cwp_block, ↓cwp_loop, ↓cwp_exit, ↓cwp_ret, ↓kont_normal, ↓kont_exit, ↓kont_ret, ↓block_normal, ↓block_ret, ↓block_exit, ↓then_normal, ↓then_ret, ↓then_exit, ↓finF_normal, ↓finF_ret, ↓cseq_nil, ↓cseq_free, ↓cseq_cons, ↓seqK_go, ↓anyK_go, ↓caq_zero, ↓caq_nil, ↓caq_cons, ↓cStep_move, ↓cStep_assign, ↓cStep_eq, ↓cPure_eq, ↓cAny_eq, ↓anyP_go, fillT, fillH, ↓reduceIte, keeps, wantD, callee, aop, ev, ofV, nth, List.cons_append, List.nil_append, List.append_nil, undL, putO, put, List.length_cons, List.length_nil, Nat.reduceSub, Nat.reduceAdd, dBinT, dBin, dUn, Option.map, List.getElem?_toArray, List.toList_toArray, List.getElem?_cons_succ, List.getElem?_cons_zero, Option.bind, ge_iff_le, gt_iff_lt, resD, resL, resV, beq_true, beq_false, Option.some.injEq, List.map, Bool.not_true, Bool.not_false, Bool.false_eq_true, exists_eq_left', Bool.not_eq_true', decide_eq_true_eq, decide_eq_false_iff_not, ite_not, decide_true, decide_false, not_true_eq_false, not_false_eq_true, D.bool.injEq, if_true, if_false, and_true, true_and, ty3, ty4, ty31, sz3, dLen, dIdxA, dLoad, part, Ty.isA, D.cells, D.cells?, dField, dFieldA, dIdx, dFill, allCell, D.isCell, els, List.getElem?_map, Option.map_some, Int.toNat_natCast, List.length_map, Nat.lt_irrefl, Nat.zero_lt_one, Nat.zero_lt_succ, Option.some.injEq, Nat.le_refl, Nat.zero_add, Bool.false_eq_true, false_or, or_true, true_or, List.drop_zero, Int.natCast_nonneg, D.int.injEq, callee, Int.zero_le_ofNat, Nat.lt_add_one, List.getElem?_nil])
    | (refine .body (by kernel_rfl) (PDen.to (fit _) ?_))
    | rfl
    | split)
  refine loop_rule (Inv54 t r xs) ?_ xs.length ⟨0, _, _, _, _, _, _, _, _, by omega, hr, rfl, rfl⟩
  clear hr
  rintro m ts H ⟨i, g4, g8, g9, g10, g11, g12, g13, g14, him, hall, rfl, rfl⟩
  by_cases hi : i < xs.length
  · obtain ⟨x, hx, hd⟩ := lt_get hi
    have hi' : (i : Int) < (xs.length : Int) := by omega
    have hidx := idx hn hi
    have hI : I x = .int .i64 x := rfl
    rw [hd, List.all_cons] at hall
    by_cases hF : F x = true
    · rw [hF, Bool.true_and] at hall
      repeat' (first
        | (simp -implicitDefEqProofs only [*, Tryd.f54, ↓cwp_skip, ↓cwp_region, ↓cwp_drawn, ↓cwp_seq, ↓cwp_cond, ↓cwp_block, ↓cwp_loop, ↓cwp_exit, ↓cwp_ret, ↓kont_normal, ↓kont_exit, ↓kont_ret, ↓block_normal, ↓block_ret, ↓block_exit, ↓then_normal, ↓then_ret, ↓then_exit, ↓finF_normal, ↓finF_ret, ↓cseq_nil, ↓cseq_free, ↓cseq_cons, ↓seqK_go, ↓anyK_go, ↓caq_zero, ↓caq_nil, ↓caq_cons, ↓cStep_move, ↓cStep_assign, ↓cStep_eq, ↓cPure_eq, ↓cAny_eq, ↓anyP_go, fillT, fillH, ↓reduceIte, keeps, wantD, callee, aop, ev, ofV, nth, List.cons_append, List.nil_append, List.append_nil, undL, putO, put, List.length_cons, List.length_nil, Nat.reduceSub, Nat.reduceAdd, dBinT, dBin, dUn, Option.map, List.getElem?_toArray, List.toList_toArray, List.getElem?_cons_succ, List.getElem?_cons_zero, Option.bind, ge_iff_le, gt_iff_lt, resD, resL, resV, beq_true, beq_false, Option.some.injEq, List.map, Bool.not_true, Bool.not_false, Bool.false_eq_true, exists_eq_left', Bool.not_eq_true', decide_eq_true_eq, decide_eq_false_iff_not, ite_not, decide_true, decide_false, not_true_eq_false, not_false_eq_true, D.bool.injEq, if_true, if_false, and_true, true_and, ty3, ty4, ty31, sz3, dLen, dIdxA, dLoad, part, Ty.isA, D.cells, D.cells?, dField, dFieldA, dIdx, dFill, allCell, D.isCell, els, List.getElem?_map, Option.map_some, Int.toNat_natCast, List.length_map, Nat.lt_irrefl, Nat.zero_lt_one, Nat.zero_lt_succ, Option.some.injEq, Nat.le_refl, Nat.zero_add, Bool.false_eq_true, false_or, or_true, true_or, List.drop_zero, Int.natCast_nonneg, D.int.injEq, callee, Int.zero_le_ofNat, Nat.lt_add_one, List.getElem?_nil])
        | (refine .body (by kernel_rfl) (PDen.to (fit _) ?_))
        | rfl
        | split)
      exact ⟨m - 1, by omega, i + 1, _, _, _, _, _, _, _, _, by omega, hall, rfl, rfl⟩
    · have hF' : F x = false := by simpa using hF
      clear hF
      rw [hF', Bool.false_and] at hall
      subst hall
      repeat' (first
        | (simp -implicitDefEqProofs only [*, Tryd.f54, ↓cwp_skip, ↓cwp_region, ↓cwp_drawn, ↓cwp_seq, ↓cwp_cond, ↓cwp_block, ↓cwp_loop, ↓cwp_exit, ↓cwp_ret, ↓kont_normal, ↓kont_exit, ↓kont_ret, ↓block_normal, ↓block_ret, ↓block_exit, ↓then_normal, ↓then_ret, ↓then_exit, ↓finF_normal, ↓finF_ret, ↓cseq_nil, ↓cseq_free, ↓cseq_cons, ↓seqK_go, ↓anyK_go, ↓caq_zero, ↓caq_nil, ↓caq_cons, ↓cStep_move, ↓cStep_assign, ↓cStep_eq, ↓cPure_eq, ↓cAny_eq, ↓anyP_go, fillT, fillH, ↓reduceIte, keeps, wantD, callee, aop, ev, ofV, nth, List.cons_append, List.nil_append, List.append_nil, undL, putO, put, List.length_cons, List.length_nil, Nat.reduceSub, Nat.reduceAdd, dBinT, dBin, dUn, Option.map, List.getElem?_toArray, List.toList_toArray, List.getElem?_cons_succ, List.getElem?_cons_zero, Option.bind, ge_iff_le, gt_iff_lt, resD, resL, resV, beq_true, beq_false, Option.some.injEq, List.map, Bool.not_true, Bool.not_false, Bool.false_eq_true, exists_eq_left', Bool.not_eq_true', decide_eq_true_eq, decide_eq_false_iff_not, ite_not, decide_true, decide_false, not_true_eq_false, not_false_eq_true, D.bool.injEq, if_true, if_false, and_true, true_and, ty3, ty4, ty31, sz3, dLen, dIdxA, dLoad, part, Ty.isA, D.cells, D.cells?, dField, dFieldA, dIdx, dFill, allCell, D.isCell, els, List.getElem?_map, Option.map_some, Int.toNat_natCast, List.length_map, Nat.lt_irrefl, Nat.zero_lt_one, Nat.zero_lt_succ, Option.some.injEq, Nat.le_refl, Nat.zero_add, Bool.false_eq_true, false_or, or_true, true_or, List.drop_zero, Int.natCast_nonneg, D.int.injEq, callee, Int.zero_le_ofNat, Nat.lt_add_one, List.getElem?_nil])
        | (refine .body (by kernel_rfl) (PDen.to (fit _) ?_))
        | rfl
        | split)
  · have hi' : ¬ (i : Int) < (xs.length : Int) := by omega
    rw [List.drop_eq_nil_of_le (by omega)] at hall
    obtain rfl : true = r := hall
    repeat' (first
      | (simp -implicitDefEqProofs only [*, Tryd.f54, ↓cwp_skip, ↓cwp_region, ↓cwp_drawn, ↓cwp_seq, ↓cwp_cond, ↓cwp_block, ↓cwp_loop, ↓cwp_exit, ↓cwp_ret, ↓kont_normal, ↓kont_exit, ↓kont_ret, ↓block_normal, ↓block_ret, ↓block_exit, ↓then_normal, ↓then_ret, ↓then_exit, ↓finF_normal, ↓finF_ret, ↓cseq_nil, ↓cseq_free, ↓cseq_cons, ↓seqK_go, ↓anyK_go, ↓caq_zero, ↓caq_nil, ↓caq_cons, ↓cStep_move, ↓cStep_assign, ↓cStep_eq, ↓cPure_eq, ↓cAny_eq, ↓anyP_go, fillT, fillH, ↓reduceIte, keeps, wantD, callee, aop, ev, ofV, nth, List.cons_append, List.nil_append, List.append_nil, undL, putO, put, List.length_cons, List.length_nil, Nat.reduceSub, Nat.reduceAdd, dBinT, dBin, dUn, Option.map, List.getElem?_toArray, List.toList_toArray, List.getElem?_cons_succ, List.getElem?_cons_zero, Option.bind, ge_iff_le, gt_iff_lt, resD, resL, resV, beq_true, beq_false, Option.some.injEq, List.map, Bool.not_true, Bool.not_false, Bool.false_eq_true, exists_eq_left', Bool.not_eq_true', decide_eq_true_eq, decide_eq_false_iff_not, ite_not, decide_true, decide_false, not_true_eq_false, not_false_eq_true, D.bool.injEq, if_true, if_false, and_true, true_and, ty3, ty4, ty31, sz3, dLen, dIdxA, dLoad, part, Ty.isA, D.cells, D.cells?, dField, dFieldA, dIdx, dFill, allCell, D.isCell, els, List.getElem?_map, Option.map_some, Int.toNat_natCast, List.length_map, Nat.lt_irrefl, Nat.zero_lt_one, Nat.zero_lt_succ, Option.some.injEq, Nat.le_refl, Nat.zero_add, Bool.false_eq_true, false_or, or_true, true_or, List.drop_zero, Int.natCast_nonneg, D.int.injEq, callee, Int.zero_le_ofNat, Nat.lt_add_one, List.getElem?_nil])
      | (refine .body (by kernel_rfl) (PDen.to (fit _) ?_))
      | rfl
      | split)

def sumG : Int → List Int → Int × Int
  | s, [] => (s, 0)
  | s, x :: l => if 1099511627776 < s + x then (0, 5) else sumG (s + x) l
def sumS (xs : List Int) : Int × Int := if xs.all F = true then sumG 0 xs else (0, 11)
def Inv19 (t : Bool) (r : Int × Int) (xs : List Int) (m : Nat) (ts : List D) (H : Hp) : Prop := ∃ (i : Nat) (s : Int) (g6 g13 g14 g15 g16 g17 g18 g19 g20 g21 g22 : D), (i + m = xs.length) ∧ (0 ≤ s ∧ s ≤ 1099511627776) ∧ (xs.all F = true) ∧ (sumG s (xs.drop i) = r) ∧ H = [] ∧ ts = [D.list t (List.map I xs), D.und, D.int IntKind.i64 0, D.int IntKind.i64 0, D.int IntKind.i64 s, D.und, g6, D.list t (List.map I xs), D.bool true, D.bool false, D.list t (List.map I xs), D.int IntKind.i64 ↑xs.length, D.int IntKind.i64 (i : Nat), g13, g14, g15, g16, g17, g18, g19, g20, g21, g22]
theorem sum (t : Bool) (xs : List Int) (hn : xs.length ≤ 4611686018427387904) : PDen Tryd.prog E 19 [.list t (xs.map I)] (res (sumS xs)) := by
  refine pden_by (fn := Tryd.f19) mixed Tryd.func19 rfl (closed_ints _ _) rfl ?_
  by_cases ha : xs.all F = true
  · have hs : sumS xs = sumG 0 xs := by unfold sumS; rw [if_pos ha]
    rw [hs]
    clear hs
    generalize hr : sumG 0 xs = r
    repeat' (first
      | (simp -implicitDefEqProofs only [*, Tryd.f19, ↓cwp_skip, ↓cwp_region, ↓cwp_drawn, ↓cwp_seq, ↓cwp_cond, ↓cwp_block, ↓cwp_loop, ↓cwp_exit, ↓cwp_ret, ↓kont_normal, ↓kont_exit, ↓kont_ret, ↓block_normal, ↓block_ret, ↓block_exit, ↓then_normal, ↓then_ret, ↓then_exit, ↓finF_normal, ↓finF_ret, ↓cseq_nil, ↓cseq_free, ↓cseq_cons, ↓seqK_go, ↓anyK_go, ↓caq_zero, ↓caq_nil, ↓caq_cons, ↓cStep_move, ↓cStep_assign, ↓cStep_eq, ↓cPure_eq, ↓cAny_eq, ↓anyP_go, fillT, fillH, ↓reduceIte, keeps, wantD, callee, aop, ev, ofV, nth, List.cons_append, List.nil_append, List.append_nil, undL, putO, put, List.length_cons, List.length_nil, Nat.reduceSub, Nat.reduceAdd, dBinT, dBin, dUn, Option.map, List.getElem?_toArray, List.toList_toArray, List.getElem?_cons_succ, List.getElem?_cons_zero, Option.bind, ge_iff_le, gt_iff_lt, resD, resL, resV, beq_true, beq_false, Option.some.injEq, List.map, Bool.not_true, Bool.not_false, Bool.false_eq_true, exists_eq_left', Bool.not_eq_true', decide_eq_true_eq, decide_eq_false_iff_not, ite_not, decide_true, decide_false, not_true_eq_false, not_false_eq_true, D.bool.injEq, if_true, if_false, and_true, true_and, ty3, ty4, ty31, sz3, dLen, dIdxA, dLoad, part, Ty.isA, D.cells, D.cells?, dField, dFieldA, dIdx, dFill, allCell, D.isCell, els, List.getElem?_map, Option.map_some, Int.toNat_natCast, List.length_map, Nat.lt_irrefl, Nat.zero_lt_one, Nat.zero_lt_succ, Option.some.injEq, Nat.le_refl, Nat.zero_add, Bool.false_eq_true, false_or, or_true, true_or, List.drop_zero, Int.natCast_nonneg, D.int.injEq, callee, Int.zero_le_ofNat, Nat.lt_add_one, List.getElem?_nil])
      | (refine .body (by kernel_rfl) (PDen.to (all54 _ _ hn) ?_))
      | rfl
      | split)
    refine loop_rule (Inv19 t r xs) ?_ xs.length ⟨0, 0, _, _, _, _, _, _, _, _, _, _, _, by omega, ⟨by omega, by omega⟩, ha, hr, rfl, rfl⟩
    clear hr ha
    rintro m ts H ⟨i, s, g6, g13, g14, g15, g16, g17, g18, g19, g20, g21, g22, him, ⟨hs0, hs1⟩, ha, hgo, rfl, rfl⟩
    by_cases hi : i < xs.length
    · obtain ⟨x, hx, hd⟩ := lt_get hi
      have hi' : (i : Int) < (xs.length : Int) := by omega
      have hidx := idx hn hi
      have hI : I x = .int .i64 x := rfl
      have hx01 := F_iff.1 (List.all_eq_true.1 ha x (List.mem_of_getElem? hx))
      have hw : IntKind.i64.wrap (s + x) = s + x := i64_in _ (by omega)
      rw [hd, sumG] at hgo
      by_cases hb : 1099511627776 < s + x
      · rw [if_pos hb] at hgo
        subst hgo
        clear ha
        repeat' (first
          | (simp -implicitDefEqProofs only [*, Tryd.f19, ↓cwp_skip, ↓cwp_region, ↓cwp_drawn, ↓cwp_seq, ↓cwp_cond, ↓cwp_block, ↓cwp_loop, ↓cwp_exit, ↓cwp_ret, ↓kont_normal, ↓kont_exit, ↓kont_ret, ↓block_normal, ↓block_ret, ↓block_exit, ↓then_normal, ↓then_ret, ↓then_exit, ↓finF_normal, ↓finF_ret, ↓cseq_nil, ↓cseq_free, ↓cseq_cons, ↓seqK_go, ↓anyK_go, ↓caq_zero, ↓caq_nil, ↓caq_cons, ↓cStep_move, ↓cStep_assign, ↓cStep_eq, ↓cPure_eq, ↓cAny_eq, ↓anyP_go, fillT, fillH, ↓reduceIte, keeps, wantD, callee, aop, ev, ofV, nth, List.cons_append, List.nil_append, List.append_nil, undL, putO, put, List.length_cons, List.length_nil, Nat.reduceSub, Nat.reduceAdd, dBinT, dBin, dUn, Option.map, List.getElem?_toArray, List.toList_toArray, List.getElem?_cons_succ, List.getElem?_cons_zero, Option.bind, ge_iff_le, gt_iff_lt, resD, resL, resV, beq_true, beq_false, Option.some.injEq, List.map, Bool.not_true, Bool.not_false, Bool.false_eq_true, exists_eq_left', Bool.not_eq_true', decide_eq_true_eq, decide_eq_false_iff_not, ite_not, decide_true, decide_false, not_true_eq_false, not_false_eq_true, D.bool.injEq, if_true, if_false, and_true, true_and, ty3, ty4, ty31, sz3, dLen, dIdxA, dLoad, part, Ty.isA, D.cells, D.cells?, dField, dFieldA, dIdx, dFill, allCell, D.isCell, els, List.getElem?_map, Option.map_some, Int.toNat_natCast, List.length_map, Nat.lt_irrefl, Nat.zero_lt_one, Nat.zero_lt_succ, Option.some.injEq, Nat.le_refl, Nat.zero_add, Bool.false_eq_true, false_or, or_true, true_or, List.drop_zero, Int.natCast_nonneg, D.int.injEq, callee, Int.zero_le_ofNat, Nat.lt_add_one, List.getElem?_nil, res_mk])
          | (refine .body (by kernel_rfl) (PDen.to (all54 _ _ hn) ?_))
          | rfl
          | split)
      · rw [if_neg hb] at hgo
        repeat' (first
          | (simp -implicitDefEqProofs only [*, Tryd.f19, ↓cwp_skip, ↓cwp_region, ↓cwp_drawn, ↓cwp_seq, ↓cwp_cond, ↓cwp_block, ↓cwp_loop, ↓cwp_exit, ↓cwp_ret, ↓kont_normal, ↓kont_exit, ↓kont_ret, ↓block_normal, ↓block_ret, ↓block_exit, ↓then_normal, ↓then_ret, ↓then_exit, ↓finF_normal, ↓finF_ret, ↓cseq_nil, ↓cseq_free, ↓cseq_cons, ↓seqK_go, ↓anyK_go, ↓caq_zero, ↓caq_nil, ↓caq_cons, ↓cStep_move, ↓cStep_assign, ↓cStep_eq, ↓cPure_eq, ↓cAny_eq, ↓anyP_go, fillT, fillH, ↓reduceIte, keeps, wantD, callee, aop, ev, ofV, nth, List.cons_append, List.nil_append, List.append_nil, undL, putO, put, List.length_cons, List.length_nil, Nat.reduceSub, Nat.reduceAdd, dBinT, dBin, dUn, Option.map, List.getElem?_toArray, List.toList_toArray, List.getElem?_cons_succ, List.getElem?_cons_zero, Option.bind, ge_iff_le, gt_iff_lt, resD, resL, resV, beq_true, beq_false, Option.some.injEq, List.map, Bool.not_true, Bool.not_false, Bool.false_eq_true, exists_eq_left', Bool.not_eq_true', decide_eq_true_eq, decide_eq_false_iff_not, ite_not, decide_true, decide_false, not_true_eq_false, not_false_eq_true, D.bool.injEq, if_true, if_false, and_true, true_and, ty3, ty4, ty31, sz3, dLen, dIdxA, dLoad, part, Ty.isA, D.cells, D.cells?, dField, dFieldA, dIdx, dFill, allCell, D.isCell, els, List.getElem?_map, Option.map_some, Int.toNat_natCast, List.length_map, Nat.lt_irrefl, Nat.zero_lt_one, Nat.zero_lt_succ, Option.some.injEq, Nat.le_refl, Nat.zero_add, Bool.false_eq_true, false_or, or_true, true_or, List.drop_zero, Int.natCast_nonneg, D.int.injEq, callee, Int.zero_le_ofNat, Nat.lt_add_one, List.getElem?_nil])
          | (refine .body (by kernel_rfl) (PDen.to (all54 _ _ hn) ?_))
          | rfl
          | split)
        exact ⟨m - 1, by omega, i + 1, s + x, _, _, _, _, _, _, _, _, _, _, _, by omega, ⟨by omega, by omega⟩, ha, hgo, rfl, rfl⟩
    · have hi' : ¬ (i : Int) < (xs.length : Int) := by omega
      rw [List.drop_eq_nil_of_le (by omega), sumG] at hgo
      subst hgo
      clear ha hs0 hs1
      repeat' (first
        | (simp -implicitDefEqProofs only [*, Tryd.f19, ↓cwp_skip, ↓cwp_region, ↓cwp_drawn, ↓cwp_seq, ↓cwp_cond, ↓cwp_block, ↓cwp_loop, ↓cwp_exit, ↓cwp_ret, ↓kont_normal, ↓kont_exit, ↓kont_ret, ↓block_normal, ↓block_ret, ↓block_exit, ↓then_normal, ↓then_ret, ↓then_exit, ↓finF_normal, ↓finF_ret, ↓cseq_nil, ↓cseq_free, ↓cseq_cons, ↓seqK_go, ↓anyK_go, ↓caq_zero, ↓caq_nil, ↓caq_cons, ↓cStep_move, ↓cStep_assign, ↓cStep_eq, ↓cPure_eq, ↓cAny_eq, ↓anyP_go, fillT, fillH, ↓reduceIte, keeps, wantD, callee, aop, ev, ofV, nth, List.cons_append, List.nil_append, List.append_nil, undL, putO, put, List.length_cons, List.length_nil, Nat.reduceSub, Nat.reduceAdd, dBinT, dBin, dUn, Option.map, List.getElem?_toArray, List.toList_toArray, List.getElem?_cons_succ, List.getElem?_cons_zero, Option.bind, ge_iff_le, gt_iff_lt, resD, resL, resV, beq_true, beq_false, Option.some.injEq, List.map, Bool.not_true, Bool.not_false, Bool.false_eq_true, exists_eq_left', Bool.not_eq_true', decide_eq_true_eq, decide_eq_false_iff_not, ite_not, decide_true, decide_false, not_true_eq_false, not_false_eq_true, D.bool.injEq, if_true, if_false, and_true, true_and, ty3, ty4, ty31, sz3, dLen, dIdxA, dLoad, part, Ty.isA, D.cells, D.cells?, dField, dFieldA, dIdx, dFill, allCell, D.isCell, els, List.getElem?_map, Option.map_some, Int.toNat_natCast, List.length_map, Nat.lt_irrefl, Nat.zero_lt_one, Nat.zero_lt_succ, Option.some.injEq, Nat.le_refl, Nat.zero_add, Bool.false_eq_true, false_or, or_true, true_or, List.drop_zero, Int.natCast_nonneg, D.int.injEq, callee, Int.zero_le_ofNat, Nat.lt_add_one, List.getElem?_nil, res_mk])
        | (refine .body (by kernel_rfl) (PDen.to (all54 _ _ hn) ?_))
        | rfl
        | split)
  · have hs : sumS xs = (0, 11) := by unfold sumS; rw [if_neg ha]
    have ha' : xs.all F = false := by simpa using ha
    clear ha
    repeat' (first
      | (simp -implicitDefEqProofs only [*, Tryd.f19, ↓cwp_skip, ↓cwp_region, ↓cwp_drawn, ↓cwp_seq, ↓cwp_cond, ↓cwp_block, ↓cwp_loop, ↓cwp_exit, ↓cwp_ret, ↓kont_normal, ↓kont_exit, ↓kont_ret, ↓block_normal, ↓block_ret, ↓block_exit, ↓then_normal, ↓then_ret, ↓then_exit, ↓finF_normal, ↓finF_ret, ↓cseq_nil, ↓cseq_free, ↓cseq_cons, ↓seqK_go, ↓anyK_go, ↓caq_zero, ↓caq_nil, ↓caq_cons, ↓cStep_move, ↓cStep_assign, ↓cStep_eq, ↓cPure_eq, ↓cAny_eq, ↓anyP_go, fillT, fillH, ↓reduceIte, keeps, wantD, callee, aop, ev, ofV, nth, List.cons_append, List.nil_append, List.append_nil, undL, putO, put, List.length_cons, List.length_nil, Nat.reduceSub, Nat.reduceAdd, dBinT, dBin, dUn, Option.map, List.getElem?_toArray, List.toList_toArray, List.getElem?_cons_succ, List.getElem?_cons_zero, Option.bind, ge_iff_le, gt_iff_lt, resD, resL, resV, beq_true, beq_false, Option.some.injEq, List.map, Bool.not_true, Bool.not_false, Bool.false_eq_true, exists_eq_left', Bool.not_eq_true', decide_eq_true_eq, decide_eq_false_iff_not, ite_not, decide_true, decide_false, not_true_eq_false, not_false_eq_true, D.bool.injEq, if_true, if_false, and_true, true_and, ty3, ty4, ty31, sz3, dLen, dIdxA, dLoad, part, Ty.isA, D.cells, D.cells?, dField, dFieldA, dIdx, dFill, allCell, D.isCell, els, List.getElem?_map, Option.map_some, Int.toNat_natCast, List.length_map, Nat.lt_irrefl, Nat.zero_lt_one, Nat.zero_lt_succ, Option.some.injEq, Nat.le_refl, Nat.zero_add, Bool.false_eq_true, false_or, or_true, true_or, List.drop_zero, Int.natCast_nonneg, D.int.injEq, callee, Int.zero_le_ofNat, Nat.lt_add_one, List.getElem?_nil, res_mk])
      | (refine .body (by kernel_rfl) (PDen.to (all54 _ _ hn) ?_))
      | rfl
      | split)
end Go.Lv
