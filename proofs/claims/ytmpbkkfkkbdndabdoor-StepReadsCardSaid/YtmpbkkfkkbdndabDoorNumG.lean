/- Num: what is read as a number: the reference. -/
import Derived.Test.YtmpbkkfkkbdndabDoorNumF
namespace Go.Lv
open Go Go.Proofs Go.IntWalk
set_option maxRecDepth 100000
set_option linter.unusedSimpArgs false
variable {E : Env}
def Hd (p : Prop) : Prop := p
theorem Hd.out {p : Prop} (h : Hd p) : p := h
def isD (b : UInt8) : Bool := decide (48 ≤ b.toNat) && decide (b.toNat ≤ 57)
theorem isD_iff {b : UInt8} : isD b = true ↔ 48 ≤ b.toNat ∧ b.toNat ≤ 57 := by simp [isD]
def numG : Int → List UInt8 → Option Int
  | n, [] => some n
  | n, b :: l => if (4611686018427387904 - ((b.toNat : Int) - 48)) / 10 < n then none else numG (n * 10 + ((b.toNat : Int) - 48)) l
def finP : Option Int → Int × Int
  | none => (0, 11)
  | some n => (n, 0)
def finN : Option Int → Int × Int
  | none => (0, 11)
  | some n => (-n, 0)
def numT (fin : Option Int → Int × Int) (ds : List UInt8) : Int × Int := if ds.all isD = true then fin (numG 0 ds) else (0, 7)
def numS (l : List UInt8) : Int × Int :=
  if l[0]? = some 45 then if l[1]? = none ∨ l[1]? = some 48 then (0, 7) else numT finN (l.drop 1)
  else if l[0]? = none ∨ (l[0]? = some 48 ∧ 1 < l.length) then (0, 7) else numT finP (l.drop 0)
theorem lt_get8 {xs : List UInt8} {i : Nat} (h : i < xs.length) : ∃ x, xs[i]? = some x ∧ xs.drop i = x :: xs.drop (i + 1) := ⟨xs[i], List.getElem?_eq_getElem h, List.drop_eq_getElem_cons h⟩
theorem mem_drop {xs : List UInt8} {f i : Nat} {x : UInt8} (hf : f ≤ i) (h : xs[i]? = some x) : x ∈ xs.drop f := by
  refine List.mem_of_getElem? (i := i - f) ?_
  rw [List.getElem?_drop, ← h]
  congr 1
  omega
theorem u8_ne {b c : UInt8} (h : b ≠ c) : ((b.toNat : Int) == (c.toNat : Int)) = false := by
  rw [beq_eq_false_iff_ne]
  intro e
  exact h (UInt8.toNat_inj.1 (by omega))
def Inv15a (l : List UInt8) (f : Nat) (m : Nat) (ts : List D) (H : Hp) : Prop := ∃ (i : Nat) (g9 g10 g11 g12 g13 g14 g15 g16 g17 g18 g19 g20 g21 g22 g23 g24 g25 g26 g27 g28 g29 g30 g31 g32 g33 g34 g35 g36 g37 g38 g39 g40 g41 g42 g43 g44 g45 g46 g47 g48 : D), (f ≤ i ∧ i + m = l.length) ∧ H = [] ∧ ts = [D.str l, D.und, D.int IntKind.i64 0, D.int IntKind.i64 0, D.int IntKind.i64 (f : Int), D.int IntKind.i64 (i : Int), D.und, D.und, D.und, g9, g10, g11, g12, g13, g14, g15, g16, g17, g18, g19, g20, g21, g22, g23, g24, g25, g26, g27, g28, g29, g30, g31, g32, g33, g34, g35, g36, g37, g38, g39, g40, g41, g42, g43, g44, g45, g46, g47, g48, D.und, D.und, D.und, D.und, D.und, D.und, D.und, D.und, D.und, D.und, D.und, D.und, D.und, D.und, D.und, D.und, D.und, D.und, D.und, D.und, D.und, D.und, D.und, D.und, D.und, D.und]
def Inv15b (l : List UInt8) (f : Nat) (r : Option Int) (m : Nat) (ts : List D) (H : Hp) : Prop := ∃ (i : Nat) (n : Int) (g5 g8 g9 g10 g11 g12 g13 g14 g15 g16 g17 g18 g19 g20 g21 g22 g23 g24 g25 g26 g27 g28 g29 g30 g31 g32 g33 g34 g35 g36 g37 g38 g39 g40 g41 g42 g43 g44 g45 g46 g47 g48 g49 g50 g51 g52 g53 g54 g55 g56 g57 g58 g59 g60 g61 g62 g63 g64 g65 g66 g67 g68 g69 g70 g71 g72 g73 g74 : D), (f ≤ i ∧ i + m = l.length) ∧ (0 ≤ n ∧ n ≤ 4611686018427387904) ∧ (numG n (l.drop i) = r) ∧ H = [] ∧ ts = [D.str l, D.und, D.int IntKind.i64 0, D.int IntKind.i64 0, D.int IntKind.i64 (f : Int), g5, D.int IntKind.i64 n, D.int IntKind.i64 (i : Int), g8, g9, g10, g11, g12, g13, g14, g15, g16, g17, g18, g19, g20, g21, g22, g23, g24, g25, g26, g27, g28, g29, g30, g31, g32, g33, g34, g35, g36, g37, g38, g39, g40, g41, g42, g43, g44, g45, g46, g47, g48, g49, g50, g51, g52, g53, g54, g55, g56, g57, g58, g59, g60, g61, g62, g63, g64, g65, g66, g67, g68, g69, g70, g71, g72, g73, g74]
def Inv15c (l : List UInt8) (f : Nat) (m : Nat) (ts : List D) (H : Hp) : Prop := ∃ (i : Nat) (g9 g10 g11 g12 g13 g14 g15 g16 g17 g18 g19 g20 g21 g22 g23 g24 g25 g26 g27 g28 g29 g30 g31 g32 g33 g34 g35 g36 g37 g38 g39 g40 g41 g42 g43 g44 g45 g46 g47 g48 : D), (i + m = l.length) ∧ ((l.drop i).all isD = false) ∧ H = [] ∧ ts = [D.str l, D.und, D.int IntKind.i64 0, D.int IntKind.i64 0, D.int IntKind.i64 (f : Int), D.int IntKind.i64 (i : Int), D.und, D.und, D.und, g9, g10, g11, g12, g13, g14, g15, g16, g17, g18, g19, g20, g21, g22, g23, g24, g25, g26, g27, g28, g29, g30, g31, g32, g33, g34, g35, g36, g37, g38, g39, g40, g41, g42, g43, g44, g45, g46, g47, g48, D.und, D.und, D.und, D.und, D.und, D.und, D.und, D.und, D.und, D.und, D.und, D.und, D.und, D.und, D.und, D.und, D.und, D.und, D.und, D.und, D.und, D.und, D.und, D.und, D.und, D.und]
set_option maxHeartbeats 4000000 in
theorem numberR (l : List UInt8) (hl : l.length ≤ 4611686018427387904) : PDen Tryd.prog E 47 [.str l] (res (numS l)) := by
  refine pden_by (fn := Tryd.f47) mixed Tryd.func47 rfl rfl rfl ?_
  by_cases h45 : l[0]? = some 45
  · have hp : (0 : Int) < (l.length : Int) := by have := (List.getElem?_eq_some_iff.1 h45).1; omega
    have hb : (((45 : UInt8).toNat : Int) == 45) = true := by decide
    by_cases h1 : l[1]? = none
    · have hN : numS l = (0, 7) := by unfold numS; rw [if_pos h45, if_pos (.inl h1)]
      have hq : ((l.length : Int) == 1) = true := by
        rw [beq_iff_eq]
        have := List.getElem?_eq_none_iff.1 h1
        omega
      clear h1
      repeat' (first
        | (simp -implicitDefEqProofs only [*, Tryd.f47, ↓cwp_skip, ↓cwp_region, ↓cwp_drawn, ↓cwp_seq, ↓cwp_cond, ↓cwp_block, ↓cwp_loop, ↓cwp_exit, ↓cwp_ret, ↓kont_normal, ↓kont_exit, ↓kont_ret, ↓block_normal, ↓block_ret, ↓block_exit, ↓then_normal, ↓then_ret, ↓then_exit, ↓finF_normal, ↓finF_ret, ↓cseq_nil, ↓cseq_free, ↓cseq_cons, ↓seqK_go, ↓anyK_go, ↓caq_zero, ↓caq_nil, ↓caq_cons, ↓cStep_move, ↓cStep_assign, ↓cStep_eq, ↓cPure_eq, ↓reduceIte, keeps, wantD, callee, aop, ev, ofV, nth, List.cons_append, List.nil_append, List.append_nil, undL, putO, put, List.length_cons, List.length_nil, Nat.reduceSub, Nat.reduceAdd, dBinT, dBin, dUn, Option.map, List.getElem?_toArray, List.toList_toArray, List.getElem?_cons_succ, List.getElem?_cons_zero, Option.bind, ge_iff_le, gt_iff_lt, resD, resL, resV, beq_true, beq_false, Option.some.injEq, List.map, Bool.not_true, Bool.not_false, Bool.false_eq_true, exists_eq_left', Bool.not_eq_true', decide_eq_true_eq, decide_eq_false_iff_not, ite_not, decide_true, decide_false, not_true_eq_false, not_false_eq_true, D.bool.injEq, if_true, if_false, and_true, true_and, ty3, ty4, ty5, ty9, ty21, dLen, dIdxA, dLoad, part, Ty.isA, D.cells, D.cells?, dField, dFieldA, dIdx, dFill, allCell, D.isCell, els, List.getElem?_map, Option.map_some, Int.toNat_natCast, List.length_map, Nat.lt_irrefl, Nat.zero_lt_one, Nat.zero_lt_succ, Option.some.injEq, Nat.le_refl, Nat.zero_add, Bool.false_eq_true, false_or, or_true, true_or, List.drop_zero, Int.natCast_nonneg, D.int.injEq, callee, Int.zero_le_ofNat, Nat.lt_add_one, List.getElem?_nil, dFill, rep, splice, List.take, List.drop, Nat.reduceMul, Nat.reduceLeDiff, Nat.reduceLT, Nat.reducePow, and_self, D.closedL, D.closed, Bool.and_self, bne_self_eq_false, beq_self_eq_true, bne, Bool.true_and, Bool.and_true, Bool.or_true, Bool.or_false, dConvH, dConv, Int.reduceToNat, Int.reduceBEq, Int.reduceLT, Int.reduceEq, Int.toNat_natCast, Int.natCast_nonneg, Int.zero_le_ofNat, Int.le_refl, beq_self_eq_true, Bool.not_true, Bool.not_false, finP, finN, Int.reduceLE, Int.reduceNeg])
        | rfl
        | split)
    · obtain ⟨c, hc⟩ := Option.ne_none_iff_exists'.1 h1
      have hlen := (List.getElem?_eq_some_iff.1 hc).1
      have hq : ((l.length : Int) == 1) = false := by rw [beq_eq_false_iff_ne]; omega
      have hq' : (1 : Int) < (l.length : Int) := by omega
      clear h1
      by_cases h48 : c = 48
      · subst h48
        have hN : numS l = (0, 7) := by unfold numS; rw [if_pos h45, if_pos (.inr hc)]
        have hb' : (((48 : UInt8).toNat : Int) == 48) = true := by decide
        repeat' (first
          | (simp -implicitDefEqProofs only [*, Tryd.f47, ↓cwp_skip, ↓cwp_region, ↓cwp_drawn, ↓cwp_seq, ↓cwp_cond, ↓cwp_block, ↓cwp_loop, ↓cwp_exit, ↓cwp_ret, ↓kont_normal, ↓kont_exit, ↓kont_ret, ↓block_normal, ↓block_ret, ↓block_exit, ↓then_normal, ↓then_ret, ↓then_exit, ↓finF_normal, ↓finF_ret, ↓cseq_nil, ↓cseq_free, ↓cseq_cons, ↓seqK_go, ↓anyK_go, ↓caq_zero, ↓caq_nil, ↓caq_cons, ↓cStep_move, ↓cStep_assign, ↓cStep_eq, ↓cPure_eq, ↓reduceIte, keeps, wantD, callee, aop, ev, ofV, nth, List.cons_append, List.nil_append, List.append_nil, undL, putO, put, List.length_cons, List.length_nil, Nat.reduceSub, Nat.reduceAdd, dBinT, dBin, dUn, Option.map, List.getElem?_toArray, List.toList_toArray, List.getElem?_cons_succ, List.getElem?_cons_zero, Option.bind, ge_iff_le, gt_iff_lt, resD, resL, resV, beq_true, beq_false, Option.some.injEq, List.map, Bool.not_true, Bool.not_false, Bool.false_eq_true, exists_eq_left', Bool.not_eq_true', decide_eq_true_eq, decide_eq_false_iff_not, ite_not, decide_true, decide_false, not_true_eq_false, not_false_eq_true, D.bool.injEq, if_true, if_false, and_true, true_and, ty3, ty4, ty5, ty9, ty21, dLen, dIdxA, dLoad, part, Ty.isA, D.cells, D.cells?, dField, dFieldA, dIdx, dFill, allCell, D.isCell, els, List.getElem?_map, Option.map_some, Int.toNat_natCast, List.length_map, Nat.lt_irrefl, Nat.zero_lt_one, Nat.zero_lt_succ, Option.some.injEq, Nat.le_refl, Nat.zero_add, Bool.false_eq_true, false_or, or_true, true_or, List.drop_zero, Int.natCast_nonneg, D.int.injEq, callee, Int.zero_le_ofNat, Nat.lt_add_one, List.getElem?_nil, dFill, rep, splice, List.take, List.drop, Nat.reduceMul, Nat.reduceLeDiff, Nat.reduceLT, Nat.reducePow, and_self, D.closedL, D.closed, Bool.and_self, bne_self_eq_false, beq_self_eq_true, bne, Bool.true_and, Bool.and_true, Bool.or_true, Bool.or_false, dConvH, dConv, Int.reduceToNat, Int.reduceBEq, Int.reduceLT, Int.reduceEq, Int.toNat_natCast, Int.natCast_nonneg, Int.zero_le_ofNat, Int.le_refl, beq_self_eq_true, Bool.not_true, Bool.not_false, finP, finN, Int.reduceLE, Int.reduceNeg])
          | rfl
          | split)
      · have hNh : Hd (numS l = numT finN (l.drop 1)) := by
          unfold Hd numS
          rw [if_pos h45, if_neg]
          rw [hc]
          simpa using h48
        have hb' : ((c.toNat : Int) == 48) = false := u8_ne h48
        clear h48
        repeat' (first
          | (simp -implicitDefEqProofs only [*, Tryd.f47, ↓cwp_skip, ↓cwp_region, ↓cwp_drawn, ↓cwp_seq, ↓cwp_cond, ↓cwp_block, ↓cwp_loop, ↓cwp_exit, ↓cwp_ret, ↓kont_normal, ↓kont_exit, ↓kont_ret, ↓block_normal, ↓block_ret, ↓block_exit, ↓then_normal, ↓then_ret, ↓then_exit, ↓finF_normal, ↓finF_ret, ↓cseq_nil, ↓cseq_free, ↓cseq_cons, ↓seqK_go, ↓anyK_go, ↓caq_zero, ↓caq_nil, ↓caq_cons, ↓cStep_move, ↓cStep_assign, ↓cStep_eq, ↓cPure_eq, ↓reduceIte, keeps, wantD, callee, aop, ev, ofV, nth, List.cons_append, List.nil_append, List.append_nil, undL, putO, put, List.length_cons, List.length_nil, Nat.reduceSub, Nat.reduceAdd, dBinT, dBin, dUn, Option.map, List.getElem?_toArray, List.toList_toArray, List.getElem?_cons_succ, List.getElem?_cons_zero, Option.bind, ge_iff_le, gt_iff_lt, resD, resL, resV, beq_true, beq_false, Option.some.injEq, List.map, Bool.not_true, Bool.not_false, Bool.false_eq_true, exists_eq_left', Bool.not_eq_true', decide_eq_true_eq, decide_eq_false_iff_not, ite_not, decide_true, decide_false, not_true_eq_false, not_false_eq_true, D.bool.injEq, if_true, if_false, and_true, true_and, ty3, ty4, ty5, ty9, ty21, dLen, dIdxA, dLoad, part, Ty.isA, D.cells, D.cells?, dField, dFieldA, dIdx, dFill, allCell, D.isCell, els, List.getElem?_map, Option.map_some, Int.toNat_natCast, List.length_map, Nat.lt_irrefl, Nat.zero_lt_one, Nat.zero_lt_succ, Option.some.injEq, Nat.le_refl, Nat.zero_add, Bool.false_eq_true, false_or, or_true, true_or, List.drop_zero, Int.natCast_nonneg, D.int.injEq, callee, Int.zero_le_ofNat, Nat.lt_add_one, List.getElem?_nil, dFill, rep, splice, List.take, List.drop, Nat.reduceMul, Nat.reduceLeDiff, Nat.reduceLT, Nat.reducePow, and_self, D.closedL, D.closed, Bool.and_self, bne_self_eq_false, beq_self_eq_true, bne, Bool.true_and, Bool.and_true, Bool.or_true, Bool.or_false, dConvH, dConv, Int.reduceToNat, Int.reduceBEq, Int.reduceLT, Int.reduceEq, Int.toNat_natCast, Int.natCast_nonneg, Int.zero_le_ofNat, Int.le_refl, beq_self_eq_true, Bool.not_true, Bool.not_false, finP, finN, Int.reduceLE, Int.reduceNeg])
          | rfl
          | split)

        have hcast : ((1 : Nat) : Int) = 1 := rfl
        have hN : numS l = numT finN (l.drop 1) := hNh
        clear hNh
        by_cases ha : (l.drop 1).all isD = true
        · have hN' : Hd (numS l = finN (numG 0 (l.drop 1))) := by unfold Hd; rw [hN]; unfold numT; rw [if_pos ha]
          generalize hr : numG 0 (l.drop 1) = r at hN'
          clear hN
          refine loop_rule (Inv15a l 1) ?_ (l.length - 1) ⟨1, _, _, _, _, _, _, _, _, _, _, _, _, _, _, _, _, _, _, _, _, _, _, _, _, _, _, _, _, _, _, _, _, _, _, _, _, _, _, _, _, ⟨by omega, by omega⟩, rfl, rfl⟩
          rintro m ts H ⟨i, g9, g10, g11, g12, g13, g14, g15, g16, g17, g18, g19, g20, g21, g22, g23, g24, g25, g26, g27, g28, g29, g30, g31, g32, g33, g34, g35, g36, g37, g38, g39, g40, g41, g42, g43, g44, g45, g46, g47, g48, ⟨hfi, him⟩, rfl, rfl⟩
          by_cases hi : i < l.length
          · obtain ⟨x, hx, hd⟩ := lt_get8 hi
            have hi' : (i : Int) < (l.length : Int) := by omega
            have hidx := idx hl hi
            have hD := isD_iff.1 (List.all_eq_true.1 ha x (mem_drop hfi hx))
            have h1 : ¬ (x.toNat : Int) < 48 := by omega
            have h2 : ¬ 57 < (x.toNat : Int) := by omega
            clear ha hr
            repeat' (first
              | (simp -implicitDefEqProofs only [*, Tryd.f47, ↓cwp_skip, ↓cwp_region, ↓cwp_drawn, ↓cwp_seq, ↓cwp_cond, ↓cwp_block, ↓cwp_loop, ↓cwp_exit, ↓cwp_ret, ↓kont_normal, ↓kont_exit, ↓kont_ret, ↓block_normal, ↓block_ret, ↓block_exit, ↓then_normal, ↓then_ret, ↓then_exit, ↓finF_normal, ↓finF_ret, ↓cseq_nil, ↓cseq_free, ↓cseq_cons, ↓seqK_go, ↓anyK_go, ↓caq_zero, ↓caq_nil, ↓caq_cons, ↓cStep_move, ↓cStep_assign, ↓cStep_eq, ↓cPure_eq, ↓reduceIte, keeps, wantD, callee, aop, ev, ofV, nth, List.cons_append, List.nil_append, List.append_nil, undL, putO, put, List.length_cons, List.length_nil, Nat.reduceSub, Nat.reduceAdd, dBinT, dBin, dUn, Option.map, List.getElem?_toArray, List.toList_toArray, List.getElem?_cons_succ, List.getElem?_cons_zero, Option.bind, ge_iff_le, gt_iff_lt, resD, resL, resV, beq_true, beq_false, Option.some.injEq, List.map, Bool.not_true, Bool.not_false, Bool.false_eq_true, exists_eq_left', Bool.not_eq_true', decide_eq_true_eq, decide_eq_false_iff_not, ite_not, decide_true, decide_false, not_true_eq_false, not_false_eq_true, D.bool.injEq, if_true, if_false, and_true, true_and, ty3, ty4, ty5, ty9, ty21, dLen, dIdxA, dLoad, part, Ty.isA, D.cells, D.cells?, dField, dFieldA, dIdx, dFill, allCell, D.isCell, els, List.getElem?_map, Option.map_some, Int.toNat_natCast, List.length_map, Nat.lt_irrefl, Nat.zero_lt_one, Nat.zero_lt_succ, Option.some.injEq, Nat.le_refl, Nat.zero_add, Bool.false_eq_true, false_or, or_true, true_or, List.drop_zero, Int.natCast_nonneg, D.int.injEq, callee, Int.zero_le_ofNat, Nat.lt_add_one, List.getElem?_nil, dFill, rep, splice, List.take, List.drop, Nat.reduceMul, Nat.reduceLeDiff, Nat.reduceLT, Nat.reducePow, and_self, D.closedL, D.closed, Bool.and_self, bne_self_eq_false, beq_self_eq_true, bne, Bool.true_and, Bool.and_true, Bool.or_true, Bool.or_false, dConvH, dConv, Int.reduceToNat, Int.reduceBEq, Int.reduceLT, Int.reduceEq, Int.toNat_natCast, Int.natCast_nonneg, Int.zero_le_ofNat, Int.le_refl, beq_self_eq_true, Bool.not_true, Bool.not_false, finP, finN, Int.reduceLE, Int.reduceNeg])
              | rfl
              | split)
            exact ⟨m - 1, by omega, i + 1, _, _, _, _, _, _, _, _, _, _, _, _, _, _, _, _, _, _, _, _, _, _, _, _, _, _, _, _, _, _, _, _, _, _, _, _, _, _, _, _, ⟨by omega, by omega⟩, rfl, rfl⟩
          · have hi' : ¬ (i : Int) < (l.length : Int) := by omega
            repeat' (first
              | (simp -implicitDefEqProofs only [*, Tryd.f47, ↓cwp_skip, ↓cwp_region, ↓cwp_drawn, ↓cwp_seq, ↓cwp_cond, ↓cwp_block, ↓cwp_loop, ↓cwp_exit, ↓cwp_ret, ↓kont_normal, ↓kont_exit, ↓kont_ret, ↓block_normal, ↓block_ret, ↓block_exit, ↓then_normal, ↓then_ret, ↓then_exit, ↓finF_normal, ↓finF_ret, ↓cseq_nil, ↓cseq_free, ↓cseq_cons, ↓seqK_go, ↓anyK_go, ↓caq_zero, ↓caq_nil, ↓caq_cons, ↓cStep_move, ↓cStep_assign, ↓cStep_eq, ↓cPure_eq, ↓reduceIte, keeps, wantD, callee, aop, ev, ofV, nth, List.cons_append, List.nil_append, List.append_nil, undL, putO, put, List.length_cons, List.length_nil, Nat.reduceSub, Nat.reduceAdd, dBinT, dBin, dUn, Option.map, List.getElem?_toArray, List.toList_toArray, List.getElem?_cons_succ, List.getElem?_cons_zero, Option.bind, ge_iff_le, gt_iff_lt, resD, resL, resV, beq_true, beq_false, Option.some.injEq, List.map, Bool.not_true, Bool.not_false, Bool.false_eq_true, exists_eq_left', Bool.not_eq_true', decide_eq_true_eq, decide_eq_false_iff_not, ite_not, decide_true, decide_false, not_true_eq_false, not_false_eq_true, D.bool.injEq, if_true, if_false, and_true, true_and, ty3, ty4, ty5, ty9, ty21, dLen, dIdxA, dLoad, part, Ty.isA, D.cells, D.cells?, dField, dFieldA, dIdx, dFill, allCell, D.isCell, els, List.getElem?_map, Option.map_some, Int.toNat_natCast, List.length_map, Nat.lt_irrefl, Nat.zero_lt_one, Nat.zero_lt_succ, Option.some.injEq, Nat.le_refl, Nat.zero_add, Bool.false_eq_true, false_or, or_true, true_or, List.drop_zero, Int.natCast_nonneg, D.int.injEq, callee, Int.zero_le_ofNat, Nat.lt_add_one, List.getElem?_nil, dFill, rep, splice, List.take, List.drop, Nat.reduceMul, Nat.reduceLeDiff, Nat.reduceLT, Nat.reducePow, and_self, D.closedL, D.closed, Bool.and_self, bne_self_eq_false, beq_self_eq_true, bne, Bool.true_and, Bool.and_true, Bool.or_true, Bool.or_false, dConvH, dConv, Int.reduceToNat, Int.reduceBEq, Int.reduceLT, Int.reduceEq, Int.toNat_natCast, Int.natCast_nonneg, Int.zero_le_ofNat, Int.le_refl, beq_self_eq_true, Bool.not_true, Bool.not_false, finP, finN, Int.reduceLE, Int.reduceNeg])
              | rfl
              | split)
            refine loop_rule (Inv15b l 1 r) ?_ (l.length - 1) ⟨1, 0, _, _, _, _, _, _, _, _, _, _, _, _, _, _, _, _, _, _, _, _, _, _, _, _, _, _, _, _, _, _, _, _, _, _, _, _, _, _, _, _, _, _, _, _, _, _, _, _, _, _, _, _, _, _, _, _, _, _, _, _, _, _, _, _, _, _, _, _, ⟨by omega, by omega⟩, ⟨by omega, by omega⟩, hr, rfl, rfl⟩
            clear hr him hi hi' hfi
            rintro m' ts H ⟨i', n, g5, g8, g9, g10, g11, g12, g13, g14, g15, g16, g17, g18, g19, g20, g21, g22, g23, g24, g25, g26, g27, g28, g29, g30, g31, g32, g33, g34, g35, g36, g37, g38, g39, g40, g41, g42, g43, g44, g45, g46, g47, g48, g49, g50, g51, g52, g53, g54, g55, g56, g57, g58, g59, g60, g61, g62, g63, g64, g65, g66, g67, g68, g69, g70, g71, g72, g73, g74, ⟨hfi, him⟩, ⟨hn0, hn1⟩, hgo, rfl, rfl⟩
            by_cases hi : i' < l.length
            · obtain ⟨x, hx, hd⟩ := lt_get8 hi
              have hi' : (i' : Int) < (l.length : Int) := by omega
              have hidx := idx hl hi
              have hD := isD_iff.1 (List.all_eq_true.1 ha x (mem_drop hfi hx))
              rw [hd, numG] at hgo
              obtain ⟨d, hdd⟩ : ∃ d : Int, d = (x.toNat : Int) - 48 := ⟨_, rfl⟩
              rw [← hdd] at hgo
              have h1 : IntKind.u8.wrap ((x.toNat : Int) - 48) = d := by rw [u8_in _ (by omega)]; omega
              have h2 : IntKind.i64.wrap d = d := i64_in _ (by omega)
              have h3 : IntKind.i64.wrap (4611686018427387904 - d) = 4611686018427387904 - d := i64_in _ (by omega)
              have h4 : IntKind.i64.wrap (Int.tdiv (4611686018427387904 - d) 10) = (4611686018427387904 - d) / 10 := i64_quo _ _ (by omega)
              have h0 : ¬ (10 : Int) = 0 := by omega
              by_cases hb : (4611686018427387904 - d) / 10 < n
              · rw [if_pos hb] at hgo
                subst hgo
                have hN2 := Hd.out hN'
                clear ha hdd hN'
                repeat' (first
                  | (simp -implicitDefEqProofs only [*, Tryd.f47, ↓cwp_skip, ↓cwp_region, ↓cwp_drawn, ↓cwp_seq, ↓cwp_cond, ↓cwp_block, ↓cwp_loop, ↓cwp_exit, ↓cwp_ret, ↓kont_normal, ↓kont_exit, ↓kont_ret, ↓block_normal, ↓block_ret, ↓block_exit, ↓then_normal, ↓then_ret, ↓then_exit, ↓finF_normal, ↓finF_ret, ↓cseq_nil, ↓cseq_free, ↓cseq_cons, ↓seqK_go, ↓anyK_go, ↓caq_zero, ↓caq_nil, ↓caq_cons, ↓cStep_move, ↓cStep_assign, ↓cStep_eq, ↓cPure_eq, ↓reduceIte, keeps, wantD, callee, aop, ev, ofV, nth, List.cons_append, List.nil_append, List.append_nil, undL, putO, put, List.length_cons, List.length_nil, Nat.reduceSub, Nat.reduceAdd, dBinT, dBin, dUn, Option.map, List.getElem?_toArray, List.toList_toArray, List.getElem?_cons_succ, List.getElem?_cons_zero, Option.bind, ge_iff_le, gt_iff_lt, resD, resL, resV, beq_true, beq_false, Option.some.injEq, List.map, Bool.not_true, Bool.not_false, Bool.false_eq_true, exists_eq_left', Bool.not_eq_true', decide_eq_true_eq, decide_eq_false_iff_not, ite_not, decide_true, decide_false, not_true_eq_false, not_false_eq_true, D.bool.injEq, if_true, if_false, and_true, true_and, ty3, ty4, ty5, ty9, ty21, dLen, dIdxA, dLoad, part, Ty.isA, D.cells, D.cells?, dField, dFieldA, dIdx, dFill, allCell, D.isCell, els, List.getElem?_map, Option.map_some, Int.toNat_natCast, List.length_map, Nat.lt_irrefl, Nat.zero_lt_one, Nat.zero_lt_succ, Option.some.injEq, Nat.le_refl, Nat.zero_add, Bool.false_eq_true, false_or, or_true, true_or, List.drop_zero, Int.natCast_nonneg, D.int.injEq, callee, Int.zero_le_ofNat, Nat.lt_add_one, List.getElem?_nil, dFill, rep, splice, List.take, List.drop, Nat.reduceMul, Nat.reduceLeDiff, Nat.reduceLT, Nat.reducePow, and_self, D.closedL, D.closed, Bool.and_self, bne_self_eq_false, beq_self_eq_true, bne, Bool.true_and, Bool.and_true, Bool.or_true, Bool.or_false, dConvH, dConv, Int.reduceToNat, Int.reduceBEq, Int.reduceLT, Int.reduceEq, Int.toNat_natCast, Int.natCast_nonneg, Int.zero_le_ofNat, Int.le_refl, beq_self_eq_true, Bool.not_true, Bool.not_false, finP, finN, Int.reduceLE, Int.reduceNeg])
                  | rfl
                  | split)
              · rw [if_neg hb] at hgo
                have h5 : IntKind.i64.wrap (10 * n) = 10 * n := i64_in _ (by omega)
                have h6 : IntKind.i64.wrap (10 * n + d) = n * 10 + d := by rw [i64_in _ (by omega)]; omega
                have hb1 : 0 ≤ n * 10 + d ∧ n * 10 + d ≤ 4611686018427387904 := by omega
                clear hdd
                repeat' (first
                  | (simp -implicitDefEqProofs only [*, Tryd.f47, ↓cwp_skip, ↓cwp_region, ↓cwp_drawn, ↓cwp_seq, ↓cwp_cond, ↓cwp_block, ↓cwp_loop, ↓cwp_exit, ↓cwp_ret, ↓kont_normal, ↓kont_exit, ↓kont_ret, ↓block_normal, ↓block_ret, ↓block_exit, ↓then_normal, ↓then_ret, ↓then_exit, ↓finF_normal, ↓finF_ret, ↓cseq_nil, ↓cseq_free, ↓cseq_cons, ↓seqK_go, ↓anyK_go, ↓caq_zero, ↓caq_nil, ↓caq_cons, ↓cStep_move, ↓cStep_assign, ↓cStep_eq, ↓cPure_eq, ↓reduceIte, keeps, wantD, callee, aop, ev, ofV, nth, List.cons_append, List.nil_append, List.append_nil, undL, putO, put, List.length_cons, List.length_nil, Nat.reduceSub, Nat.reduceAdd, dBinT, dBin, dUn, Option.map, List.getElem?_toArray, List.toList_toArray, List.getElem?_cons_succ, List.getElem?_cons_zero, Option.bind, ge_iff_le, gt_iff_lt, resD, resL, resV, beq_true, beq_false, Option.some.injEq, List.map, Bool.not_true, Bool.not_false, Bool.false_eq_true, exists_eq_left', Bool.not_eq_true', decide_eq_true_eq, decide_eq_false_iff_not, ite_not, decide_true, decide_false, not_true_eq_false, not_false_eq_true, D.bool.injEq, if_true, if_false, and_true, true_and, ty3, ty4, ty5, ty9, ty21, dLen, dIdxA, dLoad, part, Ty.isA, D.cells, D.cells?, dField, dFieldA, dIdx, dFill, allCell, D.isCell, els, List.getElem?_map, Option.map_some, Int.toNat_natCast, List.length_map, Nat.lt_irrefl, Nat.zero_lt_one, Nat.zero_lt_succ, Option.some.injEq, Nat.le_refl, Nat.zero_add, Bool.false_eq_true, false_or, or_true, true_or, List.drop_zero, Int.natCast_nonneg, D.int.injEq, callee, Int.zero_le_ofNat, Nat.lt_add_one, List.getElem?_nil, dFill, rep, splice, List.take, List.drop, Nat.reduceMul, Nat.reduceLeDiff, Nat.reduceLT, Nat.reducePow, and_self, D.closedL, D.closed, Bool.and_self, bne_self_eq_false, beq_self_eq_true, bne, Bool.true_and, Bool.and_true, Bool.or_true, Bool.or_false, dConvH, dConv, Int.reduceToNat, Int.reduceBEq, Int.reduceLT, Int.reduceEq, Int.toNat_natCast, Int.natCast_nonneg, Int.zero_le_ofNat, Int.le_refl, beq_self_eq_true, Bool.not_true, Bool.not_false, finP, finN, Int.reduceLE, Int.reduceNeg])
                  | rfl
                  | split)
                exact ⟨m' - 1, by omega, i' + 1, n * 10 + d, _, _, _, _, _, _, _, _, _, _, _, _, _, _, _, _, _, _, _, _, _, _, _, _, _, _, _, _, _, _, _, _, _, _, _, _, _, _, _, _, _, _, _, _, _, _, _, _, _, _, _, _, _, _, _, _, _, _, _, _, _, _, _, _, _, _, _, _, ⟨by omega, by omega⟩, hb1, hgo, rfl, rfl⟩
            · have hi' : ¬ (i' : Int) < (l.length : Int) := by omega
              rw [List.drop_eq_nil_of_le (by omega), numG] at hgo
              have h5 : IntKind.i64.wrap (0 - n) = -n := by rw [i64_in _ (by omega)]; omega
              subst hgo
              have hN2 := Hd.out hN'
              clear ha hn0 hn1 hN'
              repeat' (first
                | (simp -implicitDefEqProofs only [*, Tryd.f47, ↓cwp_skip, ↓cwp_region, ↓cwp_drawn, ↓cwp_seq, ↓cwp_cond, ↓cwp_block, ↓cwp_loop, ↓cwp_exit, ↓cwp_ret, ↓kont_normal, ↓kont_exit, ↓kont_ret, ↓block_normal, ↓block_ret, ↓block_exit, ↓then_normal, ↓then_ret, ↓then_exit, ↓finF_normal, ↓finF_ret, ↓cseq_nil, ↓cseq_free, ↓cseq_cons, ↓seqK_go, ↓anyK_go, ↓caq_zero, ↓caq_nil, ↓caq_cons, ↓cStep_move, ↓cStep_assign, ↓cStep_eq, ↓cPure_eq, ↓reduceIte, keeps, wantD, callee, aop, ev, ofV, nth, List.cons_append, List.nil_append, List.append_nil, undL, putO, put, List.length_cons, List.length_nil, Nat.reduceSub, Nat.reduceAdd, dBinT, dBin, dUn, Option.map, List.getElem?_toArray, List.toList_toArray, List.getElem?_cons_succ, List.getElem?_cons_zero, Option.bind, ge_iff_le, gt_iff_lt, resD, resL, resV, beq_true, beq_false, Option.some.injEq, List.map, Bool.not_true, Bool.not_false, Bool.false_eq_true, exists_eq_left', Bool.not_eq_true', decide_eq_true_eq, decide_eq_false_iff_not, ite_not, decide_true, decide_false, not_true_eq_false, not_false_eq_true, D.bool.injEq, if_true, if_false, and_true, true_and, ty3, ty4, ty5, ty9, ty21, dLen, dIdxA, dLoad, part, Ty.isA, D.cells, D.cells?, dField, dFieldA, dIdx, dFill, allCell, D.isCell, els, List.getElem?_map, Option.map_some, Int.toNat_natCast, List.length_map, Nat.lt_irrefl, Nat.zero_lt_one, Nat.zero_lt_succ, Option.some.injEq, Nat.le_refl, Nat.zero_add, Bool.false_eq_true, false_or, or_true, true_or, List.drop_zero, Int.natCast_nonneg, D.int.injEq, callee, Int.zero_le_ofNat, Nat.lt_add_one, List.getElem?_nil, dFill, rep, splice, List.take, List.drop, Nat.reduceMul, Nat.reduceLeDiff, Nat.reduceLT, Nat.reducePow, and_self, D.closedL, D.closed, Bool.and_self, bne_self_eq_false, beq_self_eq_true, bne, Bool.true_and, Bool.and_true, Bool.or_true, Bool.or_false, dConvH, dConv, Int.reduceToNat, Int.reduceBEq, Int.reduceLT, Int.reduceEq, Int.toNat_natCast, Int.natCast_nonneg, Int.zero_le_ofNat, Int.le_refl, beq_self_eq_true, Bool.not_true, Bool.not_false, finP, finN, Int.reduceLE, Int.reduceNeg])
                | rfl
                | split)
        · have hN' : numS l = (0, 7) := by rw [hN]; unfold numT; rw [if_neg ha]
          have ha' : (l.drop 1).all isD = false := by simpa using ha
          clear hN ha
          refine loop_rule (Inv15c l 1) ?_ (l.length - 1) ⟨1, _, _, _, _, _, _, _, _, _, _, _, _, _, _, _, _, _, _, _, _, _, _, _, _, _, _, _, _, _, _, _, _, _, _, _, _, _, _, _, _, by omega, ha', rfl, rfl⟩
          clear ha'
          rintro m ts H ⟨i, g9, g10, g11, g12, g13, g14, g15, g16, g17, g18, g19, g20, g21, g22, g23, g24, g25, g26, g27, g28, g29, g30, g31, g32, g33, g34, g35, g36, g37, g38, g39, g40, g41, g42, g43, g44, g45, g46, g47, g48, him, hall, rfl, rfl⟩
          by_cases hi : i < l.length
          · obtain ⟨x, hx, hd⟩ := lt_get8 hi
            have hi' : (i : Int) < (l.length : Int) := by omega
            have hidx := idx hl hi
            rw [hd, List.all_cons] at hall
            by_cases hF : isD x = true
            · rw [hF, Bool.true_and] at hall
              have hD := isD_iff.1 hF
              have h1 : ¬ (x.toNat : Int) < 48 := by omega
              have h2 : ¬ 57 < (x.toNat : Int) := by omega
              clear hF hD
              repeat' (first
                | (simp -implicitDefEqProofs only [*, Tryd.f47, ↓cwp_skip, ↓cwp_region, ↓cwp_drawn, ↓cwp_seq, ↓cwp_cond, ↓cwp_block, ↓cwp_loop, ↓cwp_exit, ↓cwp_ret, ↓kont_normal, ↓kont_exit, ↓kont_ret, ↓block_normal, ↓block_ret, ↓block_exit, ↓then_normal, ↓then_ret, ↓then_exit, ↓finF_normal, ↓finF_ret, ↓cseq_nil, ↓cseq_free, ↓cseq_cons, ↓seqK_go, ↓anyK_go, ↓caq_zero, ↓caq_nil, ↓caq_cons, ↓cStep_move, ↓cStep_assign, ↓cStep_eq, ↓cPure_eq, ↓reduceIte, keeps, wantD, callee, aop, ev, ofV, nth, List.cons_append, List.nil_append, List.append_nil, undL, putO, put, List.length_cons, List.length_nil, Nat.reduceSub, Nat.reduceAdd, dBinT, dBin, dUn, Option.map, List.getElem?_toArray, List.toList_toArray, List.getElem?_cons_succ, List.getElem?_cons_zero, Option.bind, ge_iff_le, gt_iff_lt, resD, resL, resV, beq_true, beq_false, Option.some.injEq, List.map, Bool.not_true, Bool.not_false, Bool.false_eq_true, exists_eq_left', Bool.not_eq_true', decide_eq_true_eq, decide_eq_false_iff_not, ite_not, decide_true, decide_false, not_true_eq_false, not_false_eq_true, D.bool.injEq, if_true, if_false, and_true, true_and, ty3, ty4, ty5, ty9, ty21, dLen, dIdxA, dLoad, part, Ty.isA, D.cells, D.cells?, dField, dFieldA, dIdx, dFill, allCell, D.isCell, els, List.getElem?_map, Option.map_some, Int.toNat_natCast, List.length_map, Nat.lt_irrefl, Nat.zero_lt_one, Nat.zero_lt_succ, Option.some.injEq, Nat.le_refl, Nat.zero_add, Bool.false_eq_true, false_or, or_true, true_or, List.drop_zero, Int.natCast_nonneg, D.int.injEq, callee, Int.zero_le_ofNat, Nat.lt_add_one, List.getElem?_nil, dFill, rep, splice, List.take, List.drop, Nat.reduceMul, Nat.reduceLeDiff, Nat.reduceLT, Nat.reducePow, and_self, D.closedL, D.closed, Bool.and_self, bne_self_eq_false, beq_self_eq_true, bne, Bool.true_and, Bool.and_true, Bool.or_true, Bool.or_false, dConvH, dConv, Int.reduceToNat, Int.reduceBEq, Int.reduceLT, Int.reduceEq, Int.toNat_natCast, Int.natCast_nonneg, Int.zero_le_ofNat, Int.le_refl, beq_self_eq_true, Bool.not_true, Bool.not_false, finP, finN, Int.reduceLE, Int.reduceNeg])
                | rfl
                | split)
              exact ⟨m - 1, by omega, i + 1, _, _, _, _, _, _, _, _, _, _, _, _, _, _, _, _, _, _, _, _, _, _, _, _, _, _, _, _, _, _, _, _, _, _, _, _, _, _, _, _, by omega, hall, rfl, rfl⟩
            · by_cases h1 : (x.toNat : Int) < 48
              · repeat' (first
                  | (simp -implicitDefEqProofs only [*, Tryd.f47, ↓cwp_skip, ↓cwp_region, ↓cwp_drawn, ↓cwp_seq, ↓cwp_cond, ↓cwp_block, ↓cwp_loop, ↓cwp_exit, ↓cwp_ret, ↓kont_normal, ↓kont_exit, ↓kont_ret, ↓block_normal, ↓block_ret, ↓block_exit, ↓then_normal, ↓then_ret, ↓then_exit, ↓finF_normal, ↓finF_ret, ↓cseq_nil, ↓cseq_free, ↓cseq_cons, ↓seqK_go, ↓anyK_go, ↓caq_zero, ↓caq_nil, ↓caq_cons, ↓cStep_move, ↓cStep_assign, ↓cStep_eq, ↓cPure_eq, ↓reduceIte, keeps, wantD, callee, aop, ev, ofV, nth, List.cons_append, List.nil_append, List.append_nil, undL, putO, put, List.length_cons, List.length_nil, Nat.reduceSub, Nat.reduceAdd, dBinT, dBin, dUn, Option.map, List.getElem?_toArray, List.toList_toArray, List.getElem?_cons_succ, List.getElem?_cons_zero, Option.bind, ge_iff_le, gt_iff_lt, resD, resL, resV, beq_true, beq_false, Option.some.injEq, List.map, Bool.not_true, Bool.not_false, Bool.false_eq_true, exists_eq_left', Bool.not_eq_true', decide_eq_true_eq, decide_eq_false_iff_not, ite_not, decide_true, decide_false, not_true_eq_false, not_false_eq_true, D.bool.injEq, if_true, if_false, and_true, true_and, ty3, ty4, ty5, ty9, ty21, dLen, dIdxA, dLoad, part, Ty.isA, D.cells, D.cells?, dField, dFieldA, dIdx, dFill, allCell, D.isCell, els, List.getElem?_map, Option.map_some, Int.toNat_natCast, List.length_map, Nat.lt_irrefl, Nat.zero_lt_one, Nat.zero_lt_succ, Option.some.injEq, Nat.le_refl, Nat.zero_add, Bool.false_eq_true, false_or, or_true, true_or, List.drop_zero, Int.natCast_nonneg, D.int.injEq, callee, Int.zero_le_ofNat, Nat.lt_add_one, List.getElem?_nil, dFill, rep, splice, List.take, List.drop, Nat.reduceMul, Nat.reduceLeDiff, Nat.reduceLT, Nat.reducePow, and_self, D.closedL, D.closed, Bool.and_self, bne_self_eq_false, beq_self_eq_true, bne, Bool.true_and, Bool.and_true, Bool.or_true, Bool.or_false, dConvH, dConv, Int.reduceToNat, Int.reduceBEq, Int.reduceLT, Int.reduceEq, Int.toNat_natCast, Int.natCast_nonneg, Int.zero_le_ofNat, Int.le_refl, beq_self_eq_true, Bool.not_true, Bool.not_false, finP, finN, Int.reduceLE, Int.reduceNeg])
                  | rfl
                  | split)
              · have h2 : 57 < (x.toNat : Int) := by
                  have : ¬ (48 ≤ x.toNat ∧ x.toNat ≤ 57) := fun h => hF (isD_iff.2 h)
                  omega
                clear hF hall
                repeat' (first
                  | (simp -implicitDefEqProofs only [*, Tryd.f47, ↓cwp_skip, ↓cwp_region, ↓cwp_drawn, ↓cwp_seq, ↓cwp_cond, ↓cwp_block, ↓cwp_loop, ↓cwp_exit, ↓cwp_ret, ↓kont_normal, ↓kont_exit, ↓kont_ret, ↓block_normal, ↓block_ret, ↓block_exit, ↓then_normal, ↓then_ret, ↓then_exit, ↓finF_normal, ↓finF_ret, ↓cseq_nil, ↓cseq_free, ↓cseq_cons, ↓seqK_go, ↓anyK_go, ↓caq_zero, ↓caq_nil, ↓caq_cons, ↓cStep_move, ↓cStep_assign, ↓cStep_eq, ↓cPure_eq, ↓reduceIte, keeps, wantD, callee, aop, ev, ofV, nth, List.cons_append, List.nil_append, List.append_nil, undL, putO, put, List.length_cons, List.length_nil, Nat.reduceSub, Nat.reduceAdd, dBinT, dBin, dUn, Option.map, List.getElem?_toArray, List.toList_toArray, List.getElem?_cons_succ, List.getElem?_cons_zero, Option.bind, ge_iff_le, gt_iff_lt, resD, resL, resV, beq_true, beq_false, Option.some.injEq, List.map, Bool.not_true, Bool.not_false, Bool.false_eq_true, exists_eq_left', Bool.not_eq_true', decide_eq_true_eq, decide_eq_false_iff_not, ite_not, decide_true, decide_false, not_true_eq_false, not_false_eq_true, D.bool.injEq, if_true, if_false, and_true, true_and, ty3, ty4, ty5, ty9, ty21, dLen, dIdxA, dLoad, part, Ty.isA, D.cells, D.cells?, dField, dFieldA, dIdx, dFill, allCell, D.isCell, els, List.getElem?_map, Option.map_some, Int.toNat_natCast, List.length_map, Nat.lt_irrefl, Nat.zero_lt_one, Nat.zero_lt_succ, Option.some.injEq, Nat.le_refl, Nat.zero_add, Bool.false_eq_true, false_or, or_true, true_or, List.drop_zero, Int.natCast_nonneg, D.int.injEq, callee, Int.zero_le_ofNat, Nat.lt_add_one, List.getElem?_nil, dFill, rep, splice, List.take, List.drop, Nat.reduceMul, Nat.reduceLeDiff, Nat.reduceLT, Nat.reducePow, and_self, D.closedL, D.closed, Bool.and_self, bne_self_eq_false, beq_self_eq_true, bne, Bool.true_and, Bool.and_true, Bool.or_true, Bool.or_false, dConvH, dConv, Int.reduceToNat, Int.reduceBEq, Int.reduceLT, Int.reduceEq, Int.toNat_natCast, Int.natCast_nonneg, Int.zero_le_ofNat, Int.le_refl, beq_self_eq_true, Bool.not_true, Bool.not_false, finP, finN, Int.reduceLE, Int.reduceNeg])
                  | rfl
                  | split)
          · rw [List.drop_eq_nil_of_le (by omega)] at hall
            cases hall
  · by_cases h0 : l[0]? = none
    · have hN : numS l = (0, 7) := by unfold numS; rw [if_neg h45, if_pos (.inl h0)]
      have hz := List.getElem?_eq_none_iff.1 h0
      have hp : ¬ (0 : Int) < (l.length : Int) := by omega
      have hq : ((l.length : Int) == 0) = true := by rw [beq_iff_eq]; omega
      clear h0 h45 hz
      repeat' (first
        | (simp -implicitDefEqProofs only [*, Tryd.f47, ↓cwp_skip, ↓cwp_region, ↓cwp_drawn, ↓cwp_seq, ↓cwp_cond, ↓cwp_block, ↓cwp_loop, ↓cwp_exit, ↓cwp_ret, ↓kont_normal, ↓kont_exit, ↓kont_ret, ↓block_normal, ↓block_ret, ↓block_exit, ↓then_normal, ↓then_ret, ↓then_exit, ↓finF_normal, ↓finF_ret, ↓cseq_nil, ↓cseq_free, ↓cseq_cons, ↓seqK_go, ↓anyK_go, ↓caq_zero, ↓caq_nil, ↓caq_cons, ↓cStep_move, ↓cStep_assign, ↓cStep_eq, ↓cPure_eq, ↓reduceIte, keeps, wantD, callee, aop, ev, ofV, nth, List.cons_append, List.nil_append, List.append_nil, undL, putO, put, List.length_cons, List.length_nil, Nat.reduceSub, Nat.reduceAdd, dBinT, dBin, dUn, Option.map, List.getElem?_toArray, List.toList_toArray, List.getElem?_cons_succ, List.getElem?_cons_zero, Option.bind, ge_iff_le, gt_iff_lt, resD, resL, resV, beq_true, beq_false, Option.some.injEq, List.map, Bool.not_true, Bool.not_false, Bool.false_eq_true, exists_eq_left', Bool.not_eq_true', decide_eq_true_eq, decide_eq_false_iff_not, ite_not, decide_true, decide_false, not_true_eq_false, not_false_eq_true, D.bool.injEq, if_true, if_false, and_true, true_and, ty3, ty4, ty5, ty9, ty21, dLen, dIdxA, dLoad, part, Ty.isA, D.cells, D.cells?, dField, dFieldA, dIdx, dFill, allCell, D.isCell, els, List.getElem?_map, Option.map_some, Int.toNat_natCast, List.length_map, Nat.lt_irrefl, Nat.zero_lt_one, Nat.zero_lt_succ, Option.some.injEq, Nat.le_refl, Nat.zero_add, Bool.false_eq_true, false_or, or_true, true_or, List.drop_zero, Int.natCast_nonneg, D.int.injEq, callee, Int.zero_le_ofNat, Nat.lt_add_one, List.getElem?_nil, dFill, rep, splice, List.take, List.drop, Nat.reduceMul, Nat.reduceLeDiff, Nat.reduceLT, Nat.reducePow, and_self, D.closedL, D.closed, Bool.and_self, bne_self_eq_false, beq_self_eq_true, bne, Bool.true_and, Bool.and_true, Bool.or_true, Bool.or_false, dConvH, dConv, Int.reduceToNat, Int.reduceBEq, Int.reduceLT, Int.reduceEq, Int.toNat_natCast, Int.natCast_nonneg, Int.zero_le_ofNat, Int.le_refl, beq_self_eq_true, Bool.not_true, Bool.not_false, finP, finN, Int.reduceLE, Int.reduceNeg])
        | rfl
        | split)
    · obtain ⟨c, hc⟩ := Option.ne_none_iff_exists'.1 h0
      have hlen := (List.getElem?_eq_some_iff.1 hc).1
      have hp : (0 : Int) < (l.length : Int) := by omega
      have hq : ((l.length : Int) == 0) = false := by rw [beq_eq_false_iff_ne]; omega
      have hc45 : ((c.toNat : Int) == 45) = false := u8_ne (c := 45) (fun e => h45 (by rw [hc, e]))
      by_cases h48 : c = 48
      · have hb' : ((c.toNat : Int) == 48) = true := by rw [h48]; decide
        by_cases h1 : 1 < l.length
        · have hN : numS l = (0, 7) := by unfold numS; rw [if_neg h45, if_pos (.inr ⟨by rw [hc, h48], h1⟩)]
          have hq' : (1 : Int) < (l.length : Int) := by omega
          clear h0 h45 h48
          repeat' (first
            | (simp -implicitDefEqProofs only [*, Tryd.f47, ↓cwp_skip, ↓cwp_region, ↓cwp_drawn, ↓cwp_seq, ↓cwp_cond, ↓cwp_block, ↓cwp_loop, ↓cwp_exit, ↓cwp_ret, ↓kont_normal, ↓kont_exit, ↓kont_ret, ↓block_normal, ↓block_ret, ↓block_exit, ↓then_normal, ↓then_ret, ↓then_exit, ↓finF_normal, ↓finF_ret, ↓cseq_nil, ↓cseq_free, ↓cseq_cons, ↓seqK_go, ↓anyK_go, ↓caq_zero, ↓caq_nil, ↓caq_cons, ↓cStep_move, ↓cStep_assign, ↓cStep_eq, ↓cPure_eq, ↓reduceIte, keeps, wantD, callee, aop, ev, ofV, nth, List.cons_append, List.nil_append, List.append_nil, undL, putO, put, List.length_cons, List.length_nil, Nat.reduceSub, Nat.reduceAdd, dBinT, dBin, dUn, Option.map, List.getElem?_toArray, List.toList_toArray, List.getElem?_cons_succ, List.getElem?_cons_zero, Option.bind, ge_iff_le, gt_iff_lt, resD, resL, resV, beq_true, beq_false, Option.some.injEq, List.map, Bool.not_true, Bool.not_false, Bool.false_eq_true, exists_eq_left', Bool.not_eq_true', decide_eq_true_eq, decide_eq_false_iff_not, ite_not, decide_true, decide_false, not_true_eq_false, not_false_eq_true, D.bool.injEq, if_true, if_false, and_true, true_and, ty3, ty4, ty5, ty9, ty21, dLen, dIdxA, dLoad, part, Ty.isA, D.cells, D.cells?, dField, dFieldA, dIdx, dFill, allCell, D.isCell, els, List.getElem?_map, Option.map_some, Int.toNat_natCast, List.length_map, Nat.lt_irrefl, Nat.zero_lt_one, Nat.zero_lt_succ, Option.some.injEq, Nat.le_refl, Nat.zero_add, Bool.false_eq_true, false_or, or_true, true_or, List.drop_zero, Int.natCast_nonneg, D.int.injEq, callee, Int.zero_le_ofNat, Nat.lt_add_one, List.getElem?_nil, dFill, rep, splice, List.take, List.drop, Nat.reduceMul, Nat.reduceLeDiff, Nat.reduceLT, Nat.reducePow, and_self, D.closedL, D.closed, Bool.and_self, bne_self_eq_false, beq_self_eq_true, bne, Bool.true_and, Bool.and_true, Bool.or_true, Bool.or_false, dConvH, dConv, Int.reduceToNat, Int.reduceBEq, Int.reduceLT, Int.reduceEq, Int.toNat_natCast, Int.natCast_nonneg, Int.zero_le_ofNat, Int.le_refl, beq_self_eq_true, Bool.not_true, Bool.not_false, finP, finN, Int.reduceLE, Int.reduceNeg])
            | rfl
            | split)
        · have hNh : Hd (numS l = numT finP (l.drop 0)) := by
            unfold Hd numS
            rw [if_neg h45, if_neg]
            rintro (h | h)
            · exact h0 h
            · exact h1 h.2
          have hq' : ¬ (1 : Int) < (l.length : Int) := by omega
          clear h0 h45 h48
          repeat' (first
            | (simp -implicitDefEqProofs only [*, Tryd.f47, ↓cwp_skip, ↓cwp_region, ↓cwp_drawn, ↓cwp_seq, ↓cwp_cond, ↓cwp_block, ↓cwp_loop, ↓cwp_exit, ↓cwp_ret, ↓kont_normal, ↓kont_exit, ↓kont_ret, ↓block_normal, ↓block_ret, ↓block_exit, ↓then_normal, ↓then_ret, ↓then_exit, ↓finF_normal, ↓finF_ret, ↓cseq_nil, ↓cseq_free, ↓cseq_cons, ↓seqK_go, ↓anyK_go, ↓caq_zero, ↓caq_nil, ↓caq_cons, ↓cStep_move, ↓cStep_assign, ↓cStep_eq, ↓cPure_eq, ↓reduceIte, keeps, wantD, callee, aop, ev, ofV, nth, List.cons_append, List.nil_append, List.append_nil, undL, putO, put, List.length_cons, List.length_nil, Nat.reduceSub, Nat.reduceAdd, dBinT, dBin, dUn, Option.map, List.getElem?_toArray, List.toList_toArray, List.getElem?_cons_succ, List.getElem?_cons_zero, Option.bind, ge_iff_le, gt_iff_lt, resD, resL, resV, beq_true, beq_false, Option.some.injEq, List.map, Bool.not_true, Bool.not_false, Bool.false_eq_true, exists_eq_left', Bool.not_eq_true', decide_eq_true_eq, decide_eq_false_iff_not, ite_not, decide_true, decide_false, not_true_eq_false, not_false_eq_true, D.bool.injEq, if_true, if_false, and_true, true_and, ty3, ty4, ty5, ty9, ty21, dLen, dIdxA, dLoad, part, Ty.isA, D.cells, D.cells?, dField, dFieldA, dIdx, dFill, allCell, D.isCell, els, List.getElem?_map, Option.map_some, Int.toNat_natCast, List.length_map, Nat.lt_irrefl, Nat.zero_lt_one, Nat.zero_lt_succ, Option.some.injEq, Nat.le_refl, Nat.zero_add, Bool.false_eq_true, false_or, or_true, true_or, List.drop_zero, Int.natCast_nonneg, D.int.injEq, callee, Int.zero_le_ofNat, Nat.lt_add_one, List.getElem?_nil, dFill, rep, splice, List.take, List.drop, Nat.reduceMul, Nat.reduceLeDiff, Nat.reduceLT, Nat.reducePow, and_self, D.closedL, D.closed, Bool.and_self, bne_self_eq_false, beq_self_eq_true, bne, Bool.true_and, Bool.and_true, Bool.or_true, Bool.or_false, dConvH, dConv, Int.reduceToNat, Int.reduceBEq, Int.reduceLT, Int.reduceEq, Int.toNat_natCast, Int.natCast_nonneg, Int.zero_le_ofNat, Int.le_refl, beq_self_eq_true, Bool.not_true, Bool.not_false, finP, finN, Int.reduceLE, Int.reduceNeg])
            | rfl
            | split)

          have hcast : ((0 : Nat) : Int) = 0 := rfl
          have hN : numS l = numT finP (l.drop 0) := hNh
          clear hNh
          by_cases ha : (l.drop 0).all isD = true
          · have hN' : Hd (numS l = finP (numG 0 (l.drop 0))) := by unfold Hd; rw [hN]; unfold numT; rw [if_pos ha]
            generalize hr : numG 0 (l.drop 0) = r at hN'
            clear hN
            refine loop_rule (Inv15a l 0) ?_ (l.length - 0) ⟨0, _, _, _, _, _, _, _, _, _, _, _, _, _, _, _, _, _, _, _, _, _, _, _, _, _, _, _, _, _, _, _, _, _, _, _, _, _, _, _, _, ⟨by omega, by omega⟩, rfl, rfl⟩
            rintro m ts H ⟨i, g9, g10, g11, g12, g13, g14, g15, g16, g17, g18, g19, g20, g21, g22, g23, g24, g25, g26, g27, g28, g29, g30, g31, g32, g33, g34, g35, g36, g37, g38, g39, g40, g41, g42, g43, g44, g45, g46, g47, g48, ⟨hfi, him⟩, rfl, rfl⟩
            by_cases hi : i < l.length
            · obtain ⟨x, hx, hd⟩ := lt_get8 hi
              have hi' : (i : Int) < (l.length : Int) := by omega
              have hidx := idx hl hi
              have hD := isD_iff.1 (List.all_eq_true.1 ha x (mem_drop hfi hx))
              have h1 : ¬ (x.toNat : Int) < 48 := by omega
              have h2 : ¬ 57 < (x.toNat : Int) := by omega
              clear ha hr
              repeat' (first
                | (simp -implicitDefEqProofs only [*, Tryd.f47, ↓cwp_skip, ↓cwp_region, ↓cwp_drawn, ↓cwp_seq, ↓cwp_cond, ↓cwp_block, ↓cwp_loop, ↓cwp_exit, ↓cwp_ret, ↓kont_normal, ↓kont_exit, ↓kont_ret, ↓block_normal, ↓block_ret, ↓block_exit, ↓then_normal, ↓then_ret, ↓then_exit, ↓finF_normal, ↓finF_ret, ↓cseq_nil, ↓cseq_free, ↓cseq_cons, ↓seqK_go, ↓anyK_go, ↓caq_zero, ↓caq_nil, ↓caq_cons, ↓cStep_move, ↓cStep_assign, ↓cStep_eq, ↓cPure_eq, ↓reduceIte, keeps, wantD, callee, aop, ev, ofV, nth, List.cons_append, List.nil_append, List.append_nil, undL, putO, put, List.length_cons, List.length_nil, Nat.reduceSub, Nat.reduceAdd, dBinT, dBin, dUn, Option.map, List.getElem?_toArray, List.toList_toArray, List.getElem?_cons_succ, List.getElem?_cons_zero, Option.bind, ge_iff_le, gt_iff_lt, resD, resL, resV, beq_true, beq_false, Option.some.injEq, List.map, Bool.not_true, Bool.not_false, Bool.false_eq_true, exists_eq_left', Bool.not_eq_true', decide_eq_true_eq, decide_eq_false_iff_not, ite_not, decide_true, decide_false, not_true_eq_false, not_false_eq_true, D.bool.injEq, if_true, if_false, and_true, true_and, ty3, ty4, ty5, ty9, ty21, dLen, dIdxA, dLoad, part, Ty.isA, D.cells, D.cells?, dField, dFieldA, dIdx, dFill, allCell, D.isCell, els, List.getElem?_map, Option.map_some, Int.toNat_natCast, List.length_map, Nat.lt_irrefl, Nat.zero_lt_one, Nat.zero_lt_succ, Option.some.injEq, Nat.le_refl, Nat.zero_add, Bool.false_eq_true, false_or, or_true, true_or, List.drop_zero, Int.natCast_nonneg, D.int.injEq, callee, Int.zero_le_ofNat, Nat.lt_add_one, List.getElem?_nil, dFill, rep, splice, List.take, List.drop, Nat.reduceMul, Nat.reduceLeDiff, Nat.reduceLT, Nat.reducePow, and_self, D.closedL, D.closed, Bool.and_self, bne_self_eq_false, beq_self_eq_true, bne, Bool.true_and, Bool.and_true, Bool.or_true, Bool.or_false, dConvH, dConv, Int.reduceToNat, Int.reduceBEq, Int.reduceLT, Int.reduceEq, Int.toNat_natCast, Int.natCast_nonneg, Int.zero_le_ofNat, Int.le_refl, beq_self_eq_true, Bool.not_true, Bool.not_false, finP, finN, Int.reduceLE, Int.reduceNeg])
                | rfl
                | split)
              exact ⟨m - 1, by omega, i + 1, _, _, _, _, _, _, _, _, _, _, _, _, _, _, _, _, _, _, _, _, _, _, _, _, _, _, _, _, _, _, _, _, _, _, _, _, _, _, _, _, ⟨by omega, by omega⟩, rfl, rfl⟩
            · have hi' : ¬ (i : Int) < (l.length : Int) := by omega
              repeat' (first
                | (simp -implicitDefEqProofs only [*, Tryd.f47, ↓cwp_skip, ↓cwp_region, ↓cwp_drawn, ↓cwp_seq, ↓cwp_cond, ↓cwp_block, ↓cwp_loop, ↓cwp_exit, ↓cwp_ret, ↓kont_normal, ↓kont_exit, ↓kont_ret, ↓block_normal, ↓block_ret, ↓block_exit, ↓then_normal, ↓then_ret, ↓then_exit, ↓finF_normal, ↓finF_ret, ↓cseq_nil, ↓cseq_free, ↓cseq_cons, ↓seqK_go, ↓anyK_go, ↓caq_zero, ↓caq_nil, ↓caq_cons, ↓cStep_move, ↓cStep_assign, ↓cStep_eq, ↓cPure_eq, ↓reduceIte, keeps, wantD, callee, aop, ev, ofV, nth, List.cons_append, List.nil_append, List.append_nil, undL, putO, put, List.length_cons, List.length_nil, Nat.reduceSub, Nat.reduceAdd, dBinT, dBin, dUn, Option.map, List.getElem?_toArray, List.toList_toArray, List.getElem?_cons_succ, List.getElem?_cons_zero, Option.bind, ge_iff_le, gt_iff_lt, resD, resL, resV, beq_true, beq_false, Option.some.injEq, List.map, Bool.not_true, Bool.not_false, Bool.false_eq_true, exists_eq_left', Bool.not_eq_true', decide_eq_true_eq, decide_eq_false_iff_not, ite_not, decide_true, decide_false, not_true_eq_false, not_false_eq_true, D.bool.injEq, if_true, if_false, and_true, true_and, ty3, ty4, ty5, ty9, ty21, dLen, dIdxA, dLoad, part, Ty.isA, D.cells, D.cells?, dField, dFieldA, dIdx, dFill, allCell, D.isCell, els, List.getElem?_map, Option.map_some, Int.toNat_natCast, List.length_map, Nat.lt_irrefl, Nat.zero_lt_one, Nat.zero_lt_succ, Option.some.injEq, Nat.le_refl, Nat.zero_add, Bool.false_eq_true, false_or, or_true, true_or, List.drop_zero, Int.natCast_nonneg, D.int.injEq, callee, Int.zero_le_ofNat, Nat.lt_add_one, List.getElem?_nil, dFill, rep, splice, List.take, List.drop, Nat.reduceMul, Nat.reduceLeDiff, Nat.reduceLT, Nat.reducePow, and_self, D.closedL, D.closed, Bool.and_self, bne_self_eq_false, beq_self_eq_true, bne, Bool.true_and, Bool.and_true, Bool.or_true, Bool.or_false, dConvH, dConv, Int.reduceToNat, Int.reduceBEq, Int.reduceLT, Int.reduceEq, Int.toNat_natCast, Int.natCast_nonneg, Int.zero_le_ofNat, Int.le_refl, beq_self_eq_true, Bool.not_true, Bool.not_false, finP, finN, Int.reduceLE, Int.reduceNeg])
                | rfl
                | split)
              refine loop_rule (Inv15b l 0 r) ?_ (l.length - 0) ⟨0, 0, _, _, _, _, _, _, _, _, _, _, _, _, _, _, _, _, _, _, _, _, _, _, _, _, _, _, _, _, _, _, _, _, _, _, _, _, _, _, _, _, _, _, _, _, _, _, _, _, _, _, _, _, _, _, _, _, _, _, _, _, _, _, _, _, _, _, _, _, ⟨by omega, by omega⟩, ⟨by omega, by omega⟩, hr, rfl, rfl⟩
              clear hr him hi hi' hfi
              rintro m' ts H ⟨i', n, g5, g8, g9, g10, g11, g12, g13, g14, g15, g16, g17, g18, g19, g20, g21, g22, g23, g24, g25, g26, g27, g28, g29, g30, g31, g32, g33, g34, g35, g36, g37, g38, g39, g40, g41, g42, g43, g44, g45, g46, g47, g48, g49, g50, g51, g52, g53, g54, g55, g56, g57, g58, g59, g60, g61, g62, g63, g64, g65, g66, g67, g68, g69, g70, g71, g72, g73, g74, ⟨hfi, him⟩, ⟨hn0, hn1⟩, hgo, rfl, rfl⟩
              by_cases hi : i' < l.length
              · obtain ⟨x, hx, hd⟩ := lt_get8 hi
                have hi' : (i' : Int) < (l.length : Int) := by omega
                have hidx := idx hl hi
                have hD := isD_iff.1 (List.all_eq_true.1 ha x (mem_drop hfi hx))
                rw [hd, numG] at hgo
                obtain ⟨d, hdd⟩ : ∃ d : Int, d = (x.toNat : Int) - 48 := ⟨_, rfl⟩
                rw [← hdd] at hgo
                have h1 : IntKind.u8.wrap ((x.toNat : Int) - 48) = d := by rw [u8_in _ (by omega)]; omega
                have h2 : IntKind.i64.wrap d = d := i64_in _ (by omega)
                have h3 : IntKind.i64.wrap (4611686018427387904 - d) = 4611686018427387904 - d := i64_in _ (by omega)
                have h4 : IntKind.i64.wrap (Int.tdiv (4611686018427387904 - d) 10) = (4611686018427387904 - d) / 10 := i64_quo _ _ (by omega)
                have h0 : ¬ (10 : Int) = 0 := by omega
                by_cases hb : (4611686018427387904 - d) / 10 < n
                · rw [if_pos hb] at hgo
                  subst hgo
                  have hN2 := Hd.out hN'
                  clear ha hdd hN'
                  repeat' (first
                    | (simp -implicitDefEqProofs only [*, Tryd.f47, ↓cwp_skip, ↓cwp_region, ↓cwp_drawn, ↓cwp_seq, ↓cwp_cond, ↓cwp_block, ↓cwp_loop, ↓cwp_exit, ↓cwp_ret, ↓kont_normal, ↓kont_exit, ↓kont_ret, ↓block_normal, ↓block_ret, ↓block_exit, ↓then_normal, ↓then_ret, ↓then_exit, ↓finF_normal, ↓finF_ret, ↓cseq_nil, ↓cseq_free, ↓cseq_cons, ↓seqK_go, ↓anyK_go, ↓caq_zero, ↓caq_nil, ↓caq_cons, ↓cStep_move, ↓cStep_assign, ↓cStep_eq, ↓cPure_eq, ↓reduceIte, keeps, wantD, callee, aop, ev, ofV, nth, List.cons_append, List.nil_append, List.append_nil, undL, putO, put, List.length_cons, List.length_nil, Nat.reduceSub, Nat.reduceAdd, dBinT, dBin, dUn, Option.map, List.getElem?_toArray, List.toList_toArray, List.getElem?_cons_succ, List.getElem?_cons_zero, Option.bind, ge_iff_le, gt_iff_lt, resD, resL, resV, beq_true, beq_false, Option.some.injEq, List.map, Bool.not_true, Bool.not_false, Bool.false_eq_true, exists_eq_left', Bool.not_eq_true', decide_eq_true_eq, decide_eq_false_iff_not, ite_not, decide_true, decide_false, not_true_eq_false, not_false_eq_true, D.bool.injEq, if_true, if_false, and_true, true_and, ty3, ty4, ty5, ty9, ty21, dLen, dIdxA, dLoad, part, Ty.isA, D.cells, D.cells?, dField, dFieldA, dIdx, dFill, allCell, D.isCell, els, List.getElem?_map, Option.map_some, Int.toNat_natCast, List.length_map, Nat.lt_irrefl, Nat.zero_lt_one, Nat.zero_lt_succ, Option.some.injEq, Nat.le_refl, Nat.zero_add, Bool.false_eq_true, false_or, or_true, true_or, List.drop_zero, Int.natCast_nonneg, D.int.injEq, callee, Int.zero_le_ofNat, Nat.lt_add_one, List.getElem?_nil, dFill, rep, splice, List.take, List.drop, Nat.reduceMul, Nat.reduceLeDiff, Nat.reduceLT, Nat.reducePow, and_self, D.closedL, D.closed, Bool.and_self, bne_self_eq_false, beq_self_eq_true, bne, Bool.true_and, Bool.and_true, Bool.or_true, Bool.or_false, dConvH, dConv, Int.reduceToNat, Int.reduceBEq, Int.reduceLT, Int.reduceEq, Int.toNat_natCast, Int.natCast_nonneg, Int.zero_le_ofNat, Int.le_refl, beq_self_eq_true, Bool.not_true, Bool.not_false, finP, finN, Int.reduceLE, Int.reduceNeg])
                    | rfl
                    | split)
                · rw [if_neg hb] at hgo
                  have h5 : IntKind.i64.wrap (10 * n) = 10 * n := i64_in _ (by omega)
                  have h6 : IntKind.i64.wrap (10 * n + d) = n * 10 + d := by rw [i64_in _ (by omega)]; omega
                  have hb1 : 0 ≤ n * 10 + d ∧ n * 10 + d ≤ 4611686018427387904 := by omega
                  clear hdd
                  repeat' (first
                    | (simp -implicitDefEqProofs only [*, Tryd.f47, ↓cwp_skip, ↓cwp_region, ↓cwp_drawn, ↓cwp_seq, ↓cwp_cond, ↓cwp_block, ↓cwp_loop, ↓cwp_exit, ↓cwp_ret, ↓kont_normal, ↓kont_exit, ↓kont_ret, ↓block_normal, ↓block_ret, ↓block_exit, ↓then_normal, ↓then_ret, ↓then_exit, ↓finF_normal, ↓finF_ret, ↓cseq_nil, ↓cseq_free, ↓cseq_cons, ↓seqK_go, ↓anyK_go, ↓caq_zero, ↓caq_nil, ↓caq_cons, ↓cStep_move, ↓cStep_assign, ↓cStep_eq, ↓cPure_eq, ↓reduceIte, keeps, wantD, callee, aop, ev, ofV, nth, List.cons_append, List.nil_append, List.append_nil, undL, putO, put, List.length_cons, List.length_nil, Nat.reduceSub, Nat.reduceAdd, dBinT, dBin, dUn, Option.map, List.getElem?_toArray, List.toList_toArray, List.getElem?_cons_succ, List.getElem?_cons_zero, Option.bind, ge_iff_le, gt_iff_lt, resD, resL, resV, beq_true, beq_false, Option.some.injEq, List.map, Bool.not_true, Bool.not_false, Bool.false_eq_true, exists_eq_left', Bool.not_eq_true', decide_eq_true_eq, decide_eq_false_iff_not, ite_not, decide_true, decide_false, not_true_eq_false, not_false_eq_true, D.bool.injEq, if_true, if_false, and_true, true_and, ty3, ty4, ty5, ty9, ty21, dLen, dIdxA, dLoad, part, Ty.isA, D.cells, D.cells?, dField, dFieldA, dIdx, dFill, allCell, D.isCell, els, List.getElem?_map, Option.map_some, Int.toNat_natCast, List.length_map, Nat.lt_irrefl, Nat.zero_lt_one, Nat.zero_lt_succ, Option.some.injEq, Nat.le_refl, Nat.zero_add, Bool.false_eq_true, false_or, or_true, true_or, List.drop_zero, Int.natCast_nonneg, D.int.injEq, callee, Int.zero_le_ofNat, Nat.lt_add_one, List.getElem?_nil, dFill, rep, splice, List.take, List.drop, Nat.reduceMul, Nat.reduceLeDiff, Nat.reduceLT, Nat.reducePow, and_self, D.closedL, D.closed, Bool.and_self, bne_self_eq_false, beq_self_eq_true, bne, Bool.true_and, Bool.and_true, Bool.or_true, Bool.or_false, dConvH, dConv, Int.reduceToNat, Int.reduceBEq, Int.reduceLT, Int.reduceEq, Int.toNat_natCast, Int.natCast_nonneg, Int.zero_le_ofNat, Int.le_refl, beq_self_eq_true, Bool.not_true, Bool.not_false, finP, finN, Int.reduceLE, Int.reduceNeg])
                    | rfl
                    | split)
                  exact ⟨m' - 1, by omega, i' + 1, n * 10 + d, _, _, _, _, _, _, _, _, _, _, _, _, _, _, _, _, _, _, _, _, _, _, _, _, _, _, _, _, _, _, _, _, _, _, _, _, _, _, _, _, _, _, _, _, _, _, _, _, _, _, _, _, _, _, _, _, _, _, _, _, _, _, _, _, _, _, _, _, ⟨by omega, by omega⟩, hb1, hgo, rfl, rfl⟩
              · have hi' : ¬ (i' : Int) < (l.length : Int) := by omega
                rw [List.drop_eq_nil_of_le (by omega), numG] at hgo
                have h5 : IntKind.i64.wrap (0 - n) = -n := by rw [i64_in _ (by omega)]; omega
                subst hgo
                have hN2 := Hd.out hN'
                clear ha hn0 hn1 hN'
                repeat' (first
                  | (simp -implicitDefEqProofs only [*, Tryd.f47, ↓cwp_skip, ↓cwp_region, ↓cwp_drawn, ↓cwp_seq, ↓cwp_cond, ↓cwp_block, ↓cwp_loop, ↓cwp_exit, ↓cwp_ret, ↓kont_normal, ↓kont_exit, ↓kont_ret, ↓block_normal, ↓block_ret, ↓block_exit, ↓then_normal, ↓then_ret, ↓then_exit, ↓finF_normal, ↓finF_ret, ↓cseq_nil, ↓cseq_free, ↓cseq_cons, ↓seqK_go, ↓anyK_go, ↓caq_zero, ↓caq_nil, ↓caq_cons, ↓cStep_move, ↓cStep_assign, ↓cStep_eq, ↓cPure_eq, ↓reduceIte, keeps, wantD, callee, aop, ev, ofV, nth, List.cons_append, List.nil_append, List.append_nil, undL, putO, put, List.length_cons, List.length_nil, Nat.reduceSub, Nat.reduceAdd, dBinT, dBin, dUn, Option.map, List.getElem?_toArray, List.toList_toArray, List.getElem?_cons_succ, List.getElem?_cons_zero, Option.bind, ge_iff_le, gt_iff_lt, resD, resL, resV, beq_true, beq_false, Option.some.injEq, List.map, Bool.not_true, Bool.not_false, Bool.false_eq_true, exists_eq_left', Bool.not_eq_true', decide_eq_true_eq, decide_eq_false_iff_not, ite_not, decide_true, decide_false, not_true_eq_false, not_false_eq_true, D.bool.injEq, if_true, if_false, and_true, true_and, ty3, ty4, ty5, ty9, ty21, dLen, dIdxA, dLoad, part, Ty.isA, D.cells, D.cells?, dField, dFieldA, dIdx, dFill, allCell, D.isCell, els, List.getElem?_map, Option.map_some, Int.toNat_natCast, List.length_map, Nat.lt_irrefl, Nat.zero_lt_one, Nat.zero_lt_succ, Option.some.injEq, Nat.le_refl, Nat.zero_add, Bool.false_eq_true, false_or, or_true, true_or, List.drop_zero, Int.natCast_nonneg, D.int.injEq, callee, Int.zero_le_ofNat, Nat.lt_add_one, List.getElem?_nil, dFill, rep, splice, List.take, List.drop, Nat.reduceMul, Nat.reduceLeDiff, Nat.reduceLT, Nat.reducePow, and_self, D.closedL, D.closed, Bool.and_self, bne_self_eq_false, beq_self_eq_true, bne, Bool.true_and, Bool.and_true, Bool.or_true, Bool.or_false, dConvH, dConv, Int.reduceToNat, Int.reduceBEq, Int.reduceLT, Int.reduceEq, Int.toNat_natCast, Int.natCast_nonneg, Int.zero_le_ofNat, Int.le_refl, beq_self_eq_true, Bool.not_true, Bool.not_false, finP, finN, Int.reduceLE, Int.reduceNeg])
                  | rfl
                  | split)
          · have hN' : numS l = (0, 7) := by rw [hN]; unfold numT; rw [if_neg ha]
            have ha' : (l.drop 0).all isD = false := by simpa using ha
            clear hN ha
            refine loop_rule (Inv15c l 0) ?_ (l.length - 0) ⟨0, _, _, _, _, _, _, _, _, _, _, _, _, _, _, _, _, _, _, _, _, _, _, _, _, _, _, _, _, _, _, _, _, _, _, _, _, _, _, _, _, by omega, ha', rfl, rfl⟩
            clear ha'
            rintro m ts H ⟨i, g9, g10, g11, g12, g13, g14, g15, g16, g17, g18, g19, g20, g21, g22, g23, g24, g25, g26, g27, g28, g29, g30, g31, g32, g33, g34, g35, g36, g37, g38, g39, g40, g41, g42, g43, g44, g45, g46, g47, g48, him, hall, rfl, rfl⟩
            by_cases hi : i < l.length
            · obtain ⟨x, hx, hd⟩ := lt_get8 hi
              have hi' : (i : Int) < (l.length : Int) := by omega
              have hidx := idx hl hi
              rw [hd, List.all_cons] at hall
              by_cases hF : isD x = true
              · rw [hF, Bool.true_and] at hall
                have hD := isD_iff.1 hF
                have h1 : ¬ (x.toNat : Int) < 48 := by omega
                have h2 : ¬ 57 < (x.toNat : Int) := by omega
                clear hF hD
                repeat' (first
                  | (simp -implicitDefEqProofs only [*, Tryd.f47, ↓cwp_skip, ↓cwp_region, ↓cwp_drawn, ↓cwp_seq, ↓cwp_cond, ↓cwp_block, ↓cwp_loop, ↓cwp_exit, ↓cwp_ret, ↓kont_normal, ↓kont_exit, ↓kont_ret, ↓block_normal, ↓block_ret, ↓block_exit, ↓then_normal, ↓then_ret, ↓then_exit, ↓finF_normal, ↓finF_ret, ↓cseq_nil, ↓cseq_free, ↓cseq_cons, ↓seqK_go, ↓anyK_go, ↓caq_zero, ↓caq_nil, ↓caq_cons, ↓cStep_move, ↓cStep_assign, ↓cStep_eq, ↓cPure_eq, ↓reduceIte, keeps, wantD, callee, aop, ev, ofV, nth, List.cons_append, List.nil_append, List.append_nil, undL, putO, put, List.length_cons, List.length_nil, Nat.reduceSub, Nat.reduceAdd, dBinT, dBin, dUn, Option.map, List.getElem?_toArray, List.toList_toArray, List.getElem?_cons_succ, List.getElem?_cons_zero, Option.bind, ge_iff_le, gt_iff_lt, resD, resL, resV, beq_true, beq_false, Option.some.injEq, List.map, Bool.not_true, Bool.not_false, Bool.false_eq_true, exists_eq_left', Bool.not_eq_true', decide_eq_true_eq, decide_eq_false_iff_not, ite_not, decide_true, decide_false, not_true_eq_false, not_false_eq_true, D.bool.injEq, if_true, if_false, and_true, true_and, ty3, ty4, ty5, ty9, ty21, dLen, dIdxA, dLoad, part, Ty.isA, D.cells, D.cells?, dField, dFieldA, dIdx, dFill, allCell, D.isCell, els, List.getElem?_map, Option.map_some, Int.toNat_natCast, List.length_map, Nat.lt_irrefl, Nat.zero_lt_one, Nat.zero_lt_succ, Option.some.injEq, Nat.le_refl, Nat.zero_add, Bool.false_eq_true, false_or, or_true, true_or, List.drop_zero, Int.natCast_nonneg, D.int.injEq, callee, Int.zero_le_ofNat, Nat.lt_add_one, List.getElem?_nil, dFill, rep, splice, List.take, List.drop, Nat.reduceMul, Nat.reduceLeDiff, Nat.reduceLT, Nat.reducePow, and_self, D.closedL, D.closed, Bool.and_self, bne_self_eq_false, beq_self_eq_true, bne, Bool.true_and, Bool.and_true, Bool.or_true, Bool.or_false, dConvH, dConv, Int.reduceToNat, Int.reduceBEq, Int.reduceLT, Int.reduceEq, Int.toNat_natCast, Int.natCast_nonneg, Int.zero_le_ofNat, Int.le_refl, beq_self_eq_true, Bool.not_true, Bool.not_false, finP, finN, Int.reduceLE, Int.reduceNeg])
                  | rfl
                  | split)
                exact ⟨m - 1, by omega, i + 1, _, _, _, _, _, _, _, _, _, _, _, _, _, _, _, _, _, _, _, _, _, _, _, _, _, _, _, _, _, _, _, _, _, _, _, _, _, _, _, _, by omega, hall, rfl, rfl⟩
              · by_cases h1 : (x.toNat : Int) < 48
                · repeat' (first
                    | (simp -implicitDefEqProofs only [*, Tryd.f47, ↓cwp_skip, ↓cwp_region, ↓cwp_drawn, ↓cwp_seq, ↓cwp_cond, ↓cwp_block, ↓cwp_loop, ↓cwp_exit, ↓cwp_ret, ↓kont_normal, ↓kont_exit, ↓kont_ret, ↓block_normal, ↓block_ret, ↓block_exit, ↓then_normal, ↓then_ret, ↓then_exit, ↓finF_normal, ↓finF_ret, ↓cseq_nil, ↓cseq_free, ↓cseq_cons, ↓seqK_go, ↓anyK_go, ↓caq_zero, ↓caq_nil, ↓caq_cons, ↓cStep_move, ↓cStep_assign, ↓cStep_eq, ↓cPure_eq, ↓reduceIte, keeps, wantD, callee, aop, ev, ofV, nth, List.cons_append, List.nil_append, List.append_nil, undL, putO, put, List.length_cons, List.length_nil, Nat.reduceSub, Nat.reduceAdd, dBinT, dBin, dUn, Option.map, List.getElem?_toArray, List.toList_toArray, List.getElem?_cons_succ, List.getElem?_cons_zero, Option.bind, ge_iff_le, gt_iff_lt, resD, resL, resV, beq_true, beq_false, Option.some.injEq, List.map, Bool.not_true, Bool.not_false, Bool.false_eq_true, exists_eq_left', Bool.not_eq_true', decide_eq_true_eq, decide_eq_false_iff_not, ite_not, decide_true, decide_false, not_true_eq_false, not_false_eq_true, D.bool.injEq, if_true, if_false, and_true, true_and, ty3, ty4, ty5, ty9, ty21, dLen, dIdxA, dLoad, part, Ty.isA, D.cells, D.cells?, dField, dFieldA, dIdx, dFill, allCell, D.isCell, els, List.getElem?_map, Option.map_some, Int.toNat_natCast, List.length_map, Nat.lt_irrefl, Nat.zero_lt_one, Nat.zero_lt_succ, Option.some.injEq, Nat.le_refl, Nat.zero_add, Bool.false_eq_true, false_or, or_true, true_or, List.drop_zero, Int.natCast_nonneg, D.int.injEq, callee, Int.zero_le_ofNat, Nat.lt_add_one, List.getElem?_nil, dFill, rep, splice, List.take, List.drop, Nat.reduceMul, Nat.reduceLeDiff, Nat.reduceLT, Nat.reducePow, and_self, D.closedL, D.closed, Bool.and_self, bne_self_eq_false, beq_self_eq_true, bne, Bool.true_and, Bool.and_true, Bool.or_true, Bool.or_false, dConvH, dConv, Int.reduceToNat, Int.reduceBEq, Int.reduceLT, Int.reduceEq, Int.toNat_natCast, Int.natCast_nonneg, Int.zero_le_ofNat, Int.le_refl, beq_self_eq_true, Bool.not_true, Bool.not_false, finP, finN, Int.reduceLE, Int.reduceNeg])
                    | rfl
                    | split)
                · have h2 : 57 < (x.toNat : Int) := by
                    have : ¬ (48 ≤ x.toNat ∧ x.toNat ≤ 57) := fun h => hF (isD_iff.2 h)
                    omega
                  clear hF hall
                  repeat' (first
                    | (simp -implicitDefEqProofs only [*, Tryd.f47, ↓cwp_skip, ↓cwp_region, ↓cwp_drawn, ↓cwp_seq, ↓cwp_cond, ↓cwp_block, ↓cwp_loop, ↓cwp_exit, ↓cwp_ret, ↓kont_normal, ↓kont_exit, ↓kont_ret, ↓block_normal, ↓block_ret, ↓block_exit, ↓then_normal, ↓then_ret, ↓then_exit, ↓finF_normal, ↓finF_ret, ↓cseq_nil, ↓cseq_free, ↓cseq_cons, ↓seqK_go, ↓anyK_go, ↓caq_zero, ↓caq_nil, ↓caq_cons, ↓cStep_move, ↓cStep_assign, ↓cStep_eq, ↓cPure_eq, ↓reduceIte, keeps, wantD, callee, aop, ev, ofV, nth, List.cons_append, List.nil_append, List.append_nil, undL, putO, put, List.length_cons, List.length_nil, Nat.reduceSub, Nat.reduceAdd, dBinT, dBin, dUn, Option.map, List.getElem?_toArray, List.toList_toArray, List.getElem?_cons_succ, List.getElem?_cons_zero, Option.bind, ge_iff_le, gt_iff_lt, resD, resL, resV, beq_true, beq_false, Option.some.injEq, List.map, Bool.not_true, Bool.not_false, Bool.false_eq_true, exists_eq_left', Bool.not_eq_true', decide_eq_true_eq, decide_eq_false_iff_not, ite_not, decide_true, decide_false, not_true_eq_false, not_false_eq_true, D.bool.injEq, if_true, if_false, and_true, true_and, ty3, ty4, ty5, ty9, ty21, dLen, dIdxA, dLoad, part, Ty.isA, D.cells, D.cells?, dField, dFieldA, dIdx, dFill, allCell, D.isCell, els, List.getElem?_map, Option.map_some, Int.toNat_natCast, List.length_map, Nat.lt_irrefl, Nat.zero_lt_one, Nat.zero_lt_succ, Option.some.injEq, Nat.le_refl, Nat.zero_add, Bool.false_eq_true, false_or, or_true, true_or, List.drop_zero, Int.natCast_nonneg, D.int.injEq, callee, Int.zero_le_ofNat, Nat.lt_add_one, List.getElem?_nil, dFill, rep, splice, List.take, List.drop, Nat.reduceMul, Nat.reduceLeDiff, Nat.reduceLT, Nat.reducePow, and_self, D.closedL, D.closed, Bool.and_self, bne_self_eq_false, beq_self_eq_true, bne, Bool.true_and, Bool.and_true, Bool.or_true, Bool.or_false, dConvH, dConv, Int.reduceToNat, Int.reduceBEq, Int.reduceLT, Int.reduceEq, Int.toNat_natCast, Int.natCast_nonneg, Int.zero_le_ofNat, Int.le_refl, beq_self_eq_true, Bool.not_true, Bool.not_false, finP, finN, Int.reduceLE, Int.reduceNeg])
                    | rfl
                    | split)
            · rw [List.drop_eq_nil_of_le (by omega)] at hall
              cases hall
      · have hNh : Hd (numS l = numT finP (l.drop 0)) := by
          unfold Hd numS
          rw [if_neg h45, if_neg]
          rintro (h | h)
          · exact h0 h
          · rw [hc] at h
            exact h48 (Option.some.inj h.1)
        have hb' : ((c.toNat : Int) == 48) = false := u8_ne (c := 48) h48
        clear h0 h45 h48
        repeat' (first
          | (simp -implicitDefEqProofs only [*, Tryd.f47, ↓cwp_skip, ↓cwp_region, ↓cwp_drawn, ↓cwp_seq, ↓cwp_cond, ↓cwp_block, ↓cwp_loop, ↓cwp_exit, ↓cwp_ret, ↓kont_normal, ↓kont_exit, ↓kont_ret, ↓block_normal, ↓block_ret, ↓block_exit, ↓then_normal, ↓then_ret, ↓then_exit, ↓finF_normal, ↓finF_ret, ↓cseq_nil, ↓cseq_free, ↓cseq_cons, ↓seqK_go, ↓anyK_go, ↓caq_zero, ↓caq_nil, ↓caq_cons, ↓cStep_move, ↓cStep_assign, ↓cStep_eq, ↓cPure_eq, ↓reduceIte, keeps, wantD, callee, aop, ev, ofV, nth, List.cons_append, List.nil_append, List.append_nil, undL, putO, put, List.length_cons, List.length_nil, Nat.reduceSub, Nat.reduceAdd, dBinT, dBin, dUn, Option.map, List.getElem?_toArray, List.toList_toArray, List.getElem?_cons_succ, List.getElem?_cons_zero, Option.bind, ge_iff_le, gt_iff_lt, resD, resL, resV, beq_true, beq_false, Option.some.injEq, List.map, Bool.not_true, Bool.not_false, Bool.false_eq_true, exists_eq_left', Bool.not_eq_true', decide_eq_true_eq, decide_eq_false_iff_not, ite_not, decide_true, decide_false, not_true_eq_false, not_false_eq_true, D.bool.injEq, if_true, if_false, and_true, true_and, ty3, ty4, ty5, ty9, ty21, dLen, dIdxA, dLoad, part, Ty.isA, D.cells, D.cells?, dField, dFieldA, dIdx, dFill, allCell, D.isCell, els, List.getElem?_map, Option.map_some, Int.toNat_natCast, List.length_map, Nat.lt_irrefl, Nat.zero_lt_one, Nat.zero_lt_succ, Option.some.injEq, Nat.le_refl, Nat.zero_add, Bool.false_eq_true, false_or, or_true, true_or, List.drop_zero, Int.natCast_nonneg, D.int.injEq, callee, Int.zero_le_ofNat, Nat.lt_add_one, List.getElem?_nil, dFill, rep, splice, List.take, List.drop, Nat.reduceMul, Nat.reduceLeDiff, Nat.reduceLT, Nat.reducePow, and_self, D.closedL, D.closed, Bool.and_self, bne_self_eq_false, beq_self_eq_true, bne, Bool.true_and, Bool.and_true, Bool.or_true, Bool.or_false, dConvH, dConv, Int.reduceToNat, Int.reduceBEq, Int.reduceLT, Int.reduceEq, Int.toNat_natCast, Int.natCast_nonneg, Int.zero_le_ofNat, Int.le_refl, beq_self_eq_true, Bool.not_true, Bool.not_false, finP, finN, Int.reduceLE, Int.reduceNeg])
          | rfl
          | split)

        have hcast : ((0 : Nat) : Int) = 0 := rfl
        have hN : numS l = numT finP (l.drop 0) := hNh
        clear hNh
        by_cases ha : (l.drop 0).all isD = true
        · have hN' : Hd (numS l = finP (numG 0 (l.drop 0))) := by unfold Hd; rw [hN]; unfold numT; rw [if_pos ha]
          generalize hr : numG 0 (l.drop 0) = r at hN'
          clear hN
          refine loop_rule (Inv15a l 0) ?_ (l.length - 0) ⟨0, _, _, _, _, _, _, _, _, _, _, _, _, _, _, _, _, _, _, _, _, _, _, _, _, _, _, _, _, _, _, _, _, _, _, _, _, _, _, _, _, ⟨by omega, by omega⟩, rfl, rfl⟩
          rintro m ts H ⟨i, g9, g10, g11, g12, g13, g14, g15, g16, g17, g18, g19, g20, g21, g22, g23, g24, g25, g26, g27, g28, g29, g30, g31, g32, g33, g34, g35, g36, g37, g38, g39, g40, g41, g42, g43, g44, g45, g46, g47, g48, ⟨hfi, him⟩, rfl, rfl⟩
          by_cases hi : i < l.length
          · obtain ⟨x, hx, hd⟩ := lt_get8 hi
            have hi' : (i : Int) < (l.length : Int) := by omega
            have hidx := idx hl hi
            have hD := isD_iff.1 (List.all_eq_true.1 ha x (mem_drop hfi hx))
            have h1 : ¬ (x.toNat : Int) < 48 := by omega
            have h2 : ¬ 57 < (x.toNat : Int) := by omega
            clear ha hr
            repeat' (first
              | (simp -implicitDefEqProofs only [*, Tryd.f47, ↓cwp_skip, ↓cwp_region, ↓cwp_drawn, ↓cwp_seq, ↓cwp_cond, ↓cwp_block, ↓cwp_loop, ↓cwp_exit, ↓cwp_ret, ↓kont_normal, ↓kont_exit, ↓kont_ret, ↓block_normal, ↓block_ret, ↓block_exit, ↓then_normal, ↓then_ret, ↓then_exit, ↓finF_normal, ↓finF_ret, ↓cseq_nil, ↓cseq_free, ↓cseq_cons, ↓seqK_go, ↓anyK_go, ↓caq_zero, ↓caq_nil, ↓caq_cons, ↓cStep_move, ↓cStep_assign, ↓cStep_eq, ↓cPure_eq, ↓reduceIte, keeps, wantD, callee, aop, ev, ofV, nth, List.cons_append, List.nil_append, List.append_nil, undL, putO, put, List.length_cons, List.length_nil, Nat.reduceSub, Nat.reduceAdd, dBinT, dBin, dUn, Option.map, List.getElem?_toArray, List.toList_toArray, List.getElem?_cons_succ, List.getElem?_cons_zero, Option.bind, ge_iff_le, gt_iff_lt, resD, resL, resV, beq_true, beq_false, Option.some.injEq, List.map, Bool.not_true, Bool.not_false, Bool.false_eq_true, exists_eq_left', Bool.not_eq_true', decide_eq_true_eq, decide_eq_false_iff_not, ite_not, decide_true, decide_false, not_true_eq_false, not_false_eq_true, D.bool.injEq, if_true, if_false, and_true, true_and, ty3, ty4, ty5, ty9, ty21, dLen, dIdxA, dLoad, part, Ty.isA, D.cells, D.cells?, dField, dFieldA, dIdx, dFill, allCell, D.isCell, els, List.getElem?_map, Option.map_some, Int.toNat_natCast, List.length_map, Nat.lt_irrefl, Nat.zero_lt_one, Nat.zero_lt_succ, Option.some.injEq, Nat.le_refl, Nat.zero_add, Bool.false_eq_true, false_or, or_true, true_or, List.drop_zero, Int.natCast_nonneg, D.int.injEq, callee, Int.zero_le_ofNat, Nat.lt_add_one, List.getElem?_nil, dFill, rep, splice, List.take, List.drop, Nat.reduceMul, Nat.reduceLeDiff, Nat.reduceLT, Nat.reducePow, and_self, D.closedL, D.closed, Bool.and_self, bne_self_eq_false, beq_self_eq_true, bne, Bool.true_and, Bool.and_true, Bool.or_true, Bool.or_false, dConvH, dConv, Int.reduceToNat, Int.reduceBEq, Int.reduceLT, Int.reduceEq, Int.toNat_natCast, Int.natCast_nonneg, Int.zero_le_ofNat, Int.le_refl, beq_self_eq_true, Bool.not_true, Bool.not_false, finP, finN, Int.reduceLE, Int.reduceNeg])
              | rfl
              | split)
            exact ⟨m - 1, by omega, i + 1, _, _, _, _, _, _, _, _, _, _, _, _, _, _, _, _, _, _, _, _, _, _, _, _, _, _, _, _, _, _, _, _, _, _, _, _, _, _, _, _, ⟨by omega, by omega⟩, rfl, rfl⟩
          · have hi' : ¬ (i : Int) < (l.length : Int) := by omega
            repeat' (first
              | (simp -implicitDefEqProofs only [*, Tryd.f47, ↓cwp_skip, ↓cwp_region, ↓cwp_drawn, ↓cwp_seq, ↓cwp_cond, ↓cwp_block, ↓cwp_loop, ↓cwp_exit, ↓cwp_ret, ↓kont_normal, ↓kont_exit, ↓kont_ret, ↓block_normal, ↓block_ret, ↓block_exit, ↓then_normal, ↓then_ret, ↓then_exit, ↓finF_normal, ↓finF_ret, ↓cseq_nil, ↓cseq_free, ↓cseq_cons, ↓seqK_go, ↓anyK_go, ↓caq_zero, ↓caq_nil, ↓caq_cons, ↓cStep_move, ↓cStep_assign, ↓cStep_eq, ↓cPure_eq, ↓reduceIte, keeps, wantD, callee, aop, ev, ofV, nth, List.cons_append, List.nil_append, List.append_nil, undL, putO, put, List.length_cons, List.length_nil, Nat.reduceSub, Nat.reduceAdd, dBinT, dBin, dUn, Option.map, List.getElem?_toArray, List.toList_toArray, List.getElem?_cons_succ, List.getElem?_cons_zero, Option.bind, ge_iff_le, gt_iff_lt, resD, resL, resV, beq_true, beq_false, Option.some.injEq, List.map, Bool.not_true, Bool.not_false, Bool.false_eq_true, exists_eq_left', Bool.not_eq_true', decide_eq_true_eq, decide_eq_false_iff_not, ite_not, decide_true, decide_false, not_true_eq_false, not_false_eq_true, D.bool.injEq, if_true, if_false, and_true, true_and, ty3, ty4, ty5, ty9, ty21, dLen, dIdxA, dLoad, part, Ty.isA, D.cells, D.cells?, dField, dFieldA, dIdx, dFill, allCell, D.isCell, els, List.getElem?_map, Option.map_some, Int.toNat_natCast, List.length_map, Nat.lt_irrefl, Nat.zero_lt_one, Nat.zero_lt_succ, Option.some.injEq, Nat.le_refl, Nat.zero_add, Bool.false_eq_true, false_or, or_true, true_or, List.drop_zero, Int.natCast_nonneg, D.int.injEq, callee, Int.zero_le_ofNat, Nat.lt_add_one, List.getElem?_nil, dFill, rep, splice, List.take, List.drop, Nat.reduceMul, Nat.reduceLeDiff, Nat.reduceLT, Nat.reducePow, and_self, D.closedL, D.closed, Bool.and_self, bne_self_eq_false, beq_self_eq_true, bne, Bool.true_and, Bool.and_true, Bool.or_true, Bool.or_false, dConvH, dConv, Int.reduceToNat, Int.reduceBEq, Int.reduceLT, Int.reduceEq, Int.toNat_natCast, Int.natCast_nonneg, Int.zero_le_ofNat, Int.le_refl, beq_self_eq_true, Bool.not_true, Bool.not_false, finP, finN, Int.reduceLE, Int.reduceNeg])
              | rfl
              | split)
            refine loop_rule (Inv15b l 0 r) ?_ (l.length - 0) ⟨0, 0, _, _, _, _, _, _, _, _, _, _, _, _, _, _, _, _, _, _, _, _, _, _, _, _, _, _, _, _, _, _, _, _, _, _, _, _, _, _, _, _, _, _, _, _, _, _, _, _, _, _, _, _, _, _, _, _, _, _, _, _, _, _, _, _, _, _, _, _, ⟨by omega, by omega⟩, ⟨by omega, by omega⟩, hr, rfl, rfl⟩
            clear hr him hi hi' hfi
            rintro m' ts H ⟨i', n, g5, g8, g9, g10, g11, g12, g13, g14, g15, g16, g17, g18, g19, g20, g21, g22, g23, g24, g25, g26, g27, g28, g29, g30, g31, g32, g33, g34, g35, g36, g37, g38, g39, g40, g41, g42, g43, g44, g45, g46, g47, g48, g49, g50, g51, g52, g53, g54, g55, g56, g57, g58, g59, g60, g61, g62, g63, g64, g65, g66, g67, g68, g69, g70, g71, g72, g73, g74, ⟨hfi, him⟩, ⟨hn0, hn1⟩, hgo, rfl, rfl⟩
            by_cases hi : i' < l.length
            · obtain ⟨x, hx, hd⟩ := lt_get8 hi
              have hi' : (i' : Int) < (l.length : Int) := by omega
              have hidx := idx hl hi
              have hD := isD_iff.1 (List.all_eq_true.1 ha x (mem_drop hfi hx))
              rw [hd, numG] at hgo
              obtain ⟨d, hdd⟩ : ∃ d : Int, d = (x.toNat : Int) - 48 := ⟨_, rfl⟩
              rw [← hdd] at hgo
              have h1 : IntKind.u8.wrap ((x.toNat : Int) - 48) = d := by rw [u8_in _ (by omega)]; omega
              have h2 : IntKind.i64.wrap d = d := i64_in _ (by omega)
              have h3 : IntKind.i64.wrap (4611686018427387904 - d) = 4611686018427387904 - d := i64_in _ (by omega)
              have h4 : IntKind.i64.wrap (Int.tdiv (4611686018427387904 - d) 10) = (4611686018427387904 - d) / 10 := i64_quo _ _ (by omega)
              have h0 : ¬ (10 : Int) = 0 := by omega
              by_cases hb : (4611686018427387904 - d) / 10 < n
              · rw [if_pos hb] at hgo
                subst hgo
                have hN2 := Hd.out hN'
                clear ha hdd hN'
                repeat' (first
                  | (simp -implicitDefEqProofs only [*, Tryd.f47, ↓cwp_skip, ↓cwp_region, ↓cwp_drawn, ↓cwp_seq, ↓cwp_cond, ↓cwp_block, ↓cwp_loop, ↓cwp_exit, ↓cwp_ret, ↓kont_normal, ↓kont_exit, ↓kont_ret, ↓block_normal, ↓block_ret, ↓block_exit, ↓then_normal, ↓then_ret, ↓then_exit, ↓finF_normal, ↓finF_ret, ↓cseq_nil, ↓cseq_free, ↓cseq_cons, ↓seqK_go, ↓anyK_go, ↓caq_zero, ↓caq_nil, ↓caq_cons, ↓cStep_move, ↓cStep_assign, ↓cStep_eq, ↓cPure_eq, ↓reduceIte, keeps, wantD, callee, aop, ev, ofV, nth, List.cons_append, List.nil_append, List.append_nil, undL, putO, put, List.length_cons, List.length_nil, Nat.reduceSub, Nat.reduceAdd, dBinT, dBin, dUn, Option.map, List.getElem?_toArray, List.toList_toArray, List.getElem?_cons_succ, List.getElem?_cons_zero, Option.bind, ge_iff_le, gt_iff_lt, resD, resL, resV, beq_true, beq_false, Option.some.injEq, List.map, Bool.not_true, Bool.not_false, Bool.false_eq_true, exists_eq_left', Bool.not_eq_true', decide_eq_true_eq, decide_eq_false_iff_not, ite_not, decide_true, decide_false, not_true_eq_false, not_false_eq_true, D.bool.injEq, if_true, if_false, and_true, true_and, ty3, ty4, ty5, ty9, ty21, dLen, dIdxA, dLoad, part, Ty.isA, D.cells, D.cells?, dField, dFieldA, dIdx, dFill, allCell, D.isCell, els, List.getElem?_map, Option.map_some, Int.toNat_natCast, List.length_map, Nat.lt_irrefl, Nat.zero_lt_one, Nat.zero_lt_succ, Option.some.injEq, Nat.le_refl, Nat.zero_add, Bool.false_eq_true, false_or, or_true, true_or, List.drop_zero, Int.natCast_nonneg, D.int.injEq, callee, Int.zero_le_ofNat, Nat.lt_add_one, List.getElem?_nil, dFill, rep, splice, List.take, List.drop, Nat.reduceMul, Nat.reduceLeDiff, Nat.reduceLT, Nat.reducePow, and_self, D.closedL, D.closed, Bool.and_self, bne_self_eq_false, beq_self_eq_true, bne, Bool.true_and, Bool.and_true, Bool.or_true, Bool.or_false, dConvH, dConv, Int.reduceToNat, Int.reduceBEq, Int.reduceLT, Int.reduceEq, Int.toNat_natCast, Int.natCast_nonneg, Int.zero_le_ofNat, Int.le_refl, beq_self_eq_true, Bool.not_true, Bool.not_false, finP, finN, Int.reduceLE, Int.reduceNeg])
                  | rfl
                  | split)
              · rw [if_neg hb] at hgo
                have h5 : IntKind.i64.wrap (10 * n) = 10 * n := i64_in _ (by omega)
                have h6 : IntKind.i64.wrap (10 * n + d) = n * 10 + d := by rw [i64_in _ (by omega)]; omega
                have hb1 : 0 ≤ n * 10 + d ∧ n * 10 + d ≤ 4611686018427387904 := by omega
                clear hdd
                repeat' (first
                  | (simp -implicitDefEqProofs only [*, Tryd.f47, ↓cwp_skip, ↓cwp_region, ↓cwp_drawn, ↓cwp_seq, ↓cwp_cond, ↓cwp_block, ↓cwp_loop, ↓cwp_exit, ↓cwp_ret, ↓kont_normal, ↓kont_exit, ↓kont_ret, ↓block_normal, ↓block_ret, ↓block_exit, ↓then_normal, ↓then_ret, ↓then_exit, ↓finF_normal, ↓finF_ret, ↓cseq_nil, ↓cseq_free, ↓cseq_cons, ↓seqK_go, ↓anyK_go, ↓caq_zero, ↓caq_nil, ↓caq_cons, ↓cStep_move, ↓cStep_assign, ↓cStep_eq, ↓cPure_eq, ↓reduceIte, keeps, wantD, callee, aop, ev, ofV, nth, List.cons_append, List.nil_append, List.append_nil, undL, putO, put, List.length_cons, List.length_nil, Nat.reduceSub, Nat.reduceAdd, dBinT, dBin, dUn, Option.map, List.getElem?_toArray, List.toList_toArray, List.getElem?_cons_succ, List.getElem?_cons_zero, Option.bind, ge_iff_le, gt_iff_lt, resD, resL, resV, beq_true, beq_false, Option.some.injEq, List.map, Bool.not_true, Bool.not_false, Bool.false_eq_true, exists_eq_left', Bool.not_eq_true', decide_eq_true_eq, decide_eq_false_iff_not, ite_not, decide_true, decide_false, not_true_eq_false, not_false_eq_true, D.bool.injEq, if_true, if_false, and_true, true_and, ty3, ty4, ty5, ty9, ty21, dLen, dIdxA, dLoad, part, Ty.isA, D.cells, D.cells?, dField, dFieldA, dIdx, dFill, allCell, D.isCell, els, List.getElem?_map, Option.map_some, Int.toNat_natCast, List.length_map, Nat.lt_irrefl, Nat.zero_lt_one, Nat.zero_lt_succ, Option.some.injEq, Nat.le_refl, Nat.zero_add, Bool.false_eq_true, false_or, or_true, true_or, List.drop_zero, Int.natCast_nonneg, D.int.injEq, callee, Int.zero_le_ofNat, Nat.lt_add_one, List.getElem?_nil, dFill, rep, splice, List.take, List.drop, Nat.reduceMul, Nat.reduceLeDiff, Nat.reduceLT, Nat.reducePow, and_self, D.closedL, D.closed, Bool.and_self, bne_self_eq_false, beq_self_eq_true, bne, Bool.true_and, Bool.and_true, Bool.or_true, Bool.or_false, dConvH, dConv, Int.reduceToNat, Int.reduceBEq, Int.reduceLT, Int.reduceEq, Int.toNat_natCast, Int.natCast_nonneg, Int.zero_le_ofNat, Int.le_refl, beq_self_eq_true, Bool.not_true, Bool.not_false, finP, finN, Int.reduceLE, Int.reduceNeg])
                  | rfl
                  | split)
                exact ⟨m' - 1, by omega, i' + 1, n * 10 + d, _, _, _, _, _, _, _, _, _, _, _, _, _, _, _, _, _, _, _, _, _, _, _, _, _, _, _, _, _, _, _, _, _, _, _, _, _, _, _, _, _, _, _, _, _, _, _, _, _, _, _, _, _, _, _, _, _, _, _, _, _, _, _, _, _, _, _, _, ⟨by omega, by omega⟩, hb1, hgo, rfl, rfl⟩
            · have hi' : ¬ (i' : Int) < (l.length : Int) := by omega
              rw [List.drop_eq_nil_of_le (by omega), numG] at hgo
              have h5 : IntKind.i64.wrap (0 - n) = -n := by rw [i64_in _ (by omega)]; omega
              subst hgo
              have hN2 := Hd.out hN'
              clear ha hn0 hn1 hN'
              repeat' (first
                | (simp -implicitDefEqProofs only [*, Tryd.f47, ↓cwp_skip, ↓cwp_region, ↓cwp_drawn, ↓cwp_seq, ↓cwp_cond, ↓cwp_block, ↓cwp_loop, ↓cwp_exit, ↓cwp_ret, ↓kont_normal, ↓kont_exit, ↓kont_ret, ↓block_normal, ↓block_ret, ↓block_exit, ↓then_normal, ↓then_ret, ↓then_exit, ↓finF_normal, ↓finF_ret, ↓cseq_nil, ↓cseq_free, ↓cseq_cons, ↓seqK_go, ↓anyK_go, ↓caq_zero, ↓caq_nil, ↓caq_cons, ↓cStep_move, ↓cStep_assign, ↓cStep_eq, ↓cPure_eq, ↓reduceIte, keeps, wantD, callee, aop, ev, ofV, nth, List.cons_append, List.nil_append, List.append_nil, undL, putO, put, List.length_cons, List.length_nil, Nat.reduceSub, Nat.reduceAdd, dBinT, dBin, dUn, Option.map, List.getElem?_toArray, List.toList_toArray, List.getElem?_cons_succ, List.getElem?_cons_zero, Option.bind, ge_iff_le, gt_iff_lt, resD, resL, resV, beq_true, beq_false, Option.some.injEq, List.map, Bool.not_true, Bool.not_false, Bool.false_eq_true, exists_eq_left', Bool.not_eq_true', decide_eq_true_eq, decide_eq_false_iff_not, ite_not, decide_true, decide_false, not_true_eq_false, not_false_eq_true, D.bool.injEq, if_true, if_false, and_true, true_and, ty3, ty4, ty5, ty9, ty21, dLen, dIdxA, dLoad, part, Ty.isA, D.cells, D.cells?, dField, dFieldA, dIdx, dFill, allCell, D.isCell, els, List.getElem?_map, Option.map_some, Int.toNat_natCast, List.length_map, Nat.lt_irrefl, Nat.zero_lt_one, Nat.zero_lt_succ, Option.some.injEq, Nat.le_refl, Nat.zero_add, Bool.false_eq_true, false_or, or_true, true_or, List.drop_zero, Int.natCast_nonneg, D.int.injEq, callee, Int.zero_le_ofNat, Nat.lt_add_one, List.getElem?_nil, dFill, rep, splice, List.take, List.drop, Nat.reduceMul, Nat.reduceLeDiff, Nat.reduceLT, Nat.reducePow, and_self, D.closedL, D.closed, Bool.and_self, bne_self_eq_false, beq_self_eq_true, bne, Bool.true_and, Bool.and_true, Bool.or_true, Bool.or_false, dConvH, dConv, Int.reduceToNat, Int.reduceBEq, Int.reduceLT, Int.reduceEq, Int.toNat_natCast, Int.natCast_nonneg, Int.zero_le_ofNat, Int.le_refl, beq_self_eq_true, Bool.not_true, Bool.not_false, finP, finN, Int.reduceLE, Int.reduceNeg])
                | rfl
                | split)
        · have hN' : numS l = (0, 7) := by rw [hN]; unfold numT; rw [if_neg ha]
          have ha' : (l.drop 0).all isD = false := by simpa using ha
          clear hN ha
          refine loop_rule (Inv15c l 0) ?_ (l.length - 0) ⟨0, _, _, _, _, _, _, _, _, _, _, _, _, _, _, _, _, _, _, _, _, _, _, _, _, _, _, _, _, _, _, _, _, _, _, _, _, _, _, _, _, by omega, ha', rfl, rfl⟩
          clear ha'
          rintro m ts H ⟨i, g9, g10, g11, g12, g13, g14, g15, g16, g17, g18, g19, g20, g21, g22, g23, g24, g25, g26, g27, g28, g29, g30, g31, g32, g33, g34, g35, g36, g37, g38, g39, g40, g41, g42, g43, g44, g45, g46, g47, g48, him, hall, rfl, rfl⟩
          by_cases hi : i < l.length
          · obtain ⟨x, hx, hd⟩ := lt_get8 hi
            have hi' : (i : Int) < (l.length : Int) := by omega
            have hidx := idx hl hi
            rw [hd, List.all_cons] at hall
            by_cases hF : isD x = true
            · rw [hF, Bool.true_and] at hall
              have hD := isD_iff.1 hF
              have h1 : ¬ (x.toNat : Int) < 48 := by omega
              have h2 : ¬ 57 < (x.toNat : Int) := by omega
              clear hF hD
              repeat' (first
                | (simp -implicitDefEqProofs only [*, Tryd.f47, ↓cwp_skip, ↓cwp_region, ↓cwp_drawn, ↓cwp_seq, ↓cwp_cond, ↓cwp_block, ↓cwp_loop, ↓cwp_exit, ↓cwp_ret, ↓kont_normal, ↓kont_exit, ↓kont_ret, ↓block_normal, ↓block_ret, ↓block_exit, ↓then_normal, ↓then_ret, ↓then_exit, ↓finF_normal, ↓finF_ret, ↓cseq_nil, ↓cseq_free, ↓cseq_cons, ↓seqK_go, ↓anyK_go, ↓caq_zero, ↓caq_nil, ↓caq_cons, ↓cStep_move, ↓cStep_assign, ↓cStep_eq, ↓cPure_eq, ↓reduceIte, keeps, wantD, callee, aop, ev, ofV, nth, List.cons_append, List.nil_append, List.append_nil, undL, putO, put, List.length_cons, List.length_nil, Nat.reduceSub, Nat.reduceAdd, dBinT, dBin, dUn, Option.map, List.getElem?_toArray, List.toList_toArray, List.getElem?_cons_succ, List.getElem?_cons_zero, Option.bind, ge_iff_le, gt_iff_lt, resD, resL, resV, beq_true, beq_false, Option.some.injEq, List.map, Bool.not_true, Bool.not_false, Bool.false_eq_true, exists_eq_left', Bool.not_eq_true', decide_eq_true_eq, decide_eq_false_iff_not, ite_not, decide_true, decide_false, not_true_eq_false, not_false_eq_true, D.bool.injEq, if_true, if_false, and_true, true_and, ty3, ty4, ty5, ty9, ty21, dLen, dIdxA, dLoad, part, Ty.isA, D.cells, D.cells?, dField, dFieldA, dIdx, dFill, allCell, D.isCell, els, List.getElem?_map, Option.map_some, Int.toNat_natCast, List.length_map, Nat.lt_irrefl, Nat.zero_lt_one, Nat.zero_lt_succ, Option.some.injEq, Nat.le_refl, Nat.zero_add, Bool.false_eq_true, false_or, or_true, true_or, List.drop_zero, Int.natCast_nonneg, D.int.injEq, callee, Int.zero_le_ofNat, Nat.lt_add_one, List.getElem?_nil, dFill, rep, splice, List.take, List.drop, Nat.reduceMul, Nat.reduceLeDiff, Nat.reduceLT, Nat.reducePow, and_self, D.closedL, D.closed, Bool.and_self, bne_self_eq_false, beq_self_eq_true, bne, Bool.true_and, Bool.and_true, Bool.or_true, Bool.or_false, dConvH, dConv, Int.reduceToNat, Int.reduceBEq, Int.reduceLT, Int.reduceEq, Int.toNat_natCast, Int.natCast_nonneg, Int.zero_le_ofNat, Int.le_refl, beq_self_eq_true, Bool.not_true, Bool.not_false, finP, finN, Int.reduceLE, Int.reduceNeg])
                | rfl
                | split)
              exact ⟨m - 1, by omega, i + 1, _, _, _, _, _, _, _, _, _, _, _, _, _, _, _, _, _, _, _, _, _, _, _, _, _, _, _, _, _, _, _, _, _, _, _, _, _, _, _, _, by omega, hall, rfl, rfl⟩
            · by_cases h1 : (x.toNat : Int) < 48
              · repeat' (first
                  | (simp -implicitDefEqProofs only [*, Tryd.f47, ↓cwp_skip, ↓cwp_region, ↓cwp_drawn, ↓cwp_seq, ↓cwp_cond, ↓cwp_block, ↓cwp_loop, ↓cwp_exit, ↓cwp_ret, ↓kont_normal, ↓kont_exit, ↓kont_ret, ↓block_normal, ↓block_ret, ↓block_exit, ↓then_normal, ↓then_ret, ↓then_exit, ↓finF_normal, ↓finF_ret, ↓cseq_nil, ↓cseq_free, ↓cseq_cons, ↓seqK_go, ↓anyK_go, ↓caq_zero, ↓caq_nil, ↓caq_cons, ↓cStep_move, ↓cStep_assign, ↓cStep_eq, ↓cPure_eq, ↓reduceIte, keeps, wantD, callee, aop, ev, ofV, nth, List.cons_append, List.nil_append, List.append_nil, undL, putO, put, List.length_cons, List.length_nil, Nat.reduceSub, Nat.reduceAdd, dBinT, dBin, dUn, Option.map, List.getElem?_toArray, List.toList_toArray, List.getElem?_cons_succ, List.getElem?_cons_zero, Option.bind, ge_iff_le, gt_iff_lt, resD, resL, resV, beq_true, beq_false, Option.some.injEq, List.map, Bool.not_true, Bool.not_false, Bool.false_eq_true, exists_eq_left', Bool.not_eq_true', decide_eq_true_eq, decide_eq_false_iff_not, ite_not, decide_true, decide_false, not_true_eq_false, not_false_eq_true, D.bool.injEq, if_true, if_false, and_true, true_and, ty3, ty4, ty5, ty9, ty21, dLen, dIdxA, dLoad, part, Ty.isA, D.cells, D.cells?, dField, dFieldA, dIdx, dFill, allCell, D.isCell, els, List.getElem?_map, Option.map_some, Int.toNat_natCast, List.length_map, Nat.lt_irrefl, Nat.zero_lt_one, Nat.zero_lt_succ, Option.some.injEq, Nat.le_refl, Nat.zero_add, Bool.false_eq_true, false_or, or_true, true_or, List.drop_zero, Int.natCast_nonneg, D.int.injEq, callee, Int.zero_le_ofNat, Nat.lt_add_one, List.getElem?_nil, dFill, rep, splice, List.take, List.drop, Nat.reduceMul, Nat.reduceLeDiff, Nat.reduceLT, Nat.reducePow, and_self, D.closedL, D.closed, Bool.and_self, bne_self_eq_false, beq_self_eq_true, bne, Bool.true_and, Bool.and_true, Bool.or_true, Bool.or_false, dConvH, dConv, Int.reduceToNat, Int.reduceBEq, Int.reduceLT, Int.reduceEq, Int.toNat_natCast, Int.natCast_nonneg, Int.zero_le_ofNat, Int.le_refl, beq_self_eq_true, Bool.not_true, Bool.not_false, finP, finN, Int.reduceLE, Int.reduceNeg])
                  | rfl
                  | split)
              · have h2 : 57 < (x.toNat : Int) := by
                  have : ¬ (48 ≤ x.toNat ∧ x.toNat ≤ 57) := fun h => hF (isD_iff.2 h)
                  omega
                clear hF hall
                repeat' (first
                  | (simp -implicitDefEqProofs only [*, Tryd.f47, ↓cwp_skip, ↓cwp_region, ↓cwp_drawn, ↓cwp_seq, ↓cwp_cond, ↓cwp_block, ↓cwp_loop, ↓cwp_exit, ↓cwp_ret, ↓kont_normal, ↓kont_exit, ↓kont_ret, ↓block_normal, ↓block_ret, ↓block_exit, ↓then_normal, ↓then_ret, ↓then_exit, ↓finF_normal, ↓finF_ret, ↓cseq_nil, ↓cseq_free, ↓cseq_cons, ↓seqK_go, ↓anyK_go, ↓caq_zero, ↓caq_nil, ↓caq_cons, ↓cStep_move, ↓cStep_assign, ↓cStep_eq, ↓cPure_eq, ↓reduceIte, keeps, wantD, callee, aop, ev, ofV, nth, List.cons_append, List.nil_append, List.append_nil, undL, putO, put, List.length_cons, List.length_nil, Nat.reduceSub, Nat.reduceAdd, dBinT, dBin, dUn, Option.map, List.getElem?_toArray, List.toList_toArray, List.getElem?_cons_succ, List.getElem?_cons_zero, Option.bind, ge_iff_le, gt_iff_lt, resD, resL, resV, beq_true, beq_false, Option.some.injEq, List.map, Bool.not_true, Bool.not_false, Bool.false_eq_true, exists_eq_left', Bool.not_eq_true', decide_eq_true_eq, decide_eq_false_iff_not, ite_not, decide_true, decide_false, not_true_eq_false, not_false_eq_true, D.bool.injEq, if_true, if_false, and_true, true_and, ty3, ty4, ty5, ty9, ty21, dLen, dIdxA, dLoad, part, Ty.isA, D.cells, D.cells?, dField, dFieldA, dIdx, dFill, allCell, D.isCell, els, List.getElem?_map, Option.map_some, Int.toNat_natCast, List.length_map, Nat.lt_irrefl, Nat.zero_lt_one, Nat.zero_lt_succ, Option.some.injEq, Nat.le_refl, Nat.zero_add, Bool.false_eq_true, false_or, or_true, true_or, List.drop_zero, Int.natCast_nonneg, D.int.injEq, callee, Int.zero_le_ofNat, Nat.lt_add_one, List.getElem?_nil, dFill, rep, splice, List.take, List.drop, Nat.reduceMul, Nat.reduceLeDiff, Nat.reduceLT, Nat.reducePow, and_self, D.closedL, D.closed, Bool.and_self, bne_self_eq_false, beq_self_eq_true, bne, Bool.true_and, Bool.and_true, Bool.or_true, Bool.or_false, dConvH, dConv, Int.reduceToNat, Int.reduceBEq, Int.reduceLT, Int.reduceEq, Int.toNat_natCast, Int.natCast_nonneg, Int.zero_le_ofNat, Int.le_refl, beq_self_eq_true, Bool.not_true, Bool.not_false, finP, finN, Int.reduceLE, Int.reduceNeg])
                  | rfl
                  | split)
          · rw [List.drop_eq_nil_of_le (by omega)] at hall
            cases hall
end Go.Lv
