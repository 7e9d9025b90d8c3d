/- Steps read: what is looked up; what is split and joined; the plain law. -/
import Derived.Test.YtmpbkkfkkbdndabDoorStepG
import Derived.Test.YtmpbkkfkkbdndabDoorStepD
import Derived.Test.YtmpbkkfkkbdndabDoorNumJ
namespace Go.Lv
open Go Go.Proofs Go.IntWalk
set_option maxRecDepth 100000
set_option linter.unusedSimpArgs false
set_option linter.unusedVariables false
variable {E : Env}
theorem split_noc {c : UInt8} : ∀ (p cur : List UInt8), c ∉ p → splitGo c cur p = [cur ++ p]
  | [], cur, _ => by simp [splitGo]
  | x :: l, cur, h => by
    have hx : ¬ x = c := fun e => h (by simp [e])
    have hl : c ∉ l := fun e => h (by simp [e])
    simp [splitGo, hx, split_noc l _ hl]
theorem split_c {c : UInt8} : ∀ (p cur rest : List UInt8), c ∉ p → splitGo c cur (p ++ c :: rest) = (cur ++ p) :: splitGo c [] rest
  | [], cur, rest, _ => by simp [splitGo]
  | x :: l, cur, rest, h => by
    have hx : ¬ x = c := fun e => h (by simp [e])
    have hl : c ∉ l := fun e => h (by simp [e])
    simp [splitGo, hx, split_c l _ rest hl]
theorem joinL (x y : List UInt8) (l : List (List UInt8)) (c : UInt8) : Lib.join (x :: y :: l) [c] = x ++ c :: Lib.join (y :: l) [c] := by
  simp [Lib.join, List.intercalate]
theorem joinL1 (x : List UInt8) (c : UInt8) : Lib.join [x] [c] = x := by simp [Lib.join, List.intercalate]
theorem split_join {c : UInt8} : ∀ (l : List (List UInt8)), l ≠ [] → (∀ p ∈ l, c ∉ p) → splitC c (Lib.join l [c]) = l
  | [], h, _ => (h rfl).elim
  | [x], _, h => by rw [joinL1, splitC, split_noc _ _ (h x (by simp))]; simp
  | x :: y :: l, _, h => by
    rw [joinL, splitC, split_c _ _ _ (h x (by simp))]
    have := split_join (c := c) (y :: l) (by simp) (fun p hp => h p (List.mem_cons_of_mem _ hp))
    rw [splitC] at this
    rw [this]
    simp
theorem splitGo_ne {c : UInt8} : ∀ (l cur : List UInt8), splitGo c cur l ≠ []
  | [], cur => by simp [splitGo]
  | x :: l, cur => by
    by_cases hx : x = c
    · simp [splitGo, hx]
    · simp only [splitGo, hx, if_false]; exact splitGo_ne l _
theorem join_split {c : UInt8} : ∀ (s cur : List UInt8), Lib.join (splitGo c cur s) [c] = cur ++ s
  | [], cur => by simp [splitGo, joinL1]
  | x :: l, cur => by
    by_cases hx : x = c
    · subst hx
      simp only [splitGo, if_true]
      have h := join_split (c := x) l []
      cases hs : splitGo x [] l with
      | nil => exact (splitGo_ne l [] hs).elim
      | cons y t => rw [joinL, ← hs, h]; simp
    · simp only [splitGo, hx, if_false]
      rw [join_split l]
      simp
theorem join_splitC (c : UInt8) (s : List UInt8) : Lib.join (splitC c s) [c] = s := by rw [splitC, join_split]; simp
theorem split_parts {c : UInt8} : ∀ (s cur : List UInt8), c ∉ cur → ∀ p ∈ splitGo c cur s, c ∉ p
  | [], cur, h, p, hp => by simp [splitGo] at hp; subst hp; exact h
  | x :: l, cur, h, p, hp => by
    by_cases hx : x = c
    · subst hx
      simp only [splitGo, if_true, List.mem_cons] at hp
      rcases hp with rfl | hp
      · exact h
      · exact split_parts l [] (by simp) p hp
    · simp only [splitGo, hx, if_false] at hp
      exact split_parts l _ (by simp [h]; exact fun e => hx e.symm) p hp
theorem split_plen {c : UInt8} : ∀ (s cur : List UInt8), ∀ p ∈ splitGo c cur s, p.length ≤ cur.length + s.length
  | [], cur, p, hp => by simp [splitGo] at hp; subst hp; simp
  | x :: l, cur, p, hp => by
    by_cases hx : x = c
    · simp only [splitGo, hx, if_true, List.mem_cons] at hp
      rcases hp with rfl | hp
      · simp
      · have := split_plen l [] p hp
        simp at this ⊢
        omega
    · simp only [splitGo, hx, if_false] at hp
      have := split_plen l _ p hp
      simp at this ⊢
      omega
/-- Where it stands, or -1. -/
def ixOf : List (List UInt8) → List UInt8 → Int
  | [], _ => -1
  | x :: l, w => if w = x then 0 else if ixOf l w < 0 then -1 else ixOf l w + 1
def ixFrom (ws : List (List UInt8)) (w : List UInt8) (i : Nat) : Int := if ixOf (ws.drop i) w < 0 then -1 else ixOf (ws.drop i) w + i
theorem ixOf_nn : ∀ (ws : List (List UInt8)) (w : List UInt8), -1 ≤ ixOf ws w
  | [], _ => by simp [ixOf]
  | x :: l, w => by
    have := ixOf_nn l w
    unfold ixOf
    split
    · omega
    · split <;> omega
theorem ixFrom_zero (ws : List (List UInt8)) (w : List UInt8) : ixFrom ws w 0 = ixOf ws w := by
  have := ixOf_nn ws w
  unfold ixFrom
  simp only [List.drop_zero]
  split <;> omega
theorem ixFrom_hit {ws : List (List UInt8)} {w : List UInt8} {i : Nat} (hi : ws[i]? = some w) : ixFrom ws w i = i := by
  have : ws.drop i = w :: ws.drop (i + 1) := by
    obtain ⟨h, e⟩ := List.getElem?_eq_some_iff.1 hi
    rw [List.drop_eq_getElem_cons h, e]
  simp [ixFrom, this, ixOf]
theorem ixFrom_miss {ws : List (List UInt8)} {w x : List UInt8} {i : Nat} (hi : ws[i]? = some x) (h : ¬ w = x) : ixFrom ws w i = ixFrom ws w (i + 1) := by
  have : ws.drop i = x :: ws.drop (i + 1) := by
    obtain ⟨h, e⟩ := List.getElem?_eq_some_iff.1 hi
    rw [List.drop_eq_getElem_cons h, e]
  have h0 := ixOf_nn (ws.drop (i + 1)) w
  simp only [ixFrom, this, ixOf, h, if_false]
  split
  · rw [if_pos (by omega)]
  · rw [if_neg (by omega)]
    omega
theorem ixFrom_end {ws : List (List UInt8)} {w : List UInt8} {i : Nat} (hi : ws.length ≤ i) : ixFrom ws w i = -1 := by
  simp [ixFrom, List.drop_eq_nil_of_le hi, ixOf]
theorem nth_strs : ∀ (ws : List (List UInt8)) (i : Nat) (x : List UInt8), ws[i]? = some x → nth (ws.map D.str) i = .str x
  | [], i, x, h => by simp at h
  | y :: l, 0, x, h => by simp at h; subst h; rfl
  | y :: l, i + 1, x, h => by simp at h; simp only [List.map, nth]; exact nth_strs l i x h
def Inv42 (b : Nat) (ws : List (List UInt8)) (w : List UInt8) (H0 : Hp) (r : Int) (m : Nat) (ts : List D) (H : Hp) : Prop := ∃ (i : Nat) (g2 g3 g5 g6 g9 g10 g11 g12 g13 g14 g15 g16 g17 g18 : D), (i + m = ws.length) ∧ (ixFrom ws w i = r) ∧ H = H0 ∧ ts = [.asl b 0 ws.length ws.length, .str w, g2, g3, .int .i64 0, g5, g6, .int .i64 (ws.length : Nat), .int .i64 (i : Nat), g9, g10, g11, g12, g13, g14, g15, g16, g17, g18]
set_option maxHeartbeats 4000000 in
theorem index42 (H : Hp) (b : Nat) (ws : List (List UInt8)) (w : List UInt8) (n : Nat) (hn : n = ws.length) (hl : ws.length ≤ 1000000) (hc : cellsOf H b ws.length = some (ws.map D.str)) :
    Fun Tryd.prog E 42 [.asl b 0 n n, .str w] H fun d H' => d = .int .i64 (ixOf ws w) ∧ H' = H := by
  subst hn
  refine fun_by (fn := Tryd.f42) mixed Tryd.func42 rfl ?_
  generalize hr : ixOf ws w = r
  repeat' (first
  | (simp -implicitDefEqProofs (maxSteps := 1000000) only [*, Tryd.f42, ↓cAny_eq, ↓anyP_go, fillT, fillH, ↓cwp_scope, ↓cwp_label, ↓scope_normal, ↓scope_ret, ↓scope_exit, ↓cwp_skip, ↓cwp_region, ↓cwp_drawn, ↓cwp_seq, ↓cwp_cond, ↓cwp_block, ↓cwp_loop, ↓cwp_exit, ↓cwp_ret, ↓kont_normal, ↓kont_exit, ↓kont_ret, ↓block_normal, ↓block_ret, ↓block_exit, ↓then_normal, ↓then_ret, ↓then_exit, ↓finF_normal, ↓finF_ret, ↓cseq_nil, ↓cseq_free, ↓cseq_cons, ↓seqK_go, ↓anyK_go, ↓caq_zero, ↓caq_done, ↓caq_free, ↓caq_step, ↓cStep_move, ↓cStep_assign, ↓cStep_eq, ↓cPure_call, ↓reduceIte, keeps, wantD, callee, aop, ev, ofV, nth, List.cons_append, List.nil_append, List.append_nil, undL, putO, put, List.length_cons, List.length_nil, Nat.reduceSub, Nat.reduceAdd, dBinT, dBin, dUn, Option.map, List.getElem?_toArray, List.toList_toArray, List.getElem?_cons_succ, List.getElem?_cons_zero, Option.bind, ge_iff_le, gt_iff_lt, resD, resL, resV, beq_true, beq_false, Option.some.injEq, List.map, Bool.not_true, Bool.not_false, Bool.false_eq_true, exists_eq_left', Bool.not_eq_true', decide_eq_true_eq, decide_eq_false_iff_not, ite_not, decide_true, decide_false, not_true_eq_false, not_false_eq_true, D.bool.injEq, if_true, if_false, and_true, true_and, ty1, sz1, z1, ty2, sz2, z2, ty3, sz3, z3, ty4, sz4, z4, ty5, sz5, z5, ty6, sz6, z6, ty7, sz7, z7, ty9, sz9, z9, ty19, sz19, z19, ty56, sz56, z56, dLen, dIdxA, dLoad, part, Ty.isA, Ty.fi, D.cells, D.cells?, dField, dFieldA, dIdx, dFill, allCell, D.isCell, els, chunk, rep, splice, hset, Blk.isC, Blk.cs, Blk.mut, Blk.setCs, dStore, dBuild, dSlice, dBnd, List.getElem?_map, Option.map_some, Int.toNat_natCast, List.length_map, Nat.lt_irrefl, Nat.zero_lt_one, Nat.zero_lt_succ, Nat.le_refl, Nat.zero_add, Bool.false_eq_true, false_or, or_true, true_or, List.drop_zero, Int.natCast_nonneg, D.int.injEq, Int.zero_le_ofNat, Nat.lt_add_one, List.getElem?_nil, Nat.zero_le, List.take, List.drop, Nat.reduceMul, Nat.reduceLeDiff, Nat.reduceLT, Nat.reducePow, Nat.reduceBEq, Nat.reduceEqDiff, and_self, D.closedL, D.closed, Bool.and_self, bne_self_eq_false, beq_self_eq_true, bne, Bool.true_and, Bool.and_true, Bool.or_true, Bool.or_false, Bool.true_or, Bool.false_or, Bool.and_false, Bool.false_and, List.all_cons, List.all_nil, List.all, List.replicate, exists_const, okK, dEqL, dEqO, dEq, Option.isSome, nc0, nc1, nc2, nc3, nc4, nc5, nc6, nc7, nc8, nc9, nc10, nc11, nc12, wl0, wl1, wl2, wl3, wl4, wl5, wl6, wl7, wl8, wl9, wl10, wl11, wl12, Int.reduceAdd, Int.reduceLT, Int.reduceLE, Int.reduceToNat, Int.reduceEq, Int.reduceSub, Int.reduceBEq, Int.reduceBNe, List.length_singleton, Nat.reduceBNe])
  | (refine ⟨by decide +kernel, ?_⟩)
  | rfl
  | split)
  refine loop_rule (Inv42 b ws w H r) ?_ ws.length ⟨0, _, _, _, _, _, _, _, _, _, _, _, _, _, _, by omega, by rw [ixFrom_zero, hr], rfl, rfl⟩
  clear hr
  rintro m ts H' ⟨i, g2, g3, g5, g6, g9, g10, g11, g12, g13, g14, g15, g16, g17, g18, him, hix, rfl, rfl⟩
  by_cases hi : i < ws.length
  · obtain ⟨x, hx⟩ : ∃ x, ws[i]? = some x := ⟨ws[i], List.getElem?_eq_getElem hi⟩
    have hnx := nth_strs ws i x hx
    have hi' : (i : Int) < (ws.length : Int) := by omega
    have hi2 : i + 1 ≤ ws.length := by omega
    have hml : (ws.map D.str).length = ws.length := List.length_map ..
    have hw5 : IntKind.i64.wrap ((i : Int) + 1) = ((i + 1 : Nat) : Int) := by rw [i64_in _ (by omega)]; rfl
    by_cases hwx : w = x
    · subst hwx
      have hf := ixFrom_hit hx
      rw [hf] at hix
      subst hix
      clear hf hx hi hl him
      repeat' (first
        | (simp -implicitDefEqProofs (maxSteps := 1000000) only [*, Tryd.f42, ↓cAny_eq, ↓anyP_go, fillT, fillH, ↓cwp_scope, ↓cwp_label, ↓scope_normal, ↓scope_ret, ↓scope_exit, ↓cwp_skip, ↓cwp_region, ↓cwp_drawn, ↓cwp_seq, ↓cwp_cond, ↓cwp_block, ↓cwp_loop, ↓cwp_exit, ↓cwp_ret, ↓kont_normal, ↓kont_exit, ↓kont_ret, ↓block_normal, ↓block_ret, ↓block_exit, ↓then_normal, ↓then_ret, ↓then_exit, ↓finF_normal, ↓finF_ret, ↓cseq_nil, ↓cseq_free, ↓cseq_cons, ↓seqK_go, ↓anyK_go, ↓caq_zero, ↓caq_done, ↓caq_free, ↓caq_step, ↓cStep_move, ↓cStep_assign, ↓cStep_eq, ↓cPure_call, ↓reduceIte, keeps, wantD, callee, aop, ev, ofV, nth, List.cons_append, List.nil_append, List.append_nil, undL, putO, put, List.length_cons, List.length_nil, Nat.reduceSub, Nat.reduceAdd, dBinT, dBin, dUn, Option.map, List.getElem?_toArray, List.toList_toArray, List.getElem?_cons_succ, List.getElem?_cons_zero, Option.bind, ge_iff_le, gt_iff_lt, resD, resL, resV, beq_true, beq_false, Option.some.injEq, List.map, Bool.not_true, Bool.not_false, Bool.false_eq_true, exists_eq_left', Bool.not_eq_true', decide_eq_true_eq, decide_eq_false_iff_not, ite_not, decide_true, decide_false, not_true_eq_false, not_false_eq_true, D.bool.injEq, if_true, if_false, and_true, true_and, ty1, sz1, z1, ty2, sz2, z2, ty3, sz3, z3, ty4, sz4, z4, ty5, sz5, z5, ty6, sz6, z6, ty7, sz7, z7, ty9, sz9, z9, ty19, sz19, z19, ty56, sz56, z56, dLen, dIdxA, dLoad, part, Ty.isA, Ty.fi, D.cells, D.cells?, dField, dFieldA, dIdx, dFill, allCell, D.isCell, els, chunk, rep, splice, hset, Blk.isC, Blk.cs, Blk.mut, Blk.setCs, dStore, dBuild, dSlice, dBnd, List.getElem?_map, Option.map_some, Int.toNat_natCast, List.length_map, Nat.lt_irrefl, Nat.zero_lt_one, Nat.zero_lt_succ, Nat.le_refl, Nat.zero_add, Bool.false_eq_true, false_or, or_true, true_or, List.drop_zero, Int.natCast_nonneg, D.int.injEq, Int.zero_le_ofNat, Nat.lt_add_one, List.getElem?_nil, Nat.zero_le, List.take, List.drop, Nat.reduceMul, Nat.reduceLeDiff, Nat.reduceLT, Nat.reducePow, Nat.reduceBEq, Nat.reduceEqDiff, and_self, D.closedL, D.closed, Bool.and_self, bne_self_eq_false, beq_self_eq_true, bne, Bool.true_and, Bool.and_true, Bool.or_true, Bool.or_false, Bool.true_or, Bool.false_or, Bool.and_false, Bool.false_and, List.all_cons, List.all_nil, List.all, List.replicate, exists_const, okK, dEqL, dEqO, dEq, Option.isSome, nc0, nc1, nc2, nc3, nc4, nc5, nc6, nc7, nc8, nc9, nc10, nc11, nc12, wl0, wl1, wl2, wl3, wl4, wl5, wl6, wl7, wl8, wl9, wl10, wl11, wl12, Int.reduceAdd, Int.reduceLT, Int.reduceLE, Int.reduceToNat, Int.reduceEq, Int.reduceSub, Int.reduceBEq, Int.reduceBNe, List.length_singleton, Nat.reduceBNe, Nat.mul_one])
        | (refine ⟨by decide +kernel, ?_⟩)
        | rfl
        | split)
    · have hwx' : (w == x) = false := by rw [beq_eq_false_iff_ne]; exact hwx
      have hf := ixFrom_miss hx hwx
      rw [hf] at hix
      clear hf hx hwx hl
      repeat' (first
        | (simp -implicitDefEqProofs (maxSteps := 1000000) only [*, Tryd.f42, ↓cAny_eq, ↓anyP_go, fillT, fillH, ↓cwp_scope, ↓cwp_label, ↓scope_normal, ↓scope_ret, ↓scope_exit, ↓cwp_skip, ↓cwp_region, ↓cwp_drawn, ↓cwp_seq, ↓cwp_cond, ↓cwp_block, ↓cwp_loop, ↓cwp_exit, ↓cwp_ret, ↓kont_normal, ↓kont_exit, ↓kont_ret, ↓block_normal, ↓block_ret, ↓block_exit, ↓then_normal, ↓then_ret, ↓then_exit, ↓finF_normal, ↓finF_ret, ↓cseq_nil, ↓cseq_free, ↓cseq_cons, ↓seqK_go, ↓anyK_go, ↓caq_zero, ↓caq_done, ↓caq_free, ↓caq_step, ↓cStep_move, ↓cStep_assign, ↓cStep_eq, ↓cPure_call, ↓reduceIte, keeps, wantD, callee, aop, ev, ofV, nth, List.cons_append, List.nil_append, List.append_nil, undL, putO, put, List.length_cons, List.length_nil, Nat.reduceSub, Nat.reduceAdd, dBinT, dBin, dUn, Option.map, List.getElem?_toArray, List.toList_toArray, List.getElem?_cons_succ, List.getElem?_cons_zero, Option.bind, ge_iff_le, gt_iff_lt, resD, resL, resV, beq_true, beq_false, Option.some.injEq, List.map, Bool.not_true, Bool.not_false, Bool.false_eq_true, exists_eq_left', Bool.not_eq_true', decide_eq_true_eq, decide_eq_false_iff_not, ite_not, decide_true, decide_false, not_true_eq_false, not_false_eq_true, D.bool.injEq, if_true, if_false, and_true, true_and, ty1, sz1, z1, ty2, sz2, z2, ty3, sz3, z3, ty4, sz4, z4, ty5, sz5, z5, ty6, sz6, z6, ty7, sz7, z7, ty9, sz9, z9, ty19, sz19, z19, ty56, sz56, z56, dLen, dIdxA, dLoad, part, Ty.isA, Ty.fi, D.cells, D.cells?, dField, dFieldA, dIdx, dFill, allCell, D.isCell, els, chunk, rep, splice, hset, Blk.isC, Blk.cs, Blk.mut, Blk.setCs, dStore, dBuild, dSlice, dBnd, List.getElem?_map, Option.map_some, Int.toNat_natCast, List.length_map, Nat.lt_irrefl, Nat.zero_lt_one, Nat.zero_lt_succ, Nat.le_refl, Nat.zero_add, Bool.false_eq_true, false_or, or_true, true_or, List.drop_zero, Int.natCast_nonneg, D.int.injEq, Int.zero_le_ofNat, Nat.lt_add_one, List.getElem?_nil, Nat.zero_le, List.take, List.drop, Nat.reduceMul, Nat.reduceLeDiff, Nat.reduceLT, Nat.reducePow, Nat.reduceBEq, Nat.reduceEqDiff, and_self, D.closedL, D.closed, Bool.and_self, bne_self_eq_false, beq_self_eq_true, bne, Bool.true_and, Bool.and_true, Bool.or_true, Bool.or_false, Bool.true_or, Bool.false_or, Bool.and_false, Bool.false_and, List.all_cons, List.all_nil, List.all, List.replicate, exists_const, okK, dEqL, dEqO, dEq, Option.isSome, nc0, nc1, nc2, nc3, nc4, nc5, nc6, nc7, nc8, nc9, nc10, nc11, nc12, wl0, wl1, wl2, wl3, wl4, wl5, wl6, wl7, wl8, wl9, wl10, wl11, wl12, Int.reduceAdd, Int.reduceLT, Int.reduceLE, Int.reduceToNat, Int.reduceEq, Int.reduceSub, Int.reduceBEq, Int.reduceBNe, List.length_singleton, Nat.reduceBNe, Nat.mul_one])
        | (refine ⟨by decide +kernel, ?_⟩)
        | rfl
        | split)
      exact ⟨m - 1, by omega, i + 1, _, _, _, _, _, _, _, _, _, _, _, _, _, _, by omega, hix, rfl, rfl⟩
  · have hi' : ¬ (i : Int) < (ws.length : Int) := by omega
    rw [ixFrom_end (by omega)] at hix
    subst hix
    repeat' (first
      | (simp -implicitDefEqProofs (maxSteps := 1000000) only [*, Tryd.f42, ↓cAny_eq, ↓anyP_go, fillT, fillH, ↓cwp_scope, ↓cwp_label, ↓scope_normal, ↓scope_ret, ↓scope_exit, ↓cwp_skip, ↓cwp_region, ↓cwp_drawn, ↓cwp_seq, ↓cwp_cond, ↓cwp_block, ↓cwp_loop, ↓cwp_exit, ↓cwp_ret, ↓kont_normal, ↓kont_exit, ↓kont_ret, ↓block_normal, ↓block_ret, ↓block_exit, ↓then_normal, ↓then_ret, ↓then_exit, ↓finF_normal, ↓finF_ret, ↓cseq_nil, ↓cseq_free, ↓cseq_cons, ↓seqK_go, ↓anyK_go, ↓caq_zero, ↓caq_done, ↓caq_free, ↓caq_step, ↓cStep_move, ↓cStep_assign, ↓cStep_eq, ↓cPure_call, ↓reduceIte, keeps, wantD, callee, aop, ev, ofV, nth, List.cons_append, List.nil_append, List.append_nil, undL, putO, put, List.length_cons, List.length_nil, Nat.reduceSub, Nat.reduceAdd, dBinT, dBin, dUn, Option.map, List.getElem?_toArray, List.toList_toArray, List.getElem?_cons_succ, List.getElem?_cons_zero, Option.bind, ge_iff_le, gt_iff_lt, resD, resL, resV, beq_true, beq_false, Option.some.injEq, List.map, Bool.not_true, Bool.not_false, Bool.false_eq_true, exists_eq_left', Bool.not_eq_true', decide_eq_true_eq, decide_eq_false_iff_not, ite_not, decide_true, decide_false, not_true_eq_false, not_false_eq_true, D.bool.injEq, if_true, if_false, and_true, true_and, ty1, sz1, z1, ty2, sz2, z2, ty3, sz3, z3, ty4, sz4, z4, ty5, sz5, z5, ty6, sz6, z6, ty7, sz7, z7, ty9, sz9, z9, ty19, sz19, z19, ty56, sz56, z56, dLen, dIdxA, dLoad, part, Ty.isA, Ty.fi, D.cells, D.cells?, dField, dFieldA, dIdx, dFill, allCell, D.isCell, els, chunk, rep, splice, hset, Blk.isC, Blk.cs, Blk.mut, Blk.setCs, dStore, dBuild, dSlice, dBnd, List.getElem?_map, Option.map_some, Int.toNat_natCast, List.length_map, Nat.lt_irrefl, Nat.zero_lt_one, Nat.zero_lt_succ, Nat.le_refl, Nat.zero_add, Bool.false_eq_true, false_or, or_true, true_or, List.drop_zero, Int.natCast_nonneg, D.int.injEq, Int.zero_le_ofNat, Nat.lt_add_one, List.getElem?_nil, Nat.zero_le, List.take, List.drop, Nat.reduceMul, Nat.reduceLeDiff, Nat.reduceLT, Nat.reducePow, Nat.reduceBEq, Nat.reduceEqDiff, and_self, D.closedL, D.closed, Bool.and_self, bne_self_eq_false, beq_self_eq_true, bne, Bool.true_and, Bool.and_true, Bool.or_true, Bool.or_false, Bool.true_or, Bool.false_or, Bool.and_false, Bool.false_and, List.all_cons, List.all_nil, List.all, List.replicate, exists_const, okK, dEqL, dEqO, dEq, Option.isSome, nc0, nc1, nc2, nc3, nc4, nc5, nc6, nc7, nc8, nc9, nc10, nc11, nc12, wl0, wl1, wl2, wl3, wl4, wl5, wl6, wl7, wl8, wl9, wl10, wl11, wl12, Int.reduceAdd, Int.reduceLT, Int.reduceLE, Int.reduceToNat, Int.reduceEq, Int.reduceSub, Int.reduceBEq, Int.reduceBNe, List.length_singleton, Nat.reduceBNe])
      | (refine ⟨by decide +kernel, ?_⟩)
      | rfl
      | split)
def opIx (w : List UInt8) : Int := if w = [104, 111, 108, 100] then 1 else if w = [97, 117, 116, 104] then 2 else if w = [107, 101, 101, 112] then 3 else if w = [98, 111, 111, 107] then 4 else if w = [115, 101, 110, 100] then 5 else if w = [116, 97, 107, 101] then 6 else 0
def clIx (w : List UInt8) : Int := if w = [115, 111, 102, 116] then 1 else if w = [112, 105, 118, 111, 116] then 2 else if w = [102, 105, 114, 109] then 3 else 0
def opsL : List (List UInt8) := [[], [104, 111, 108, 100], [97, 117, 116, 104], [107, 101, 101, 112], [98, 111, 111, 107], [115, 101, 110, 100], [116, 97, 107, 101]]
def clsL : List (List UInt8) := [[], [115, 111, 102, 116], [112, 105, 118, 111, 116], [102, 105, 114, 109]]
theorem opMax (w : List UInt8) (h : w ≠ []) : (if 0 < ixOf opsL w then ixOf opsL w else 0) = opIx w := by
  unfold opIx
  repeat' split
  all_goals first
    | (subst_vars; simp [opsL, ixOf]; done)
    | (simp_all [opsL, ixOf]; done)
    | skip
theorem clMax (w : List UInt8) (h : w ≠ []) : (if 0 < ixOf clsL w then ixOf clsL w else 0) = clIx w := by
  unfold clIx
  repeat' split
  all_goals first
    | (subst_vars; simp [clsL, ixOf]; done)
    | (simp_all [clsL, ixOf]; done)
    | skip
end Go.Lv
