/- Letters: drop. -/
import Derived.Test.YtmpbkkfkkbdndaaDoorLetG
namespace Go.Lv
open Go Go.Proofs Go.IntWalk
set_option maxRecDepth 100000
set_option linter.unusedSimpArgs false
set_option linter.unusedVariables false
variable {E : Env}
def dropL (g : Int) (l : List Lt) : List Lt := match plc g l with
  | some n => l.take n ++ l.drop (n + 1)
  | none => l
def dropD (l : List Lt) (g : Int) : D :=
  if fitS l = false then .tup [.list true [], .int .i64 12]
  else match plc g l with
    | none => .tup [.list true [], .int .i64 2]
    | some _ => .tup [resC (dropL g l), .int .i64 0]
theorem dropD_closed (l : List Lt) (g : Int) : (dropD l g).closed = true := by unfold dropD; (repeat' split) <;> rfl
theorem fitG_lt : ∀ {l : List Lt} {last : Int}, fitG last l = true → ∀ x ∈ l, last < x.g
  | [], last, h => by simp
  | y :: l, last, h => by
    simp only [fitG, Bool.and_eq_true, decide_eq_true_eq] at h
    intro x hx
    rcases List.mem_cons.1 hx with rfl | hx
    · exact h.2.1
    · have := fitG_lt h.2.2 x hx
      omega
theorem filter_none {g : Int} : ∀ {l : List Lt}, (∀ x ∈ l, x.g ≠ g) → l.filter (fun x => x.g != g) = l
  | [], _ => rfl
  | x :: l, h => by
    have hx : (x.g != g) = true := by simpa using h x (by simp)
    rw [List.filter_cons, if_pos hx, filter_none fun y hy => h y (by simp [hy])]
theorem filter_drop {g : Int} : ∀ {l : List Lt} {last : Int} {n : Nat}, fitG last l = true → plc g l = some n → l.filter (fun x => x.g != g) = l.take n ++ l.drop (n + 1)
  | [], last, n, h, hp => by cases hp
  | x :: l, last, n, h, hp => by
    simp only [fitG, Bool.and_eq_true, decide_eq_true_eq] at h
    simp only [plc] at hp
    split at hp
    · rename_i hx
      cases hp
      have hf : (x.g != g) = false := by simpa using hx
      rw [List.filter_cons, hf]
      simp only [Bool.false_eq_true, if_false, List.take_zero, List.nil_append]
      rw [filter_none]
      · rfl
      · intro y hy
        have := fitG_lt h.2.2 y hy
        omega
    · rename_i hx
      split at hp
      · rename_i m hm
        cases hp
        have hf : (x.g != g) = true := by simpa using hx
        rw [List.filter_cons, if_pos hf, filter_drop h.2.2 hm]
        rfl
      · cases hp
def accE : List Lt → D
  | [] => .list true []
  | _ :: l => .own 1 (l.length + 1) ((l.length + 1) * 5)
def accF : List Lt → Hp
  | [] => []
  | x :: l => [.row 5 true (flatL (x :: l))]
theorem accF_app (acc : List Lt) (x : Lt) : accF (acc ++ [x]) = [.row 5 true (flatL (acc ++ [x]))] := by cases acc <;> rfl
theorem accE_app (acc : List Lt) (x : Lt) : accE (acc ++ [x]) = .own 1 (acc.length + 1) ((acc.length + 1) * 5) := by cases acc <;> simp [accE]
set_option maxHeartbeats 8000000 in
theorem drop37 (t : Bool) (l : List Lt) (hn : l.length ≤ 1000000) (g : Int) : PDen Tryd.prog E 37 [lts t l, .int .i64 g] (dropD l g) := by
  refine pden_by (fn := Tryd.f37) mixed Tryd.func37 rfl (rfl) (dropD_closed _ _) ?_
  have hn4 : l.length ≤ 4611686018427387904 := by omega
  have hall := allSz_lts l
  have hall0 : allSz 5 ([] : List D) = true := rfl
  have cp := place (E := E) t g l hn4
  cases hf : fitS l
  · have hr : dropD l g = .tup [.list true [], .int .i64 12] := by simp [dropD, hf]
    rw [hr]
    clear hr
    repeat' (first
      | (simp -implicitDefEqProofs (maxSteps := 1000000) only [*, Tryd.f37, ↓cwp_skip, ↓cwp_region, ↓cwp_drawn, ↓cwp_seq, ↓cwp_cond, ↓cwp_block, ↓cwp_loop, ↓cwp_exit, ↓cwp_ret, ↓kont_normal, ↓kont_exit, ↓kont_ret, ↓block_normal, ↓block_ret, ↓block_exit, ↓then_normal, ↓then_ret, ↓then_exit, ↓finF_normal, ↓finF_ret, ↓cseq_nil, ↓cseq_free, ↓cseq_cons, ↓seqK_go, ↓anyK_go, ↓caq_zero, ↓caq_done, ↓caq_free, ↓caq_step, ↓cStep_move, ↓cStep_assign, ↓cStep_eq, ↓cPure_call, ↓reduceIte, keeps, wantD, callee, aop, ev, ofV, nth, List.cons_append, List.nil_append, List.append_nil, undL, putO, put, List.length_cons, List.length_nil, Nat.reduceSub, Nat.reduceAdd, dBinT, dBin, dUn, Option.map, List.getElem?_toArray, List.toList_toArray, List.getElem?_cons_succ, List.getElem?_cons_zero, Option.bind, ge_iff_le, gt_iff_lt, resD, resL, resV, beq_true, beq_false, Option.some.injEq, List.map, Bool.not_true, Bool.not_false, Bool.false_eq_true, exists_eq_left', Bool.not_eq_true', decide_eq_true_eq, decide_eq_false_iff_not, ite_not, decide_true, decide_false, not_true_eq_false, not_false_eq_true, D.bool.injEq, if_true, if_false, and_true, true_and, ty1, sz1, z1, ty2, sz2, z2, ty3, sz3, z3, ty4, sz4, z4, ty5, sz5, z5, ty6, sz6, z6, ty23, sz23, z23, ty26, sz26, z26, ty35, sz35, z35, ty102, sz102, z102, dLen, dIdxA, dLoad, part, Ty.isA, Ty.fi, D.cells, D.cells?, dField, dFieldA, dIdx, dFill, allCell, D.isCell, els, chunk, rep, splice, hget, hset, cellsOf, Blk.isC, Blk.cs, Blk.mut, Blk.setCs, dStore, dBuild, dSlice, dBnd, List.getElem?_map, Option.map_some, Int.toNat_natCast, List.length_map, Nat.lt_irrefl, Nat.zero_lt_one, Nat.zero_lt_succ, Nat.le_refl, Nat.zero_add, Bool.false_eq_true, false_or, or_true, true_or, List.drop_zero, Int.natCast_nonneg, D.int.injEq, Int.zero_le_ofNat, Nat.lt_add_one, List.getElem?_nil, Nat.zero_le, List.take, List.drop, Nat.reduceMul, Nat.reduceLeDiff, Nat.reduceLT, Nat.reducePow, Nat.reduceBEq, Nat.reduceEqDiff, and_self, D.closedL, D.closed, Bool.and_self, bne_self_eq_false, beq_self_eq_true, bne, Bool.true_and, Bool.and_true, Bool.or_true, Bool.or_false, Bool.true_or, Bool.false_or, Bool.and_false, Bool.false_and, List.all_cons, List.all_nil, List.all, List.replicate, exists_const, okK, dEqL, dEqO, dEq, Option.isSome, nc0, nc1, nc2, nc3, nc4, nc5, nc6, nc7, nc8, nc9, nc10, nc11, nc12, wl0, wl1, wl2, wl3, wl4, wl5, wl6, wl7, wl8, wl9, wl10, wl11, wl12, Int.reduceAdd, Int.reduceLT, Int.reduceLE, Int.reduceToNat, Int.reduceEq, Int.reduceSub, Int.reduceBEq, Int.reduceBNe, List.length_singleton, Nat.reduceBNe, z37, sz37, ty37, lts_def, Lt.d_mk, hget_len, hset_len', eq_self, ← List.map_take, ← List.map_drop, List.take_length])
      | (exact reif_closed rfl)
      | (refine .body (by kernel_rfl) (PDen.to (fit31 _ _ hn4) ?_))
      | (refine PCall.to (by kernel_rfl) (fit31 _ _ hn4) ?_)
      | (refine .body (by kernel_rfl) (PDen.to (fit32 _ _ hn4) ?_))
      | (refine PCall.to (by kernel_rfl) (fit32 _ _ hn4) ?_)
      | (refine .body (by kernel_rfl) (PDen.to (cp) ?_))
      | (refine PCall.to (by kernel_rfl) (cp) ?_)
      | (refine ⟨7, by decide +kernel, ?_⟩)
      | (refine ⟨8, by decide +kernel, ?_⟩)
      | (refine ⟨9, by decide +kernel, ?_⟩)
      | (refine ⟨10, by decide +kernel, ?_⟩)
      | (refine ⟨11, by decide +kernel, ?_⟩)
      | rfl
      | split)
  cases hp : plc g l with
  | none =>
    have hr : dropD l g = .tup [.list true [], .int .i64 2] := by simp [dropD, hf, hp]
    have hI : plcI g l = -1 := by simp only [plcI, hp]
    have hlt : (-1 : Int) < 0 := by omega
    rw [hr]
    rw [hI] at cp
    clear hr hI hp
    repeat' (first
      | (simp -implicitDefEqProofs (maxSteps := 1000000) only [*, Tryd.f37, ↓cwp_skip, ↓cwp_region, ↓cwp_drawn, ↓cwp_seq, ↓cwp_cond, ↓cwp_block, ↓cwp_loop, ↓cwp_exit, ↓cwp_ret, ↓kont_normal, ↓kont_exit, ↓kont_ret, ↓block_normal, ↓block_ret, ↓block_exit, ↓then_normal, ↓then_ret, ↓then_exit, ↓finF_normal, ↓finF_ret, ↓cseq_nil, ↓cseq_free, ↓cseq_cons, ↓seqK_go, ↓anyK_go, ↓caq_zero, ↓caq_done, ↓caq_free, ↓caq_step, ↓cStep_move, ↓cStep_assign, ↓cStep_eq, ↓cPure_call, ↓reduceIte, keeps, wantD, callee, aop, ev, ofV, nth, List.cons_append, List.nil_append, List.append_nil, undL, putO, put, List.length_cons, List.length_nil, Nat.reduceSub, Nat.reduceAdd, dBinT, dBin, dUn, Option.map, List.getElem?_toArray, List.toList_toArray, List.getElem?_cons_succ, List.getElem?_cons_zero, Option.bind, ge_iff_le, gt_iff_lt, resD, resL, resV, beq_true, beq_false, Option.some.injEq, List.map, Bool.not_true, Bool.not_false, Bool.false_eq_true, exists_eq_left', Bool.not_eq_true', decide_eq_true_eq, decide_eq_false_iff_not, ite_not, decide_true, decide_false, not_true_eq_false, not_false_eq_true, D.bool.injEq, if_true, if_false, and_true, true_and, ty1, sz1, z1, ty2, sz2, z2, ty3, sz3, z3, ty4, sz4, z4, ty5, sz5, z5, ty6, sz6, z6, ty23, sz23, z23, ty26, sz26, z26, ty35, sz35, z35, ty102, sz102, z102, dLen, dIdxA, dLoad, part, Ty.isA, Ty.fi, D.cells, D.cells?, dField, dFieldA, dIdx, dFill, allCell, D.isCell, els, chunk, rep, splice, hget, hset, cellsOf, Blk.isC, Blk.cs, Blk.mut, Blk.setCs, dStore, dBuild, dSlice, dBnd, List.getElem?_map, Option.map_some, Int.toNat_natCast, List.length_map, Nat.lt_irrefl, Nat.zero_lt_one, Nat.zero_lt_succ, Nat.le_refl, Nat.zero_add, Bool.false_eq_true, false_or, or_true, true_or, List.drop_zero, Int.natCast_nonneg, D.int.injEq, Int.zero_le_ofNat, Nat.lt_add_one, List.getElem?_nil, Nat.zero_le, List.take, List.drop, Nat.reduceMul, Nat.reduceLeDiff, Nat.reduceLT, Nat.reducePow, Nat.reduceBEq, Nat.reduceEqDiff, and_self, D.closedL, D.closed, Bool.and_self, bne_self_eq_false, beq_self_eq_true, bne, Bool.true_and, Bool.and_true, Bool.or_true, Bool.or_false, Bool.true_or, Bool.false_or, Bool.and_false, Bool.false_and, List.all_cons, List.all_nil, List.all, List.replicate, exists_const, okK, dEqL, dEqO, dEq, Option.isSome, nc0, nc1, nc2, nc3, nc4, nc5, nc6, nc7, nc8, nc9, nc10, nc11, nc12, wl0, wl1, wl2, wl3, wl4, wl5, wl6, wl7, wl8, wl9, wl10, wl11, wl12, Int.reduceAdd, Int.reduceLT, Int.reduceLE, Int.reduceToNat, Int.reduceEq, Int.reduceSub, Int.reduceBEq, Int.reduceBNe, List.length_singleton, Nat.reduceBNe, z37, sz37, ty37, lts_def, Lt.d_mk, hget_len, hset_len', eq_self, ← List.map_take, ← List.map_drop, List.take_length])
      | (exact reif_closed rfl)
      | (refine .body (by kernel_rfl) (PDen.to (fit31 _ _ hn4) ?_))
      | (refine PCall.to (by kernel_rfl) (fit31 _ _ hn4) ?_)
      | (refine .body (by kernel_rfl) (PDen.to (fit32 _ _ hn4) ?_))
      | (refine PCall.to (by kernel_rfl) (fit32 _ _ hn4) ?_)
      | (refine .body (by kernel_rfl) (PDen.to (cp) ?_))
      | (refine PCall.to (by kernel_rfl) (cp) ?_)
      | (refine ⟨7, by decide +kernel, ?_⟩)
      | (refine ⟨8, by decide +kernel, ?_⟩)
      | (refine ⟨9, by decide +kernel, ?_⟩)
      | (refine ⟨10, by decide +kernel, ?_⟩)
      | (refine ⟨11, by decide +kernel, ?_⟩)
      | rfl
      | split)
  | some n =>
    have hr : dropD l g = .tup [resC (l.take n ++ l.drop (n + 1)), .int .i64 0] := by simp [dropD, dropL, hf, hp]
    have hI : plcI g l = (n : Int) := by simp only [plcI, hp]
    obtain ⟨x, hx, _⟩ := plc_some hp
    have hnl := (List.getElem?_eq_some_iff.1 hx).1
    have hlt : ¬ (n : Int) < 0 := by omega
    have h0 : (0 : Int) ≤ (n : Int) := by omega
    have hle : n ≤ l.length := by omega
    have hle1 : n + 1 ≤ l.length := by omega
    have hw : IntKind.i64.wrap ((n : Int) + 1) = ((n + 1 : Nat) : Int) := by rw [i64_in _ (by omega)]; rfl
    rw [hr]
    rw [hI] at cp
    have cc : ∀ f1 f2, PDen Tryd.prog E 59 [.list true [.list f1 ((l.take n).map Lt.d), .list f2 ((l.drop (n + 1)).map Lt.d)]] (resC (l.take n ++ l.drop (n + 1))) := by
      intro f1 f2
      have h := concat59 (E := E) [(f1, l.take n), (f2, l.drop (n + 1))] (by simp [total]; omega) (by simp)
      have e : cat [(f1, l.take n), (f2, l.drop (n + 1))] = l.take n ++ l.drop (n + 1) := by simp [cat]
      rw [e] at h
      exact h
    clear hr hI hp hx
    generalize resC (l.take n ++ l.drop (n + 1)) = R at cc
    repeat' (first
      | (simp -implicitDefEqProofs (maxSteps := 1000000) only [*, Tryd.f37, ↓cwp_skip, ↓cwp_region, ↓cwp_drawn, ↓cwp_seq, ↓cwp_cond, ↓cwp_block, ↓cwp_loop, ↓cwp_exit, ↓cwp_ret, ↓kont_normal, ↓kont_exit, ↓kont_ret, ↓block_normal, ↓block_ret, ↓block_exit, ↓then_normal, ↓then_ret, ↓then_exit, ↓finF_normal, ↓finF_ret, ↓cseq_nil, ↓cseq_free, ↓cseq_cons, ↓seqK_go, ↓anyK_go, ↓caq_zero, ↓caq_done, ↓caq_free, ↓caq_step, ↓cStep_move, ↓cStep_assign, ↓cStep_eq, ↓cPure_call, ↓reduceIte, keeps, wantD, callee, aop, ev, ofV, nth, List.cons_append, List.nil_append, List.append_nil, undL, putO, put, List.length_cons, List.length_nil, Nat.reduceSub, Nat.reduceAdd, dBinT, dBin, dUn, Option.map, List.getElem?_toArray, List.toList_toArray, List.getElem?_cons_succ, List.getElem?_cons_zero, Option.bind, ge_iff_le, gt_iff_lt, resD, resL, resV, beq_true, beq_false, Option.some.injEq, List.map, Bool.not_true, Bool.not_false, Bool.false_eq_true, exists_eq_left', Bool.not_eq_true', decide_eq_true_eq, decide_eq_false_iff_not, ite_not, decide_true, decide_false, not_true_eq_false, not_false_eq_true, D.bool.injEq, if_true, if_false, and_true, true_and, ty1, sz1, z1, ty2, sz2, z2, ty3, sz3, z3, ty4, sz4, z4, ty5, sz5, z5, ty6, sz6, z6, ty23, sz23, z23, ty26, sz26, z26, ty35, sz35, z35, ty102, sz102, z102, dLen, dIdxA, dLoad, part, Ty.isA, Ty.fi, D.cells, D.cells?, dField, dFieldA, dIdx, dFill, allCell, D.isCell, els, chunk, rep, splice, hget, hset, cellsOf, Blk.isC, Blk.cs, Blk.mut, Blk.setCs, dStore, dBuild, dSlice, dBnd, List.getElem?_map, Option.map_some, Int.toNat_natCast, List.length_map, Nat.lt_irrefl, Nat.zero_lt_one, Nat.zero_lt_succ, Nat.le_refl, Nat.zero_add, Bool.false_eq_true, false_or, or_true, true_or, List.drop_zero, Int.natCast_nonneg, D.int.injEq, Int.zero_le_ofNat, Nat.lt_add_one, List.getElem?_nil, Nat.zero_le, List.take, List.drop, Nat.reduceMul, Nat.reduceLeDiff, Nat.reduceLT, Nat.reducePow, Nat.reduceBEq, Nat.reduceEqDiff, and_self, D.closedL, D.closed, Bool.and_self, bne_self_eq_false, beq_self_eq_true, bne, Bool.true_and, Bool.and_true, Bool.or_true, Bool.or_false, Bool.true_or, Bool.false_or, Bool.and_false, Bool.false_and, List.all_cons, List.all_nil, List.all, List.replicate, exists_const, okK, dEqL, dEqO, dEq, Option.isSome, nc0, nc1, nc2, nc3, nc4, nc5, nc6, nc7, nc8, nc9, nc10, nc11, nc12, wl0, wl1, wl2, wl3, wl4, wl5, wl6, wl7, wl8, wl9, wl10, wl11, wl12, Int.reduceAdd, Int.reduceLT, Int.reduceLE, Int.reduceToNat, Int.reduceEq, Int.reduceSub, Int.reduceBEq, Int.reduceBNe, List.length_singleton, Nat.reduceBNe, z37, sz37, ty37, lts_def, Lt.d_mk, hget_len, hset_len', eq_self, ← List.map_take, ← List.map_drop, List.take_length])
      | (exact reif_closed rfl)
      | (refine .body (by kernel_rfl) (PDen.to (fit31 _ _ hn4) ?_))
      | (refine PCall.to (by kernel_rfl) (fit31 _ _ hn4) ?_)
      | (refine .body (by kernel_rfl) (PDen.to (fit32 _ _ hn4) ?_))
      | (refine PCall.to (by kernel_rfl) (fit32 _ _ hn4) ?_)
      | (refine .body (by kernel_rfl) (PDen.to (cp) ?_))
      | (refine PCall.to (by kernel_rfl) (cp) ?_)
      | (refine .body (by kernel_rfl) (PDen.to (cc _ _) ?_))
      | (refine PCall.to (by kernel_rfl) (cc _ _) ?_)
      | (refine ⟨7, by decide +kernel, ?_⟩)
      | (refine ⟨8, by decide +kernel, ?_⟩)
      | (refine ⟨9, by decide +kernel, ?_⟩)
      | (refine ⟨10, by decide +kernel, ?_⟩)
      | (refine ⟨11, by decide +kernel, ?_⟩)
      | rfl
      | split)
def Inv38 (t : Bool) (g zg zs : Int) (zk : Bool) (zy za : Int) (l r : List Lt) (m : Nat) (ts : List D) (H : Hp) : Prop := ∃ (i : Nat) (acc : List Lt) (g2 g3 g10 g11 g12 g13 g14 g15 g16 g17 g18 g19 g20 g21 g22 g23 g24 g25 g26 g27 g28 g29 g30 g31 g32 g33 g34 g35 g36 g37 g38 g39 g40 g41 : D), (i + m = l.length ∧ acc.length ≤ i) ∧ (acc ++ (l.drop i).filter (fun x => x.g != g) = r) ∧ H = .var [.int .i64 zg, .int .i64 zs, .bool zk, .int .i64 zy, .int .i64 za] :: accF acc ∧ ts = [lts t l, .int .i64 g, g2, g3, .list true [], .int .i64 0, .ptr 0 0 5, .bool true, accE acc, .int .i64 (i : Nat), g10, g11, g12, g13, g14, g15, g16, g17, g18, g19, g20, g21, g22, g23, g24, g25, g26, g27, g28, g29, g30, g31, g32, g33, g34, g35, g36, g37, g38, g39, g40, g41]
set_option maxHeartbeats 8000000 in
theorem drop38 (t : Bool) (l : List Lt) (hn : l.length ≤ 1000000) (g : Int) : PDen Tryd.prog E 38 [lts t l, .int .i64 g] (dropD l g) := by
  refine pden_rby (fn := Tryd.f38) mixed Tryd.func38 rfl (rfl) (dropD_closed _ _) ?_
  have hn4 : l.length ≤ 4611686018427387904 := by omega
  have hall := allSz_lts l
  have hall0 : allSz 5 ([] : List D) = true := rfl
  have cp := find30 (E := E) t g l hn4
  cases hf : fitS l
  · have hr : dropD l g = .tup [.list true [], .int .i64 12] := by simp [dropD, hf]
    rw [hr]
    clear hr
    repeat' (first
      | (simp -implicitDefEqProofs (maxSteps := 1000000) only [*, Tryd.f38, ↓cwp_skip, ↓cwp_region, ↓cwp_drawn, ↓cwp_seq, ↓cwp_cond, ↓cwp_block, ↓cwp_loop, ↓cwp_exit, ↓cwp_ret, ↓kont_normal, ↓kont_exit, ↓kont_ret, ↓block_normal, ↓block_ret, ↓block_exit, ↓then_normal, ↓then_ret, ↓then_exit, ↓finF_normal, ↓finF_ret, ↓cseq_nil, ↓cseq_free, ↓cseq_cons, ↓seqK_go, ↓anyK_go, ↓caq_zero, ↓caq_done, ↓caq_free, ↓caq_step, ↓cStep_move, ↓cStep_assign, ↓cStep_eq, ↓cPure_call, ↓reduceIte, keeps, wantD, callee, aop, ev, ofV, nth, List.cons_append, List.nil_append, List.append_nil, undL, putO, put, List.length_cons, List.length_nil, Nat.reduceSub, Nat.reduceAdd, dBinT, dBin, dUn, Option.map, List.getElem?_toArray, List.toList_toArray, List.getElem?_cons_succ, List.getElem?_cons_zero, Option.bind, ge_iff_le, gt_iff_lt, resD, resL, resV, beq_true, beq_false, Option.some.injEq, List.map, Bool.not_true, Bool.not_false, Bool.false_eq_true, exists_eq_left', Bool.not_eq_true', decide_eq_true_eq, decide_eq_false_iff_not, ite_not, decide_true, decide_false, not_true_eq_false, not_false_eq_true, D.bool.injEq, if_true, if_false, and_true, true_and, ty1, sz1, z1, ty2, sz2, z2, ty3, sz3, z3, ty4, sz4, z4, ty5, sz5, z5, ty6, sz6, z6, ty7, sz7, z7, ty8, sz8, z8, ty9, sz9, z9, ty10, sz10, z10, ty11, sz11, z11, ty12, sz12, z12, ty23, sz23, z23, ty35, sz35, z35, ty37, sz37, z37, k37, ty42, sz42, z42, dLen, dIdxA, dLoad, part, Ty.isA, Ty.fi, D.cells, D.cells?, dField, dFieldA, dIdx, dFill, allCell, D.isCell, els, chunk, rep, splice, hget, hset, cellsOf, Blk.isC, Blk.cs, Blk.mut, Blk.setCs, dStore, dBuild, dSlice, dBnd, List.getElem?_map, Option.map_some, Int.toNat_natCast, List.length_map, Nat.lt_irrefl, Nat.zero_lt_one, Nat.zero_lt_succ, Nat.le_refl, Nat.zero_add, Bool.false_eq_true, false_or, or_true, true_or, List.drop_zero, Int.natCast_nonneg, D.int.injEq, Int.zero_le_ofNat, Nat.lt_add_one, List.getElem?_nil, Nat.zero_le, List.take, List.drop, Nat.reduceMul, Nat.reduceLeDiff, Nat.reduceLT, Nat.reducePow, Nat.reduceBEq, Nat.reduceEqDiff, and_self, D.closedL, D.closed, Bool.and_self, bne_self_eq_false, beq_self_eq_true, bne, Bool.true_and, Bool.and_true, Bool.or_true, Bool.or_false, Bool.true_or, Bool.false_or, Bool.and_false, Bool.false_and, List.all_cons, List.all_nil, List.all, List.replicate, exists_const, okK, dEqL, dEqO, dEq, Option.isSome, nc0, nc1, nc2, nc3, nc4, nc5, nc6, nc7, nc8, nc9, nc10, nc11, nc12, wl0, wl1, wl2, wl3, wl4, wl5, wl6, wl7, wl8, wl9, wl10, wl11, wl12, Int.reduceAdd, Int.reduceLT, Int.reduceLE, Int.reduceToNat, Int.reduceEq, Int.reduceSub, Int.reduceBEq, Int.reduceBNe, List.length_singleton, Nat.reduceBNe, z37, sz37, ty37, lts_def, Lt.d_mk, hget_len, hset_len', eq_self, ← List.map_take, ← List.map_drop, List.take_length])
      | (exact reif_closed rfl)
      | (refine .body (by kernel_rfl) (PDen.to (fit31 _ _ hn4) ?_))
      | (refine PCall.to (by kernel_rfl) (fit31 _ _ hn4) ?_)
      | (refine .body (by kernel_rfl) (PDen.to (fit32 _ _ hn4) ?_))
      | (refine PCall.to (by kernel_rfl) (fit32 _ _ hn4) ?_)
      | (refine .body (by kernel_rfl) (PDen.to (cp) ?_))
      | (refine PCall.to (by kernel_rfl) (cp) ?_)
      | rfl
      | split)
  cases hp : plc g l with
  | none =>
    have hr : dropD l g = .tup [.list true [], .int .i64 2] := by simp [dropD, hf, hp]
    have hI : findD g l = .tup [Lt.zero.d, .bool false] := by simp only [findD, hp]
    rw [hr]
    rw [hI] at cp
    clear hr hI hp
    repeat' (first
      | (simp -implicitDefEqProofs (maxSteps := 1000000) only [*, Tryd.f38, ↓cwp_skip, ↓cwp_region, ↓cwp_drawn, ↓cwp_seq, ↓cwp_cond, ↓cwp_block, ↓cwp_loop, ↓cwp_exit, ↓cwp_ret, ↓kont_normal, ↓kont_exit, ↓kont_ret, ↓block_normal, ↓block_ret, ↓block_exit, ↓then_normal, ↓then_ret, ↓then_exit, ↓finF_normal, ↓finF_ret, ↓cseq_nil, ↓cseq_free, ↓cseq_cons, ↓seqK_go, ↓anyK_go, ↓caq_zero, ↓caq_done, ↓caq_free, ↓caq_step, ↓cStep_move, ↓cStep_assign, ↓cStep_eq, ↓cPure_call, ↓reduceIte, keeps, wantD, callee, aop, ev, ofV, nth, List.cons_append, List.nil_append, List.append_nil, undL, putO, put, List.length_cons, List.length_nil, Nat.reduceSub, Nat.reduceAdd, dBinT, dBin, dUn, Option.map, List.getElem?_toArray, List.toList_toArray, List.getElem?_cons_succ, List.getElem?_cons_zero, Option.bind, ge_iff_le, gt_iff_lt, resD, resL, resV, beq_true, beq_false, Option.some.injEq, List.map, Bool.not_true, Bool.not_false, Bool.false_eq_true, exists_eq_left', Bool.not_eq_true', decide_eq_true_eq, decide_eq_false_iff_not, ite_not, decide_true, decide_false, not_true_eq_false, not_false_eq_true, D.bool.injEq, if_true, if_false, and_true, true_and, ty1, sz1, z1, ty2, sz2, z2, ty3, sz3, z3, ty4, sz4, z4, ty5, sz5, z5, ty6, sz6, z6, ty7, sz7, z7, ty8, sz8, z8, ty9, sz9, z9, ty10, sz10, z10, ty11, sz11, z11, ty12, sz12, z12, ty23, sz23, z23, ty35, sz35, z35, ty37, sz37, z37, k37, ty42, sz42, z42, dLen, dIdxA, dLoad, part, Ty.isA, Ty.fi, D.cells, D.cells?, dField, dFieldA, dIdx, dFill, allCell, D.isCell, els, chunk, rep, splice, hget, hset, cellsOf, Blk.isC, Blk.cs, Blk.mut, Blk.setCs, dStore, dBuild, dSlice, dBnd, List.getElem?_map, Option.map_some, Int.toNat_natCast, List.length_map, Nat.lt_irrefl, Nat.zero_lt_one, Nat.zero_lt_succ, Nat.le_refl, Nat.zero_add, Bool.false_eq_true, false_or, or_true, true_or, List.drop_zero, Int.natCast_nonneg, D.int.injEq, Int.zero_le_ofNat, Nat.lt_add_one, List.getElem?_nil, Nat.zero_le, List.take, List.drop, Nat.reduceMul, Nat.reduceLeDiff, Nat.reduceLT, Nat.reducePow, Nat.reduceBEq, Nat.reduceEqDiff, and_self, D.closedL, D.closed, Bool.and_self, bne_self_eq_false, beq_self_eq_true, bne, Bool.true_and, Bool.and_true, Bool.or_true, Bool.or_false, Bool.true_or, Bool.false_or, Bool.and_false, Bool.false_and, List.all_cons, List.all_nil, List.all, List.replicate, exists_const, okK, dEqL, dEqO, dEq, Option.isSome, nc0, nc1, nc2, nc3, nc4, nc5, nc6, nc7, nc8, nc9, nc10, nc11, nc12, wl0, wl1, wl2, wl3, wl4, wl5, wl6, wl7, wl8, wl9, wl10, wl11, wl12, Int.reduceAdd, Int.reduceLT, Int.reduceLE, Int.reduceToNat, Int.reduceEq, Int.reduceSub, Int.reduceBEq, Int.reduceBNe, List.length_singleton, Nat.reduceBNe, z37, sz37, ty37, lts_def, Lt.d_mk, hget_len, hset_len', eq_self, ← List.map_take, ← List.map_drop, List.take_length, Lt_zero_d])
      | (exact reif_closed rfl)
      | (refine .body (by kernel_rfl) (PDen.to (fit31 _ _ hn4) ?_))
      | (refine PCall.to (by kernel_rfl) (fit31 _ _ hn4) ?_)
      | (refine .body (by kernel_rfl) (PDen.to (fit32 _ _ hn4) ?_))
      | (refine PCall.to (by kernel_rfl) (fit32 _ _ hn4) ?_)
      | (refine .body (by kernel_rfl) (PDen.to (cp) ?_))
      | (refine PCall.to (by kernel_rfl) (cp) ?_)
      | rfl
      | split)
  | some n =>
    have hfg : fitG 0 l = true := by unfold fitS at hf; simp only [Bool.and_eq_true] at hf; exact hf.1
    have hr : dropD l g = .tup [resC (l.filter (fun x => x.g != g)), .int .i64 0] := by simp [dropD, dropL, hf, hp, filter_drop hfg hp]
    have hI : findD g l = .tup [(l.getD n Lt.zero).d, .bool true] := by simp only [findD, hp]
    rw [hr]
    rw [hI] at cp
    rcases hz : l.getD n Lt.zero with ⟨zg, zs, zk, zy, za⟩
    rw [hz] at cp
    clear hr hI hp hz hfg
    generalize hR : l.filter (fun x => x.g != g) = r
    repeat' (first
      | (simp -implicitDefEqProofs (maxSteps := 1000000) only [*, Tryd.f38, ↓cwp_skip, ↓cwp_region, ↓cwp_drawn, ↓cwp_seq, ↓cwp_cond, ↓cwp_block, ↓cwp_loop, ↓cwp_exit, ↓cwp_ret, ↓kont_normal, ↓kont_exit, ↓kont_ret, ↓block_normal, ↓block_ret, ↓block_exit, ↓then_normal, ↓then_ret, ↓then_exit, ↓finF_normal, ↓finF_ret, ↓cseq_nil, ↓cseq_free, ↓cseq_cons, ↓seqK_go, ↓anyK_go, ↓caq_zero, ↓caq_done, ↓caq_free, ↓caq_step, ↓cStep_move, ↓cStep_assign, ↓cStep_eq, ↓cPure_call, ↓reduceIte, keeps, wantD, callee, aop, ev, ofV, nth, List.cons_append, List.nil_append, List.append_nil, undL, putO, put, List.length_cons, List.length_nil, Nat.reduceSub, Nat.reduceAdd, dBinT, dBin, dUn, Option.map, List.getElem?_toArray, List.toList_toArray, List.getElem?_cons_succ, List.getElem?_cons_zero, Option.bind, ge_iff_le, gt_iff_lt, resD, resL, resV, beq_true, beq_false, Option.some.injEq, List.map, Bool.not_true, Bool.not_false, Bool.false_eq_true, exists_eq_left', Bool.not_eq_true', decide_eq_true_eq, decide_eq_false_iff_not, ite_not, decide_true, decide_false, not_true_eq_false, not_false_eq_true, D.bool.injEq, if_true, if_false, and_true, true_and, ty1, sz1, z1, ty2, sz2, z2, ty3, sz3, z3, ty4, sz4, z4, ty5, sz5, z5, ty6, sz6, z6, ty7, sz7, z7, ty8, sz8, z8, ty9, sz9, z9, ty10, sz10, z10, ty11, sz11, z11, ty12, sz12, z12, ty23, sz23, z23, ty35, sz35, z35, ty37, sz37, z37, k37, ty42, sz42, z42, dLen, dIdxA, dLoad, part, Ty.isA, Ty.fi, D.cells, D.cells?, dField, dFieldA, dIdx, dFill, allCell, D.isCell, els, chunk, rep, splice, hget, hset, cellsOf, Blk.isC, Blk.cs, Blk.mut, Blk.setCs, dStore, dBuild, dSlice, dBnd, List.getElem?_map, Option.map_some, Int.toNat_natCast, List.length_map, Nat.lt_irrefl, Nat.zero_lt_one, Nat.zero_lt_succ, Nat.le_refl, Nat.zero_add, Bool.false_eq_true, false_or, or_true, true_or, List.drop_zero, Int.natCast_nonneg, D.int.injEq, Int.zero_le_ofNat, Nat.lt_add_one, List.getElem?_nil, Nat.zero_le, List.take, List.drop, Nat.reduceMul, Nat.reduceLeDiff, Nat.reduceLT, Nat.reducePow, Nat.reduceBEq, Nat.reduceEqDiff, and_self, D.closedL, D.closed, Bool.and_self, bne_self_eq_false, beq_self_eq_true, bne, Bool.true_and, Bool.and_true, Bool.or_true, Bool.or_false, Bool.true_or, Bool.false_or, Bool.and_false, Bool.false_and, List.all_cons, List.all_nil, List.all, List.replicate, exists_const, okK, dEqL, dEqO, dEq, Option.isSome, nc0, nc1, nc2, nc3, nc4, nc5, nc6, nc7, nc8, nc9, nc10, nc11, nc12, wl0, wl1, wl2, wl3, wl4, wl5, wl6, wl7, wl8, wl9, wl10, wl11, wl12, Int.reduceAdd, Int.reduceLT, Int.reduceLE, Int.reduceToNat, Int.reduceEq, Int.reduceSub, Int.reduceBEq, Int.reduceBNe, List.length_singleton, Nat.reduceBNe, z37, sz37, ty37, lts_def, Lt.d_mk, hget_len, hset_len', eq_self, ← List.map_take, ← List.map_drop, List.take_length])
      | (exact reif_closed rfl)
      | (refine .body (by kernel_rfl) (PDen.to (fit31 _ _ hn4) ?_))
      | (refine PCall.to (by kernel_rfl) (fit31 _ _ hn4) ?_)
      | (refine .body (by kernel_rfl) (PDen.to (fit32 _ _ hn4) ?_))
      | (refine PCall.to (by kernel_rfl) (fit32 _ _ hn4) ?_)
      | (refine .body (by kernel_rfl) (PDen.to (cp) ?_))
      | (refine PCall.to (by kernel_rfl) (cp) ?_)
      | rfl
      | split)
    refine loop_rule (Inv38 t g zg zs zk zy za l r) ?_ l.length ⟨0, [], _, _, _, _, _, _, _, _, _, _, _, _, _, _, _, _, _, _, _, _, _, _, _, _, _, _, _, _, _, _, _, _, _, _, ⟨by omega, by simp⟩, by simpa using hR, rfl, rfl⟩
    clear hR
    rintro m ts H ⟨i, acc, g2, g3, g10, g11, g12, g13, g14, g15, g16, g17, g18, g19, g20, g21, g22, g23, g24, g25, g26, g27, g28, g29, g30, g31, g32, g33, g34, g35, g36, g37, g38, g39, g40, g41, ⟨him, hacc⟩, hq, rfl, rfl⟩
    by_cases hi : i < l.length
    · obtain ⟨x, hx, hd⟩ := lt_getL hi
      have hi' : (i : Int) < (l.length : Int) := by omega
      have hidx : IntKind.i64.wrap ((i : Int) + 1) = ((i + 1 : Nat) : Int) := by rw [i64_in _ (by omega)]; rfl
      rw [hd, List.filter_cons] at hq
      obtain ⟨xg, xs, xk, xy, xa⟩ := x
      simp only at hq
      clear hd
      by_cases hg : xg = g
      · subst hg
        have he : (xg != xg) = false := by simp
        rw [he] at hq
        simp only [Bool.false_eq_true, if_false] at hq
        clear he
        repeat' (first
          | (simp -implicitDefEqProofs (maxSteps := 1000000) only [*, Tryd.f38, ↓cwp_skip, ↓cwp_region, ↓cwp_drawn, ↓cwp_seq, ↓cwp_cond, ↓cwp_block, ↓cwp_loop, ↓cwp_exit, ↓cwp_ret, ↓kont_normal, ↓kont_exit, ↓kont_ret, ↓block_normal, ↓block_ret, ↓block_exit, ↓then_normal, ↓then_ret, ↓then_exit, ↓finF_normal, ↓finF_ret, ↓cseq_nil, ↓cseq_free, ↓cseq_cons, ↓seqK_go, ↓anyK_go, ↓caq_zero, ↓caq_done, ↓caq_free, ↓caq_step, ↓cStep_move, ↓cStep_assign, ↓cStep_eq, ↓cPure_call, ↓reduceIte, keeps, wantD, callee, aop, ev, ofV, nth, List.cons_append, List.nil_append, List.append_nil, undL, putO, put, List.length_cons, List.length_nil, Nat.reduceSub, Nat.reduceAdd, dBinT, dBin, dUn, Option.map, List.getElem?_toArray, List.toList_toArray, List.getElem?_cons_succ, List.getElem?_cons_zero, Option.bind, ge_iff_le, gt_iff_lt, resD, resL, resV, beq_true, beq_false, Option.some.injEq, List.map, Bool.not_true, Bool.not_false, Bool.false_eq_true, exists_eq_left', Bool.not_eq_true', decide_eq_true_eq, decide_eq_false_iff_not, ite_not, decide_true, decide_false, not_true_eq_false, not_false_eq_true, D.bool.injEq, if_true, if_false, and_true, true_and, ty1, sz1, z1, ty2, sz2, z2, ty3, sz3, z3, ty4, sz4, z4, ty5, sz5, z5, ty6, sz6, z6, ty7, sz7, z7, ty8, sz8, z8, ty9, sz9, z9, ty10, sz10, z10, ty11, sz11, z11, ty12, sz12, z12, ty23, sz23, z23, ty35, sz35, z35, ty37, sz37, z37, k37, ty42, sz42, z42, dLen, dIdxA, dLoad, part, Ty.isA, Ty.fi, D.cells, D.cells?, dField, dFieldA, dIdx, dFill, allCell, D.isCell, els, chunk, rep, splice, hget, hset, cellsOf, Blk.isC, Blk.cs, Blk.mut, Blk.setCs, dStore, dBuild, dSlice, dBnd, List.getElem?_map, Option.map_some, Int.toNat_natCast, List.length_map, Nat.lt_irrefl, Nat.zero_lt_one, Nat.zero_lt_succ, Nat.le_refl, Nat.zero_add, Bool.false_eq_true, false_or, or_true, true_or, List.drop_zero, Int.natCast_nonneg, D.int.injEq, Int.zero_le_ofNat, Nat.lt_add_one, List.getElem?_nil, Nat.zero_le, List.take, List.drop, Nat.reduceMul, Nat.reduceLeDiff, Nat.reduceLT, Nat.reducePow, Nat.reduceBEq, Nat.reduceEqDiff, and_self, D.closedL, D.closed, Bool.and_self, bne_self_eq_false, beq_self_eq_true, bne, Bool.true_and, Bool.and_true, Bool.or_true, Bool.or_false, Bool.true_or, Bool.false_or, Bool.and_false, Bool.false_and, List.all_cons, List.all_nil, List.all, List.replicate, exists_const, okK, dEqL, dEqO, dEq, Option.isSome, nc0, nc1, nc2, nc3, nc4, nc5, nc6, nc7, nc8, nc9, nc10, nc11, nc12, wl0, wl1, wl2, wl3, wl4, wl5, wl6, wl7, wl8, wl9, wl10, wl11, wl12, Int.reduceAdd, Int.reduceLT, Int.reduceLE, Int.reduceToNat, Int.reduceEq, Int.reduceSub, Int.reduceBEq, Int.reduceBNe, List.length_singleton, Nat.reduceBNe, z37, sz37, ty37, lts_def, Lt.d_mk, hget_len, hset_len', eq_self, ← List.map_take, ← List.map_drop, List.take_length])
          | (exact reif_closed rfl)
          | (refine .body (by kernel_rfl) (PDen.to (fit31 _ _ hn4) ?_))
          | (refine PCall.to (by kernel_rfl) (fit31 _ _ hn4) ?_)
          | (refine .body (by kernel_rfl) (PDen.to (fit32 _ _ hn4) ?_))
          | (refine PCall.to (by kernel_rfl) (fit32 _ _ hn4) ?_)
          | (refine .body (by kernel_rfl) (PDen.to (cp) ?_))
          | (refine PCall.to (by kernel_rfl) (cp) ?_)
          | rfl
          | split)
        exact ⟨m - 1, by omega, i + 1, acc, _, _, _, _, _, _, _, _, _, _, _, _, _, _, _, _, _, _, _, _, _, _, _, _, _, _, _, _, _, _, _, _, _, _, ⟨by omega, by omega⟩, hq, rfl, rfl⟩
      · have he : (xg != g) = true := by simpa using hg
        have he' : (xg == g) = false := by simpa using hg
        rw [he] at hq
        simp only [if_true] at hq
        clear he hg
        have hall1 : allSz 5 [D.agg [.int .i64 xg, .int .i64 xs, .bool xk, .int .i64 xy, .int .i64 xa]] = true := rfl
        have hq' : (acc ++ [⟨xg, xs, xk, xy, xa⟩]) ++ (l.drop (i + 1)).filter (fun x => x.g != g) = r := by rw [← hq]; simp
        cases acc with
        | nil =>
          repeat' (first
            | (simp -implicitDefEqProofs (maxSteps := 1000000) only [*, Tryd.f38, ↓cwp_skip, ↓cwp_region, ↓cwp_drawn, ↓cwp_seq, ↓cwp_cond, ↓cwp_block, ↓cwp_loop, ↓cwp_exit, ↓cwp_ret, ↓kont_normal, ↓kont_exit, ↓kont_ret, ↓block_normal, ↓block_ret, ↓block_exit, ↓then_normal, ↓then_ret, ↓then_exit, ↓finF_normal, ↓finF_ret, ↓cseq_nil, ↓cseq_free, ↓cseq_cons, ↓seqK_go, ↓anyK_go, ↓caq_zero, ↓caq_done, ↓caq_free, ↓caq_step, ↓cStep_move, ↓cStep_assign, ↓cStep_eq, ↓cPure_call, ↓reduceIte, keeps, wantD, callee, aop, ev, ofV, nth, List.cons_append, List.nil_append, List.append_nil, undL, putO, put, List.length_cons, List.length_nil, Nat.reduceSub, Nat.reduceAdd, dBinT, dBin, dUn, Option.map, List.getElem?_toArray, List.toList_toArray, List.getElem?_cons_succ, List.getElem?_cons_zero, Option.bind, ge_iff_le, gt_iff_lt, resD, resL, resV, beq_true, beq_false, Option.some.injEq, List.map, Bool.not_true, Bool.not_false, Bool.false_eq_true, exists_eq_left', Bool.not_eq_true', decide_eq_true_eq, decide_eq_false_iff_not, ite_not, decide_true, decide_false, not_true_eq_false, not_false_eq_true, D.bool.injEq, if_true, if_false, and_true, true_and, ty1, sz1, z1, ty2, sz2, z2, ty3, sz3, z3, ty4, sz4, z4, ty5, sz5, z5, ty6, sz6, z6, ty7, sz7, z7, ty8, sz8, z8, ty9, sz9, z9, ty10, sz10, z10, ty11, sz11, z11, ty12, sz12, z12, ty23, sz23, z23, ty35, sz35, z35, ty37, sz37, z37, k37, ty42, sz42, z42, dLen, dIdxA, dLoad, part, Ty.isA, Ty.fi, D.cells, D.cells?, dField, dFieldA, dIdx, dFill, allCell, D.isCell, els, chunk, rep, splice, hget, hset, cellsOf, Blk.isC, Blk.cs, Blk.mut, Blk.setCs, dStore, dBuild, dSlice, dBnd, List.getElem?_map, Option.map_some, Int.toNat_natCast, List.length_map, Nat.lt_irrefl, Nat.zero_lt_one, Nat.zero_lt_succ, Nat.le_refl, Nat.zero_add, Bool.false_eq_true, false_or, or_true, true_or, List.drop_zero, Int.natCast_nonneg, D.int.injEq, Int.zero_le_ofNat, Nat.lt_add_one, List.getElem?_nil, Nat.zero_le, List.take, List.drop, Nat.reduceMul, Nat.reduceLeDiff, Nat.reduceLT, Nat.reducePow, Nat.reduceBEq, Nat.reduceEqDiff, and_self, D.closedL, D.closed, Bool.and_self, bne_self_eq_false, beq_self_eq_true, bne, Bool.true_and, Bool.and_true, Bool.or_true, Bool.or_false, Bool.true_or, Bool.false_or, Bool.and_false, Bool.false_and, List.all_cons, List.all_nil, List.all, List.replicate, exists_const, okK, dEqL, dEqO, dEq, Option.isSome, nc0, nc1, nc2, nc3, nc4, nc5, nc6, nc7, nc8, nc9, nc10, nc11, nc12, wl0, wl1, wl2, wl3, wl4, wl5, wl6, wl7, wl8, wl9, wl10, wl11, wl12, Int.reduceAdd, Int.reduceLT, Int.reduceLE, Int.reduceToNat, Int.reduceEq, Int.reduceSub, Int.reduceBEq, Int.reduceBNe, List.length_singleton, Nat.reduceBNe, z37, sz37, ty37, lts_def, Lt.d_mk, hget_len, hset_len', eq_self, ← List.map_take, ← List.map_drop, List.take_length, dAppend, dLenN, srcCells, List.length_append, List.flatMap_nil, List.map_nil, List.flatMap_cons, accE, accF])
            | (exact reif_closed rfl)
            | (refine .body (by kernel_rfl) (PDen.to (fit31 _ _ hn4) ?_))
            | (refine PCall.to (by kernel_rfl) (fit31 _ _ hn4) ?_)
            | (refine .body (by kernel_rfl) (PDen.to (fit32 _ _ hn4) ?_))
            | (refine PCall.to (by kernel_rfl) (fit32 _ _ hn4) ?_)
            | (refine .body (by kernel_rfl) (PDen.to (cp) ?_))
            | (refine PCall.to (by kernel_rfl) (cp) ?_)
            | rfl
            | split)
          exact ⟨m - 1, by omega, i + 1, [⟨xg, xs, xk, xy, xa⟩], _, _, _, _, _, _, _, _, _, _, _, _, _, _, _, _, _, _, _, _, _, _, _, _, _, _, _, _, _, _, _, _, _, _, ⟨by omega, by simp⟩, hq', rfl, rfl⟩
        | cons y l' =>
          have hb : (l'.length + 1 + 1) * 40 ≤ 70368744177664 := by simp only [List.length_cons] at hacc; omega
          have hnA : (flatL (y :: l')).length = (l'.length + 1) * 5 := by rw [flatL_len]; rfl
          have h5 : (l'.length + 1) * 5 + 5 = (l'.length + 1 + 1) * 5 := by omega
          have hsn : flatL (y :: l') ++ [.int .i64 xg, .int .i64 xs, .bool xk, .int .i64 xy, .int .i64 xa] = flatL (y :: l' ++ [⟨xg, xs, xk, xy, xa⟩]) := by rw [flatL_app]; rfl
          repeat' (first
            | (simp -implicitDefEqProofs (maxSteps := 1000000) only [*, Tryd.f38, ↓cwp_skip, ↓cwp_region, ↓cwp_drawn, ↓cwp_seq, ↓cwp_cond, ↓cwp_block, ↓cwp_loop, ↓cwp_exit, ↓cwp_ret, ↓kont_normal, ↓kont_exit, ↓kont_ret, ↓block_normal, ↓block_ret, ↓block_exit, ↓then_normal, ↓then_ret, ↓then_exit, ↓finF_normal, ↓finF_ret, ↓cseq_nil, ↓cseq_free, ↓cseq_cons, ↓seqK_go, ↓anyK_go, ↓caq_zero, ↓caq_done, ↓caq_free, ↓caq_step, ↓cStep_move, ↓cStep_assign, ↓cStep_eq, ↓cPure_call, ↓reduceIte, keeps, wantD, callee, aop, ev, ofV, nth, List.cons_append, List.nil_append, List.append_nil, undL, putO, put, List.length_cons, List.length_nil, Nat.reduceSub, Nat.reduceAdd, dBinT, dBin, dUn, Option.map, List.getElem?_toArray, List.toList_toArray, List.getElem?_cons_succ, List.getElem?_cons_zero, Option.bind, ge_iff_le, gt_iff_lt, resD, resL, resV, beq_true, beq_false, Option.some.injEq, List.map, Bool.not_true, Bool.not_false, Bool.false_eq_true, exists_eq_left', Bool.not_eq_true', decide_eq_true_eq, decide_eq_false_iff_not, ite_not, decide_true, decide_false, not_true_eq_false, not_false_eq_true, D.bool.injEq, if_true, if_false, and_true, true_and, ty1, sz1, z1, ty2, sz2, z2, ty3, sz3, z3, ty4, sz4, z4, ty5, sz5, z5, ty6, sz6, z6, ty7, sz7, z7, ty8, sz8, z8, ty9, sz9, z9, ty10, sz10, z10, ty11, sz11, z11, ty12, sz12, z12, ty23, sz23, z23, ty35, sz35, z35, ty37, sz37, z37, k37, ty42, sz42, z42, dLen, dIdxA, dLoad, part, Ty.isA, Ty.fi, D.cells, D.cells?, dField, dFieldA, dIdx, dFill, allCell, D.isCell, els, chunk, rep, splice, hget, hset, cellsOf, Blk.isC, Blk.cs, Blk.mut, Blk.setCs, dStore, dBuild, dSlice, dBnd, List.getElem?_map, Option.map_some, Int.toNat_natCast, List.length_map, Nat.lt_irrefl, Nat.zero_lt_one, Nat.zero_lt_succ, Nat.le_refl, Nat.zero_add, Bool.false_eq_true, false_or, or_true, true_or, List.drop_zero, Int.natCast_nonneg, D.int.injEq, Int.zero_le_ofNat, Nat.lt_add_one, List.getElem?_nil, Nat.zero_le, List.take, List.drop, Nat.reduceMul, Nat.reduceLeDiff, Nat.reduceLT, Nat.reducePow, Nat.reduceBEq, Nat.reduceEqDiff, and_self, D.closedL, D.closed, Bool.and_self, bne_self_eq_false, beq_self_eq_true, bne, Bool.true_and, Bool.and_true, Bool.or_true, Bool.or_false, Bool.true_or, Bool.false_or, Bool.and_false, Bool.false_and, List.all_cons, List.all_nil, List.all, List.replicate, exists_const, okK, dEqL, dEqO, dEq, Option.isSome, nc0, nc1, nc2, nc3, nc4, nc5, nc6, nc7, nc8, nc9, nc10, nc11, nc12, wl0, wl1, wl2, wl3, wl4, wl5, wl6, wl7, wl8, wl9, wl10, wl11, wl12, Int.reduceAdd, Int.reduceLT, Int.reduceLE, Int.reduceToNat, Int.reduceEq, Int.reduceSub, Int.reduceBEq, Int.reduceBNe, List.length_singleton, Nat.reduceBNe, z37, sz37, ty37, lts_def, Lt.d_mk, hget_len, hset_len', eq_self, ← List.map_take, ← List.map_drop, List.take_length, dAppend, dLenN, srcCells, List.length_append, List.flatMap_nil, List.map_nil, List.flatMap_cons, accE, accF])
            | (exact reif_closed rfl)
            | (refine .body (by kernel_rfl) (PDen.to (fit31 _ _ hn4) ?_))
            | (refine PCall.to (by kernel_rfl) (fit31 _ _ hn4) ?_)
            | (refine .body (by kernel_rfl) (PDen.to (fit32 _ _ hn4) ?_))
            | (refine PCall.to (by kernel_rfl) (fit32 _ _ hn4) ?_)
            | (refine .body (by kernel_rfl) (PDen.to (cp) ?_))
            | (refine PCall.to (by kernel_rfl) (cp) ?_)
            | rfl
            | split)
          exact ⟨m - 1, by omega, i + 1, y :: l' ++ [⟨xg, xs, xk, xy, xa⟩], _, _, _, _, _, _, _, _, _, _, _, _, _, _, _, _, _, _, _, _, _, _, _, _, _, _, _, _, _, _, _, _, _, _, ⟨by omega, by simp only [List.length_append, List.length_cons, List.length_nil] at hacc ⊢; omega⟩, hq', by rw [accF_app]; rfl, by rw [accE_app]; rfl⟩
    · have hi' : ¬ (i : Int) < (l.length : Int) := by omega
      rw [List.drop_eq_nil_of_le (by omega)] at hq
      obtain rfl : acc = r := by simpa using hq
      cases acc with
      | nil =>
        repeat' (first
          | (simp -implicitDefEqProofs (maxSteps := 1000000) only [*, Tryd.f38, ↓cwp_skip, ↓cwp_region, ↓cwp_drawn, ↓cwp_seq, ↓cwp_cond, ↓cwp_block, ↓cwp_loop, ↓cwp_exit, ↓cwp_ret, ↓kont_normal, ↓kont_exit, ↓kont_ret, ↓block_normal, ↓block_ret, ↓block_exit, ↓then_normal, ↓then_ret, ↓then_exit, ↓finF_normal, ↓finF_ret, ↓cseq_nil, ↓cseq_free, ↓cseq_cons, ↓seqK_go, ↓anyK_go, ↓caq_zero, ↓caq_done, ↓caq_free, ↓caq_step, ↓cStep_move, ↓cStep_assign, ↓cStep_eq, ↓cPure_call, ↓reduceIte, keeps, wantD, callee, aop, ev, ofV, nth, List.cons_append, List.nil_append, List.append_nil, undL, putO, put, List.length_cons, List.length_nil, Nat.reduceSub, Nat.reduceAdd, dBinT, dBin, dUn, Option.map, List.getElem?_toArray, List.toList_toArray, List.getElem?_cons_succ, List.getElem?_cons_zero, Option.bind, ge_iff_le, gt_iff_lt, resD, resL, resV, beq_true, beq_false, Option.some.injEq, List.map, Bool.not_true, Bool.not_false, Bool.false_eq_true, exists_eq_left', Bool.not_eq_true', decide_eq_true_eq, decide_eq_false_iff_not, ite_not, decide_true, decide_false, not_true_eq_false, not_false_eq_true, D.bool.injEq, if_true, if_false, and_true, true_and, ty1, sz1, z1, ty2, sz2, z2, ty3, sz3, z3, ty4, sz4, z4, ty5, sz5, z5, ty6, sz6, z6, ty7, sz7, z7, ty8, sz8, z8, ty9, sz9, z9, ty10, sz10, z10, ty11, sz11, z11, ty12, sz12, z12, ty23, sz23, z23, ty35, sz35, z35, ty37, sz37, z37, k37, ty42, sz42, z42, dLen, dIdxA, dLoad, part, Ty.isA, Ty.fi, D.cells, D.cells?, dField, dFieldA, dIdx, dFill, allCell, D.isCell, els, chunk, rep, splice, hget, hset, cellsOf, Blk.isC, Blk.cs, Blk.mut, Blk.setCs, dStore, dBuild, dSlice, dBnd, List.getElem?_map, Option.map_some, Int.toNat_natCast, List.length_map, Nat.lt_irrefl, Nat.zero_lt_one, Nat.zero_lt_succ, Nat.le_refl, Nat.zero_add, Bool.false_eq_true, false_or, or_true, true_or, List.drop_zero, Int.natCast_nonneg, D.int.injEq, Int.zero_le_ofNat, Nat.lt_add_one, List.getElem?_nil, Nat.zero_le, List.take, List.drop, Nat.reduceMul, Nat.reduceLeDiff, Nat.reduceLT, Nat.reducePow, Nat.reduceBEq, Nat.reduceEqDiff, and_self, D.closedL, D.closed, Bool.and_self, bne_self_eq_false, beq_self_eq_true, bne, Bool.true_and, Bool.and_true, Bool.or_true, Bool.or_false, Bool.true_or, Bool.false_or, Bool.and_false, Bool.false_and, List.all_cons, List.all_nil, List.all, List.replicate, exists_const, okK, dEqL, dEqO, dEq, Option.isSome, nc0, nc1, nc2, nc3, nc4, nc5, nc6, nc7, nc8, nc9, nc10, nc11, nc12, wl0, wl1, wl2, wl3, wl4, wl5, wl6, wl7, wl8, wl9, wl10, wl11, wl12, Int.reduceAdd, Int.reduceLT, Int.reduceLE, Int.reduceToNat, Int.reduceEq, Int.reduceSub, Int.reduceBEq, Int.reduceBNe, List.length_singleton, Nat.reduceBNe, z37, sz37, ty37, lts_def, Lt.d_mk, hget_len, hset_len', eq_self, ← List.map_take, ← List.map_drop, List.take_length, dAppend, dLenN, srcCells, List.length_append, List.flatMap_nil, List.map_nil, List.flatMap_cons, accE, accF])
          | (exact reif_closed rfl)
          | (refine .body (by kernel_rfl) (PDen.to (fit31 _ _ hn4) ?_))
          | (refine PCall.to (by kernel_rfl) (fit31 _ _ hn4) ?_)
          | (refine .body (by kernel_rfl) (PDen.to (fit32 _ _ hn4) ?_))
          | (refine PCall.to (by kernel_rfl) (fit32 _ _ hn4) ?_)
          | (refine .body (by kernel_rfl) (PDen.to (cp) ?_))
          | (refine PCall.to (by kernel_rfl) (cp) ?_)
          | rfl
          | split)
      | cons y l' =>
        repeat' (first
          | (simp -implicitDefEqProofs (maxSteps := 1000000) only [*, Tryd.f38, ↓cwp_skip, ↓cwp_region, ↓cwp_drawn, ↓cwp_seq, ↓cwp_cond, ↓cwp_block, ↓cwp_loop, ↓cwp_exit, ↓cwp_ret, ↓kont_normal, ↓kont_exit, ↓kont_ret, ↓block_normal, ↓block_ret, ↓block_exit, ↓then_normal, ↓then_ret, ↓then_exit, ↓finF_normal, ↓finF_ret, ↓cseq_nil, ↓cseq_free, ↓cseq_cons, ↓seqK_go, ↓anyK_go, ↓caq_zero, ↓caq_done, ↓caq_free, ↓caq_step, ↓cStep_move, ↓cStep_assign, ↓cStep_eq, ↓cPure_call, ↓reduceIte, keeps, wantD, callee, aop, ev, ofV, nth, List.cons_append, List.nil_append, List.append_nil, undL, putO, put, List.length_cons, List.length_nil, Nat.reduceSub, Nat.reduceAdd, dBinT, dBin, dUn, Option.map, List.getElem?_toArray, List.toList_toArray, List.getElem?_cons_succ, List.getElem?_cons_zero, Option.bind, ge_iff_le, gt_iff_lt, resD, resL, resV, beq_true, beq_false, Option.some.injEq, List.map, Bool.not_true, Bool.not_false, Bool.false_eq_true, exists_eq_left', Bool.not_eq_true', decide_eq_true_eq, decide_eq_false_iff_not, ite_not, decide_true, decide_false, not_true_eq_false, not_false_eq_true, D.bool.injEq, if_true, if_false, and_true, true_and, ty1, sz1, z1, ty2, sz2, z2, ty3, sz3, z3, ty4, sz4, z4, ty5, sz5, z5, ty6, sz6, z6, ty7, sz7, z7, ty8, sz8, z8, ty9, sz9, z9, ty10, sz10, z10, ty11, sz11, z11, ty12, sz12, z12, ty23, sz23, z23, ty35, sz35, z35, ty37, sz37, z37, k37, ty42, sz42, z42, dLen, dIdxA, dLoad, part, Ty.isA, Ty.fi, D.cells, D.cells?, dField, dFieldA, dIdx, dFill, allCell, D.isCell, els, chunk, rep, splice, hget, hset, cellsOf, Blk.isC, Blk.cs, Blk.mut, Blk.setCs, dStore, dBuild, dSlice, dBnd, List.getElem?_map, Option.map_some, Int.toNat_natCast, List.length_map, Nat.lt_irrefl, Nat.zero_lt_one, Nat.zero_lt_succ, Nat.le_refl, Nat.zero_add, Bool.false_eq_true, false_or, or_true, true_or, List.drop_zero, Int.natCast_nonneg, D.int.injEq, Int.zero_le_ofNat, Nat.lt_add_one, List.getElem?_nil, Nat.zero_le, List.take, List.drop, Nat.reduceMul, Nat.reduceLeDiff, Nat.reduceLT, Nat.reducePow, Nat.reduceBEq, Nat.reduceEqDiff, and_self, D.closedL, D.closed, Bool.and_self, bne_self_eq_false, beq_self_eq_true, bne, Bool.true_and, Bool.and_true, Bool.or_true, Bool.or_false, Bool.true_or, Bool.false_or, Bool.and_false, Bool.false_and, List.all_cons, List.all_nil, List.all, List.replicate, exists_const, okK, dEqL, dEqO, dEq, Option.isSome, nc0, nc1, nc2, nc3, nc4, nc5, nc6, nc7, nc8, nc9, nc10, nc11, nc12, wl0, wl1, wl2, wl3, wl4, wl5, wl6, wl7, wl8, wl9, wl10, wl11, wl12, Int.reduceAdd, Int.reduceLT, Int.reduceLE, Int.reduceToNat, Int.reduceEq, Int.reduceSub, Int.reduceBEq, Int.reduceBNe, List.length_singleton, Nat.reduceBNe, z37, sz37, ty37, lts_def, Lt.d_mk, hget_len, hset_len', eq_self, ← List.map_take, ← List.map_drop, List.take_length, dAppend, dLenN, srcCells, List.length_append, List.flatMap_nil, List.map_nil, List.flatMap_cons, accE, accF])
          | (exact reif_closed rfl)
          | (refine .body (by kernel_rfl) (PDen.to (fit31 _ _ hn4) ?_))
          | (refine PCall.to (by kernel_rfl) (fit31 _ _ hn4) ?_)
          | (refine .body (by kernel_rfl) (PDen.to (fit32 _ _ hn4) ?_))
          | (refine PCall.to (by kernel_rfl) (fit32 _ _ hn4) ?_)
          | (refine .body (by kernel_rfl) (PDen.to (cp) ?_))
          | (refine PCall.to (by kernel_rfl) (cp) ?_)
          | rfl
          | split)
        exact reif_lts2 rfl rfl rfl rfl
end Go.Lv
