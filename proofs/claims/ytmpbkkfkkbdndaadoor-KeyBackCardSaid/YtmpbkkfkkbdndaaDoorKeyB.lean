/- KeyOf. -/
import Derived.Test.YtmpbkkfkkbdndaaDoorKeyA
import Derived.Test.YtmpbkkfkkbdndaaDoorNumB
namespace Go.Lv
open Go Go.Proofs Go.IntWalk
set_option maxRecDepth 100000
set_option linter.unusedSimpArgs false
set_option linter.unusedVariables false
variable {E : Env}
theorem awake41_run : isTrue (run Tryd.prog (fun _ => .und) knownA 50 10 41 [] []) = true := by decide +kernel
theorem awake41 (ht : Tab E.h0 1 .u64 Lib.pow10Tab) (hg : E.g = fun _ => .und) : PDen Tryd.prog E 41 [] (.bool true) := by
  obtain ⟨H, hr⟩ := isTrue_spec awake41_run
  have := (run_fun mixed (knownOf E ht) 50 10 41 [] [] _ _ (by rw [hg]; exact hr)).den
  exact ⟨rfl, rfl, fun h ρ w vs M hb hS hsz hrel => (this h ρ w vs M hb hS hsz hrel).mono fun e w' ⟨v, r, S', h', ρ', h1, h2, h3⟩ => ⟨v, r, S', h', ρ', h1, h2.1, h3⟩⟩
theorem keyOf (ht : Tab E.h0 1 .u64 Lib.pow10Tab) (hg : E.g = fun _ => .und) (e0 e1 e2 e4 e5 : Int) (e3 e6 : Bool) (r0 r1 r2 r3 r5 r6 : Int) (r4 : Bool) : PDen Tryd.prog E 12 [.agg [.int .i64 e0, .int .i64 e1, .int .i64 e2, .bool e3, .int .i64 e4, .int .i64 e5, .bool e6], .agg [.int .i64 r0, .int .i64 r1, .int .i64 r2, .int .i64 r3, .bool r4, .int .i64 r5, .int .i64 r6]] (.bool true) := by
  refine pden_by (fn := Tryd.f12) mixed Tryd.func12 rfl (rfl) rfl ?_
  repeat' (first
    | (simp -implicitDefEqProofs (maxSteps := 1000000) only [*, Tryd.f12, ↓cAny_eq, ↓anyP_go, fillT, fillH, ↓cwp_scope, ↓cwp_label, ↓scope_normal, ↓scope_ret, ↓scope_exit, ↓cwp_skip, ↓cwp_region, ↓cwp_drawn, ↓cwp_seq, ↓cwp_cond, ↓cwp_block, ↓cwp_loop, ↓cwp_exit, ↓cwp_ret, ↓kont_normal, ↓kont_exit, ↓kont_ret, ↓block_normal, ↓block_ret, ↓block_exit, ↓then_normal, ↓then_ret, ↓then_exit, ↓finF_normal, ↓finF_ret, ↓cseq_nil, ↓cseq_free, ↓cseq_cons, ↓seqK_go, ↓anyK_go, ↓caq_zero, ↓caq_done, ↓caq_free, ↓caq_step, ↓cStep_move, ↓cStep_assign, ↓cStep_eq, ↓cPure_call, ↓reduceIte, keeps, wantD, callee, aop, ev, ofV, nth, List.cons_append, List.nil_append, List.append_nil, undL, putO, put, List.length_cons, List.length_nil, Nat.reduceSub, Nat.reduceAdd, dBinT, dBin, dUn, Option.map, List.getElem?_toArray, List.toList_toArray, List.getElem?_cons_succ, List.getElem?_cons_zero, Option.bind, ge_iff_le, gt_iff_lt, resD, resL, resV, beq_true, beq_false, Option.some.injEq, List.map, Bool.not_true, Bool.not_false, Bool.false_eq_true, exists_eq_left', Bool.not_eq_true', decide_eq_true_eq, decide_eq_false_iff_not, ite_not, decide_true, decide_false, not_true_eq_false, not_false_eq_true, D.bool.injEq, if_true, if_false, and_true, true_and, ty1, sz1, z1, ty2, sz2, z2, ty3, sz3, z3, ty4, sz4, z4, ty10, sz10, z10, ty22, sz22, z22, ty30, sz30, z30, ty51, sz51, z51, k51, ty66, sz66, z66, k66, ty68, sz68, z68, k68, dLen, dIdxA, dLoad, part, Ty.isA, Ty.fi, D.cells, D.cells?, dField, dFieldA, dIdx, dFill, allCell, D.isCell, els, chunk, rep, splice, hget, hset, cellsOf, Blk.isC, Blk.cs, Blk.mut, Blk.setCs, dStore, dBuild, dSlice, dBnd, List.getElem?_map, Option.map_some, Int.toNat_natCast, List.length_map, Nat.lt_irrefl, Nat.zero_lt_one, Nat.zero_lt_succ, Nat.le_refl, Nat.zero_add, Bool.false_eq_true, false_or, or_true, true_or, List.drop_zero, Int.natCast_nonneg, D.int.injEq, Int.zero_le_ofNat, Nat.lt_add_one, List.getElem?_nil, Nat.zero_le, List.take, List.drop, Nat.reduceMul, Nat.reduceLeDiff, Nat.reduceLT, Nat.reducePow, Nat.reduceBEq, Nat.reduceEqDiff, and_self, D.closedL, D.closed, Bool.and_self, bne_self_eq_false, beq_self_eq_true, bne, Bool.true_and, Bool.and_true, Bool.or_true, Bool.or_false, Bool.true_or, Bool.false_or, Bool.and_false, Bool.false_and, List.all_cons, List.all_nil, List.all, List.replicate, exists_const, okK, dEqL, dEqO, dEq, Option.isSome, nc0, nc1, nc2, nc3, nc4, nc5, nc6, nc7, nc8, nc9, nc10, nc11, nc12, wl0, wl1, wl2, wl3, wl4, wl5, wl6, wl7, wl8, wl9, wl10, wl11, wl12, Int.reduceAdd, Int.reduceLT, Int.reduceLE, Int.reduceToNat, Int.reduceEq, Int.reduceSub, Int.reduceBEq, Int.reduceBNe, List.length_singleton, Nat.reduceBNe])
    | (refine .body (by kernel_rfl) (PDen.to (ofEntry _ _ _ _ _ _ _) ?_))
    | (refine PCall.to (by kernel_rfl) (ofEntry _ _ _ _ _ _ _) ?_)
    | (refine .body (by kernel_rfl) (PDen.to (ofReply _ _ _ _ _ _ _) ?_))
    | (refine PCall.to (by kernel_rfl) (ofReply _ _ _ _ _ _ _) ?_)
    | (refine .body (by kernel_rfl) (PDen.to (awake41 ht hg) ?_))
    | (refine PCall.to (by kernel_rfl) (awake41 ht hg) ?_)
    | (refine ⟨20, by decide +kernel, ?_⟩)
    | (refine ⟨21, by decide +kernel, ?_⟩)
    | (refine ⟨22, by decide +kernel, ?_⟩)
    | (refine ⟨23, by decide +kernel, ?_⟩)
    | (refine ⟨24, by decide +kernel, ?_⟩)
    | (refine ⟨25, by decide +kernel, ?_⟩)
    | (refine ⟨by decide +kernel, ?_⟩)
    | rfl
    | split)
theorem keyOfLaw (ht : Tab E.h0 1 .u64 Lib.pow10Tab) (hg : E.g = fun _ => .und) (x : Ent) (r : Rep) (_ _ : True) : PDen Tryd.prog E 12 [x.d, r.d] (.bool true) :=
  keyOf ht hg x.e0 x.e1 x.e2 x.e4 x.e5 x.e3 x.e6 r.r0 r.r1 r.r2 r.r3 r.r5 r.r6 r.r4
end Go.Lv
