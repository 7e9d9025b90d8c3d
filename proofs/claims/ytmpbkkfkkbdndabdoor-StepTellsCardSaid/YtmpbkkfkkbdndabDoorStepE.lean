/- StepTells. -/
import Derived.Test.YtmpbkkfkkbdndabDoorStepB1
import Derived.Test.YtmpbkkfkkbdndabDoorStepB
import Derived.Test.YtmpbkkfkkbdndabDoorStepC
import Derived.Test.YtmpbkkfkkbdndabDoorStepD
namespace Go.Lv
open Go Go.Proofs Go.IntWalk
set_option maxRecDepth 100000
set_option linter.unusedSimpArgs false
set_option linter.unusedVariables false
variable {E : Env}
theorem awake12_run : isTrue (run Tryd.prog (fun _ => .und) knownL 60 12 12 [] []) = true := by decide +kernel
theorem awake12 (ht : Tab E.h0 3 .u64 Lib.pow10Tab) (hg : E.g = fun _ => .und) : PDen Tryd.prog E 12 [] (.bool true) := by
  obtain ⟨H, hr⟩ := isTrue_spec awake12_run
  have := (run_fun mixed (knownLOf E ht) 60 12 12 [] [] _ _ (by rw [hg]; exact hr)).den
  exact ⟨rfl, rfl, fun h ρ w vs M hb hS hsz hrel => (this h ρ w vs M hb hS hsz hrel).mono fun e w' ⟨v, r, S', h', ρ', h1, h2, h3⟩ => ⟨v, r, S', h', ρ', h1, h2.1, h3⟩⟩
theorem sh29 : shOf Tryd.prog 4 29 = some (.st [.int .i64, .int .i64, .int .i64, .int .i64, .int .i64, .int .i64]) := by kernel_rfl
theorem sh3 : shOf Tryd.prog 4 3 = some (.int .i64) := by kernel_rfl
theorem viewIntB {ds : List D} (h : (Sh.int .i64).ok ds) : ∃ x : Int, (Sh.int .i64).mk ds = .int .i64 x ∧ x ≤ 9223372036854775807 := by
  simp only [Sh.ok] at h
  obtain ⟨s, rfl, hw⟩ := h
  refine ⟨s, rfl, ?_⟩
  have : -9223372036854775808 ≤ s ∧ s ≤ 9223372036854775807 := by simpa [Lit.wf, IntKind.min, IntKind.max, IntKind.signed, IntKind.bits] using hw
  exact this.2
theorem view29 {ds : List D} (h : (Sh.st [.int .i64, .int .i64, .int .i64, .int .i64, .int .i64, .int .i64]).ok ds) : ∃ x : Sp, (Sh.st [.int .i64, .int .i64, .int .i64, .int .i64, .int .i64, .int .i64]).mk ds = x.d ∧ True := by
  simp only [Sh.ok, Sh.okL] at h
  obtain ⟨_, _, rfl, ⟨e0, rfl, _⟩, _, _, rfl, ⟨e1, rfl, _⟩, _, _, rfl, ⟨e2, rfl, _⟩, _, _, rfl, ⟨e3, rfl, _⟩, _, _, rfl, ⟨e4, rfl, _⟩, _, _, rfl, ⟨e5, rfl, _⟩, rfl⟩ := h
  exact ⟨⟨e0, e1, e2, e3, e4, e5⟩, rfl, trivial⟩
set_option maxHeartbeats 8000000 in
theorem tells6 (ht : Tab E.h0 3 .u64 Lib.pow10Tab) (hg : E.g = fun _ => .und) (o c t b p w k : Int) (hk : k ≤ 9223372036854775807) : PDen Tryd.prog E 6 [.agg [.int .i64 o, .int .i64 c, .int .i64 t, .int .i64 b, .int .i64 p, .int .i64 w], .int .i64 k] (.bool true) := by
  refine pden_by (fn := Tryd.f6) mixed Tryd.func6 rfl (rfl) (rfl) ?_
  repeat' (first
  | (simp -implicitDefEqProofs (maxSteps := 1000000) only [*, Tryd.f6, ↓cAny_eq, ↓anyP_go, fillT, fillH, ↓cwp_scope, ↓cwp_label, ↓scope_normal, ↓scope_ret, ↓scope_exit, ↓cwp_skip, ↓cwp_region, ↓cwp_drawn, ↓cwp_seq, ↓cwp_cond, ↓cwp_block, ↓cwp_loop, ↓cwp_exit, ↓cwp_ret, ↓kont_normal, ↓kont_exit, ↓kont_ret, ↓block_normal, ↓block_ret, ↓block_exit, ↓then_normal, ↓then_ret, ↓then_exit, ↓finF_normal, ↓finF_ret, ↓cseq_nil, ↓cseq_free, ↓cseq_cons, ↓seqK_go, ↓anyK_go, ↓caq_zero, ↓caq_done, ↓caq_free, ↓caq_step, ↓cStep_move, ↓cStep_assign, ↓cStep_eq, ↓cPure_call, ↓reduceIte, keeps, wantD, callee, aop, ev, ofV, nth, List.cons_append, List.nil_append, List.append_nil, undL, putO, put, List.length_cons, List.length_nil, Nat.reduceSub, Nat.reduceAdd, dBinT, dBin, dUn, Option.map, List.getElem?_toArray, List.toList_toArray, List.getElem?_cons_succ, List.getElem?_cons_zero, Option.bind, ge_iff_le, gt_iff_lt, resD, resL, resV, beq_true, beq_false, Option.some.injEq, List.map, Bool.not_true, Bool.not_false, Bool.false_eq_true, exists_eq_left', Bool.not_eq_true', decide_eq_true_eq, decide_eq_false_iff_not, ite_not, decide_true, decide_false, not_true_eq_false, not_false_eq_true, D.bool.injEq, if_true, if_false, and_true, true_and, ty1, sz1, z1, ty3, sz3, z3, ty4, sz4, z4, ty5, sz5, z5, ty9, sz9, z9, ty12, sz12, z12, ty20, sz20, z20, ty27, sz27, z27, ty29, sz29, z29, k29, ty36, sz36, z36, ty44, sz44, z44, k44, dLen, dIdxA, dLoad, part, Ty.isA, Ty.fi, D.cells, D.cells?, dField, dFieldA, dIdx, dFill, allCell, D.isCell, els, chunk, rep, splice, hget, hset, cellsOf, Blk.isC, Blk.cs, Blk.mut, Blk.setCs, dStore, dBuild, dSlice, dBnd, List.getElem?_map, Option.map_some, Int.toNat_natCast, List.length_map, Nat.lt_irrefl, Nat.zero_lt_one, Nat.zero_lt_succ, Nat.le_refl, Nat.zero_add, Bool.false_eq_true, false_or, or_true, true_or, List.drop_zero, Int.natCast_nonneg, D.int.injEq, Int.zero_le_ofNat, Nat.lt_add_one, List.getElem?_nil, Nat.zero_le, List.take, List.drop, Nat.reduceMul, Nat.reduceLeDiff, Nat.reduceLT, Nat.reducePow, Nat.reduceBEq, Nat.reduceEqDiff, and_self, D.closedL, D.closed, Bool.and_self, bne_self_eq_false, beq_self_eq_true, bne, Bool.true_and, Bool.and_true, Bool.or_true, Bool.or_false, Bool.true_or, Bool.false_or, Bool.and_false, Bool.false_and, List.all_cons, List.all_nil, List.all, List.replicate, exists_const, okK, dEqL, dEqO, dEq, Option.isSome, nc0, nc1, nc2, nc3, nc4, nc5, nc6, nc7, nc8, nc9, nc10, nc11, nc12, wl0, wl1, wl2, wl3, wl4, wl5, wl6, wl7, wl8, wl9, wl10, wl11, wl12, Int.reduceAdd, Int.reduceLT, Int.reduceLE, Int.reduceToNat, Int.reduceEq, Int.reduceSub, Int.reduceBEq, Int.reduceBNe, List.length_singleton, Nat.reduceBNe, Sp.d_mk, eq_self])
  | (refine .body (by kernel_rfl) (PDen.to (fit15 _ _ _ _ _ _) ?_))
  | (refine PCall.to (by kernel_rfl) (fit15 _ _ _ _ _ _) ?_)
  | (refine .body (by kernel_rfl) (PDen.to (fit17 _ _ _ _ _ _) ?_))
  | (refine PCall.to (by kernel_rfl) (fit17 _ _ _ _ _ _) ?_)
  | (refine .body (by kernel_rfl) (PDen.to (outP _ _ _ _ _ _) ?_))
  | (refine PCall.to (by kernel_rfl) (outP _ _ _ _ _ _) ?_)
  | (refine .body (by kernel_rfl) (PDen.to (outR _ _ _ _ _ _) ?_))
  | (refine PCall.to (by kernel_rfl) (outR _ _ _ _ _ _) ?_)
  | (refine .body (by kernel_rfl) (PDen.to (must20 _ _ _ _ _ _) ?_))
  | (refine PCall.to (by kernel_rfl) (must20 _ _ _ _ _ _) ?_)
  | (refine .body (by kernel_rfl) (PDen.to (text16 ht _ _ _ _ _ _) ?_))
  | (refine PCall.to (by kernel_rfl) (text16 ht _ _ _ _ _ _) ?_)
  | (refine .body (by kernel_rfl) (PDen.to (text21 _ _ _ _ _ _) ?_))
  | (refine PCall.to (by kernel_rfl) (text21 _ _ _ _ _ _) ?_)
  | (refine .body (by kernel_rfl) (PDen.to (delayP _ _ _ _ _ _ _ hk) ?_))
  | (refine PCall.to (by kernel_rfl) (delayP _ _ _ _ _ _ _ hk) ?_)
  | (refine .body (by kernel_rfl) (PDen.to (delayR _ _ _ _ _ _ _ hk) ?_))
  | (refine PCall.to (by kernel_rfl) (delayR _ _ _ _ _ _ _ hk) ?_)
  | (refine .body (by kernel_rfl) (PDen.to (awake12 ht hg) ?_))
  | (refine PCall.to (by kernel_rfl) (awake12 ht hg) ?_)
  | (refine ⟨33, by decide +kernel, ?_⟩)
  | (refine ⟨34, by decide +kernel, ?_⟩)
  | (refine ⟨35, by decide +kernel, ?_⟩)
  | (refine ⟨36, by decide +kernel, ?_⟩)
  | (refine ⟨37, by decide +kernel, ?_⟩)
  | (refine ⟨38, by decide +kernel, ?_⟩)
  | (refine ⟨by decide +kernel, ?_⟩)
  | rfl
  | split)
theorem tellsLaw6 (ht : Tab E.h0 3 .u64 Lib.pow10Tab) (hg : E.g = fun _ => .und) (x : Sp) (k : Int) (_ : True) (hk : k ≤ 9223372036854775807) : PDen Tryd.prog E 6 [x.d, .int .i64 k] (.bool true) := tells6 ht hg x.o x.c x.t x.b x.p x.w k hk
end Go.Lv
