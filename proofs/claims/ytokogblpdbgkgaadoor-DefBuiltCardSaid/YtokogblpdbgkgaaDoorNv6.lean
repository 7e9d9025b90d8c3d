/- LvU: calls on the memory of the caller; a machine that runs. -/
import Derived.Test.YtokogblpdbgkgaaDoorNv5
import Derived.Deep.Draws
import Derived.Sort.Grow
import Derived.Lib.LaidTab
import Derived.Below
namespace Go.Lv
open Go
set_option linter.unusedVariables false
set_option linter.unusedSimpArgs false
section
variable {P : Program} {E : Env}

theorem Fun.den {f : FuncId} {args : List D} {H : Hp} {R : D → Hp → Prop} (hf : Fun P E f args H R) : Den P E f args H R :=
  fun h ρ w vs M hb hS hsz hrel => hf.run w M h h ρ w vs hb hS hsz hrel

theorem PDen.fun {f : FuncId} {args : List D} {r : D} (hd : PDen P E f args r) (H : Hp) : Fun P E f args H fun d H' => d = r ∧ H' = H := by
  refine ⟨fun w0 M0 hI h ρ w vs hb hS hsz hrel => ?_⟩
  obtain ⟨hca, hcr, hden⟩ := hd
  refine (hden h (fun _ _ => none) w vs (fun _ => False) hb hS.enter hsz (fun j d hj => by
    obtain ⟨v, h1, h2⟩ := hrel j d hj
    exact ⟨v, h1, h2.closed (closedL_get hca hj)⟩)).mono fun e w' hh => ?_
  obtain ⟨v, r', S', h', ρ', rfl, rfl, hle, _, hSim, hr⟩ := hh
  exact ⟨v, r', H, h', ρ, rfl, ⟨rfl, rfl⟩, hle, .refl _, hS.back hSim hle, hr.closed hcr⟩

/-- A call on the memory of the caller. -/
theorem step_fun {o : Oper} {α : Operand → D} {H : Hp} {g : FuncId} {args : List D} {R : D → Hp → Prop} (e : callee P o.op α = some (g, args)) (hb : hasBody P g = true) (hd : Fun P E g args H R) : Step P E o α H R := by
  intro rd w0 M0 hI h ρ w a hbase hS hT next Q hk
  obtain ⟨vs, hrun, hsz, hget⟩ := callee_spec (P := P) (w := w) hT e hb
  refine ⟨fun _ _ => trivial, ?_⟩
  rw [Oper.semAt_eq _ _ _ (callee_nodefer e), hrun, Oper.uponIn_enter]
  refine ⟨fun hx => (by cases hx), callsIn_fen ((hd.run w0 M0 hI h ρ w vs hbase hS hsz hget).mono fun e w' hh => ?_)⟩
  obtain ⟨v, r', H', h', ρ', rfl, hR, hle, hr, hSim, hrel⟩ := hh
  exact hk r' H' v w' h' ρ' hR hle hr hSim hrel

/-- What a call comes to. -/
inductive Does (P : Program) (E : Env) (g : FuncId) (args : List D) (H : Hp) (R : D → Hp → Prop) : Prop
  | body (hb : hasBody P g = true) (hf : Fun P E g args H R)
  | ext (x : Ext) (d : D) (hx : extOf P g = some x) (hd : extD x args = some d) (hr : R d H)
inductive PDoes (P : Program) (E : Env) (g : FuncId) (args : List D) (H : Hp) (r : D) : Prop
  | body (hb : hasBody P g = true) (hf : PDen P E g args r)
  | mem (hb : hasBody P g = true) (hf : Fun P E g args H fun d H' => d = r ∧ H' = H)
  | ext (x : Ext) (hx : extOf P g = some x) (hd : extD x args = some r)
theorem step_does {o : Oper} {α : Operand → D} {H : Hp} {g : FuncId} {args : List D} {R : D → Hp → Prop} (e : callee P o.op α = some (g, args)) (hd : Does P E g args H R) : Step P E o α H R := by
  cases hd with
  | body hb hf => exact step_fun e hb hf
  | ext x d hx hd hr => exact (step_ext e hx hd).mono fun d' H' hh => by obtain ⟨rfl, rfl⟩ := hh; exact hr
theorem step_pdoes {o : Oper} {α : Operand → D} {H : Hp} {g : FuncId} {args : List D} {r : D} (e : callee P o.op α = some (g, args)) (hd : PDoes P E g args H r) : Step P E o α H fun d H' => d = r ∧ H' = H := by
  cases hd with
  | body hb hf => exact step_pcall e hb hf
  | mem hb hf => exact step_fun e hb hf
  | ext x hx hd => exact step_ext e hx hd

/-- The end of a body. -/
def FinF (P : Program) (rs : List ResultVar) (R : D → Hp → Prop) : Post
  | .normal, ts, H | .ret, ts, H => ∃ d, resD P ts H rs = some d ∧ R d H
  | _, _, _ => False

theorem fun_of {f : FuncId} {fn : Func} {c : Code} {args : List D} {H : Hp} {R : D → Hp → Prop} (hm : P.follows .mixedOrders = true) (hf : P.funcs[f]? = some fn) (hc : fn.body = some c)
    (h : awp P E ⟨none, H.length⟩ c (FinF P fn.results.toList R) (args ++ undL (fn.ntmps - args.length)) H) : Fun P E f args H R := by
  refine ⟨fun w0 M0 hI hh ρ w vs hbase hS hsz hrel => ?_⟩
  refine calls_by' hm hf hc hbase hS hsz hrel h fun e ts H' hq => ?_
  have fin : (∃ d, resD P ts H' fn.results.toList = some d ∧ R d H') → ∃ d, resD P ts H' fn.results.toList = some d ∧ ∀ h' ρ' w' v, GLe hh h' → RLe ρ ρ' → Sim w0 M0 hI h' ρ' H' w' → RelV h' ρ' d v →
      ∃ v' r S' h'' ρ'', Ending.returned v = .returned v' ∧ R r S' ∧ GLe hh h'' ∧ RLe ρ ρ'' ∧ Sim w0 M0 hI h'' ρ'' S' w' ∧ RelV h'' ρ'' r v' := by
    rintro ⟨d, hd, hp⟩
    exact ⟨d, hd, fun h' ρ' w' v hg hρ hS' rv => ⟨v, d, H', h', ρ', rfl, hp, hg, hρ, hS', rv⟩⟩
  cases e <;> simp only [FinF] at hq <;> first
    | exact ⟨.inl rfl, fin hq⟩
    | exact ⟨.inr rfl, fin hq⟩
    | exact hq.elim

/-- Behind a round. -/
def roundP (i : Nat) (R : D → Hp → Prop) : Post
  | .normal, _, H => match hget H i with
    | .rng ts ps a b .busy => R (.bool true) (hset H i (.rng ts ps a b .ready))
    | _ => False
  | .ret, _, H => match hget H i with
    | .rng ts ps a b .busy => R (.bool false) (hset H i (.rng ts ps a b (.done .ret)))
    | _ => False
  | .exit id, _, H => match hget H i with
    | .rng ts ps a b .busy => R (.bool false) (hset H i (.rng ts ps a b (.done (.exit id))))
    | _ => False
  | _, _, _ => False
/-- Behind the assignment to a loop's variables. -/
def assignP (P : Program) (E : Env) (cx : Cx) (i : Nat) (body : Code) (R : D → Hp → Prop) : Post
  | .normal, ts, H => match hget H i with
    | .rng t0 ps a b .ready => awp P E cx body (roundP i R) ts (hset H i (.rng t0 ps a b .busy))
    | _ => False
  | _, _, _ => False
/-- A round. -/
structure YDoes (P : Program) (E : Env) (i : Nat) (args : List D) (H : Hp) (R : D → Hp → Prop) : Prop where
  go : ∃ ts ps a b, hget H i = .rng ts ps a b .ready ∧ args.length = ps.length ∧ awp P E ⟨some i, H.length⟩ a (assignP P E ⟨some i, H.length⟩ i b R) (putL ts ps args) H

theorem putL_len : ∀ (ts : List D) (ps : List Nat) (ds : List D), (putL ts ps ds).length = ts.length
  | ts, [], ds => by cases ds <;> rfl
  | ts, p :: ps, [] => rfl
  | ts, p :: ps, d :: ds => by rw [putL, putL_len]; exact put_len _ _ _
theorem tells_put {h : Gh} {ρ : Rn} {ts : List D} {vs : Array Value} {d : D} {v : Value} (r : Tells h ρ ts vs) (hv : RelV h ρ d v) (t : Nat) : Tells h ρ (put ts t d) (vs.setIfInBounds t v) :=
  RelF.put (a := { tmps := vs, defers := [] }) r hv (some t)
theorem tells_putL {h : Gh} {ρ : Rn} : ∀ (ps : List Nat) (ds : List D) (l : List Value) (ts : List D) (vs : Array Value), ds.length = ps.length → l.length = ps.length → (∀ (j : Nat) (d : D), ds[j]? = some d → ∃ v : Value, l[j]? = some v ∧ RelV h ρ d v) → Tells h ρ ts vs →
    Tells h ρ (putL ts ps ds) ((ps.zip l).foldl (fun tmps (x : Nat × Value) => tmps.setIfInBounds x.1 x.2) vs)
  | [], ds, l, ts, vs, h1, h2, hr, r => by
    cases ds with
    | nil => simpa [putL] using r
    | cons => simp at h1
  | p :: ps, [], l, ts, vs, h1, h2, hr, r => by simp at h1
  | p :: ps, d :: ds, [], ts, vs, h1, h2, hr, r => by simp at h2
  | p :: ps, d :: ds, v :: l, ts, vs, h1, h2, hr, r => by
    obtain ⟨v', e1, e2⟩ := hr 0 d rfl
    simp only [List.getElem?_cons_zero, Option.some.injEq] at e1
    subst e1
    simp only [putL, List.zip_cons_cons, List.foldl_cons]
    exact tells_putL ps ds l _ _ (by simpa using h1) (by simpa using h2) (fun j d hj => by simpa using hr (j + 1) d (by simpa using hj)) (tells_put r e2 p)

/-- A call of yield. -/
theorem step_yield {o : Oper} {α : Operand → D} {H : Hp} {i : Nat} {args : List D} {R : D → Hp → Prop} (hm : P.follows .mixedOrders = true) (e : yieldOf o.op α = some (i, args)) (hd : YDoes P E i args H R) : Step P E o α H R := by
  intro rd w0 M0 hI h ρ w a hbase hS hT next Q hk
  obtain ⟨ts, ps, asg, body, hg, hlen, hw⟩ := hd.go
  unfold yieldOf at e
  split at e
  · rename_i f args0 ats ho
    split at e
    · rename_i i0 hf
      cases e
      rw [ho] at hT
      have rf := hT f (by simp [Op.operands, Call.operands])
      rw [hf] at rf
      generalize hbf : a.eval f = vf at rf
      cases rf with | yld _ l x hl =>
      have hblk := hS.blk i
      rw [hg] at hblk
      obtain ⟨b', z, r, a1, a2, a3, a4, a5, a6, a7, a8⟩ := hblk
      rw [hl] at a1
      cases a1
      have ra := args_rel (h := h) (ρ := ρ) (α := α) (β := a.eval) (l := args0) fun y hy => hT y (by simp [Op.operands, Call.operands]; exact .inr (by simpa using hy))
      have hasz : args0.size = r.params.size := by
        have : r.params.toList.length = ps.length := by rw [a5]
        simp only [List.length_map, Array.length_toList] at hlen this
        omega
      have hrun : (execOp a.eval o).run P w = .ok (.round l r.fn ((r.params.zip (args0.map a.eval)).foldl (fun tmps (x : Nat × Value) => tmps.setIfInBounds x.1 x.2) r.tmps) r.assign r.body) w := by
        have hres : (resolve a.eval { callee := .value f, args := args0, argTypes := ats } o.type).run P w = .ok { target := .fn (.yield l) #[], args := #[] ++ args0.map a.eval } w := by
          simp [resolve, hbf, Deferred.ofValue]
        simp only [execOp, ho, Sem.run_bind, hres, Result.andThen_ok, invoke]
        rw [show (#[] ++ args0.map a.eval : Array Value) = args0.map a.eval from by simp]
        exact run_yield a3 (by simpa using hasz)
      refine ⟨fun _ _ => trivial, ?_⟩
      rw [Oper.semAt_eq _ _ _ (fun c hc => by rw [ho] at hc; cases hc), hrun, Oper.uponIn_round]
      refine ⟨fun hx => (by cases hx), ?_⟩
      -- the round's frame
      have hT0 : Tells h ρ (putL ts ps (args0.toList.map α)) ((r.params.zip (args0.map a.eval)).foldl (fun tmps (x : Nat × Value) => tmps.setIfInBounds x.1 x.2) r.tmps) := by
        have := tells_putL ps (args0.toList.map α) (args0.map a.eval).toList ts r.tmps hlen (by simpa using hlen) (fun j d hj => by
          obtain ⟨v, q1, q2⟩ := ra j d hj
          exact ⟨v, by simpa using q1, q2⟩) a4
        rw [← a5] at this
        rw [← Array.foldl_toList, Array.toList_zip]
        rw [a5] at this ⊢
        exact this
      have hst : St w0 M0 hI h ρ (putL ts ps (args0.toList.map α)) H { tmps := (r.params.zip (args0.map a.eval)).foldl (fun tmps (x : Nat × Value) => tmps.setIfInBounds x.1 x.2) r.tmps, defers := [] } w :=
        ⟨h, ρ, .refl _, .refl _, hS, hT0, .nil _ _ _ _ _⟩
      have hrd : RdOk ρ (some i) (some l) := ⟨x, hl⟩
      -- the record, later
      have recd : ∀ (h' : Gh) (ρ' : Rn) (H' : Hp) (w' : World) (st st' : RSt) (ts' : List D) (ps' : List Nat) (a' b' : Code), RLe ρ ρ' → Sim w0 M0 hI h' ρ' H' w' → hget H' i = .rng ts' ps' a' b' st →
          ∃ rr, w'.heap[l]? = some (.loop rr) ∧ rr.assign = a' ∧ rr.body = b' ∧ st.of rr ∧ ∀ r2 : Loop, r2.tmps = rr.tmps → r2.params = rr.params → r2.assign = rr.assign → r2.body = rr.body → st'.of r2 → Sim w0 M0 hI h' ρ' (hset H' i (.rng ts' ps' a' b' st')) (w'.putObj l (.loop r2)) := by
        intro h' ρ' H' w' st st' ts' ps' a' b' hr' hS' hg'
        have hblk := hS'.blk i
        have hl' := hr' _ _ _ hl
        rw [hg'] at hblk
        obtain ⟨b2, z, rr, c1, c2, c3, c4, c5, c6, c7, c8⟩ := hblk
        rw [hl'] at c1
        cases c1
        refine ⟨rr, c3, c6, c7, c8, fun r2 e1 e2 e3 e4 e5 => ?_⟩
        have hnn : ρ' i (Blk.rng ts' ps' a' b' st').n = some (l, x) := hl'
        have hlt : l < w'.heap.size := (Array.getElem?_eq_some_iff.1 c3).1
        have key := hS'.write (i := i) (bl' := .rng ts' ps' a' b' st') (w' := w'.putObj l (.loop r2)) (b := l) (x := x) (x' := x) (by rw [hg']; rfl) (by rw [hg']; exact hl') rfl (fun _ _ _ hd => by cases hd) (.inr hnn) rfl rfl rfl (by simp) (fun c hc => World.putObj_heap_other hc) ?_
        · rw [Rn.set_id hnn] at key
          exact key.2
        · rw [Rn.set_id hnn]
          exact ⟨l, x, r2, hl', c2, World.putObj_heap_same hlt, by rw [e1]; exact c4, by rw [e2]; exact c5, by rw [e3]; exact c6, by rw [e4]; exact c7, e5⟩
      refine roundIn_of_wpIn trivial (wpIn_mono (awp_sound (cx := ⟨some i, H.length⟩) (l0 := some l) hm hbase hrd hS.dom r.assign _ _ H _ w (by rw [a6]; exact hw) hst) fun e a1 w1 hup => ?_)
      obtain ⟨ts1, H1, hq1, h1', ρ1, hg1, hρ1, hS1, hF1, hmk1⟩ := hup
      cases e <;> simp only [assignP] at hq1 <;> first | exact hq1.elim | skip
      split at hq1
      · rename_i t0 ps0 as0 bo0 hg0
        obtain ⟨rr, c3, c6, c7, c8, hput⟩ := recd h1' ρ1 H1 w1 .ready .busy t0 ps0 as0 bo0 hρ1 hS1 hg0
        have hS2 := hput { rr with state := .busy } rfl rfl rfl rfl rfl
        have hother : ∀ c, c ≠ l → (w1.putObj l (.loop { rr with state := .busy })).heap[c]? = w1.heap[c]? := fun c hc => World.putObj_heap_other hc
        have hrun2 : (Instr.beginRound l).run P w1 = .ok () (w1.putObj l (.loop { rr with state := .busy })) := run_beginRound c3 c8.1
        refine ⟨_, hrun2, ?_⟩
        refine wpIn_mono (awp_sound (cx := ⟨some i, H.length⟩) (l0 := some l) hm hbase hrd hS.dom r.body _ ts1 _ a1 _ (by rw [a7]; exact hq1) ⟨h1', ρ1, hg1, hρ1, hS2, hF1, hmk1.wr c3 hS2 hother⟩) fun e a2 w2 hup2 => ?_
        obtain ⟨ts2, H2, hq2, h2', ρ2, hg2, hρ2, hS3, hF2, hmk2⟩ := hup2
        cases e <;> simp only [roundP] at hq2 <;> first | exact hq2.elim | skip
        · split at hq2
          · rename_i t1 ps1 as1 bo1 hgr
            obtain ⟨r3, d3, d6, d7, d8, hput2⟩ := recd h2' ρ2 H2 w2 .busy .ready t1 ps1 as1 bo1 hρ2 hS3 hgr
            exact ⟨_, _, run_endRound none d3, hk _ _ _ _ h2' ρ2 hq2 hg2 hρ2 (hput2 _ rfl rfl rfl rfl ⟨rfl, rfl⟩) (.bool _)⟩
          · exact hq2.elim
        · split at hq2
          · rename_i id xb t1 ps1 as1 bo1 hgr
            obtain ⟨r3, d3, d6, d7, d8, hput2⟩ := recd h2' ρ2 H2 w2 .busy (.done (.exit id)) t1 ps1 as1 bo1 hρ2 hS3 hgr
            exact ⟨_, _, run_endRound (some (.exit id)) d3, hk _ _ _ _ h2' ρ2 hq2 hg2 hρ2 (hput2 _ rfl rfl rfl rfl ⟨rfl, rfl⟩) (.bool _)⟩
          · exact hq2.elim
        · split at hq2
          · rename_i t1 ps1 as1 bo1 hgr
            obtain ⟨r3, d3, d6, d7, d8, hput2⟩ := recd h2' ρ2 H2 w2 .busy (.done .ret) t1 ps1 as1 bo1 hρ2 hS3 hgr
            exact ⟨_, _, run_endRound (some .ret) d3, hk _ _ _ _ h2' ρ2 hq2 hg2 hρ2 (hput2 _ rfl rfl rfl rfl ⟨rfl, rfl⟩) (.bool _)⟩
          · exact hq2.elim
      · exact hq1.elim
    · cases e
  · cases e

/-- Operations that leave the memory as it is. -/
def keeps : Op → Bool
  | .move _ | .assign _ | .pick .. | .binOp .. | .unOp .. | .indexAddr .. | .index .. | .fieldAddr .. | .field .. | .load .. | .build .. | .slice .. | .extract .. | .makeFunc .. | .makeInterface .. | .nilCheck _ | .convert .. | .typeAssert .. => true
  | .call { callee := .builtin .len, .. } | .call { callee := .builtin .cap, .. } | .call { callee := .builtin .max, .. } | .call { callee := .builtin .min, .. } => true
  | _ => false

theorem map_fst {x : Option D} {H H' : Hp} {d : D} (h : x.map (·, H) = some (d, H')) : H' = H := by
  cases x <;> simp at h
  exact h.2.symm

theorem keeps_spec {op : Op} {α : Operand → D} {H H' : Hp} {d : D} (hk : keeps op = true) (h : aop P op α H = some (d, H')) : H' = H := by
  unfold keeps at hk
  split at hk <;> first
    | exact absurd hk (by decide)
    | (simp only [aop] at h
       first
         | exact map_fst h
         | (cases h; rfl)
         | (repeat' split at h
            all_goals first | contradiction | exact map_fst h | (cases h; rfl) | cases h | simp_all))

/-- A slice that is built of what is closed leaves the memory as it is. -/
theorem build_slice_pure {t : TypeId} {n : Nat} {parts : Array (Nat × Operand)} {α : Operand → D} {d : D} (h : aop P (.buildSlice t n parts) α [] = some (d, [])) (H : Hp) : aop P (.buildSlice t n parts) α H = some (d, H) := by
  simp only [aop] at h ⊢
  split at h
  · split at h
    · rename_i hc
      rw [if_pos hc]
      split at h
      · split at h
        · rename_i hh
          rw [if_pos hh]
          cases h
          rfl
        · cases h
      · cases h
    · cases h
  · cases h

mutual
/-- Are data one, as far as is looked? -/
def D.same : D → D → Bool
  | .bool a, .bool b => a == b
  | .int k a, .int k' b => decide (k = k') && a == b
  | .str a, .str b => a == b
  | .list t xs, .list t' ys => t == t' && D.sameL xs ys
  | .at xs a, .at ys b => D.sameL xs ys && a == b
  | .ptr i o n, .ptr i' o' n' => i == i' && (o == o' && n == n')
  | .nilp, .nilp => true
  | .own i l n, .own i' l' n' => i == i' && (l == l' && n == n')
  | .asl i o l n, .asl i' o' l' n' => i == i' && (o == o' && (l == l' && n == n'))
  | .agg xs, .agg ys => D.sameL xs ys
  | .tup xs, .tup ys => D.sameL xs ys
  | .nilf, .nilf => true
  | .iface t d, .iface t' d' => t == t' && d.same d'
  | .nili, .nili => true
  | .und, .und => true
  | .fn f a b, .fn f' a' b' => decide (f = f') && (D.sameL a a' && D.sameL b b')
  | .yld i, .yld j => i == j
  | .mp i, .mp j => i == j
  | .nilm, .nilm => true
  | _, _ => false
def D.sameL : List D → List D → Bool
  | [], [] => true
  | x :: l, y :: m => x.same y && D.sameL l m
  | _, _ => false
end
mutual
theorem D.same_eq : ∀ (a b : D), a.same b = true → a = b
  | .bool a, b, h => by cases b <;> simp_all [D.same]
  | .int k a, b, h => by cases b <;> simp_all [D.same]
  | .str a, b, h => by cases b <;> simp_all [D.same]
  | .list t xs, b, h => by
    cases b <;> simp only [D.same, Bool.false_eq_true, Bool.and_eq_true, beq_iff_eq] at h
    obtain ⟨rfl, h⟩ := h
    rw [D.sameL_eq _ _ h]
  | .at xs a, b, h => by
    cases b <;> simp only [D.same, Bool.false_eq_true, Bool.and_eq_true, beq_iff_eq] at h
    obtain ⟨h, rfl⟩ := h
    rw [D.sameL_eq _ _ h]
  | .ptr .., b, h => by cases b <;> simp_all [D.same]
  | .nilp, b, h => by cases b <;> simp_all [D.same]
  | .own .., b, h => by cases b <;> simp_all [D.same]
  | .asl .., b, h => by cases b <;> simp_all [D.same]
  | .agg xs, b, h => by
    cases b <;> simp only [D.same, Bool.false_eq_true] at h
    rw [D.sameL_eq _ _ h]
  | .tup xs, b, h => by
    cases b <;> simp only [D.same, Bool.false_eq_true] at h
    rw [D.sameL_eq _ _ h]
  | .nilf, b, h => by cases b <;> simp_all [D.same]
  | .iface t d, b, h => by
    cases b <;> simp only [D.same, Bool.false_eq_true, Bool.and_eq_true, beq_iff_eq] at h
    obtain ⟨rfl, h⟩ := h
    rw [D.same_eq _ _ h]
  | .nili, b, h => by cases b <;> simp_all [D.same]
  | .und, b, h => by cases b <;> simp_all [D.same]
  | .fn f x y, b, h => by
    cases b <;> simp only [D.same, Bool.false_eq_true, Bool.and_eq_true, decide_eq_true_eq] at h
    obtain ⟨rfl, h1, h2⟩ := h
    rw [D.sameL_eq _ _ h1, D.sameL_eq _ _ h2]
  | .yld .., b, h => by cases b <;> simp_all [D.same]
  | .mp .., b, h => by cases b <;> simp_all [D.same]
  | .nilm, b, h => by cases b <;> simp_all [D.same]
theorem D.sameL_eq : ∀ (a b : List D), D.sameL a b = true → a = b
  | [], b, h => by cases b <;> simp_all [D.sameL]
  | x :: l, b, h => by
    cases b with
    | nil => simp [D.sameL] at h
    | cons y m =>
      simp only [D.sameL, Bool.and_eq_true] at h
      rw [D.same_eq _ _ h.1, D.sameL_eq _ _ h.2]
end
def sameP : List (D × D) → List (D × D) → Bool
  | [], [] => true
  | x :: l, y :: m => x.1.same y.1 && (x.2.same y.2 && sameP l m)
  | _, _ => false
theorem sameP_eq : ∀ (a b : List (D × D)), sameP a b = true → a = b
  | [], b, h => by cases b <;> simp_all [sameP]
  | (x1, x2) :: l, b, h => by
    cases b with
    | nil => simp [sameP] at h
    | cons y m =>
      simp only [sameP, Bool.and_eq_true] at h
      rw [D.same_eq _ _ h.1, D.same_eq _ _ h.2.1, sameP_eq _ _ h.2.2]
def Blk.same : Blk → Blk → Bool
  | .var a, .var b => D.sameL a b
  | .row s g a, .row s' g' b => s == s' && (g == g' && D.sameL a b)
  | .frz s g a, .frz s' g' b => s == s' && (g == g' && D.sameL a b)
  | .iter s p, .iter s' p' => s == s' && p == p'
  | .map a, .map b => sameP a b
  | .dead, .dead => true
  | _, _ => false
theorem Blk.same_eq (a b : Blk) (h : a.same b = true) : a = b := by
  cases a <;> cases b <;> simp only [Blk.same, Bool.false_eq_true, Bool.and_eq_true, beq_iff_eq] at h
  · rw [D.sameL_eq _ _ h]
  · obtain ⟨rfl, rfl, h⟩ := h
    rw [D.sameL_eq _ _ h]
  · obtain ⟨rfl, rfl, h⟩ := h
    rw [D.sameL_eq _ _ h]
  · obtain ⟨rfl, rfl⟩ := h
    rfl
  · rw [sameP_eq _ _ h]
  · rfl
def sameH : Hp → Hp → Bool
  | [], [] => true
  | x :: l, y :: m => x.same y && sameH l m
  | _, _ => false
theorem sameH_eq : ∀ (a b : Hp), sameH a b = true → a = b
  | [], b, h => by cases b <;> simp_all [sameH]
  | x :: l, b, h => by
    cases b with
    | nil => simp [sameH] at h
    | cons y m =>
      simp only [sameH, Bool.and_eq_true] at h
      rw [Blk.same_eq _ _ h.1, sameH_eq _ _ h.2]

/-- Calls, known by themselves: what they answer. -/
structure Known (P : Program) (E : Env) where
  call : FuncId → List D → Hp → Option (D × Hp)
  ok : ∀ g args H r H', call g args H = some (r, H') → Fun P E g args H fun d H'' => d = r ∧ H'' = H'

section
variable (P) (G : Nat → D) (call : FuncId → List D → Hp → Option (D × Hp)) (yc : Nat → List D → Hp → Option (D × Hp))
def exOp (op : Op) (α : Operand → D) (H : Hp) : Option (D × Hp) :=
  match aop P op α H with
  | some r => some r
  | none => match callee P op α with
    | some (g, args) => if hasBody P g then call g args H else match extOf P g with
      | some x => match extD x args with
        | some d => some (d, H)
        | none => none
      | none => none
    | none => match yieldOf op α with
      | some (i, args) => yc i args H
      | none => none
def exPure (op : Op) (α : Operand → D) (H : Hp) : Option D :=
  if keeps op then match aop P op α H with
    | some (d, _) => some d
    | none => none
  else match callee P op α with
    | some (g, args) => if hasBody P g && !D.closedL args then match call g args (maskH H) with
        | some (r, H1) => if sameH (H1.take (maskH H).length) (maskH H) && (D.onlyL (okH H) args && (onlyH (okH H) (maskH H) && r.only (okH H))) then some r else none
        | none => none
      else if hasBody P g && D.closedL args then match call g args [] with
        | some (r, H1) => match reify 6 H1 r with
          | some (r', _) => if r'.closed then some r' else none
          | none => none
        | none => none
      else match extOf P g with
        | some x => extD x args
        | none => none
    | none => match op with
      | .buildSlice t n parts => match aop P (.buildSlice t n parts) α [] with
        | some (d, []) => some d
        | _ => none
      | _ => none
def exSeq (ops : Array Oper) : List Oper → List D → Hp → Option (List D × Hp)
  | [], ts, H => some (ts, H)
  | o :: rest, ts, H => match wantD ops ts o with
    | some true => match exOp P call yc o.op (ev G ts) H with
      | some (d, H') => exSeq ops rest (putO ts o.dst d) H'
      | none => none
    | some false => exSeq ops rest (putO ts o.dst (.tup [])) H
    | none => none
def made (P : Program) (ops : Array Oper) (k : Nat) (o : Oper) : Option (Nat × Nat × List D) :=
  match o.op, o.dst with
  | .alloc ty', some t => if 0 < (zcells P ty').length ∧ soleAt ops k t = true then some (k, t, zcells P ty') else none
  | _, _ => none
def exAny (ops : Array Oper) : Nat → Nat → List Oper → List D → Hp → Pend → Option (List D × Hp)
  | 0, _, l, ts, H, pd => exSeq P G call yc ops l (fillT ts H.length pd) (H ++ fillH pd)
  | _ + 1, _, [], ts, H, pd => some (fillT ts H.length pd, H ++ fillH pd)
  | m + 1, k, o :: rest, ts, H, pd => match wantD ops ts o with
    | some true => match made P ops k o with
      | some x => exAny ops m (k + 1) rest (putO ts o.dst .und) H (pd ++ [x])
      | none => match exPure P call o.op (ev G ts) H with
        | some d => exAny ops m (k + 1) rest (putO ts o.dst d) H pd
        | none => none
    | some false => exAny ops m (k + 1) rest (putO ts o.dst (.tup [])) H pd
    | none => none
def findM (ops : Array Oper) : Nat → Nat → Option Nat
  | 0, m => if regOk ops m then some m else none
  | n + 1, m => if regOk ops m then some m else findM ops n (m + 1)
def exLoop (body : List D → Hp → Option (Exit × List D × Hp)) : Nat → List D → Hp → Option (Exit × List D × Hp)
  | 0, _, _ => none
  | n + 1, ts, H => match body ts H with
    | some (.normal, ts', H') => exLoop body n ts' H'
    | r => r
def ex (rdOk : Hp → Bool) (n : Nat) : Code → List D → Hp → Option (Exit × List D × Hp)
  | .skip, ts, H => some (.normal, ts, H)
  | .region _ ops false, ts, H => match exSeq P G call yc ops ops.toList ts H with
    | some (ts', H') => some (.normal, ts', H')
    | none => none
  | .region _ ops true, ts, H => match findM ops ops.size 0 with
    | some m => match exAny P G call yc ops m 0 ops.toList ts H [] with
      | some (ts', H') => some (.normal, ts', H')
      | none => none
    | none => none
  | .seq a b, ts, H => match ex rdOk n a ts H with
    | some (.normal, ts', H') => ex rdOk n b ts' H'
    | r => r
  | .cond c x y, ts, H => match ev G ts c with
    | .bool true => ex rdOk n x ts H
    | .bool false => ex rdOk n y ts H
    | _ => none
  | .block id c, ts, H => match ex rdOk n c ts H with
    | some (.exit id', ts', H') => if id' = id then some (.normal, ts', H') else some (.exit id', ts', H')
    | r => r
  | .loop c, ts, H => exLoop (ex rdOk n c) n ts H
  | .exit id, ts, H => some (.exit id, ts, H)
  | .ret, ts, H => some (.ret, ts, H)
  | .scope c, ts, H => match ex rdOk n c ts H with
    | some (.goto _, _, _) => none
    | r => r
  | .label _, ts, H => some (.normal, ts, H)
  | .rangeFunc g ps asg body, ts, H => match ev G ts g with
    | .fn (.func f) fi ca => if hasBody P f && rdOk H then match call f (fi ++ [.yld H.length] ++ ca) (H ++ [.rng ts ps.toList asg body .ready]) with
        | some (_, H') => match hget H' H.length with
          | .rng _ _ _ _ .ready => some (.normal, ts, hset H' H.length .dead)
          | .rng _ _ _ _ (.done .ret) => some (.ret, ts, hset H' H.length .dead)
          | .rng _ _ _ _ (.done (.exit id)) => some (.exit id, ts, hset H' H.length .dead)
          | _ => none
        | none => none
      else none
    | _ => none
  | _, _, _ => none
end
/-- A round, run. -/
def exRound (P : Program) (G : Nat → D) (call : FuncId → List D → Hp → Option (D × Hp)) (yc : Nat → List D → Hp → Option (D × Hp)) (n : Nat) (i : Nat) (args : List D) (H : Hp) : Option (D × Hp) :=
  match hget H i with
  | .rng ts ps a b .ready => if args.length = ps.length then match ex P G call yc (fun H => (hget H i).isRng) n a (putL ts ps args) H with
      | some (.normal, ts1, H1) => match hget H1 i with
        | .rng t0 ps0 a0 b0 .ready => match ex P G call yc (fun H => (hget H i).isRng) n b ts1 (hset H1 i (.rng t0 ps0 a0 b0 .busy)) with
          | some (.normal, _, H2) => match hget H2 i with
            | .rng t1 ps1 a1 b1 .busy => some (.bool true, hset H2 i (.rng t1 ps1 a1 b1 .ready))
            | _ => none
          | some (.ret, _, H2) => match hget H2 i with
            | .rng t1 ps1 a1 b1 .busy => some (.bool false, hset H2 i (.rng t1 ps1 a1 b1 (.done .ret)))
            | _ => none
          | some (.exit id, _, H2) => match hget H2 i with
            | .rng t1 ps1 a1 b1 .busy => some (.bool false, hset H2 i (.rng t1 ps1 a1 b1 (.done (.exit id))))
            | _ => none
          | _ => none
        | _ => none
      | _ => none
    else none
  | _ => none
/-- The machine: k calls deep, n rounds of a loop, with calls that are known. -/
def runC (P : Program) (G : Nat → D) (known : FuncId → List D → Hp → Option (D × Hp)) (n : Nat) : Nat → FuncId ⊕ Nat → List D → Hp → Option (D × Hp)
  | 0, _, _, _ => none
  | k + 1, .inl f, args, H => match known f args H with
    | some r => some r
    | none => match P.funcs[f]? with
      | some fn => match fn.body with
        | some c => match ex P G (fun g => runC P G known n k (.inl g)) (fun i => runC P G known n k (.inr i)) (fun _ => true) n c (args ++ undL (fn.ntmps - args.length)) H with
          | some (.normal, ts, H') | some (.ret, ts, H') => match resD P ts H' fn.results.toList with
            | some d => some (d, H')
            | none => none
          | _ => none
        | none => none
      | none => none
  | k + 1, .inr i, args, H => exRound P G (fun g => runC P G known n k (.inl g)) (fun i => runC P G known n k (.inr i)) n i args H
def run (P : Program) (G : Nat → D) (known : FuncId → List D → Hp → Option (D × Hp)) (n k : Nat) (f : FuncId) (args : List D) (H : Hp) : Option (D × Hp) := runC P G known n k (.inl f) args H

section
variable {call : FuncId → List D → Hp → Option (D × Hp)} {yc : Nat → List D → Hp → Option (D × Hp)} (hm : P.follows .mixedOrders = true) (hyc : ∀ i args H r H', yc i args H = some (r, H') → YDoes P E i args H fun d H'' => d = r ∧ H'' = H') (hcall : ∀ g args H r H', call g args H = some (r, H') → Fun P E g args H fun d H'' => d = r ∧ H'' = H')
include hcall hm hyc
theorem exOp_sound {o : Oper} {α : Operand → D} {H H' : Hp} {d : D} (h : exOp P call yc o.op α H = some (d, H')) : Step P E o α H fun d' H'' => d' = d ∧ H'' = H' := by
  unfold exOp at h
  split at h
  · rename_i r hr
    cases h
    exact step_aop hr
  · split at h
    · rename_i g args hc
      split at h
      · rename_i hb
        exact step_fun hc hb (hcall _ _ _ _ _ h)
      · split at h
        · rename_i x hx
          split at h
          · rename_i d' hd
            cases h
            exact step_ext hc hx hd
          · cases h
        · cases h
    · split at h
      · rename_i i args hy
        exact step_yield hm hy (hyc _ _ _ _ _ h)
      · cases h

omit hm hyc in
theorem exPure_sound {o : Oper} {α : Operand → D} {H : Hp} {d : D} (h : exPure P call o.op α H = some d) : Step P E o α H fun d' H'' => d' = d ∧ H'' = H := by
  unfold exPure at h
  split at h
  · rename_i hk
    split at h
    · rename_i d' H' hr
      cases h
      have := keeps_spec hk hr
      subst this
      exact step_aop hr
    · cases h
  · split at h
    · rename_i g args hc
      split at h
      · rename_i hb
        simp only [Bool.and_eq_true] at hb
        split at h
        · rename_i r H1 hr
          split at h
          · rename_i hs
            cases h
            simp only [Bool.and_eq_true] at hs
            refine step_fun hc hb.1 (Fun.mask hs.2.1 hs.2.2.1 hs.2.2.2 (Fun.keep ?_ ((hcall _ _ _ _ _ hr).mono fun d' H'' hh => by obtain ⟨rfl, rfl⟩ := hh; exact ⟨rfl, sameH_eq _ _ hs.1⟩)))
            rw [maskH_len]
            exact under_only hs.2.2.2
          · cases h
        · cases h
      split at h
      · rename_i hb
        simp only [Bool.and_eq_true] at hb
        split at h
        · rename_i r H1 hr
          split at h
          · rename_i r' H2 hre
            split at h
            · rename_i hcl
              cases h
              refine step_pcall hc hb.1 ⟨hb.2, hcl, fun hh ρ w vs M hbase hS hsz hrel => ?_⟩
              refine ((hcall _ _ _ _ _ hr).den hh ρ w vs M hbase hS hsz hrel).mono fun e w' ⟨v, r1, S', h', ρ', h1, h2, h3, h4, h5, h6⟩ => ?_
              obtain ⟨rfl, rfl⟩ := h2
              obtain ⟨h7, g2, s2, r2, _⟩ := reify_sound 6 h' _ r1 v _ _ hre h5 h6
              exact ⟨v, d, _, h7, ρ', h1, rfl, h3.trans g2, h4, s2, r2⟩
            · cases h
          · cases h
        · cases h
      · split at h
        · rename_i x hx
          exact step_ext hc hx h
        · cases h
    · split at h
      · rename_i t n parts hop
        split at h
        · rename_i d' ha
          cases h
          exact step_aop (by rw [hop]; exact build_slice_pure ha _)
        · cases h
      · cases h

theorem exSeq_sound {ops : Array Oper} {K : List D → Hp → Prop} : ∀ (l : List Oper) (ts : List D) (H : Hp) (ts' : List D) (H' : Hp), exSeq P E.g call yc ops l ts H = some (ts', H') → K ts' H' → aseq P E ops l ts H K
  | [], ts, H, ts', H', h, hk => by
    simp only [exSeq, Option.some.injEq, Prod.mk.injEq] at h
    obtain ⟨rfl, rfl⟩ := h
    exact hk
  | o :: rest, ts, H, ts', H', h, hk => by
    simp only [exSeq] at h
    simp only [aseq]
    split at h
    · rename_i hw
      rw [hw]
      split at h
      · rename_i d H1 h1
        refine (exOp_sound hm hyc hcall h1).mono fun d' H'' hh => ?_
        obtain ⟨rfl, rfl⟩ := hh
        exact exSeq_sound rest _ _ _ _ h hk
      · cases h
    · rename_i hw
      rw [hw]
      exact exSeq_sound rest _ _ _ _ h hk
    · cases h

theorem exAny_sound {ops : Array Oper} {K : List D → Hp → Prop} : ∀ (m k : Nat) (l : List Oper) (ts : List D) (H : Hp) (pd : Pend) (ts' : List D) (H' : Hp), exAny P E.g call yc ops m k l ts H pd = some (ts', H') → K ts' H' → aq P E ops m k l ts H pd K
  | 0, k, l, ts, H, pd, ts', H', h, hk => exSeq_sound hm hyc hcall l _ _ ts' H' h hk
  | m + 1, k, [], ts, H, pd, ts', H', h, hk => by
    simp only [exAny, Option.some.injEq, Prod.mk.injEq] at h
    obtain ⟨rfl, rfl⟩ := h
    exact hk
  | m + 1, k, o :: rest, ts, H, pd, ts', H', h, hk => by
    simp only [exAny] at h
    simp only [aq]
    split at h
    · rename_i hw
      rw [hw]
      split at h
      · rename_i x hx
        unfold made at hx
        split at hx
        · rename_i ty' t ho hd
          split at hx
          · rename_i hh
            cases hx
            exact .inr ⟨t, ty', ho, hd, hh.1, hh.2, exAny_sound m _ rest _ _ _ _ _ h hk⟩
          · cases hx
        · cases hx
      · split at h
        · rename_i d h1
          exact .inl ⟨d, exPure_sound hcall h1, exAny_sound m _ rest _ _ _ _ _ h hk⟩
        · cases h
    · rename_i hw
      rw [hw]
      exact exAny_sound m _ rest _ _ _ _ _ h hk
    · cases h

variable {cx : Cx} {rdOk : Hp → Bool} (hrd : ∀ H i, rdOk H = true → cx.rd = some i → (hget H i).isRng = true)
include hrd
theorem ex_sound {n : Nat} : ∀ (c : Code) (ts : List D) (H : Hp) (e : Exit) (ts' : List D) (H' : Hp) (Q : Post), ex P E.g call yc rdOk n c ts H = some (e, ts', H') → Q e ts' H' → awp P E cx c Q ts H
  | .skip, ts, H, e, ts', H', Q, h, hq => by
    simp only [ex, Option.some.injEq, Prod.mk.injEq] at h
    obtain ⟨rfl, rfl, rfl⟩ := h
    exact hq
  | .region _ ops false, ts, H, e, ts', H', Q, h, hq => by
    simp only [ex] at h
    split at h
    · rename_i t1 H1 h1
      cases h
      exact exSeq_sound hm hyc hcall _ _ _ _ _ h1 hq
    · cases h
  | .region _ ops true, ts, H, e, ts', H', Q, h, hq => by
    simp only [ex] at h
    split at h
    · rename_i m hfm
      split at h
      · rename_i t1 H1 h1
        cases h
        have hreg : regOk ops m = true := by
          have : ∀ n k m, findM ops n k = some m → regOk ops m = true := by
            intro n
            induction n with
            | zero =>
              intro k m hh
              simp only [findM] at hh
              split at hh
              · rename_i hr; cases hh; exact hr
              · cases hh
            | succ n ih =>
              intro k m hh
              simp only [findM] at hh
              split at hh
              · rename_i hr; cases hh; exact hr
              · exact ih _ _ hh
          exact this _ _ _ hfm
        exact ⟨m, hreg, exAny_sound hm hyc hcall _ _ _ _ _ _ _ _ h1 hq⟩
      · cases h
    · cases h
  | .seq a b, ts, H, e, ts', H', Q, h, hq => by
    simp only [ex] at h
    simp only [awp]
    split at h
    · rename_i t1 H1 h1
      exact ex_sound a _ _ _ _ _ _ h1 (ex_sound b _ _ _ _ _ Q h hq)
    · rename_i hne
      refine ex_sound a _ _ _ _ _ _ h ?_
      cases e <;> first
        | exact hq
        | exact (hne _ _ h).elim
  | .cond c x y, ts, H, e, ts', H', Q, h, hq => by
    simp only [ex] at h
    split at h
    · rename_i hc
      exact ⟨true, hc, ex_sound x _ _ _ _ _ Q h hq⟩
    · rename_i hc
      exact ⟨false, hc, ex_sound y _ _ _ _ _ Q h hq⟩
    · cases h
  | .block id c, ts, H, e, ts', H', Q, h, hq => by
    simp only [ex] at h
    simp only [awp]
    split at h
    · rename_i id' t1 H1 h1
      refine ex_sound c _ _ _ _ _ _ h1 ?_
      simp only [Post.block]
      split at h
      · rename_i hi
        cases h
        rw [if_pos hi]
        exact hq
      · rename_i hi
        cases h
        rw [if_neg hi]
        exact hq
    · rename_i hne
      refine ex_sound c _ _ _ _ _ _ h ?_
      cases e <;> first
        | exact hq
        | exact (hne _ _ _ h).elim
  | .loop c, ts, H, e, ts', H', Q, h, hq => by
    simp only [ex] at h
    refine ⟨n, ?_⟩
    generalize hk : n = k at h
    have key : ∀ (k : Nat) (ts : List D) (H : Hp), exLoop (ex P E.g call yc rdOk n c) k ts H = some (e, ts', H') → loopN cx.m0 (awp P E cx c) Q k ts H := by
      intro k
      induction k with
      | zero => intro ts H h; cases h
      | succ k ih =>
        intro ts H h
        simp only [exLoop] at h
        refine ⟨ts, H, .refl _ _ _, ?_⟩
        split at h
        · rename_i t1 H1 h1
          exact ex_sound c _ _ _ _ _ _ h1 (ih _ _ h)
        · rename_i hne
          refine ex_sound c _ _ _ _ _ _ h ?_
          cases e <;> first
            | exact hq
            | exact (hne _ _ h).elim
    exact hk ▸ key k ts H (hk ▸ h)
  | .exit id, ts, H, e, ts', H', Q, h, hq => by
    simp only [ex, Option.some.injEq, Prod.mk.injEq] at h
    obtain ⟨rfl, rfl, rfl⟩ := h
    exact hq
  | .ret, ts, H, e, ts', H', Q, h, hq => by
    simp only [ex, Option.some.injEq, Prod.mk.injEq] at h
    obtain ⟨rfl, rfl, rfl⟩ := h
    exact hq
  | .scope c, ts, H, e, ts', H', Q, h, hq => by
    simp only [ex] at h
    simp only [awp]
    split at h
    · cases h
    · rename_i hne
      refine ex_sound c _ _ _ _ _ _ h ?_
      cases e <;> first
        | exact hq
        | exact (hne _ _ _ h).elim
  | .label _, ts, H, e, ts', H', Q, h, hq => by
    simp only [ex, Option.some.injEq, Prod.mk.injEq] at h
    obtain ⟨rfl, rfl, rfl⟩ := h
    exact hq
  | .rangeFunc g ps asg body, ts, H, e, ts', H', Q, h, hq => by
    simp only [ex] at h
    split at h
    · rename_i f fi ca hg
      split at h
      · rename_i hc
        simp only [Bool.and_eq_true] at hc
        split at h
        · rename_i d H1 h1
          refine ⟨f, fi, ca, hg, hc.1, fun i hi => hrd H i hc.2 hi, (hcall _ _ _ _ _ h1).mono fun d' H'' hh => ?_⟩
          obtain ⟨rfl, rfl⟩ := hh
          unfold rngEnd
          split at h
          · rename_i hgr
            cases h
            rw [hgr]
            exact hq
          · rename_i hgr
            cases h
            rw [hgr]
            exact hq
          · rename_i hgr
            cases h
            rw [hgr]
            exact hq
          · cases h
        · cases h
      · cases h
    · cases h
  | .goto _, ts, H, e, ts', H', Q, h, hq => by cases h
  | .refuse _, ts, H, e, ts', H', Q, h, hq => by cases h
end

/-- A round of the machine. -/
theorem exRound_sound {call : FuncId → List D → Hp → Option (D × Hp)} {yc : Nat → List D → Hp → Option (D × Hp)} (hm : P.follows .mixedOrders = true) (hyc : ∀ i args H r H', yc i args H = some (r, H') → YDoes P E i args H fun d H'' => d = r ∧ H'' = H')
    (hcall : ∀ g args H r H', call g args H = some (r, H') → Fun P E g args H fun d H'' => d = r ∧ H'' = H') {n i : Nat} {args : List D} {H H' : Hp} {r : D} (h : exRound P E.g call yc n i args H = some (r, H')) : YDoes P E i args H fun d H'' => d = r ∧ H'' = H' := by
  have hrd : ∀ (H' : Hp) (j : Nat), (fun H : Hp => (hget H i).isRng) H' = true → (⟨some i, H.length⟩ : Cx).rd = some j → (hget H' j).isRng = true := fun H' j h1 h2 => by cases h2; exact h1
  unfold exRound at h
  split at h
  · rename_i ts ps a b hg
    split at h
    · rename_i hlen
      split at h
      · rename_i ts1 H1 h1
        refine ⟨ts, ps, a, b, hg, hlen, ex_sound hm hyc hcall hrd a _ _ _ _ _ _ h1 ?_⟩
        split at h
        · rename_i t0 ps0 a0 b0 hg1
          simp only [assignP, hg1]
          split at h
          · rename_i ts2 H2 h2
            refine ex_sound hm hyc hcall hrd b _ _ _ _ _ _ h2 ?_
            split at h
            · rename_i hg2
              cases h
              simp only [roundP, hg2, and_self]
            · cases h
          · rename_i ts2 H2 h2
            refine ex_sound hm hyc hcall hrd b _ _ _ _ _ _ h2 ?_
            split at h
            · rename_i hg2
              cases h
              simp only [roundP, hg2, and_self]
            · cases h
          · rename_i ts2 H2 h2
            refine ex_sound hm hyc hcall hrd b _ _ _ _ _ _ h2 ?_
            split at h
            · rename_i hg2
              cases h
              simp only [roundP, hg2, and_self]
            · cases h
          · cases h
        · cases h
      · cases h
    · cases h
  · cases h

theorem runC_ok (hm : P.follows .mixedOrders = true) (K : Known P E) (n : Nat) : ∀ (k : Nat), (∀ (f : FuncId) (args : List D) (H : Hp) (r : D) (H' : Hp), runC P E.g K.call n k (.inl f) args H = some (r, H') → Fun P E f args H fun d H'' => d = r ∧ H'' = H') ∧
    ∀ (i : Nat) (args : List D) (H : Hp) (r : D) (H' : Hp), runC P E.g K.call n k (.inr i) args H = some (r, H') → YDoes P E i args H fun d H'' => d = r ∧ H'' = H'
  | 0 => ⟨fun f args H r H' h => by simp [runC] at h, fun i args H r H' h => by simp [runC] at h⟩
  | k + 1 => by
    have ih1 := (runC_ok hm K n k).1
    have ih2 := (runC_ok hm K n k).2
    refine ⟨fun f args H r H' h => ?_, fun i args H r H' h => exRound_sound hm ih2 ih1 h⟩
    have hrd : ∀ (H' : Hp) (i : Nat), (fun _ : Hp => true) H' = true → (⟨none, H.length⟩ : Cx).rd = some i → (hget H' i).isRng = true := fun H' i _ h2 => by cases h2
    simp only [runC] at h
    split at h
    · rename_i r1 hk
      cases h
      exact K.ok _ _ _ _ _ hk
    · split at h
      · rename_i fn hf
        split at h
        · rename_i c hc
          refine fun_of hm hf hc ?_
          split at h
          · rename_i ts H1 h1
            split at h
            · rename_i d hd
              cases h
              exact ex_sound hm ih2 ih1 hrd c _ _ _ _ _ _ h1 ⟨_, hd, rfl, rfl⟩
            · cases h
          · rename_i ts H1 h1
            split at h
            · rename_i d hd
              cases h
              exact ex_sound hm ih2 ih1 hrd c _ _ _ _ _ _ h1 ⟨_, hd, rfl, rfl⟩
            · cases h
          · cases h
        · cases h
      · cases h
theorem run_fun (hm : P.follows .mixedOrders = true) (K : Known P E) (n : Nat) (k : Nat) (f : FuncId) (args : List D) (H : Hp) (r : D) (H' : Hp) (h : run P E.g K.call n k f args H = some (r, H')) : Fun P E f args H fun d H'' => d = r ∧ H'' = H' := (runC_ok hm K n k).1 f args H r H' h
end
end Go.Lv

namespace Go.Lv
open Go
set_option linter.unusedVariables false
set_option linter.unusedSimpArgs false
section
variable {P : Program} {E : Env}

/-- An operation behind which R holds. -/
def cStep (P : Program) (E : Env) (op : Op) (α : Operand → D) (H : Hp) (R : D → Hp → Prop) : Prop :=
  match callee P op α with
  | some (g, args) => Does P E g args H R
  | none => match yieldOf op α with
    | some (i, args) => YDoes P E i args H R
    | none => match aop P op α H with
      | some (d, H') => R d H'
      | none => False
/-- One that leaves the memory as it is. -/
def cPure (P : Program) (E : Env) (op : Op) (α : Operand → D) (H : Hp) (R : D → Prop) : Prop :=
  match callee P op α with
  | some (g, args) => ∃ r, PDoes P E g args H r ∧ R r
  | none => if keeps op = true then match aop P op α H with
      | some (d, _) => R d
      | none => False
    else match aop P op α H with
      | some (d, H') => H' = H ∧ R d
      | none => False
def cseq (P : Program) (E : Env) (ops : Array Oper) : List Oper → List D → Hp → (List D → Hp → Prop) → Prop
  | [], ts, H, K => K ts H
  | o :: rest, ts, H, K => match wantD ops ts o with
    | some b => if b = true then cStep P E o.op (ev E.g ts) H fun d H' => cseq P E ops rest (putO ts o.dst d) H' K
      else cseq P E ops rest (putO ts o.dst (.tup [])) H K
    | none => False
/-- An operation of a region that draws, among the first: it leaves the memory as it is, or makes a variable that is seen behind these. -/
def cAny (P : Program) (E : Env) (ops : Array Oper) (k : Nat) (op : Op) (dst : Option Nat) (α : Operand → D) (H : Hp) (pd : Pend) (K : D → Pend → Prop) : Prop :=
  match op with
  | .alloc ty' => match dst with
    | some t => soleAt ops k t = true ∧ 0 < (zcells P ty').length ∧ K .und (pd ++ [(k, t, zcells P ty')])
    | none => False
  | _ => cPure P E op α H fun d => K d pd
def caq (P : Program) (E : Env) (ops : Array Oper) : Nat → Nat → List Oper → List D → Hp → Pend → (List D → Hp → Prop) → Prop
  | 0, _, l, ts, H, pd, K => cseq P E ops l (fillT ts H.length pd) (H ++ fillH pd) K
  | _ + 1, _, [], ts, H, pd, K => K (fillT ts H.length pd) (H ++ fillH pd)
  | m + 1, k, o :: rest, ts, H, pd, K => match wantD ops ts o with
    | some b => if b = true then cAny P E ops k o.op o.dst (ev E.g ts) H pd fun d pd' => caq P E ops m (k + 1) rest (putO ts o.dst d) H pd' K
      else caq P E ops m (k + 1) rest (putO ts o.dst (.tup [])) H pd K
    | none => False
def cwp (P : Program) (E : Env) (cx : Cx) : Code → Post → List D → Hp → Prop
  | .skip, Q, ts, H => Q .normal ts H
  | .region _ ops false, Q, ts, H => cseq P E ops ops.toList ts H (Q .normal)
  | .region _ ops true, Q, ts, H => ∃ m, regOk ops m = true ∧ caq P E ops m 0 ops.toList ts H [] (Q .normal)
  | .seq a b, Q, ts, H => cwp P E cx a (Post.then (cwp P E cx b Q) Q) ts H
  | .cond c x y, Q, ts, H => match ev E.g ts c with
    | .bool b => if b = true then cwp P E cx x Q ts H else cwp P E cx y Q ts H
    | _ => False
  | .block id c, Q, ts, H => cwp P E cx c (Post.block id Q) ts H
  | .loop c, Q, ts, H => ∃ n, loopN cx.m0 (awp P E cx c) Q n ts H
  | .exit id, Q, ts, H => Q (.exit id) ts H
  | .ret, Q, ts, H => Q .ret ts H
  | .scope c, Q, ts, H => cwp P E cx c (Post.scope Q) ts H
  | .label _, Q, ts, H => Q .normal ts H
  | .rangeFunc g ps asg body, Q, ts, H => RngOk P E cx.rd g ps.toList asg body Q ts H
  | _, _, _, _ => False

theorem callee_call {op : Op} {α : Operand → D} {H : Hp} {g : FuncId} {args : List D} (h : callee P op α = some (g, args)) : aop P op α H = none := by
  unfold callee at h
  split at h
  · rfl
  · rfl
  · cases h

theorem cStep_sound (hm : P.follows .mixedOrders = true) {o : Oper} {α : Operand → D} {H : Hp} {R : D → Hp → Prop} (h : cStep P E o.op α H R) : Step P E o α H R := by
  unfold cStep at h
  split at h
  · rename_i g args hc
    exact step_does hc h
  · split at h
    · rename_i i args hy
      exact step_yield hm hy h
    · split at h
      · rename_i d H' ha
        exact (step_aop ha).mono fun d' H'' hh => by obtain ⟨rfl, rfl⟩ := hh; exact h
      · exact h.elim

theorem cseq_sound (hm : P.follows .mixedOrders = true) {ops : Array Oper} {K : List D → Hp → Prop} : ∀ (l : List Oper) (ts : List D) (H : Hp), cseq P E ops l ts H K → aseq P E ops l ts H K
  | [], ts, H, h => h
  | o :: rest, ts, H, h => by
    simp only [cseq] at h
    simp only [aseq]
    split at h
    · rename_i b hw
      rw [hw]
      cases b
      · exact cseq_sound hm rest _ _ h
      · exact (cStep_sound hm h).mono fun d H' hh => cseq_sound hm rest _ _ hh
    · exact h.elim

theorem cPure_sound {o : Oper} {α : Operand → D} {H : Hp} {R : D → Prop} (h : cPure P E o.op α H R) : ∃ d, Step P E o α H (fun d' H' => d' = d ∧ H' = H) ∧ R d := by
  unfold cPure at h
  split at h
  · rename_i g args hc
    obtain ⟨r, hd, hr⟩ := h
    exact ⟨r, step_pdoes hc hd, hr⟩
  · split at h
    · rename_i hk
      split at h
      · rename_i d H' ha
        have := keeps_spec hk ha
        subst this
        exact ⟨d, step_aop ha, h⟩
      · exact h.elim
    · split at h
      · rename_i d H' ha
        obtain ⟨rfl, h⟩ := h
        exact ⟨d, step_aop ha, h⟩
      · exact h.elim

theorem caq_sound (hm : P.follows .mixedOrders = true) {ops : Array Oper} {K : List D → Hp → Prop} : ∀ (m k : Nat) (l : List Oper) (ts : List D) (H : Hp) (pd : Pend), caq P E ops m k l ts H pd K → aq P E ops m k l ts H pd K
  | 0, k, l, ts, H, pd, h => cseq_sound hm l _ _ h
  | m + 1, k, [], ts, H, pd, h => h
  | m + 1, k, o :: rest, ts, H, pd, h => by
    simp only [caq] at h
    simp only [aq]
    split at h
    · rename_i b hw
      rw [hw]
      cases b
      · exact caq_sound hm m _ rest _ _ _ h
      · rw [if_pos rfl] at h
        unfold cAny at h
        split at h
        · rename_i ty' ho
          split at h
          · rename_i t hd
            obtain ⟨h1, h2, h3⟩ := h
            exact .inr ⟨t, ty', ho, hd, h2, h1, caq_sound hm m _ rest _ _ _ h3⟩
          · exact h.elim
        · obtain ⟨d, h1, h2⟩ := cPure_sound h
          exact .inl ⟨d, h1, caq_sound hm m _ rest _ _ _ h2⟩
    · exact h.elim

theorem cwp_sound {cx : Cx} (hm : P.follows .mixedOrders = true) : ∀ (c : Code) (Q : Post) (ts : List D) (H : Hp), cwp P E cx c Q ts H → awp P E cx c Q ts H
  | .skip, Q, ts, H, h => h
  | .region _ ops false, Q, ts, H, h => cseq_sound hm _ _ _ h
  | .region _ ops true, Q, ts, H, h => let ⟨m, h1, h2⟩ := h; ⟨m, h1, caq_sound hm _ _ _ _ _ _ h2⟩
  | .seq a b, Q, ts, H, h => awp_mono a (fun e ts H he => by
      cases e <;> first | exact cwp_sound hm b Q _ _ he | exact he) ts H (cwp_sound hm a _ ts H h)
  | .cond c x y, Q, ts, H, h => by
    simp only [cwp] at h
    split at h
    · rename_i b hb
      refine ⟨b, hb, ?_⟩
      cases b
      · exact cwp_sound hm y Q ts H h
      · exact cwp_sound hm x Q ts H h
    · exact h.elim
  | .block id c, Q, ts, H, h => cwp_sound hm c _ ts H h
  | .loop c, Q, ts, H, h => h
  | .exit id, Q, ts, H, h => h
  | .ret, Q, ts, H, h => h
  | .rangeFunc .., Q, ts, H, h => h
  | .scope c, Q, ts, H, h => cwp_sound hm c _ ts H h
  | .label _, Q, ts, H, h => h
  | .goto _, Q, ts, H, h => h.elim
  | .refuse _, Q, ts, H, h => h.elim

/-- A contract out of the body, on the memory of the caller. -/
theorem fun_by {f : FuncId} {fn : Func} {c : Code} {args : List D} {H : Hp} {R : D → Hp → Prop} (hm : P.follows .mixedOrders = true) (hf : P.funcs[f]? = some fn) (hc : fn.body = some c)
    (h : cwp P E ⟨none, H.length⟩ c (FinF P fn.results.toList R) (args ++ undL (fn.ntmps - args.length)) H) : Fun P E f args H R := fun_of hm hf hc (cwp_sound hm _ _ _ _ h)

/-- A contract of closed data, out of the body. -/
theorem pden_by {f : FuncId} {fn : Func} {c : Code} {args : List D} {r : D} (hm : P.follows .mixedOrders = true) (hf : P.funcs[f]? = some fn) (hc : fn.body = some c) (ha : D.closedL args = true) (hr : r.closed = true)
    (h : cwp P E ⟨none, 0⟩ c (FinF P fn.results.toList fun r' _ => r' = r) (args ++ undL (fn.ntmps - args.length)) []) : PDen P E f args r := ⟨ha, hr, (fun_by hm hf hc h).den⟩

theorem loopN_le {cx : Cx} {c : Code} {Q : Post} : ∀ {n m : Nat} {ts : List D} {H : Hp}, n ≤ m → loopN cx.m0 (awp P E cx c) Q n ts H → loopN cx.m0 (awp P E cx c) Q m ts H
  | 0, _, _, _, _, h => h.elim
  | n + 1, 0, _, _, hle, _ => by omega
  | n + 1, m + 1, ts, H, hle, h => by
    obtain ⟨ts', H', hn, h⟩ := h
    exact ⟨ts', H', hn, awp_mono c (fun e ts H he => by cases e <;> first | exact loopN_le (by omega) he | exact he) ts' H' h⟩

/-- A loop, by what holds ahead of each round, behind what is forgotten: the number falls. -/
theorem loop_norm {cx : Cx} (hm : P.follows .mixedOrders = true) {c : Code} {Q : Post} (I : Nat → List D → Hp → Prop) (step : ∀ m ts H, I m ts H → ∃ ts' H', Norm cx.m0 ts H ts' H' ∧ cwp P E cx c (Post.then (fun ts' H' => ∃ m', m' < m ∧ I m' ts' H') Q) ts' H') {ts : List D} {H : Hp} (m : Nat) (hI : I m ts H) : ∃ n, loopN cx.m0 (awp P E cx c) Q n ts H := by
  refine ⟨m + 1, ?_⟩
  induction m using Nat.strongRecOn generalizing ts H with
  | _ m ih =>
    obtain ⟨ts', H', hn, hs⟩ := step m ts H hI
    refine ⟨ts', H', hn, awp_mono c (fun e ts H he => ?_) ts' H' (cwp_sound hm c _ ts' H' hs)⟩
    cases e <;> first
      | (obtain ⟨m', hlt, hI'⟩ := he
         exact loopN_le (by omega) (ih m' hlt hI'))
      | exact he
/-- A loop, by what holds ahead of each round: the number falls. -/
theorem loop_rule {cx : Cx} (hm : P.follows .mixedOrders = true) {c : Code} {Q : Post} (I : Nat → List D → Hp → Prop) (step : ∀ m ts H, I m ts H → cwp P E cx c (Post.then (fun ts' H' => ∃ m', m' < m ∧ I m' ts' H') Q) ts H) {ts : List D} {H : Hp} (m : Nat) (hI : I m ts H) : ∃ n, loopN cx.m0 (awp P E cx c) Q n ts H :=
  loop_norm hm I (fun m ts H h => ⟨ts, H, .refl _ _ _, step m ts H h⟩) m hI

/- ### For 'simp': from the outside in -/
def kont (P : Program) (E : Env) (cx : Cx) (b : Code) (Q : Post) : Post := Post.then (cwp P E cx b Q) Q
theorem kont_normal {cx : Cx} {b : Code} {Q : Post} {ts : List D} {H : Hp} : kont P E cx b Q .normal ts H = cwp P E cx b Q ts H := rfl
theorem kont_exit {cx : Cx} {b : Code} {Q : Post} {i : Nat} {ts : List D} {H : Hp} : kont P E cx b Q (.exit i) ts H = Q (.exit i) ts H := rfl
theorem kont_ret {cx : Cx} {b : Code} {Q : Post} {ts : List D} {H : Hp} : kont P E cx b Q .ret ts H = Q .ret ts H := rfl
theorem cwp_skip {cx : Cx} {Q : Post} {ts : List D} {H : Hp} : cwp P E cx .skip Q ts H = Q .normal ts H := rfl
theorem cwp_region {cx : Cx} {id : Nat} {ops : Array Oper} {Q : Post} {ts : List D} {H : Hp} : cwp P E cx (.region id ops false) Q ts H = cseq P E ops ops.toList ts H (Q .normal) := rfl
theorem cwp_drawn {cx : Cx} {id : Nat} {ops : Array Oper} {Q : Post} {ts : List D} {H : Hp} : cwp P E cx (.region id ops true) Q ts H = ∃ m, regOk ops m = true ∧ caq P E ops m 0 ops.toList ts H [] (Q .normal) := rfl
theorem cwp_seq {cx : Cx} {a b : Code} {Q : Post} {ts : List D} {H : Hp} : cwp P E cx (.seq a b) Q ts H = cwp P E cx a (kont P E cx b Q) ts H := rfl
theorem cwp_cond {cx : Cx} {c : Operand} {x y : Code} {Q : Post} {ts : List D} {H : Hp} : cwp P E cx (.cond c x y) Q ts H = match ev E.g ts c with
    | .bool b => if b = true then cwp P E cx x Q ts H else cwp P E cx y Q ts H
    | _ => False := rfl
theorem cwp_block {cx : Cx} {id : Nat} {c : Code} {Q : Post} {ts : List D} {H : Hp} : cwp P E cx (.block id c) Q ts H = cwp P E cx c (Post.block id Q) ts H := rfl
theorem cwp_loop {cx : Cx} {c : Code} {Q : Post} {ts : List D} {H : Hp} : cwp P E cx (.loop c) Q ts H = ∃ n, loopN cx.m0 (awp P E cx c) Q n ts H := rfl
theorem cwp_exit {cx : Cx} {id : Nat} {Q : Post} {ts : List D} {H : Hp} : cwp P E cx (.exit id) Q ts H = Q (.exit id) ts H := rfl
theorem cwp_scope {cx : Cx} {c : Code} {Q : Post} {ts : List D} {H : Hp} : cwp P E cx (.scope c) Q ts H = cwp P E cx c (Post.scope Q) ts H := rfl
theorem cwp_label {cx : Cx} {l : Nat} {Q : Post} {ts : List D} {H : Hp} : cwp P E cx (.label l) Q ts H = Q .normal ts H := rfl
theorem scope_normal {Q : Post} {ts : List D} {H : Hp} : Post.scope Q .normal ts H = Q .normal ts H := rfl
theorem scope_ret {Q : Post} {ts : List D} {H : Hp} : Post.scope Q .ret ts H = Q .ret ts H := rfl
theorem scope_exit {Q : Post} {i : Nat} {ts : List D} {H : Hp} : Post.scope Q (.exit i) ts H = Q (.exit i) ts H := rfl
theorem cwp_ret {cx : Cx} {Q : Post} {ts : List D} {H : Hp} : cwp P E cx .ret Q ts H = Q .ret ts H := rfl
theorem block_normal {i : Nat} {Q : Post} {ts : List D} {H : Hp} : Post.block i Q .normal ts H = Q .normal ts H := rfl
theorem block_ret {i : Nat} {Q : Post} {ts : List D} {H : Hp} : Post.block i Q .ret ts H = Q .ret ts H := rfl
theorem block_exit {i j : Nat} {Q : Post} {ts : List D} {H : Hp} : Post.block i Q (.exit j) ts H = if j = i then Q .normal ts H else Q (.exit j) ts H := rfl
theorem then_normal {K : List D → Hp → Prop} {Q : Post} {ts : List D} {H : Hp} : Post.then K Q .normal ts H = K ts H := rfl
theorem then_ret {K : List D → Hp → Prop} {Q : Post} {ts : List D} {H : Hp} : Post.then K Q .ret ts H = Q .ret ts H := rfl
theorem then_exit {K : List D → Hp → Prop} {Q : Post} {i : Nat} {ts : List D} {H : Hp} : Post.then K Q (.exit i) ts H = Q (.exit i) ts H := rfl
theorem finF_normal {rs : List ResultVar} {R : D → Hp → Prop} {ts : List D} {H : Hp} : FinF P rs R .normal ts H = ∃ d, resD P ts H rs = some d ∧ R d H := rfl
theorem finF_ret {rs : List ResultVar} {R : D → Hp → Prop} {ts : List D} {H : Hp} : FinF P rs R .ret ts H = ∃ d, resD P ts H rs = some d ∧ R d H := rfl
theorem cseq_nil {ops : Array Oper} {ts : List D} {H : Hp} {K : List D → Hp → Prop} : cseq P E ops [] ts H K = K ts H := rfl
def seqK (P : Program) (E : Env) (ops : Array Oper) (rest : List Oper) (ts : List D) (dst : Option Nat) (K : List D → Hp → Prop) (d : D) (H : Hp) : Prop := cseq P E ops rest (putO ts dst d) H K
theorem seqK_go {ops : Array Oper} {rest : List Oper} {ts : List D} {dst : Option Nat} {H : Hp} {d : D} {K : List D → Hp → Prop} : seqK P E ops rest ts dst K d H = cseq P E ops rest (putO ts dst d) H K := rfl
def anyK (P : Program) (E : Env) (ops : Array Oper) (m k : Nat) (rest : List Oper) (ts : List D) (dst : Option Nat) (H : Hp) (K : List D → Hp → Prop) (d : D) (pd : Pend) : Prop := caq P E ops m k rest (putO ts dst d) H pd K
theorem anyK_go {ops : Array Oper} {m k : Nat} {rest : List Oper} {ts : List D} {dst : Option Nat} {H : Hp} {d : D} {pd : Pend} {K : List D → Hp → Prop} : anyK P E ops m k rest ts dst H K d pd = caq P E ops m k rest (putO ts dst d) H pd K := rfl
/-- Behind an operation that made nothing. -/
def anyP (K : D → Pend → Prop) (pd : Pend) (d : D) : Prop := K d pd
theorem anyP_go {K : D → Pend → Prop} {pd : Pend} {d : D} : anyP K pd d = K d pd := rfl
theorem cAny_eq {ops : Array Oper} {k : Nat} {op : Op} {dst : Option Nat} {α : Operand → D} {H : Hp} {pd : Pend} {K : D → Pend → Prop} : cAny P E ops k op dst α H pd K = match op with
  | .alloc ty' => match dst with
    | some t => soleAt ops k t = true ∧ 0 < (zcells P ty').length ∧ K .und (pd ++ [(k, t, zcells P ty')])
    | none => False
  | op => cPure P E op α H (anyP K pd) := by cases op <;> rfl
theorem cseq_cons {ops : Array Oper} {o : Oper} {rest : List Oper} {ts : List D} {H : Hp} {K : List D → Hp → Prop} : cseq P E ops (o :: rest) ts H K = match wantD ops ts o with
    | some b => if b = true then cStep P E o.op (ev E.g ts) H (seqK P E ops rest ts o.dst K)
      else cseq P E ops rest (putO ts o.dst (.tup [])) H K
    | none => False := rfl
theorem cseq_free {ops : Array Oper} {dst : Option Nat} {op : Op} {t : TypeId} {pos : String} {after : Array Edge} {rest : List Oper} {ts : List D} {H : Hp} {K : List D → Hp → Prop} : cseq P E ops ({ dst := dst, op := op, type := t, pos := pos, after := after, guard := none } :: rest) ts H K = cStep P E op (ev E.g ts) H (seqK P E ops rest ts dst K) := rfl
theorem caq_zero {ops : Array Oper} {k : Nat} {l : List Oper} {ts : List D} {H : Hp} {pd : Pend} {K : List D → Hp → Prop} : caq P E ops 0 k l ts H pd K = cseq P E ops l (fillT ts H.length pd) (H ++ fillH pd) K := by cases l <;> rfl
theorem caq_nil {ops : Array Oper} {m k : Nat} {ts : List D} {H : Hp} {pd : Pend} {K : List D → Hp → Prop} : caq P E ops (m + 1) k [] ts H pd K = K (fillT ts H.length pd) (H ++ fillH pd) := rfl
theorem caq_cons {ops : Array Oper} {m k : Nat} {o : Oper} {rest : List Oper} {ts : List D} {H : Hp} {pd : Pend} {K : List D → Hp → Prop} : caq P E ops (m + 1) k (o :: rest) ts H pd K = match wantD ops ts o with
    | some b => if b = true then cAny P E ops k o.op o.dst (ev E.g ts) H pd (anyK P E ops m (k + 1) rest ts o.dst H K)
      else caq P E ops m (k + 1) rest (putO ts o.dst (.tup [])) H pd K
    | none => False := rfl
theorem cStep_eq {op : Op} {α : Operand → D} {H : Hp} {R : D → Hp → Prop} : cStep P E op α H R = match callee P op α with
  | some (g, args) => Does P E g args H R
  | none => match yieldOf op α with
    | some (i, args) => YDoes P E i args H R
    | none => match aop P op α H with
      | some (d, H') => R d H'
      | none => False := rfl
theorem cStep_move {x : Operand} {α : Operand → D} {H : Hp} {R : D → Hp → Prop} : cStep P E (.move x) α H R = R (α x) H := rfl
theorem cStep_assign {x : Operand} {α : Operand → D} {H : Hp} {R : D → Hp → Prop} : cStep P E (.assign x) α H R = R (α x) H := rfl
theorem cPure_eq {op : Op} {α : Operand → D} {H : Hp} {R : D → Prop} : cPure P E op α H R = match callee P op α with
  | some (g, args) => ∃ r, PDoes P E g args H r ∧ R r
  | none => if keeps op = true then match aop P op α H with
      | some (d, _) => R d
      | none => False
    else match aop P op α H with
      | some (d, H') => H' = H ∧ R d
      | none => False := rfl
end
end Go.Lv

namespace Go.Lv
open Go
set_option linter.unusedVariables false
section
variable {P : Program} {E : Env} {w0 : World} {M0 : Nat → Prop} {hI h : Gh} {ρ : Rn} {H : Hp} {w : World}

theorem Sim.grows : ∀ (l : List Obj) {h : Gh} {w : World}, Sim w0 M0 hI h ρ H w → ∃ h', GLe h h' ∧ Sim w0 M0 hI h' ρ H (Sort.grow w l.toArray)
  | [], h, w, hS => ⟨h, .refl _, by simpa using hS⟩
  | o :: l, h, w, hS => by
    obtain ⟨h1, s1⟩ := hS.pushImm o
    obtain ⟨h', h2, s2⟩ := Sim.grows l s1
    refine ⟨h', h1.trans h2, ?_⟩
    rw [Sort.alloc_eq_grow, Sort.grow_grow] at s2
    simpa using s2

theorem Sim.drewN (hS : Sim w0 M0 hI h ρ H w) : ∀ k, Sim w0 M0 hI h ρ H (w.drewN k)
  | 0 => hS
  | k + 1 => (Sim.drewN hS k).drew

/-- A function of closed data, that leaves nothing but new memory. -/
theorem pden_lib {f : FuncId} {args : List D} {r : D} (ha : D.closedL args = true) (hr : r.closed = true)
    (hc : ∀ (h : Gh) (w : World) (vs : Array Value), GLe E.h0 h → GLe h (fun b => w.heap[b]?) → vs.size = args.length → AllRel h (fun _ _ => none) args vs → Calls P f vs w fun e w' => ∃ v k os, e = .returned v ∧ w' = Sort.grow (w.drewN k) os ∧ RelV h (fun _ _ => none) r v) : PDen P E f args r := by
  refine ⟨ha, hr, fun h ρ w vs M hb hS hsz hrel => ?_⟩
  refine (hc h w vs hb hS.imm hsz (fun j d hj => by
    obtain ⟨v, h1, h2⟩ := hrel j d hj
    exact ⟨v, h1, h2.closed (closedL_get ha hj)⟩)).mono fun e w' hh => ?_
  obtain ⟨v, k, os, rfl, rfl, rv⟩ := hh
  obtain ⟨h', g1, s1⟩ := Sim.grows os.toList (hS.drewN k)
  exact ⟨v, r, [], h', ρ, rfl, rfl, g1, .refl _, by simpa using s1, rv.mono g1 (fun i n x e => by cases e)⟩

/-- A table that is laid. -/
def Tab (h : Gh) (g : Nat) (k : IntKind) (zs : List Int) : Prop := ∃ T fz, h g = some (.cells (zs.map fun z => Value.int k z).toArray T fz)
theorem Tab.is {h : Gh} {g : Nat} {k : IntKind} {zs : List Int} {name : String} (ht : Tab h g k zs) (hg : P.globalNamed name = some g) (hi : GLe h (fun b => w.heap[b]?)) : Lib.TabIs P w name k zs := by
  obtain ⟨T, fz, e⟩ := ht
  have := hi _ _ e
  simp only at this
  simp [Lib.TabIs, World.var?, hg, this]
theorem Tab.mono {h h' : Gh} {g : Nat} {k : IntKind} {zs : List Int} (ht : Tab h g k zs) (hl : GLe h h') : Tab h' g k zs := by
  obtain ⟨T, fz, e⟩ := ht
  exact ⟨T, fz, hl _ _ e⟩
end
end Go.Lv

namespace Go.Lv
open Go
set_option linter.unusedVariables false
section
variable {P : Program}

theorem Sim.start {h : Gh} {w : World} (hi : GLe h (fun b => w.heap[b]?)) : Sim w (fun _ => False) h h (fun _ _ => none) [] w where
  os := rfl
  tape := rfl
  output := rfl
  size := Nat.le_refl _
  imm := hi
  blk := fun i => by simp [hget, RelB]
  own := fun i b x hl => by simp [hget, Blk.live] at hl
  inj := fun i j b x y _ hl => by simp [hget, Blk.live] at hl
  dom := fun i n x hx => by cases hx
  ver := fun i sz ag ds hd => by simp [hget] at hd
  keep := fun b _ _ => rfl
  frame := fun b _ _ => rfl

theorem Sim.below {M0 : Nat → Prop} {hI h : Gh} {ρ : Rn} {H : Hp} {w w' : World} (hS : Sim w (fun _ => False) hI h ρ H w') : RowKit.Below w.heap.size w w' :=
  ⟨hS.os, hS.tape, hS.output, hS.size, fun k hk => hS.frame k hk (fun f => f)⟩

/-- The memory as it is when a call begins: all of it is written no more. -/
noncomputable def envOf (W : World) : Env where
  h0 := fun b => W.heap[b]?
  g := fun _ => .und
  ok := fun _ => .und _

theorem law_calls {f : FuncId} {args : List D} {b : Bool} {W : World} {vs : Array Value} (hd : PDen P (envOf W) f args (.bool b)) (hsz : vs.size = args.length) (hrel : AllRel (envOf W).h0 (fun _ _ => none) args vs) :
    Calls P f vs W fun e w' => e = .returned (.bool b) ∧ RowKit.Below W.heap.size W w' := by
  refine (hd.den _ _ W vs (fun _ => False) (.refl _) (Sim.start (.refl _)) hsz hrel).mono fun e w' hh => ?_
  obtain ⟨v, r, S', h', ρ', rfl, rfl, h1, h2, h3, h4⟩ := hh
  cases h4
  exact ⟨rfl, h3.below (M0 := fun _ => False)⟩

theorem tab_of {W : World} {name : String} {g : Nat} {k : IntKind} {zs : List Int} (h : Lib.TabIs P W name k zs) (hg : P.globalNamed name = some g) : Tab (envOf W).h0 g k zs := by
  unfold Lib.TabIs World.var? at h
  rw [hg, Option.bind_some] at h
  split at h
  · rename_i cs t fz hh
    cases h
    exact ⟨t, fz, hh⟩
  · cases h
end
end Go.Lv
