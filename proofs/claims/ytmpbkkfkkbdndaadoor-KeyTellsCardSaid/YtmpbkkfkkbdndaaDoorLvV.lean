/- LvV: code over data, as a text that 'simp' works out. -/
import Derived.Test.YtmpbkkfkkbdndaaDoorLvU
namespace Go.Lv
open Go
set_option linter.unusedVariables false
set_option linter.unusedSimpArgs false
section
variable {P : Program} {E : Env}

/-- An operation behind which R holds. -/
def cStep (P : Program) (E : Env) (op : Op) (α : Operand → D) (H : Hp) (R : D → Hp → Prop) : Prop :=
  match callee P op α with
  | some (g, args) => Does P E g args H R
  | none => match aop P op α H with
    | some (d, H') => R d H'
    | none => False
/-- One that leaves the memory as it is. -/
def cPure (P : Program) (E : Env) (op : Op) (α : Operand → D) (H : Hp) (R : D → Prop) : Prop :=
  match callee P op α with
  | some (g, args) => ∃ r, PDoes P E g args r ∧ R r
  | none => keeps op = true ∧ match aop P op α H with
    | some (d, _) => R d
    | none => False
def cseq (P : Program) (E : Env) (ops : Array Oper) : List Oper → List D → Hp → (List D → Hp → Prop) → Prop
  | [], ts, H, K => K ts H
  | o :: rest, ts, H, K => match wantD ops ts o with
    | some b => if b = true then cStep P E o.op (ev E.g ts) H fun d H' => cseq P E ops rest (putO ts o.dst d) H' K
      else cseq P E ops rest (putO ts o.dst (.tup [])) H K
    | none => False
def caq (P : Program) (E : Env) (ops : Array Oper) : Nat → List Oper → List D → Hp → (List D → Hp → Prop) → Prop
  | 0, l, ts, H, K => cseq P E ops l ts H K
  | _ + 1, [], ts, H, K => K ts H
  | m + 1, o :: rest, ts, H, K => match wantD ops ts o with
    | some b => if b = true then cPure P E o.op (ev E.g ts) H fun d => caq P E ops m rest (putO ts o.dst d) H K
      else caq P E ops m rest (putO ts o.dst (.tup [])) H K
    | none => False
def cwp (P : Program) (E : Env) : Code → Post → List D → Hp → Prop
  | .skip, Q, ts, H => Q .normal ts H
  | .region _ ops false, Q, ts, H => cseq P E ops ops.toList ts H (Q .normal)
  | .region _ ops true, Q, ts, H => ∃ m, regOk ops m = true ∧ caq P E ops m ops.toList ts H (Q .normal)
  | .seq a b, Q, ts, H => cwp P E a (Post.then (cwp P E b Q) Q) ts H
  | .cond c x y, Q, ts, H => match ev E.g ts c with
    | .bool b => if b = true then cwp P E x Q ts H else cwp P E y Q ts H
    | _ => False
  | .block id c, Q, ts, H => cwp P E c (Post.block id Q) ts H
  | .loop c, Q, ts, H => ∃ n, loopN (awp P E c) Q n ts H
  | .exit id, Q, ts, H => Q (.exit id) ts H
  | .ret, Q, ts, H => Q .ret ts H
  | _, _, _, _ => False

theorem callee_call {op : Op} {α : Operand → D} {H : Hp} {g : FuncId} {args : List D} (h : callee P op α = some (g, args)) : aop P op α H = none := by
  unfold callee at h
  split at h
  · rfl
  · rfl
  · cases h

theorem cStep_sound {o : Oper} {α : Operand → D} {H : Hp} {R : D → Hp → Prop} (h : cStep P E o.op α H R) : Step P E o α H R := by
  unfold cStep at h
  split at h
  · rename_i g args hc
    exact step_does hc h
  · split at h
    · rename_i d H' ha
      exact (step_aop ha).mono fun d' H'' hh => by obtain ⟨rfl, rfl⟩ := hh; exact h
    · exact h.elim

theorem cseq_sound {ops : Array Oper} {K : List D → Hp → Prop} : ∀ (l : List Oper) (ts : List D) (H : Hp), cseq P E ops l ts H K → aseq P E ops l ts H K
  | [], ts, H, h => h
  | o :: rest, ts, H, h => by
    simp only [cseq] at h
    simp only [aseq]
    split at h
    · rename_i b hw
      rw [hw]
      cases b
      · exact cseq_sound rest _ _ h
      · exact (cStep_sound h).mono fun d H' hh => cseq_sound rest _ _ hh
    · exact h.elim

theorem caq_sound {ops : Array Oper} {K : List D → Hp → Prop} : ∀ (m : Nat) (l : List Oper) (ts : List D) (H : Hp), caq P E ops m l ts H K → aq P E ops m l ts H K
  | 0, l, ts, H, h => cseq_sound l ts H h
  | m + 1, [], ts, H, h => h
  | m + 1, o :: rest, ts, H, h => by
    simp only [caq] at h
    simp only [aq]
    split at h
    · rename_i b hw
      rw [hw]
      cases b
      · exact caq_sound m rest _ _ h
      · rw [if_pos rfl] at h
        unfold cPure at h
        split at h
        · rename_i g args hc
          obtain ⟨r, hd, hr⟩ := h
          exact ⟨r, step_pdoes hc hd, caq_sound m rest _ _ hr⟩
        · obtain ⟨hk, h⟩ := h
          split at h
          · rename_i d H' ha
            have := keeps_spec hk ha
            subst this
            exact ⟨d, step_aop ha, caq_sound m rest _ _ h⟩
          · exact h.elim
    · exact h.elim

theorem cwp_sound : ∀ (c : Code) (Q : Post) (ts : List D) (H : Hp), cwp P E c Q ts H → awp P E c Q ts H
  | .skip, Q, ts, H, h => h
  | .region _ ops false, Q, ts, H, h => cseq_sound _ _ _ h
  | .region _ ops true, Q, ts, H, h => let ⟨m, h1, h2⟩ := h; ⟨m, h1, caq_sound _ _ _ _ h2⟩
  | .seq a b, Q, ts, H, h => awp_mono a (fun e ts H he => by
      cases e <;> first | exact cwp_sound b Q _ _ he | exact he) ts H (cwp_sound a _ ts H h)
  | .cond c x y, Q, ts, H, h => by
    simp only [cwp] at h
    split at h
    · rename_i b hb
      refine ⟨b, hb, ?_⟩
      cases b
      · exact cwp_sound y Q ts H h
      · exact cwp_sound x Q ts H h
    · exact h.elim
  | .block id c, Q, ts, H, h => cwp_sound c _ ts H h
  | .loop c, Q, ts, H, h => h
  | .exit id, Q, ts, H, h => h
  | .ret, Q, ts, H, h => h
  | .rangeFunc .., Q, ts, H, h => h.elim
  | .scope _, Q, ts, H, h => h.elim
  | .label _, Q, ts, H, h => h.elim
  | .goto _, Q, ts, H, h => h.elim
  | .refuse _, Q, ts, H, h => h.elim

/-- A contract out of the body, on the memory of the caller. -/
theorem fun_by {f : FuncId} {fn : Func} {c : Code} {args : List D} {H : Hp} {R : D → Hp → Prop} (hm : P.follows .mixedOrders = true) (hf : P.funcs[f]? = some fn) (hc : fn.body = some c)
    (h : cwp P E c (FinF P fn.results.toList R) (args ++ undL (fn.ntmps - args.length)) H) : Fun P E f args H R := fun_of hm hf hc (cwp_sound _ _ _ _ h)

/-- A contract of closed data, out of the body. -/
theorem pden_by {f : FuncId} {fn : Func} {c : Code} {args : List D} {r : D} (hm : P.follows .mixedOrders = true) (hf : P.funcs[f]? = some fn) (hc : fn.body = some c) (ha : D.closedL args = true) (hr : r.closed = true)
    (h : cwp P E c (FinF P fn.results.toList fun r' _ => r' = r) (args ++ undL (fn.ntmps - args.length)) []) : PDen P E f args r := ⟨ha, hr, (fun_by hm hf hc h).den⟩

theorem loopN_le {c : Code} {Q : Post} : ∀ {n m : Nat} {ts : List D} {H : Hp}, n ≤ m → loopN (awp P E c) Q n ts H → loopN (awp P E c) Q m ts H
  | 0, _, _, _, _, h => h.elim
  | n + 1, 0, _, _, hle, _ => by omega
  | n + 1, m + 1, ts, H, hle, h => awp_mono c (fun e ts H he => by cases e <;> first | exact loopN_le (by omega) he | exact he) ts H h

/-- A loop, by what holds ahead of each round: the number falls. -/
theorem loop_rule {c : Code} {Q : Post} (I : Nat → List D → Hp → Prop) (step : ∀ m ts H, I m ts H → cwp P E c (Post.then (fun ts' H' => ∃ m', m' < m ∧ I m' ts' H') Q) ts H) {ts : List D} {H : Hp} (m : Nat) (hI : I m ts H) : ∃ n, loopN (awp P E c) Q n ts H := by
  refine ⟨m + 1, ?_⟩
  induction m using Nat.strongRecOn generalizing ts H with
  | _ m ih =>
    refine awp_mono c (fun e ts H he => ?_) ts H (cwp_sound c _ ts H (step m ts H hI))
    cases e <;> first
      | (obtain ⟨m', hlt, hI'⟩ := he
         exact loopN_le (by omega) (ih m' hlt hI'))
      | exact he

/- ### For 'simp': from the outside in -/
def kont (P : Program) (E : Env) (b : Code) (Q : Post) : Post := Post.then (cwp P E b Q) Q
theorem kont_normal {b : Code} {Q : Post} {ts : List D} {H : Hp} : kont P E b Q .normal ts H = cwp P E b Q ts H := rfl
theorem kont_exit {b : Code} {Q : Post} {i : Nat} {ts : List D} {H : Hp} : kont P E b Q (.exit i) ts H = Q (.exit i) ts H := rfl
theorem kont_ret {b : Code} {Q : Post} {ts : List D} {H : Hp} : kont P E b Q .ret ts H = Q .ret ts H := rfl
theorem cwp_skip {Q : Post} {ts : List D} {H : Hp} : cwp P E .skip Q ts H = Q .normal ts H := rfl
theorem cwp_region {id : Nat} {ops : Array Oper} {Q : Post} {ts : List D} {H : Hp} : cwp P E (.region id ops false) Q ts H = cseq P E ops ops.toList ts H (Q .normal) := rfl
theorem cwp_drawn {id : Nat} {ops : Array Oper} {Q : Post} {ts : List D} {H : Hp} : cwp P E (.region id ops true) Q ts H = ∃ m, regOk ops m = true ∧ caq P E ops m ops.toList ts H (Q .normal) := rfl
theorem cwp_seq {a b : Code} {Q : Post} {ts : List D} {H : Hp} : cwp P E (.seq a b) Q ts H = cwp P E a (kont P E b Q) ts H := rfl
theorem cwp_cond {c : Operand} {x y : Code} {Q : Post} {ts : List D} {H : Hp} : cwp P E (.cond c x y) Q ts H = match ev E.g ts c with
    | .bool b => if b = true then cwp P E x Q ts H else cwp P E y Q ts H
    | _ => False := rfl
theorem cwp_block {id : Nat} {c : Code} {Q : Post} {ts : List D} {H : Hp} : cwp P E (.block id c) Q ts H = cwp P E c (Post.block id Q) ts H := rfl
theorem cwp_loop {c : Code} {Q : Post} {ts : List D} {H : Hp} : cwp P E (.loop c) Q ts H = ∃ n, loopN (awp P E c) Q n ts H := rfl
theorem cwp_exit {id : Nat} {Q : Post} {ts : List D} {H : Hp} : cwp P E (.exit id) Q ts H = Q (.exit id) ts H := rfl
theorem cwp_ret {Q : Post} {ts : List D} {H : Hp} : cwp P E .ret Q ts H = Q .ret ts H := rfl
theorem block_normal {i : Nat} {Q : Post} {ts : List D} {H : Hp} : Post.block i Q .normal ts H = Q .normal ts H := rfl
theorem block_ret {i : Nat} {Q : Post} {ts : List D} {H : Hp} : Post.block i Q .ret ts H = Q .ret ts H := rfl
theorem block_exit {i j : Nat} {Q : Post} {ts : List D} {H : Hp} : Post.block i Q (.exit j) ts H = if j = i then Q .normal ts H else Q (.exit j) ts H := rfl
theorem then_normal {K : List D → Hp → Prop} {Q : Post} {ts : List D} {H : Hp} : Post.then K Q .normal ts H = K ts H := rfl
theorem then_ret {K : List D → Hp → Prop} {Q : Post} {ts : List D} {H : Hp} : Post.then K Q .ret ts H = Q .ret ts H := rfl
theorem then_exit {K : List D → Hp → Prop} {Q : Post} {i : Nat} {ts : List D} {H : Hp} : Post.then K Q (.exit i) ts H = Q (.exit i) ts H := rfl
theorem finF_normal {rs : List ResultVar} {R : D → Hp → Prop} {ts : List D} {H : Hp} : FinF P rs R .normal ts H = ∃ d, resD P ts H rs = some d ∧ R d H := rfl
theorem finF_ret {rs : List ResultVar} {R : D → Hp → Prop} {ts : List D} {H : Hp} : FinF P rs R .ret ts H = ∃ d, resD P ts H rs = some d ∧ R d H := rfl
theorem cseq_nil {ops : Array Oper} {ts : List D} {H : Hp} {K : List D → Hp → Prop} : cseq P E ops [] ts H K = K ts H := rfl
def seqK (P : Program) (E : Env) (ops : Array Oper) (rest : List Oper) (ts : List D) (dst : Option Nat) (K : List D → Hp → Prop) (d : D) (H : Hp) : Prop := cseq P E ops rest (putO ts dst d) H K
theorem seqK_go {ops : Array Oper} {rest : List Oper} {ts : List D} {dst : Option Nat} {H : Hp} {d : D} {K : List D → Hp → Prop} : seqK P E ops rest ts dst K d H = cseq P E ops rest (putO ts dst d) H K := rfl
def anyK (P : Program) (E : Env) (ops : Array Oper) (m : Nat) (rest : List Oper) (ts : List D) (dst : Option Nat) (H : Hp) (K : List D → Hp → Prop) (d : D) : Prop := caq P E ops m rest (putO ts dst d) H K
theorem anyK_go {ops : Array Oper} {m : Nat} {rest : List Oper} {ts : List D} {dst : Option Nat} {H : Hp} {d : D} {K : List D → Hp → Prop} : anyK P E ops m rest ts dst H K d = caq P E ops m rest (putO ts dst d) H K := rfl
theorem cseq_cons {ops : Array Oper} {o : Oper} {rest : List Oper} {ts : List D} {H : Hp} {K : List D → Hp → Prop} : cseq P E ops (o :: rest) ts H K = match wantD ops ts o with
    | some b => if b = true then cStep P E o.op (ev E.g ts) H (seqK P E ops rest ts o.dst K)
      else cseq P E ops rest (putO ts o.dst (.tup [])) H K
    | none => False := rfl
theorem cseq_free {ops : Array Oper} {dst : Option Nat} {op : Op} {t : TypeId} {pos : String} {after : Array Edge} {rest : List Oper} {ts : List D} {H : Hp} {K : List D → Hp → Prop} : cseq P E ops ({ dst := dst, op := op, type := t, pos := pos, after := after, guard := none } :: rest) ts H K = cStep P E op (ev E.g ts) H (seqK P E ops rest ts dst K) := rfl
theorem caq_zero {ops : Array Oper} {l : List Oper} {ts : List D} {H : Hp} {K : List D → Hp → Prop} : caq P E ops 0 l ts H K = cseq P E ops l ts H K := by cases l <;> rfl
theorem caq_nil {ops : Array Oper} {m : Nat} {ts : List D} {H : Hp} {K : List D → Hp → Prop} : caq P E ops (m + 1) [] ts H K = K ts H := rfl
theorem caq_cons {ops : Array Oper} {m : Nat} {o : Oper} {rest : List Oper} {ts : List D} {H : Hp} {K : List D → Hp → Prop} : caq P E ops (m + 1) (o :: rest) ts H K = match wantD ops ts o with
    | some b => if b = true then cPure P E o.op (ev E.g ts) H (anyK P E ops m rest ts o.dst H K)
      else caq P E ops m rest (putO ts o.dst (.tup [])) H K
    | none => False := rfl
theorem cStep_eq {op : Op} {α : Operand → D} {H : Hp} {R : D → Hp → Prop} : cStep P E op α H R = match callee P op α with
  | some (g, args) => Does P E g args H R
  | none => match aop P op α H with
    | some (d, H') => R d H'
    | none => False := rfl
theorem cStep_move {x : Operand} {α : Operand → D} {H : Hp} {R : D → Hp → Prop} : cStep P E (.move x) α H R = R (α x) H := rfl
theorem cStep_assign {x : Operand} {α : Operand → D} {H : Hp} {R : D → Hp → Prop} : cStep P E (.assign x) α H R = R (α x) H := rfl
theorem cPure_eq {op : Op} {α : Operand → D} {H : Hp} {R : D → Prop} : cPure P E op α H R = match callee P op α with
  | some (g, args) => ∃ r, PDoes P E g args r ∧ R r
  | none => keeps op = true ∧ match aop P op α H with
    | some (d, _) => R d
    | none => False := rfl
end
end Go.Lv
