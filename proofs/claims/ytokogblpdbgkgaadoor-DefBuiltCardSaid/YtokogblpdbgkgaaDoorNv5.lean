/- LvQ: a region that draws its order: what comes up in whatever order comes to what it comes to in its own. -/
import Derived.Test.YtokogblpdbgkgaaDoorNv4
import Derived.Scope
import Derived.RangeFuncRecord
import Derived.RangeFuncNested
namespace Go.Lv
open Go
set_option linter.unusedVariables false
set_option linter.unusedSimpArgs false

/-- What each operation waits for, as bits. -/
def bfs : List Oper → List Nat → List Nat
  | [], acc => acc
  | o :: l, acc => bfs l (acc ++ [o.after.toList.foldl (fun s e => if Region.binds .any e then s ||| 2 ^ e.on ||| acc.getD e.on 0 else s) 0])
/-- j waits for i. -/
inductive Waits (ops : List Oper) : Nat → Nat → Prop
  | one (i j o e) (ho : ops[j]? = some o) (he : e ∈ o.after) (hb : Region.binds .any e = true) (hi : e.on = i) : Waits ops i j
  | more (i k j o e) (ho : ops[j]? = some o) (he : e ∈ o.after) (hb : Region.binds .any e = true) (hk : e.on = k) (h : Waits ops i k) : Waits ops i j

theorem testBit_fold (acc : List Nat) (i : Nat) : ∀ (l : List Edge) (s : Nat), (l.foldl (fun s e => if Region.binds .any e then s ||| 2 ^ e.on ||| acc.getD e.on 0 else s) s).testBit i = true →
    s.testBit i = true ∨ ∃ e ∈ l, Region.binds .any e = true ∧ (e.on = i ∨ (acc.getD e.on 0).testBit i = true)
  | [], s, h => .inl h
  | e :: l, s, h => by
    simp only [List.foldl_cons] at h
    rcases testBit_fold acc i l _ h with h | ⟨e', he, hb, h⟩
    · split at h
      · rename_i hb
        simp only [Nat.testBit_or, Nat.testBit_two_pow, Bool.or_eq_true, decide_eq_true_eq] at h
        rcases h with (h | h) | h
        · exact .inl h
        · exact .inr ⟨e, by simp, hb, .inl h⟩
        · exact .inr ⟨e, by simp, hb, .inr h⟩
      · exact .inl h
    · exact .inr ⟨e', by simp [he], hb, h⟩

theorem bfs_waits (ops : List Oper) : ∀ (l : List Oper) (acc : List Nat), ops.drop acc.length = l → (∀ (j i : Nat), (acc.getD j 0).testBit i = true → Waits ops i j) → ∀ (j i : Nat), ((bfs l acc).getD j 0).testBit i = true → Waits ops i j
  | [], acc, hd, hinv, j, i, h => hinv j i h
  | o :: l, acc, hd, hinv, j, i, h => by
    simp only [bfs] at h
    refine bfs_waits ops l _ ?_ ?_ j i h
    · rw [List.length_append, ← List.drop_drop, hd]
      rfl
    · intro j i h
      have ho : ops[acc.length]? = some o := by
        have : (ops.drop acc.length)[0]? = some o := by rw [hd]; rfl
        rw [List.getElem?_drop] at this
        simpa using this
      rw [List.getD_eq_getElem?_getD, List.getElem?_append] at h
      split at h
      · exact hinv j i (by rw [List.getD_eq_getElem?_getD]; exact h)
      · rename_i hge
        by_cases hj : j = acc.length
        · subst hj
          simp only [Nat.sub_self, List.getElem?_cons_zero, Option.getD_some] at h
          rcases testBit_fold acc i _ _ h with h | ⟨e, he, hb, h⟩
          · simp at h
          · rcases h with h | h
            · exact .one i _ o e ho (by simpa using he) hb h
            · exact .more i e.on _ o e ho (by simpa using he) hb rfl (hinv _ _ h)
        · have : j - acc.length ≠ 0 := by omega
          obtain ⟨k, hk⟩ : ∃ k, j - acc.length = k + 1 := ⟨j - acc.length - 1, by omega⟩
          rw [hk] at h
          simp at h

/-- A region that draws may be read in its own order: operations that don't wait for each other look at nothing that the other writes; from the m-th on each waits for all ahead of it. -/
def regOk (ops : Array Oper) (m : Nat) : Bool :=
  decide (m ≤ ops.size) && regOkL ops (bfs ops.toList []) m ops.toList 0
where
  regOkL (ops : Array Oper) (B : List Nat) (m : Nat) : List Oper → Nat → Bool
    | [], _ => true
    | oj :: l, j => (oj.after.toList.all fun e => !Region.binds .any e || decide (e.on < j)) && pairs ops B m oj j ops.toList 0 && regOkL ops B m l (j + 1)
  pairs (ops : Array Oper) (B : List Nat) (m : Nat) (oj : Oper) (j : Nat) : List Oper → Nat → Bool
    | [], _ => true
    | oi :: l, i => decide (j ≤ i) || (((B.getD j 0).testBit i || (decide (j < m) && oi.apart ops oj)) && pairs ops B m oj j l (i + 1))

theorem pairs_spec {ops : Array Oper} {B : List Nat} {m : Nat} {oj : Oper} {j : Nat} : ∀ (l : List Oper) (i : Nat), regOk.pairs ops B m oj j l i = true → ∀ (k : Nat) (o : Oper), l[k]? = some o → i + k < j → (B.getD j 0).testBit (i + k) = true ∨ (j < m ∧ o.apart ops oj = true)
  | [], i, h, k, o, hk, hlt => by simp at hk
  | oi :: l, i, h, k, o, hk, hlt => by
    simp only [regOk.pairs, Bool.or_eq_true, decide_eq_true_eq, Bool.and_eq_true] at h
    rcases h with h | ⟨h1, h2⟩
    · omega
    · cases k with
      | zero =>
        simp only [List.getElem?_cons_zero, Option.some.injEq] at hk
        subst hk
        exact h1
      | succ k =>
        have := pairs_spec l (i + 1) h2 k o (by simpa using hk) (by omega)
        rwa [show i + 1 + k = i + (k + 1) from by omega] at this

theorem regOkL_spec {ops : Array Oper} {B : List Nat} {m : Nat} : ∀ (l : List Oper) (j : Nat), regOk.regOkL ops B m l j = true → ∀ (k : Nat) (o : Oper), l[k]? = some o →
    (∀ e ∈ o.after, Region.binds .any e = true → e.on < j + k) ∧ regOk.pairs ops B m o (j + k) ops.toList 0 = true
  | [], j, h, k, o, hk => by simp at hk
  | oj :: l, j, h, k, o, hk => by
    simp only [regOk.regOkL, Bool.and_eq_true] at h
    obtain ⟨⟨h1, h2⟩, h3⟩ := h
    cases k with
    | zero =>
      simp only [List.getElem?_cons_zero, Option.some.injEq] at hk
      subst hk
      refine ⟨fun e he hb => ?_, h2⟩
      have := List.all_eq_true.1 h1 e (by simpa using he)
      simpa [hb] using this
    | succ k =>
      have := regOkL_spec l (j + 1) h3 k o (by simpa using hk)
      rwa [show j + 1 + k = j + (k + 1) from by omega] at this

/-- What regOk says. -/
theorem regOk_spec {ops : Array Oper} {m : Nat} (h : regOk ops m = true) : m ≤ ops.size ∧ (∀ (j : Nat) (o : Oper), ops[j]? = some o → ∀ e ∈ o.after, Region.binds .any e = true → e.on < j) ∧
    (∀ (i j : Nat) (oi oj : Oper), ops[i]? = some oi → ops[j]? = some oj → i < j → Waits ops.toList i j ∨ (j < m ∧ oi.apart ops oj = true)) := by
  simp only [regOk, Bool.and_eq_true, decide_eq_true_eq] at h
  obtain ⟨hm, h⟩ := h
  refine ⟨hm, fun j o ho e he hb => ?_, fun i j oi oj hi hj hij => ?_⟩
  · have := (regOkL_spec _ _ h j o (by simpa using ho)).1 e he hb
    omega
  · have hp := (regOkL_spec _ _ h j oj (by simpa using hj)).2
    rw [Nat.zero_add] at hp
    rcases pairs_spec _ _ hp i oi (by simpa using hi) (by omega) with h1 | h1
    · rw [Nat.zero_add] at h1
      exact .inl (bfs_waits ops.toList ops.toList [] (by simp) (fun j i h => by simp at h) j i h1)
    · exact .inr h1

theorem countP_set : ∀ (l : List Bool) (i : Nat), l[i]? = some false → (l.set i true).countP (! ·) + 1 = l.countP (! ·)
  | [], i, h => by simp at h
  | b :: l, 0, h => by
    simp at h
    subst h
    simp
  | b :: l, i + 1, h => by
    have := countP_set l i (by simpa using h)
    simp only [List.set_cons_succ, List.countP_cons]
    omega

section
variable {P : Program} {w0 : World} {M0 : Nat → Prop} {hI h1 h : Gh} {ρ0 ρ : Rn} {H : Hp} {w : World} {E : Env}

/-- A variable that was made, and that nobody looked at yet. -/
structure Flo (w0 : World) (h : Gh) (ρ : Rn) (H : Hp) (w : World) (b : Nat) (z : List D) : Prop where
  lies : ∃ cs e, w.heap[b]? = some (.cells cs e (0, 0)) ∧ cs.size = z.length ∧ Row h ρ cs 0 z
  none : h b = none
  new : w0.heap.size ≤ b
  free : ¬ Mine ρ H b
theorem Flo.step {w0 w w' : World} {h h' : Gh} {ρ ρ' : Rn} {H : Hp} {b : Nat} {z : List D} (hf : Flo w0 h ρ H w b z) (hC : Sim w (Mine ρ H) h h' ρ' H w') (hg : GLe h h') (hr : RLe ρ ρ') : Flo w0 h' ρ' H w' b z := by
  obtain ⟨cs, e, h1, h2, h3⟩ := hf.lies
  have hlt := (Array.getElem?_eq_some_iff.1 h1).1
  refine ⟨⟨cs, e, by rw [hC.frame b hlt hf.free]; exact h1, h2, h3.mono hg hr⟩, by rw [hC.keep b hlt hf.free]; exact hf.none, hf.new, ?_⟩
  rintro ⟨j, x, hl, hb⟩
  rcases hC.own j b x hl hb with h4 | h4
  · exact hf.free h4
  · omega
theorem Sim.adopt (hS : Sim w0 M0 hI h ρ H w) {b : Nat} {z : List D} (hf : Flo w0 h ρ H w b z) :
    RLe ρ (ρ.set H.length z.length (b, (z.length, 0))) ∧ Sim w0 M0 hI h (ρ.set H.length z.length (b, (z.length, 0))) (H ++ [.var z]) w := by
  obtain ⟨cs, e, c1, c2, c3⟩ := hf.lies
  have hfr : ∀ n, ρ H.length n = none := fun n => hS.fresh (Nat.le_refl _)
  have hle : RLe ρ (ρ.set H.length z.length (b, (z.length, 0))) := Rn.le_set (.inl (hfr _))
  refine ⟨hle, ?_⟩
  have hold : ∀ i n, i < H.length → (ρ.set H.length z.length (b, (z.length, 0))) i n = ρ i n := fun i n hi => Rn.set_ne _ _ (by omega)
  have hcase : ∀ i, (hget (H ++ [.var z]) i).live = true → (i < H.length ∧ hget (H ++ [.var z]) i = hget H i) ∨ (i = H.length ∧ hget (H ++ [.var z]) i = .var z) := by
    intro i hl
    rw [hget_app] at hl ⊢
    split
    · exact .inl ⟨by assumption, rfl⟩
    · rename_i h1
      rw [if_neg h1] at hl
      split
      · exact .inr ⟨by assumption, rfl⟩
      · rename_i h2; rw [if_neg h2] at hl; cases hl
  have hset : (ρ.set H.length z.length (b, (z.length, 0))) H.length (Blk.var z).n = some (b, (z.length, 0)) := Rn.set_same _ _ _ _
  exact {
    os := hS.os
    tape := hS.tape
    output := hS.output
    size := hS.size
    imm := hS.imm
    blk := by
      intro i
      rw [hget_app]
      split
      · exact (hS.blk i).mono (.refl _) hle fun b x hl hb hnone => ⟨rfl, hnone⟩
      · split
        · rename_i h1 h2
          subst h2
          exact ⟨b, z.length, 0, cs, e, (0, 0), hset, hf.none, c1, c2, rfl, c3.mono (.refl _) hle, fun j hj => by simp⟩
        · trivial
    own := by
      intro i b' y hl hy
      rcases hcase i hl with ⟨hi, he⟩ | ⟨hi, he⟩
      · rw [he] at hl hy
        rw [hold _ _ hi] at hy
        exact hS.own i b' y hl hy
      · subst hi
        rw [he, hset] at hy
        cases hy
        exact .inr hf.new
    inj := by
      intro i j b' y y' hij hi hj hy
      rcases hcase i hi with ⟨hi', he⟩ | ⟨hi', he⟩ <;> rcases hcase j hj with ⟨hj', he'⟩ | ⟨hj', he'⟩
      · rw [he] at hi hy
        rw [he'] at hj ⊢
        rw [hold _ _ hi'] at hy
        rw [hold _ _ hj']
        exact hS.inj i j b' y y' hij hi hj hy
      · rw [he] at hi hy
        rw [hold _ _ hi'] at hy
        subst hj'
        rw [he', hset]
        intro e
        cases e
        exact hf.free ⟨i, _, hi, hy⟩
      · subst hi'
        rw [he, hset] at hy
        cases hy
        rw [he'] at hj ⊢
        rw [hold _ _ hj']
        intro e
        exact hf.free ⟨j, _, hj, e⟩
      · omega
    dom := by
      intro i n y hy
      rw [List.length_append, List.length_singleton]
      by_cases hi : i = H.length
      · omega
      · rw [Rn.set_ne _ _ (.inl hi)] at hy
        have := hS.dom i n y hy
        omega
    ver := by
      intro i sz ag ds hd n y hy
      rw [hget_app] at hd
      split at hd
      · rename_i hi
        rw [hold _ _ hi] at hy
        exact hS.ver i sz ag ds hd n y hy
      · split at hd <;> cases hd
    keep := hS.keep
    frame := hS.frame }
theorem Flo.next {w0 w : World} {h : Gh} {ρ : Rn} {H : Hp} {b b' : Nat} {z z' : List D} (hS : Sim w0 M0 hI h ρ H w) (hf : Flo w0 h ρ H w b' z') (hne : b' ≠ b) : Flo w0 h (ρ.set H.length z.length (b, (z.length, 0))) (H ++ [.var z]) w b' z' := by
  obtain ⟨cs, e, c1, c2, c3⟩ := hf.lies
  have hle : RLe ρ (ρ.set H.length z.length (b, (z.length, 0))) := Rn.le_set (.inl (hS.fresh (Nat.le_refl _)))
  refine ⟨⟨cs, e, c1, c2, c3.mono (.refl _) hle⟩, hf.none, hf.new, ?_⟩
  rintro ⟨j, x, hl, hb⟩
  rw [hget_app] at hl hb
  split at hl
  · rename_i hj
    rw [if_pos hj, Rn.set_ne _ _ (.inl (by omega))] at hb
    exact hf.free ⟨j, x, hl, hb⟩
  · split at hl
    · rename_i h1 h2
      subst h2
      rw [if_neg h1, if_pos rfl] at hb
      have : (ρ.set H.length z.length (b, (z.length, 0))) H.length (Blk.var z).n = some (b, (z.length, 0)) := Rn.set_same _ _ _ _
      rw [this] at hb
      cases hb
      exact hne rfl
    · cases hl

theorem run_alloc2 {ty' : TypeId} (hz : 0 < (zcells P ty').length) (w : World) : ∃ cs : Array Value, (Instr.alloc ty' true (.tuple #[])).run P w = .ok (.pointer (some ⟨w.heap.size, 0, none⟩)) (w.alloc (.cells cs ty')) ∧ cs.size = (zcells P ty').length ∧ ∀ h ρ, Row h ρ cs 0 (zcells P ty') := by
  obtain ⟨i, zv, hi, hzv, rz⟩ := zcells_spec (h := fun _ => none) (ρ := fun _ _ => none) hz
  refine ⟨zv.cells, ?_, rz.1, fun h ρ => ?_⟩
  · simp only [Instr.alloc, Sem.run_bind, run_zero hi hzv, Result.andThen_ok, Go.newVar, newRow, run_newObj, Sem.run_pure, World.alloc_eq]
  · obtain ⟨i', zv', hi', hzv', rz'⟩ := zcells_spec (h := h) (ρ := ρ) hz
    rw [hi] at hi'
    cases hi'
    rw [hzv] at hzv'
    cases hzv'
    exact rz'.2

/-- No other operation writes here. -/
def soleAt (ops : Array Oper) (i t : Nat) : Bool := (List.range ops.size).all fun j => j == i || !((ops[j]?).bind (·.dst) == some t)
theorem sole_spec {ops : Array Oper} {i t j : Nat} {o : Oper} (hs : soleAt ops i t = true) (ho : ops[j]? = some o) (hd : o.dst = some t) : j = i := by
  unfold soleAt at hs
  have := List.all_eq_true.1 hs j (List.mem_range.2 (Array.getElem?_eq_some_iff.1 ho).1)
  rw [ho] at this
  simpa [hd] using this
abbrev Pend := List (Nat × Nat × List D)
def fillT : List D → Nat → Pend → List D
  | ts, _, [] => ts
  | ts, n, x :: l => fillT (put ts x.2.1 (.ptr n 0 x.2.2.length)) (n + 1) l
def fillH (l : Pend) : Hp := l.map fun x => .var x.2.2

/-- A region's operations, the first m of them in whatever order; variables that are made among these come to be seen behind them. -/
def aq (P : Program) (E : Env) (ops : Array Oper) : Nat → Nat → List Oper → List D → Hp → Pend → (List D → Hp → Prop) → Prop
  | 0, _, l, ts, H, pd, K => aseq P E ops l (fillT ts H.length pd) (H ++ fillH pd) K
  | _ + 1, _, [], ts, H, pd, K => K (fillT ts H.length pd) (H ++ fillH pd)
  | m + 1, k, o :: rest, ts, H, pd, K => match wantD ops ts o with
    | some true => (∃ d, Step P E o (ev E.g ts) H (fun d' H' => d' = d ∧ H' = H) ∧ aq P E ops m (k + 1) rest (putO ts o.dst d) H pd K) ∨
      (∃ t ty', o.op = .alloc ty' ∧ o.dst = some t ∧ 0 < (zcells P ty').length ∧ soleAt ops k t = true ∧ aq P E ops m (k + 1) rest (putO ts o.dst .und) H (pd ++ [(k, t, zcells P ty')]) K)
    | some false => aq P E ops m (k + 1) rest (putO ts o.dst (.tup [])) H pd K
    | none => False

/-- An operation of these makes a variable. -/
def Makes (P : Program) (ops : Array Oper) (T : Nat → List D) (dd : Nat → D) (x : Nat × Nat × List D) : Prop :=
  dd x.1 = .und ∧ ∃ o ty', ops[x.1]? = some o ∧ o.op = .alloc ty' ∧ o.dst = some x.2.1 ∧ zcells P ty' = x.2.2 ∧ 0 < x.2.2.length ∧ soleAt ops x.1 x.2.1 = true ∧ wantD ops (T x.1) o = some true
theorem alloc_forget {o : Oper} {α : Operand → D} {ty' : TypeId} (ho : o.op = .alloc ty') (hz : 0 < (zcells P ty').length) : Step P E o α H fun d' H' => d' = .und ∧ H' = H := by
  intro rd w0 M0 hI h ρ w a hbase hS hT next Q hk
  obtain ⟨cs, h1, _, _⟩ := run_alloc2 (P := P) hz w
  refine ⟨fun _ _ => trivial, ?_⟩
  have : (execOp a.eval o).run P w = .ok (.value (.pointer (some ⟨w.heap.size, 0, none⟩))) (w.alloc (.cells cs ty')) := by simp [execOp, ho, h1]
  rw [Oper.semAt_eq _ _ _ (fun c hc => by rw [ho] at hc; cases hc), this, Oper.uponIn_value]
  exact hk .und H _ _ h ρ ⟨rfl, rfl⟩ (.refl _) (.refl _) (hS.more rfl rfl rfl (by simp) fun b hb => alloc_old _ _ hb) (.und _)

/-- What the walk in the region's own order shows of its first m operations. -/
structure Lex (P : Program) (E : Env) (ops : Array Oper) (H : Hp) (k m : Nat) (T : Nat → List D) (dd : Nat → D) : Prop where
  step : ∀ i o, k ≤ i → i < m → ops[i]? = some o → T (i + 1) = putO (T i) o.dst (dd i) ∧
    ((wantD ops (T i) o = some true ∧ Step P E o (ev E.g (T i)) H fun d' H' => d' = dd i ∧ H' = H) ∨ (wantD ops (T i) o = some false ∧ dd i = .tup []))

theorem aq_lex {ops : Array Oper} {K : List D → Hp → Prop} : ∀ (n k : Nat) (ts : List D) (pd : Pend), k + n ≤ ops.size → aq P E ops n k (ops.toList.drop k) ts H pd K → (∀ x ∈ pd, x.1 < k) → pd.Pairwise (fun x y => x.1 < y.1) →
    ∃ T dd pd', T k = ts ∧ Lex P E ops H k (k + n) T dd ∧ (∀ x ∈ pd', x ∈ pd ∨ (k ≤ x.1 ∧ x.1 < k + n ∧ Makes P ops T dd x)) ∧ pd'.Pairwise (fun x y => x.1 < y.1) ∧ aseq P E ops (ops.toList.drop (k + n)) (fillT (T (k + n)) H.length pd') (H ++ fillH pd') K
  | 0, k, ts, pd, hle, hs, hp, hq => ⟨fun _ => ts, fun _ => .und, pd, rfl, ⟨fun i o h1 h2 => by omega⟩, fun x hx => .inl hx, hq, by simpa [aq] using hs⟩
  | n + 1, k, ts, pd, hle, hs, hp, hq => by
    have hlt : k < ops.toList.length := by simp; omega
    rw [List.drop_eq_getElem_cons hlt] at hs
    have hk : ops[k]? = some ops.toList[k] := by
      rw [← Array.getElem?_toList]
      exact List.getElem?_eq_getElem hlt
    simp only [aq] at hs
    have go : ∀ d pd1, (wantD ops ts ops.toList[k] = some true ∧ Step P E ops.toList[k] (ev E.g ts) H (fun d' H' => d' = d ∧ H' = H) ∨ wantD ops ts ops.toList[k] = some false ∧ d = .tup []) → aq P E ops n (k + 1) (ops.toList.drop (k + 1)) (putO ts ops.toList[k].dst d) H pd1 K →
        (∀ x ∈ pd1, x ∈ pd ∨ (x.1 = k ∧ ∀ (T : Nat → List D) (dd : Nat → D), T k = ts → dd k = d → Makes P ops T dd x)) → (∀ x ∈ pd1, x.1 < k + 1) → pd1.Pairwise (fun x y => x.1 < y.1) →
        ∃ T dd pd', T k = ts ∧ Lex P E ops H k (k + (n + 1)) T dd ∧ (∀ x ∈ pd', x ∈ pd ∨ (k ≤ x.1 ∧ x.1 < k + (n + 1) ∧ Makes P ops T dd x)) ∧ pd'.Pairwise (fun x y => x.1 < y.1) ∧ aseq P E ops (ops.toList.drop (k + (n + 1))) (fillT (T (k + (n + 1))) H.length pd') (H ++ fillH pd') K := by
      intro d pd1 hd hrest hm1 hl1 hw1
      obtain ⟨T, dd, pd', e1, hl, hmk, hpw, e2⟩ := aq_lex n (k + 1) _ pd1 (by omega) hrest hl1 hw1
      refine ⟨fun i => if i = k then ts else T i, fun i => if i = k then d else dd i, pd', by simp, ⟨fun i o h1 h2 ho => ?_⟩, fun x hx => ?_, hpw, ?_⟩
      · by_cases hik : i = k
        · subst hik
          rw [hk] at ho
          cases ho
          simp only [if_true]
          rw [if_neg (by omega)]
          exact ⟨e1, hd⟩
        · have := hl.step i o (by omega) (by omega) ho
          simp only [if_neg hik]
          rw [if_neg (by omega)]
          exact this
      · rcases hmk x hx with hx1 | ⟨hx1, hx2, hx3⟩
        · rcases hm1 x hx1 with hx2 | ⟨hx2, hx3⟩
          · exact .inl hx2
          · exact .inr ⟨by omega, by omega, hx3 _ _ (by simp) (by simp)⟩
        · refine .inr ⟨by omega, by omega, ?_⟩
          obtain ⟨a0, o, ty', a1, a2, a3, a4, a5, a6, a7⟩ := hx3
          exact ⟨by simp only; rw [if_neg (by omega)]; exact a0, o, ty', a1, a2, a3, a4, a5, a6, by simp only; rw [if_neg (by omega)]; exact a7⟩
      · simp only
        rw [if_neg (by omega), show k + (n + 1) = k + 1 + n from by omega]
        exact e2
    split at hs
    · rename_i hw
      rcases hs with ⟨d, h1, h2⟩ | ⟨t, ty', h1, h2, h3, h4, h5⟩
      · exact go d pd (.inl ⟨hw, h1⟩) h2 (fun x hx => .inl hx) (fun x hx => by have := hp x hx; omega) hq
      · refine go .und _ (.inl ⟨hw, alloc_forget h1 h3⟩) h5 (fun x hx => ?_) (fun x hx => ?_) ?_
        · rcases List.mem_append.1 hx with hx | hx
          · exact .inl hx
          · rw [List.mem_singleton] at hx
            subst hx
            exact .inr ⟨rfl, fun T dd hT hd => ⟨hd, _, ty', hk, h1, h2, rfl, h3, h4, by rw [hT]; exact hw⟩⟩
        · rcases List.mem_append.1 hx with hx | hx
          · have := hp x hx; omega
          · rw [List.mem_singleton] at hx
            subst hx
            simp
        · rw [List.pairwise_append]
          exact ⟨hq, List.pairwise_singleton _ _, fun x hx y hy => by
            rw [List.mem_singleton] at hy
            subst hy
            exact hp x hx⟩
    · rename_i hw
      exact go _ pd (.inr ⟨hw, rfl⟩) hs (fun x hx => .inl hx) (fun x hx => by have := hp x hx; omega) hq
    · exact hs.elim

/-- What a temporary holds once the operations of X have come up. -/
def Last (ops : Array Oper) (X : Nat → Prop) (dd : Nat → D) (ts0 : List D) (t : Nat) (d : D) : Prop :=
  (∃ i o, X i ∧ ops[i]? = some o ∧ o.dst = some t ∧ (∀ j o', X j → ops[j]? = some o' → o'.dst = some t → j ≤ i) ∧ d = if t < ts0.length then dd i else nth ts0 t) ∨
  ((∀ j o', X j → ops[j]? = some o' → o'.dst ≠ some t) ∧ d = nth ts0 t)

theorem lex_len {ops : Array Oper} {m : Nat} {T : Nat → List D} {dd : Nat → D} (hm : m ≤ ops.size) (hl : Lex P E ops H 0 m T dd) : ∀ i, i ≤ m → (T i).length = (T 0).length
  | 0, _ => rfl
  | i + 1, hi => by
    have hlt : i < ops.size := by omega
    have := (hl.step i ops[i] (by omega) (by omega) (by simp [hlt])).1
    rw [this, putO_len]
    exact lex_len hm hl i (by omega)

theorem lex_last {ops : Array Oper} {m : Nat} {T : Nat → List D} {dd : Nat → D} (hm : m ≤ ops.size) (hl : Lex P E ops H 0 m T dd) (t : Nat) : ∀ i, i ≤ m → Last ops (· < i) dd (T 0) t (nth (T i) t)
  | 0, _ => .inr ⟨fun j o' h => by omega, rfl⟩
  | i + 1, hi => by
    have hlt : i < ops.size := by omega
    have ho : ops[i]? = some ops[i] := by simp [hlt]
    have hs := (hl.step i ops[i] (by omega) (by omega) ho).1
    have ih := lex_last hm hl t i (by omega)
    have hlen := lex_len hm hl i (by omega)
    rw [hs]
    by_cases hd : ops[i].dst = some t
    · refine .inl ⟨i, ops[i], by omega, ho, hd, fun j o' hj _ _ => by omega, ?_⟩
      simp only [hd, putO, nth_put, true_and, hlen]
      split
      · rfl
      · rename_i hge
        rw [nth_get, nth_get, List.getElem?_eq_none (by omega), List.getElem?_eq_none (by omega)]
    · have hn : nth (putO (T i) ops[i].dst (dd i)) t = nth (T i) t := by
        cases hdd : ops[i].dst with
        | none => rfl
        | some t' =>
          simp only [putO, nth_put]
          rw [if_neg (fun h => hd (by rw [hdd, h.1]))]
      rw [hn]
      rcases ih with ⟨j, o, hj, hoj, hdj, hmax, hv⟩ | ⟨hno, hv⟩
      · refine .inl ⟨j, o, by omega, hoj, hdj, fun j' o' hj' ho' hd' => ?_, hv⟩
        by_cases e : j' = i
        · subst e
          rw [ho] at ho'
          cases ho'
          exact absurd hd' hd
        · exact hmax j' o' (by omega) ho' hd'
      · refine .inr ⟨fun j' o' hj' ho' hd' => ?_, hv⟩
        by_cases e : j' = i
        · subst e
          rw [ho] at ho'
          cases ho'
          exact hd hd'
        · exact hno j' o' (by omega) ho' hd'

theorem want_spec' {ops : Array Oper} {ts : List D} {a : Act} {o : Oper} {b : Bool} (r : ∀ t ∈ o.looksAt ops, RelV h ρ (nth ts t) (a.tmps.getD t undef)) (e : wantD ops ts o = some b) : Region.wanted o (yielded ops a.tmps) = b := by
  unfold wantD at e
  unfold Region.wanted
  split at e
  · rename_i hg
    cases e
    simp only [hg]
  · rename_i j want hg
    split at e
    · rename_i t ht
      split at e
      · rename_i c hc
        cases e
        have hr := r t (by simp [Oper.looksAt, hg, ht])
        rw [hc] at hr
        have hv : a.tmps[t]? = some (.bool c) := by
          rw [Array.getD_eq_getD_getElem?] at hr
          cases hx : a.tmps[t]? with
          | none => rw [hx] at hr; simp only [Option.getD_none, undef] at hr; cases hr
          | some v => rw [hx] at hr; simp only [Option.getD_some] at hr; cases hr; rfl
        simp only [hg, yielded, ht, Option.bind_some, hv]
        cases c <;> cases want <;> rfl
      · rename_i hc
        cases e
        have hr := r t (by simp [Oper.looksAt, hg, ht])
        rw [hc] at hr
        have hv := tup_nil hr
        rw [Array.getD_eq_getD_getElem?] at hv
        simp only [hg, yielded, ht, Option.bind_some]
        cases hx : a.tmps[t]? with
        | none => rfl
        | some v =>
          rw [hx, Option.getD_some] at hv
          subst hv
          rfl
      · cases e
    · cases e
end
end Go.Lv

namespace Go.Lv
open Go
set_option linter.unusedVariables false
set_option linter.unusedSimpArgs false
section
variable {P : Program} {w0 : World} {M0 : Nat → Prop} {hI h1 h : Gh} {ρ0 ρ : Rn} {H : Hp} {w : World} {E : Env} {ops : Array Oper} {m : Nat}

theorem mem_rdy {listed : Array Bool} {i : Nat} : i ∈ Region.ready .any ops listed ↔ i < ops.size ∧ listed.getD i true = false ∧ ∃ o, ops[i]? = some o ∧ ∀ e ∈ o.after, Region.binds .any e = true → listed.getD e.on false = true := by
  simp only [Region.ready, List.mem_filter, List.mem_range, Bool.and_eq_true, Bool.not_eq_true']
  constructor
  · rintro ⟨h1, h2, h3⟩
    refine ⟨h1, h2, ops[i], by simp [h1], fun e he hb => ?_⟩
    simp only [h1, getElem?_pos, Option.map_some, Option.getD_some, Array.all_eq_true_iff_forall_mem, Bool.or_eq_true, Bool.not_eq_true'] at h3
    rcases h3 e he with h | h
    · rw [hb] at h; cases h
    · exact h
  · rintro ⟨h1, h2, o, ho, h3⟩
    refine ⟨h1, h2, ?_⟩
    simp only [ho, Option.map_some, Option.getD_some, Array.all_eq_true_iff_forall_mem, Bool.or_eq_true, Bool.not_eq_true']
    intro e he
    cases hb : Region.binds .any e
    · exact .inl rfl
    · exact .inr (h3 e he hb)

theorem getD_true {listed : Array Bool} {i : Nat} (hi : i < listed.size) : listed.getD i true = listed.getD i false := by
  simp [Array.getD, hi]

theorem cnt_all {listed : Array Bool} (hc : listed.toList.countP (! ·) = 0) {i : Nat} (hi : i < listed.size) : listed.getD i false = true := by
  have : ∀ b ∈ listed.toList, ¬ ((! b) = true) := List.countP_eq_zero.1 hc
  have hm' : listed[i] ∈ listed.toList := by simp
  have := this _ hm'
  simp only [Array.getD, hi, dite_true]
  simpa using this
theorem cnt_some {listed : Array Bool} {n : Nat} (hc : listed.toList.countP (! ·) = n + 1) : ∃ i, i < listed.size ∧ listed.getD i false = false := by
  have : 0 < listed.toList.countP (! ·) := by omega
  obtain ⟨b, hb, hf⟩ := List.countP_pos_iff.1 this
  obtain ⟨i, hi, he⟩ := List.getElem_of_mem hb
  refine ⟨i, by simpa using hi, ?_⟩
  have hi' : i < listed.size := by simpa using hi
  have : listed[i]? = some b := by simpa [hi'] using he
  rw [Array.getD_eq_getD_getElem?, this]
  simpa using hf
theorem cnt_set {listed : Array Bool} {n i : Nat} (hc : listed.toList.countP (! ·) = n + 1) (hi : i < listed.size) (hf : listed.getD i true = false) : (listed.setIfInBounds i true).toList.countP (! ·) = n := by
  have h1 : listed.toList[i]? = some false := by
    simp only [Array.getD, hi, dite_true] at hf
    simp [hi]
    exact hf
  have := countP_set _ _ h1
  rw [Array.toList_setIfInBounds]
  omega
theorem getD_set {listed : Array Bool} {i j : Nat} (hi : i < listed.size) : (listed.setIfInBounds i true).getD j false = true ↔ j = i ∨ listed.getD j false = true := by
  rw [Array.getD_eq_getD_getElem?, Array.getElem?_setIfInBounds]
  by_cases e : i = j
  · subst e
    simp [hi]
  · rw [if_neg e, ← Array.getD_eq_getD_getElem?]
    constructor
    · exact .inr
    · rintro (h | h)
      · exact absurd h.symm e
      · exact h

theorem any_tail {rd : Option Nat} {K : List D → Hp → Prop} {Q : Exit → Act → World → Prop} (hb : GLe E.h0 h1) (hreg : regOk ops m = true) (hK : ∀ ts H a w, K ts H → St w0 M0 hI h1 ρ0 ts H a w → Q .normal a w) :
    ∀ (fuel k : Nat) (listed : Array Bool) (ts : List D) (H : Hp) (a : Act) (w : World), listed.toList.countP (! ·) = fuel → k ≤ ops.size → m ≤ k → listed.size = ops.size → (∀ i, listed.getD i false = true ↔ i < k) →
      aseq P E ops (ops.toList.drop k) ts H K → St w0 M0 hI h1 ρ0 ts H a w → wpAnyIn (fen rd) 0 P .any ops Q fuel listed a w
  | 0, k, listed, ts, H, a, w, hn, hkn, hm, hsz, hl, hs, hst => by
    have hk : k = ops.size := by
      rcases Nat.lt_or_ge k ops.size with h | h
      · have := (hl k).1 (cnt_all hn (by omega))
        omega
      · omega
    subst hk
    refine ⟨?_, ?_⟩
    · refine List.eq_nil_iff_forall_not_mem.2 fun i hi => ?_
      obtain ⟨h1, h2, _⟩ := mem_rdy.1 hi
      rw [getD_true (by omega), (hl i).2 h1] at h2
      cases h2
    · rw [List.drop_of_length_le (by simp)] at hs
      exact hK ts H a w hs hst
  | fuel + 1, k, listed, ts, H, a, w, hn, hkn, hm, hsz, hl, hs, hst => by
    obtain ⟨hmn, hedge, hpair⟩ := regOk_spec hreg
    have hlt : k < ops.size := by
      obtain ⟨i, hi, hf⟩ := cnt_some hn
      rcases Nat.lt_or_ge k ops.size with h | h
      · exact h
      · rw [(hl i).2 (by omega)] at hf
        cases hf
    have hko : ops[k]? = some ops[k] := by simp [hlt]
    have hkr : k ∈ Region.ready .any ops listed := by
      refine mem_rdy.2 ⟨hlt, ?_, ops[k], hko, fun e he hbe => (hl _).2 (hedge k _ hko e he hbe)⟩
      rw [getD_true (by omega)]
      cases hh : listed.getD k false with
      | false => rfl
      | true => have := (hl k).1 hh; omega
    refine ⟨fun h => (by rw [h] at hkr; cases hkr), fun i hi => ?_⟩
    obtain ⟨hi1, hi2, oi, hoi, hie⟩ := mem_rdy.1 hi
    have hik : i = k := by
      rcases Nat.lt_trichotomy i k with h | h | h
      · have := (hl i).2 h
        rw [getD_true (by omega)] at hi2
        rw [hi2] at this
        cases this
      · exact h
      · -- it waits for k, which isn't there yet
        have closed : ∀ p q, Waits ops.toList p q → (∀ o, ops[q]? = some o → ∀ e ∈ o.after, Region.binds .any e = true → e.on < k) → p < k := by
          intro p q hw
          induction hw with
          | one j o e ho he hbe hon =>
            intro hh
            have := hh o (by simpa using ho) e he hbe
            omega
          | more k' j o e ho he hbe hon h ih =>
            intro hh
            have h1 := hh o (by simpa using ho) e he hbe
            exact ih fun o' ho' e' he' hbe' => by
              have := hedge k' o' ho' e' he' hbe'
              omega
        rcases hpair k i _ _ hko hoi h with hw | ⟨hw, _⟩
        · have := closed k i hw fun o ho e he hbe => by
            rw [hoi] at ho
            cases ho
            exact (hl _).1 (hie e he hbe)
          omega
        · omega
    subst hik
    rw [hko] at hoi
    cases hoi
    obtain ⟨h, ρ, hg, hρ, hS, hF, hdef⟩ := hst
    rw [List.drop_eq_getElem_cons (by simpa using hlt)] at hs
    have hl' : ∀ j, (listed.setIfInBounds i true).getD j false = true ↔ j < i + 1 := by
      intro j
      rw [getD_set (by omega), hl j]
      omega
    have next := fun ts H a w => any_tail (rd := rd) hb hreg hK fuel (i + 1) (listed.setIfInBounds i true) ts H a w (cnt_set hn (by omega) hi2) (by omega) (by omega) (by simp [hsz]) hl'
    simp only [aseq] at hs
    unfold wpOpIn
    simp only [hko]
    have hoe : ops.toList[i] = ops[i] := by simp
    rw [hoe] at hs
    split at hs
    · rename_i hw
      rw [want_spec hF hw, if_pos rfl]
      refine hs rd w (Mine ρ H) h h ρ w a (hb.trans hg) hS.inside (fun x _ => hF.ev (hb.trans hg) x) _ Q fun d H' v w' h' ρ' hr g1 r1 hS' hv => ?_
      exact next _ H' _ w' hr ⟨h', ρ', hg.trans g1, hρ.trans r1, hS.outside hS', (hF.mono g1 r1).put hv _, by rw [put_defers]; exact hdef.step hS'⟩
    · rename_i hw
      rw [want_spec hF hw]
      simp only [Bool.false_eq_true, if_false]
      refine ⟨fun _ _ => trivial, ?_⟩
      exact next _ H _ w hs ⟨h, ρ, hg, hρ, hS, hF.put rel_undef _, by rw [put_defers]; exact hdef⟩
    · exact hs.elim

theorem relF_upd {ts : List D} {a : Act} {t : Nat} {d : D} (r : RelF h ρ ts a) (hv : t < ts.length → RelV h ρ d (a.tmps.getD t undef)) : RelF h ρ (put ts t d) a := by
  refine ⟨by rw [put_len]; exact r.1, fun i => ?_⟩
  rw [nth_put]
  split
  · rename_i hc
    obtain ⟨rfl, hlt⟩ := hc
    exact hv hlt
  · exact r.2 i

/-- What was made comes to be seen. -/
theorem adopt_all {B : Nat → Nat} : ∀ (l : Pend) {ρ : Rn} {H : Hp} {ts : List D} {a : Act}, Sim w0 M0 hI h ρ H w → RelF h ρ ts a → (∀ x ∈ l, (x.2.1 < ts.length → a.tmps.getD x.2.1 undef = .pointer (some ⟨B x.1, 0, none⟩)) ∧ Flo w0 h ρ H w (B x.1) x.2.2) → l.Pairwise (fun x y => B x.1 ≠ B y.1) →
    ∃ ρ', RLe ρ ρ' ∧ Sim w0 M0 hI h ρ' (H ++ fillH l) w ∧ RelF h ρ' (fillT ts H.length l) a
  | [], ρ, H, ts, a, hS, hF, hx, hp => ⟨ρ, .refl _, by simpa [fillH] using hS, hF⟩
  | x :: l, ρ, H, ts, a, hS, hF, hx, hp => by
    obtain ⟨h1, h2⟩ := hx x (by simp)
    rw [List.pairwise_cons] at hp
    obtain ⟨k1, k2⟩ := hS.adopt h2
    have hF2 := relF_upd (hF.mono (.refl _) k1) (t := x.2.1) (d := .ptr H.length 0 x.2.2.length) fun hlt => by
      rw [h1 hlt]
      exact .ptr _ _ _ _ _ _ (Rn.set_same _ _ _ _)
    obtain ⟨ρ', g1, g2, g3⟩ := adopt_all l k2 hF2 (fun y hy => by
      obtain ⟨m1, m2⟩ := hx y (by simp [hy])
      exact ⟨by rw [put_len]; exact m1, Flo.next hS m2 (fun e => hp.1 y hy e.symm)⟩) hp.2
    refine ⟨ρ', k1.trans g1, ?_, ?_⟩
    · simpa [fillH] using g2
    · simpa [fillT] using g3

/-- The state while the first operations come up, in some order. -/
structure Mid (w0 : World) (M0 : Nat → Prop) (hI h1 : Gh) (ρ0 : Rn) (ops : Array Oper) (H : Hp) (T0 : List D) (dd : Nat → D) (pd : Pend) (listed : Array Bool) (a : Act) (w : World) : Prop where
  st : ∃ h ρ, GLe h1 h ∧ RLe ρ0 ρ ∧ Sim w0 M0 hI h ρ H w ∧ Marks w0 h ρ H w a.defers ∧ a.tmps.size = T0.length ∧ (∀ t, ∃ d, Last ops (fun i => listed.getD i false = true) dd T0 t d ∧ RelV h ρ d (a.tmps.getD t undef)) ∧
    ∃ B : Nat → Nat, (∀ x ∈ pd, listed.getD x.1 false = true → (x.2.1 < T0.length → a.tmps.getD x.2.1 undef = .pointer (some ⟨B x.1, 0, none⟩)) ∧ Flo w0 h ρ H w (B x.1) x.2.2) ∧
      ∀ x ∈ pd, ∀ y ∈ pd, listed.getD x.1 false = true → listed.getD y.1 false = true → x.1 ≠ y.1 → B x.1 ≠ B y.1

theorem last_uniq {X X' : Nat → Prop} {dd : Nat → D} {T0 : List D} {t : Nat} {d d' : D} (hX : ∀ i, X i ↔ X' i) (h1 : Last ops X dd T0 t d) (h2 : Last ops X' dd T0 t d') : d = d' := by
  rcases h1 with ⟨i, o, hi, ho, hd, hmax, hv⟩ | ⟨hno, hv⟩ <;> rcases h2 with ⟨i', o', hi', ho', hd', hmax', hv'⟩ | ⟨hno', hv'⟩
  · have e1 := hmax i' o' ((hX i').2 hi') ho' hd'
    have e2 := hmax' i o ((hX i).1 hi) ho hd
    have : i = i' := by omega
    subst this
    rw [hv, hv']
  · exact absurd hd (hno' i o ((hX i).1 hi) ho)
  · exact absurd hd' (hno i' o' ((hX i').2 hi') ho')
  · rw [hv, hv']

theorem any_head {rd : Option Nat} {K : List D → Hp → Prop} {Q : Exit → Act → World → Prop} {T : Nat → List D} {dd : Nat → D} (hb : GLe E.h0 h1) (hreg : regOk ops m = true) {pd : Pend} (hlex : Lex P E ops H 0 m T dd) (hmk : ∀ x ∈ pd, x.1 < m ∧ Makes P ops T dd x) (hpw : pd.Pairwise fun x y => x.1 < y.1) (htail : aseq P E ops (ops.toList.drop m) (fillT (T m) H.length pd) (H ++ fillH pd) K)
    (hK : ∀ ts H a w, K ts H → St w0 M0 hI h1 ρ0 ts H a w → Q .normal a w) :
    ∀ (fuel : Nat) (listed : Array Bool) (a : Act) (w : World), listed.toList.countP (! ·) = fuel → listed.size = ops.size → (∀ i, m ≤ i → listed.getD i false = false) →
      (∀ i j, listed.getD j false = true → Waits ops.toList i j → listed.getD i false = true) → Mid w0 M0 hI h1 ρ0 ops H (T 0) dd pd listed a w → wpAnyIn (fen rd) 0 P .any ops Q fuel listed a w := by
  obtain ⟨hmn, hedge, hpair⟩ := regOk_spec hreg
  -- when the first m are all there
  have hfin : ∀ (fuel : Nat) (listed : Array Bool) (a : Act) (w : World), listed.toList.countP (! ·) = fuel → listed.size = ops.size → (∀ i, listed.getD i false = true ↔ i < m) → Mid w0 M0 hI h1 ρ0 ops H (T 0) dd pd listed a w → wpAnyIn (fen rd) 0 P .any ops Q fuel listed a w := by
    intro fuel listed a w hcnt hsz hl hmid
    obtain ⟨h, ρ, hg, hρ, hS, hdef, hts, hlast, B, hB1, hB2⟩ := hmid.st
    have hF : RelF h ρ (T m) a := ⟨by rw [lex_len hmn hlex m (Nat.le_refl _), hts], fun t => by
      obtain ⟨d, h1, h2⟩ := hlast t
      rw [last_uniq (fun i => (hl i).symm) (lex_last hmn hlex t m (Nat.le_refl _)) h1]
      exact h2⟩
    have hll : ∀ x ∈ pd, listed.getD x.1 false = true := fun x hx => (hl x.1).2 (hmk x hx).1
    obtain ⟨ρ', k1, k2, k3⟩ := adopt_all (B := B) pd hS hF (fun x hx => by
      obtain ⟨m1, m2⟩ := hB1 x hx (hll x hx)
      exact ⟨by rw [lex_len hmn hlex m (Nat.le_refl _)]; exact m1, m2⟩) (hpw.imp_of_mem fun {x y} hx hy hxy => hB2 x hx y hy (hll x hx) (hll y hy) (by omega))
    exact any_tail hb hreg hK fuel m listed _ _ a w hcnt hmn (Nat.le_refl _) hsz hl htail ⟨h, ρ', hg, hρ.trans k1, k2, k3, hdef.re k2⟩
  intro fuel
  induction fuel with
  | zero =>
    intro listed a w hcnt hsz hge hcl hmid
    have hmn' : m = ops.size := by
      rcases Nat.lt_or_ge m ops.size with h | h
      · have := cnt_all hcnt (i := m) (by omega)
        rw [hge m (Nat.le_refl _)] at this
        cases this
      · omega
    refine hfin 0 listed a w hcnt hsz (fun i => ⟨fun h => ?_, fun h => cnt_all hcnt (by omega)⟩) hmid
    rcases Nat.lt_or_ge i m with h' | h'
    · exact h'
    · rw [hge i h'] at h; cases h
  | succ fuel ih =>
    intro listed a w hcnt hsz hge hcl hmid
    by_cases hdone : ∀ i, i < m → listed.getD i false = true
    · refine hfin (fuel + 1) listed a w hcnt hsz (fun i => ⟨fun h => ?_, hdone i⟩) hmid
      rcases Nat.lt_or_ge i m with h' | h'
      · exact h'
      · rw [hge i h'] at h; cases h
    · -- one that isn't there, and waits for none
      have hex : ∃ i, i < m ∧ listed.getD i false = false ∧ ∀ j, j < i → listed.getD j false = true := by
        have : ∃ i, i < m ∧ listed.getD i false = false := by
          refine Classical.byContradiction fun hno => hdone fun i hi => ?_
          cases hh : listed.getD i false with
          | true => rfl
          | false => exact absurd ⟨i, hi, hh⟩ hno
        obtain ⟨i, h1, h2⟩ := this
        induction i using Nat.strongRecOn with
        | _ i ihi =>
          by_cases hall : ∀ j, j < i → listed.getD j false = true
          · exact ⟨i, h1, h2, hall⟩
          · obtain ⟨j, hj⟩ := Classical.not_forall.1 hall
            obtain ⟨hj1, hj2⟩ := Classical.not_imp.1 hj
            exact ihi j hj1 (by omega) (by simpa using hj2)
      obtain ⟨i0, hi0m, hi0f, hi0⟩ := hex
      have hi0lt : i0 < ops.size := by omega
      have hi0r : i0 ∈ Region.ready .any ops listed := mem_rdy.2 ⟨hi0lt, by rw [getD_true (by omega)]; exact hi0f, ops[i0], by simp [hi0lt], fun e he hbe => hi0 _ (hedge i0 ops[i0] (by simp [hi0lt]) e he hbe)⟩
      refine ⟨fun h => (by rw [h] at hi0r; cases hi0r), fun i hi => ?_⟩
      obtain ⟨hi1, hi2, oi, hoi, hie⟩ := mem_rdy.1 hi
      have hif : listed.getD i false = false := by rw [← getD_true (by omega)]; exact hi2
      -- what it waits for is there
      have hwait : ∀ p, Waits ops.toList p i → listed.getD p false = true := by
        intro p hw
        cases hw with
        | one j o e ho he hbe hon =>
          rw [show ops.toList[i]? = ops[i]? from by simp, hoi] at ho
          cases ho
          rw [← hon]
          exact hie e he hbe
        | more k j o e ho he hbe hon hw' =>
          rw [show ops.toList[i]? = ops[i]? from by simp, hoi] at ho
          cases ho
          have := hie e he hbe
          rw [hon] at this
          exact hcl _ _ this hw'
      have him : i < m := by
        rcases Nat.lt_or_ge i m with h | h
        · exact h
        · rcases hpair i0 i ops[i0] oi (by simp [hi0lt]) hoi (by omega) with hw | ⟨hw, _⟩
          · rw [hwait i0 hw] at hi0f; cases hi0f
          · omega
      obtain ⟨h, ρ, hg, hρ, hS, hdef, hts, hlast, B, hB1, hB2⟩ := hmid.st
      -- what it looks at is what it looks at in its own order
      have hlook : ∀ t ∈ oi.looksAt ops, RelV h ρ (nth (T i) t) (a.tmps.getD t undef) := by
        intro t ht
        obtain ⟨d, h1, h2⟩ := hlast t
        have hd : nth (T i) t = d := by
          rcases lex_last hmn hlex t i (by omega) with ⟨j, o, hj, hoj, hdj, hmax, hv⟩ | ⟨hno, hv⟩
          · have hjX : listed.getD j false = true := by
              rcases hpair j i o oi hoj hoi hj with hw | ⟨_, hap⟩
              · exact hwait j hw
              · exact absurd ht ((Oper.apart_spec hap).1 t hdj)
            rcases h1 with ⟨j', o', hj', hoj', hdj', hmax', hv'⟩ | ⟨hno', hv'⟩
            · have e1 : j ≤ j' := hmax' j o hjX hoj hdj
              have e2 : j' ≤ j := by
                rcases Nat.lt_trichotomy j' i with hh | hh | hh
                · exact hmax j' o' hh hoj' hdj'
                · subst hh; rw [hif] at hj'; cases hj'
                · rcases hpair i j' oi o' hoi hoj' hh with hw | ⟨_, hap⟩
                  · have := hcl i j' hj' hw
                    rw [hif] at this; cases this
                  · exact absurd ht ((Oper.apart_spec hap).2.2 t hdj')
              have : j = j' := by omega
              subst this
              rw [hv, hv']
            · exact absurd hdj (hno' j o hjX hoj)
          · rcases h1 with ⟨j', o', hj', hoj', hdj', hmax', hv'⟩ | ⟨hno', hv'⟩
            · rcases Nat.lt_trichotomy j' i with hh | hh | hh
              · exact absurd hdj' (hno j' o' hh hoj')
              · subst hh; rw [hif] at hj'; cases hj'
              · rcases hpair i j' oi o' hoi hoj' hh with hw | ⟨_, hap⟩
                · have := hcl i j' hj' hw
                  rw [hif] at this; cases this
                · exact absurd ht ((Oper.apart_spec hap).2.2 t hdj')
            · rw [hv, hv']
        rw [hd]
        exact h2
      have hop : ∀ x ∈ oi.op.operands.toList, RelV h ρ (ev E.g (T i) x) (a.eval x) := by
        intro x hx
        cases x with
        | tmp t => exact hlook t (by simp only [Oper.looksAt, List.mem_append, List.mem_filterMap]; exact .inl ⟨.tmp t, hx, rfl⟩)
        | const v => exact ofV_rel v
        | global g => exact (E.ok g).mono (hb.trans hg) (fun i n x e => by cases e)
        | func f => exact .fn _ _ _ _ _ (fun _ => undef) (fun _ => undef) rfl rfl (fun j hj => by simp at hj) (fun j hj => by simp at hj) (fun j d hj => by simp at hj) (fun j d hj => by simp at hj)
      -- behind it
      have next : ∀ (v : Value) (w' : World) (h' : Gh) (ρ' : Rn) (B' : Nat → Nat), GLe h h' → RLe ρ ρ' → Sim w0 M0 hI h' ρ' H w' → Marks w0 h' ρ' H w' a.defers → RelV h' ρ' (dd i) v →
          (∀ x ∈ pd, (x.1 = i ∨ listed.getD x.1 false = true) → (x.2.1 < (T 0).length → (a.put oi.dst v).tmps.getD x.2.1 undef = .pointer (some ⟨B' x.1, 0, none⟩)) ∧ Flo w0 h' ρ' H w' (B' x.1) x.2.2) →
          (∀ x ∈ pd, ∀ y ∈ pd, (x.1 = i ∨ listed.getD x.1 false = true) → (y.1 = i ∨ listed.getD y.1 false = true) → x.1 ≠ y.1 → B' x.1 ≠ B' y.1) → wpAnyIn (fen rd) 0 P .any ops Q fuel (listed.setIfInBounds i true) (a.put oi.dst v) w' := by
        intro v w' h' ρ' B' g1 r1 hS' hmk' hv hf1 hf2
        refine ih _ _ _ (cnt_set hcnt (by omega) hi2) (by simp [hsz]) (fun j hj => ?_) (fun p q hq hw => ?_) ⟨h', ρ', hg.trans g1, hρ.trans r1, hS', by rw [put_defers]; exact hmk', ?_, fun t => ?_, B', fun x hx hxl => hf1 x hx ((getD_set (by omega)).1 hxl), fun x hx y hy hxl hyl => hf2 x hx y hy ((getD_set (by omega)).1 hxl) ((getD_set (by omega)).1 hyl)⟩
        · cases hh : (listed.setIfInBounds i true).getD j false with
          | false => rfl
          | true =>
            rcases (getD_set (by omega)).1 hh with e | e
            · omega
            · rw [hge j hj] at e; cases e
        · rw [getD_set (by omega)] at hq ⊢
          rcases hq with rfl | hq
          · exact .inr (hwait p hw)
          · exact .inr (hcl p q hq hw)
        · cases oi.dst <;> simp [Act.put, hts]
        · obtain ⟨d, h1, h2⟩ := hlast t
          by_cases hdt : oi.dst = some t
          · refine ⟨if t < (T 0).length then dd i else nth (T 0) t, .inl ⟨i, oi, (getD_set (by omega)).2 (.inl rfl), hoi, hdt, fun j o' hj ho' hd' => ?_, rfl⟩, ?_⟩
            · rcases (getD_set (by omega)).1 hj with e | e
              · omega
              · rcases Nat.lt_or_ge i j with hh | hh
                · rcases hpair i j oi o' hoi ho' hh with hw | ⟨_, hap⟩
                  · have := hcl i j e hw
                    rw [hif] at this; cases this
                  · exact absurd hd' ((Oper.apart_spec hap).2.1 t hdt)
                · exact hh
            · simp only [hdt, Act.put]
              rw [Array.getD_eq_getD_getElem?, Array.getElem?_setIfInBounds]
              simp only [if_true]
              by_cases hlt : t < a.tmps.size
              · rw [if_pos hlt, if_pos (by rw [← hts]; exact hlt)]
                exact hv
              · rw [if_neg hlt, if_neg (by rw [← hts]; exact hlt), nth_get, List.getElem?_eq_none (by rw [← hts]; omega)]
                exact .und _
          · refine ⟨d, ?_, ?_⟩
            · rcases h1 with ⟨j, o, hj, hoj, hdj, hmax, hv'⟩ | ⟨hno, hv'⟩
              · refine .inl ⟨j, o, (getD_set (by omega)).2 (.inr hj), hoj, hdj, fun j' o' hj' ho' hd' => ?_, hv'⟩
                rcases (getD_set (by omega)).1 hj' with e | e
                · subst e
                  rw [hoi] at ho'
                  cases ho'
                  exact absurd hd' hdt
                · exact hmax j' o' e ho' hd'
              · refine .inr ⟨fun j' o' hj' ho' hd' => ?_, hv'⟩
                rcases (getD_set (by omega)).1 hj' with e | e
                · subst e
                  rw [hoi] at ho'
                  cases ho'
                  exact hdt hd'
                · exact hno j' o' e ho' hd'
            · have : (a.put oi.dst v).tmps.getD t undef = a.tmps.getD t undef := by
                cases hdd : oi.dst with
                | none => rfl
                | some t' =>
                  simp only [Act.put]
                  rw [Array.getD_eq_getD_getElem?, Array.getElem?_setIfInBounds_ne (fun e => hdt (by rw [hdd, e])), ← Array.getD_eq_getD_getElem?]
              rw [this]
              exact h2.mono g1 r1
      -- what was made stays as it is where another one comes up
      have others : ∀ (v : Value) (w' : World) (h' : Gh) (ρ' : Rn), (∀ x ∈ pd, x.1 ≠ i) → GLe h h' → RLe ρ ρ' → Sim w (Mine ρ H) h h' ρ' H w' → RelV h' ρ' (dd i) v → wpAnyIn (fen rd) 0 P .any ops Q fuel (listed.setIfInBounds i true) (a.put oi.dst v) w' := by
        intro v w' h' ρ' hne g1 r1 hC hv
        refine next v w' h' ρ' B g1 r1 (hS.outside hC) (hdef.step hC) hv (fun x hx hxl => ?_) (fun x hx y hy hxl hyl hxy => ?_)
        · have hxl' := hxl.resolve_left (hne x hx)
          obtain ⟨m1, m2⟩ := hB1 x hx hxl'
          refine ⟨fun hlt => ?_, m2.step hC g1 r1⟩
          obtain ⟨_, _, o, ty', a1, a2, a3, a4, a5, a6, a7⟩ := hmk x hx
          have hdn : oi.dst ≠ some x.2.1 := fun e => hne x hx (sole_spec a6 hoi e).symm
          have : (a.put oi.dst v).tmps.getD x.2.1 undef = a.tmps.getD x.2.1 undef := by
            cases hdd : oi.dst with
            | none => rfl
            | some t' =>
              simp only [Act.put]
              rw [Array.getD_eq_getD_getElem?, Array.getElem?_setIfInBounds_ne (fun e => hdn (by rw [hdd, e])), ← Array.getD_eq_getD_getElem?]
          rw [this]
          exact m1 hlt
        · exact hB2 x hx y hy (hxl.resolve_left (hne x hx)) (hyl.resolve_left (hne y hy)) hxy
      unfold wpOpIn
      simp only [hoi]
      by_cases hpx : ∃ x ∈ pd, x.1 = i
      · obtain ⟨x, hx, rfl⟩ := hpx
        obtain ⟨_, a0, o, ty', a1, a2, a3, a4, a5, a6, a7⟩ := hmk x hx
        rw [hoi] at a1
        cases a1
        rw [want_spec' hlook a7, if_pos rfl]
        obtain ⟨cs, c1, c2, c3⟩ := run_alloc2 (P := P) (ty' := ty') (by rw [a4]; exact a5) w
        refine ⟨fun _ _ => trivial, ?_⟩
        have : (execOp a.eval oi).run P w = .ok (.value (.pointer (some ⟨w.heap.size, 0, none⟩))) (w.alloc (.cells cs ty')) := by simp [execOp, a2, c1]
        rw [Oper.semAt_eq _ _ _ (fun c hc => by rw [a2] at hc; cases hc), this, Oper.uponIn_value]
        have hlt : ∀ y ∈ pd, listed.getD y.1 false = true → B y.1 < w.heap.size := fun y hy hyl => by
          obtain ⟨cs', e', q1, _⟩ := (hB1 y hy hyl).2.lies
          exact (Array.getElem?_eq_some_iff.1 q1).1
        have hiy : ∀ y ∈ pd, listed.getD y.1 false = true → y.1 ≠ x.1 := fun y hy hyl e => by rw [e, hif] at hyl; cases hyl
        refine next _ _ h ρ (fun j => if j = x.1 then w.heap.size else B j) (.refl _) (.refl _) (hS.more rfl rfl rfl (by simp) fun b hb => alloc_old _ _ hb) (hdef.more (by simp) fun b hb => alloc_old _ _ hb) (by rw [a0]; exact .und _) (fun y hy hyl => ?_) (fun y hy z hz hyl hzl hyz => ?_)
        · by_cases hyx : y.1 = x.1
          · have hyx2 : y = x := by
              rcases List.mem_iff_getElem.1 hy with ⟨p, hp, rfl⟩
              rcases List.mem_iff_getElem.1 hx with ⟨q, hq, rfl⟩
              rcases Nat.lt_trichotomy p q with hh | hh | hh
              · have := (List.pairwise_iff_getElem.1 hpw) p q hp hq hh; omega
              · subst hh; rfl
              · have := (List.pairwise_iff_getElem.1 hpw) q p hq hp hh; omega
            subst hyx2
            simp only [if_true]
            refine ⟨fun hl2 => ?_, ⟨⟨cs, ty', alloc_new _ _, by rw [c2, a4], by rw [← a4]; exact c3 h ρ⟩, hS.new_none, hS.size, ?_⟩⟩
            · rw [a3]
              simp only [Act.put]
              rw [Array.getD_eq_getD_getElem?, Array.getElem?_setIfInBounds_self_of_lt (by rw [hts]; exact hl2)]
              rfl
            · rintro ⟨j, x', hl', hb'⟩
              obtain ⟨b', x'', q1, _, q3⟩ := (hS.blk j).lies hl'
              rw [hb'] at q1
              cases q1
              omega
          · have hyl' := hyl.resolve_left hyx
            obtain ⟨m1, m2⟩ := hB1 y hy hyl'
            simp only [if_neg hyx]
            refine ⟨fun hl2 => ?_, ?_⟩
            · obtain ⟨_, _, o', ty2, b1, b2, b3, b4, b5, b6, b7⟩ := hmk y hy
              have hdn : oi.dst ≠ some y.2.1 := fun e => hyx (sole_spec b6 hoi e).symm
              rw [a3] at hdn ⊢
              simp only [Act.put]
              rw [Array.getD_eq_getD_getElem?, Array.getElem?_setIfInBounds_ne (fun e => hdn (by rw [e])), ← Array.getD_eq_getD_getElem?]
              exact m1 hl2
            · obtain ⟨cs', e', q1, q2, q3⟩ := m2.lies
              exact ⟨⟨cs', e', by rw [alloc_old _ _ (hlt y hy hyl')]; exact q1, q2, q3⟩, m2.none, m2.new, m2.free⟩
        · by_cases hyx : y.1 = x.1
          · have hzx : z.1 ≠ x.1 := fun e => hyz (hyx.trans e.symm)
            simp only [if_pos hyx, if_neg hzx]
            have := hlt z hz (hzl.resolve_left hzx)
            omega
          · by_cases hzx : z.1 = x.1
            · simp only [if_neg hyx, if_pos hzx]
              have := hlt y hy (hyl.resolve_left hyx)
              omega
            · simp only [if_neg hyx, if_neg hzx]
              exact hB2 y hy z hz (hyl.resolve_left hyx) (hzl.resolve_left hzx) hyz
      · have hne : ∀ x ∈ pd, x.1 ≠ i := fun x hx e => hpx ⟨x, hx, e⟩
        rcases (hlex.step i oi (by omega) him hoi).2 with ⟨hw, hstep⟩ | ⟨hw, hdd⟩
        · rw [want_spec' hlook hw, if_pos rfl]
          refine hstep rd w (Mine ρ H) h h ρ w a (hb.trans hg) hS.inside hop _ Q fun d H' v w' h' ρ' hr g1 r1 hS' hv => ?_
          obtain ⟨rfl, rfl⟩ := hr
          exact others v w' h' ρ' hne g1 r1 hS' hv
        · rw [want_spec' hlook hw]
          simp only [Bool.false_eq_true, if_false]
          refine ⟨fun _ _ => trivial, ?_⟩
          exact others undef w h ρ hne (.refl _) (.refl _) hS.inside (by rw [hdd]; exact rel_undef)

theorem aq_wp {rd : Option Nat} {id : Nat} {K : List D → Hp → Prop} {Q : Exit → Act → World → Prop} {ts : List D} {a : Act} (hm : P.follows .mixedOrders = true) (hb : GLe E.h0 h1) (hreg : regOk ops m = true) (hK : ∀ ts H a w, K ts H → St w0 M0 hI h1 ρ0 ts H a w → Q .normal a w)
    (hs : aq P E ops m 0 ops.toList ts H [] K) (hst : St w0 M0 hI h1 ρ0 ts H a w) : (Code.region id ops true).wpIn (fen rd) 0 P Q a w := by
  obtain ⟨hmn, _, _⟩ := regOk_spec hreg
  obtain ⟨T, dd, pd, rfl, hlex, hmk, hpw, htail⟩ := aq_lex (ops := ops) m 0 ts [] (by omega) (by simpa using hs) (fun x hx => by simp at hx) List.Pairwise.nil
  rw [Nat.zero_add] at hlex hmk htail
  refine wpIn_region_any hm ?_
  obtain ⟨h, ρ, hg, hρ, hS, hF, hdef⟩ := hst
  have nolist : ∀ j, (Array.replicate ops.size false).getD j false = true → False := fun j hj => by
    simp [Array.getD_eq_getD_getElem?, Array.getElem?_replicate] at hj
    split at hj <;> cases hj
  refine any_head hb hreg hlex (fun x hx => by
    rcases hmk x hx with e | ⟨_, e1, e2⟩
    · simp at e
    · exact ⟨by omega, e2⟩) hpw htail hK ops.size _ a _ ?_ (by simp) (fun i _ => ?_) (fun i j hj => ?_) ⟨h, ρ, hg, hρ, hS.drew, hdef.drew, hF.1.symm, fun t => ⟨_, .inr ⟨fun j o' hj => (nolist j hj).elim, rfl⟩, hF.2 t⟩, fun _ => 0, fun x hx hxl => (nolist _ hxl).elim, fun x hx y hy hxl => (nolist _ hxl).elim⟩
  · simp [List.countP_replicate]
  · simp [Array.getD_eq_getD_getElem?, Array.getElem?_replicate]
    split <;> rfl
  · exact (nolist j hj).elim
end
end Go.Lv

namespace Go.Lv
open Go
set_option linter.unusedVariables false
set_option linter.unusedSimpArgs false

abbrev Post := Exit → List D → Hp → Prop
def Post.then (K : List D → Hp → Prop) (Q : Post) : Post
  | .normal, ts, H => K ts H
  | e, ts, H => Q e ts H
def Post.block (id : Nat) (Q : Post) : Post
  | .exit id', ts, H => if id' = id then Q .normal ts H else Q (.exit id') ts H
  | e, ts, H => Q e ts H
/-- Where code stands: in which round of a loop over an iterator, if in one; how many blocks there were when it began. -/
structure Cx where
  rd : Option Nat
  m0 : Nat
mutual
/-- It points at none of the blocks from m on. -/
def D.under (m : Nat) : D → Bool
  | .ptr i _ _ => decide (i < m)
  | .own i _ _ => decide (i < m)
  | .asl i _ _ _ => decide (i < m)
  | .yld i => decide (i < m)
  | .mp i => decide (i < m)
  | .at cs _ => D.underL m cs
  | .agg cs => D.underL m cs
  | .tup cs => D.underL m cs
  | .fn _ a b => D.underL m a && D.underL m b
  | .iface _ d => d.under m
  | _ => true
def D.underL (m : Nat) : List D → Bool
  | [] => true
  | d :: l => d.under m && D.underL m l
end
def underP (m : Nat) : List (D × D) → Bool
  | [] => true
  | e :: l => e.1.under m && (e.2.under m && underP m l)
def Blk.under (m : Nat) : Blk → Bool
  | .var cs | .row _ _ cs | .frz _ _ cs => D.underL m cs
  | .rng ts _ _ _ _ => D.underL m ts
  | .map es => underP m es
  | _ => true
def underH (m : Nat) : Hp → Bool
  | [] => true
  | b :: l => b.under m && underH m l
/-- What is forgotten where a loop begins a round: data in the frame; the last blocks, if nothing points at them. -/
structure Norm (m0 : Nat) (ts : List D) (H : Hp) (ts' : List D) (H' : Hp) : Prop where
  len : ts'.length = ts.length
  weak : ∀ t, nth ts' t = nth ts t ∨ nth ts' t = .und
  heap : H' = H ∨ ∃ m, m0 ≤ m ∧ H' = H.take m ∧ D.underL m ts' = true ∧ underH m H' = true
theorem Norm.refl (m0 : Nat) (ts : List D) (H : Hp) : Norm m0 ts H ts H := ⟨rfl, fun _ => .inl rfl, .inl rfl⟩
def loopN (m0 : Nat) (body : Post → List D → Hp → Prop) (Q : Post) : Nat → List D → Hp → Prop
  | 0, _, _ => False
  | n + 1, ts, H => ∃ ts' H', Norm m0 ts H ts' H' ∧ body (Post.then (loopN m0 body Q n) Q) ts' H'

/-- A scope of labels to which nothing jumps. -/
def Post.scope (Q : Post) : Post
  | .goto _, _, _ => False
  | e, ts, H => Q e ts H

section
variable {P : Program} {E : Env}
/-- What f does, called with these data, on this memory. -/
structure Fun (P : Program) (E : Env) (f : FuncId) (args : List D) (H : Hp) (R : D → Hp → Prop) : Prop where
  run : ∀ (w0 : World) (M0 : Nat → Prop) (hI h : Gh) (ρ : Rn) (w : World) (vs : Array Value), GLe E.h0 h → Sim w0 M0 hI h ρ H w → vs.size = args.length → AllRel h ρ args vs →
    Calls P f vs w fun e w' => ∃ v r H' h' ρ', e = .returned v ∧ R r H' ∧ GLe h h' ∧ RLe ρ ρ' ∧ Sim w0 M0 hI h' ρ' H' w' ∧ RelV h' ρ' r v

theorem Fun.mono {f : FuncId} {args : List D} {H : Hp} {R R' : D → Hp → Prop} (hf : Fun P E f args H R) (hr : ∀ d H', R d H' → R' d H') : Fun P E f args H R' :=
  ⟨fun w0 M0 hI h ρ w vs hb hS hsz hrel => (hf.run w0 M0 hI h ρ w vs hb hS hsz hrel).mono fun e w' ⟨v, r, H', h', ρ', h1, h2, h3⟩ => ⟨v, r, H', h', ρ', h1, hr _ _ h2, h3⟩⟩

end

def Blk.isRng : Blk → Bool
  | .rng .. => true
  | _ => false
/-- Behind a loop over an iterator. -/
def rngEnd (Q : Post) (ts : List D) (i : Nat) (_ : D) (H : Hp) : Prop :=
  match hget H i with
  | .rng _ _ _ _ .ready => Q .normal ts (hset H i .dead)
  | .rng _ _ _ _ (.done c) => match c with
    | .ret => Q .ret ts (hset H i .dead)
    | .exit id => Q (.exit id) ts (hset H i .dead)
    | _ => False
  | _ => False
/-- A loop over an iterator. -/
def RngOk (P : Program) (E : Env) (rd : Option Nat) (g : Operand) (ps : List Nat) (asg body : Code) (Q : Post) (ts : List D) (H : Hp) : Prop :=
  ∃ f fi ca, ev E.g ts g = .fn (.func f) fi ca ∧ hasBody P f = true ∧ (∀ i, rd = some i → (hget H i).isRng = true) ∧ Fun P E f (fi ++ [.yld H.length] ++ ca) (H ++ [.rng ts ps asg body .ready]) (rngEnd Q ts H.length)
/-- What code comes to, in a round of the loop rd, or in none. -/
def awp (P : Program) (E : Env) (cx : Cx) : Code → Post → List D → Hp → Prop
  | .skip, Q, ts, H => Q .normal ts H
  | .region _ ops false, Q, ts, H => aseq P E ops ops.toList ts H (Q .normal)
  | .region _ ops true, Q, ts, H => ∃ m, regOk ops m = true ∧ aq P E ops m 0 ops.toList ts H [] (Q .normal)
  | .seq a b, Q, ts, H => awp P E cx a (Post.then (awp P E cx b Q) Q) ts H
  | .cond c x y, Q, ts, H => ∃ b, ev E.g ts c = .bool b ∧ if b then awp P E cx x Q ts H else awp P E cx y Q ts H
  | .block id c, Q, ts, H => awp P E cx c (Post.block id Q) ts H
  | .loop c, Q, ts, H => ∃ n, loopN cx.m0 (awp P E cx c) Q n ts H
  | .exit id, Q, ts, H => Q (.exit id) ts H
  | .ret, Q, ts, H => Q .ret ts H
  | .scope c, Q, ts, H => awp P E cx c (Post.scope Q) ts H
  | .label _, Q, ts, H => Q .normal ts H
  | .rangeFunc g ps asg body, Q, ts, H => RngOk P E cx.rd g ps.toList asg body Q ts H
  | _, _, _, _ => False

section
variable {P : Program} {w0 : World} {M0 : Nat → Prop} {hI h1 h : Gh} {ρ0 ρ : Rn} {H : Hp} {w : World} {E : Env}

theorem aq_mono {ops : Array Oper} {K K' : List D → Hp → Prop} (hk : ∀ ts H, K ts H → K' ts H) : ∀ (m k : Nat) (l : List Oper) (ts : List D) (H : Hp) (pd : Pend), aq P E ops m k l ts H pd K → aq P E ops m k l ts H pd K'
  | 0, k, l, ts, H, pd, hs => aseq_mono hk l _ _ hs
  | m + 1, k, [], ts, H, pd, hs => hk _ _ hs
  | m + 1, k, o :: rest, ts, H, pd, hs => by
    simp only [aq] at hs ⊢
    split at hs
    · rcases hs with ⟨d, h1, h2⟩ | ⟨t, ty', h1, h2, h3, h4, h5⟩
      · exact .inl ⟨d, h1, aq_mono hk m _ rest _ H _ h2⟩
      · exact .inr ⟨t, ty', h1, h2, h3, h4, aq_mono hk m _ rest _ H _ h5⟩
    · exact aq_mono hk m _ rest _ H _ hs
    · exact hs

theorem rngEnd_mono {Q Q' : Post} (hq : ∀ e ts H, Q e ts H → Q' e ts H) {ts : List D} {i : Nat} {d : D} {H : Hp} (h : rngEnd Q ts i d H) : rngEnd Q' ts i d H := by
  unfold rngEnd at *
  split at h
  · exact hq _ _ _ h
  · rename_i a b c d e hg
    split at h
    · exact hq _ _ _ h
    · exact hq _ _ _ h
    · exact h.elim
  · exact h.elim
theorem RngOk.mono {rd : Option Nat} {g : Operand} {ps : List Nat} {asg body : Code} {Q Q' : Post} {ts : List D} {H : Hp} (h : RngOk P E rd g ps asg body Q ts H) (hq : ∀ e ts H, Q e ts H → Q' e ts H) : RngOk P E rd g ps asg body Q' ts H := by
  obtain ⟨f, fi, ca, h1, h2, h3, h4⟩ := h
  exact ⟨f, fi, ca, h1, h2, h3, h4.mono fun d H' hh => rngEnd_mono hq hh⟩
theorem awp_mono {cx : Cx} : ∀ (c : Code) {Q Q' : Post}, (∀ e ts H, Q e ts H → Q' e ts H) → ∀ ts H, awp P E cx c Q ts H → awp P E cx c Q' ts H
  | .skip, Q, Q', hq, ts, H, h => hq _ _ _ h
  | .region _ ops false, Q, Q', hq, ts, H, h => aseq_mono (hq .normal) _ _ _ h
  | .region _ ops true, Q, Q', hq, ts, H, h => let ⟨m, h1, h2⟩ := h; ⟨m, h1, aq_mono (hq .normal) _ _ _ _ _ _ h2⟩
  | .seq a b, Q, Q', hq, ts, H, h => awp_mono a (fun e ts H he => by
      cases e <;> first | exact awp_mono b hq _ _ he | exact hq _ _ _ he) ts H h
  | .cond c x y, Q, Q', hq, ts, H, h => by
    obtain ⟨b, h1, h2⟩ := h
    refine ⟨b, h1, ?_⟩
    cases b
    · exact awp_mono y hq _ _ h2
    · exact awp_mono x hq _ _ h2
  | .block id c, Q, Q', hq, ts, H, h => awp_mono c (fun e ts H he => by
      cases e <;> simp only [Post.block] at he ⊢ <;> first
        | exact hq _ _ _ he
        | (split at he
           · rename_i hc
             rw [if_pos hc]
             exact hq _ _ _ he
           · rename_i hc
             rw [if_neg hc]
             exact hq _ _ _ he)) ts H h
  | .loop c, Q, Q', hq, ts, H, h => by
    obtain ⟨n, h⟩ := h
    refine ⟨n, ?_⟩
    induction n generalizing ts H with
    | zero => exact h
    | succ n ih =>
      obtain ⟨ts', H', hn, h⟩ := h
      exact ⟨ts', H', hn, awp_mono c (fun e ts H he => by cases e <;> first | exact ih _ _ he | exact hq _ _ _ he) ts' H' h⟩
  | .exit id, Q, Q', hq, ts, H, h => hq _ _ _ h
  | .ret, Q, Q', hq, ts, H, h => hq _ _ _ h
  | .rangeFunc .., Q, Q', hq, ts, H, h => RngOk.mono h hq
  | .scope c, Q, Q', hq, ts, H, h => awp_mono c (fun e ts H he => by
      cases e <;> first | exact hq _ _ _ he | exact he) ts H h
  | .label _, Q, Q', hq, ts, H, h => hq _ _ _ h
  | .goto _, Q, Q', hq, ts, H, h => h.elim
  | .refuse _, Q, Q', hq, ts, H, h => h.elim

/-- What stands behind, on the machine. -/
def Up (w0 : World) (M0 : Nat → Prop) (hI h1 : Gh) (ρ0 : Rn) (Q : Post) : Exit → Act → World → Prop :=
  fun e a w => ∃ ts H, Q e ts H ∧ St w0 M0 hI h1 ρ0 ts H a w

/-- The round in which the machine is, and the one in which the data are. -/
def RdOk (ρ : Rn) (rd l0 : Option Nat) : Prop :=
  match rd, l0 with
  | none, none => True
  | some i, some l => ∃ x, ρ i 0 = some (l, x)
  | _, _ => False

theorem wpIn_scope {F : Fence} {n : Nat} {Q : Exit → Act → World → Prop} {a : Act} {c : Code} (h : c.wpIn F n P (Exit.noGoto Q) a w) : (Code.scope c).wpIn F n P Q a w := by
  intro b k cs hro hb hr
  have h0 : (lone (b.atR a (.code (.scope c) :: k)) cs w).fenced P F := fenced_calm hb hr rfl
  have s1 : step P (lone (b.atR a (.code (.scope c) :: k)) cs w) = .next (lone (b.atR a (.code c :: .inScope c :: k)) cs w) := step_lone_go (by simp [stepG, stepG.exec, Frame.atR])
  obtain ⟨e, a₁, w₁, hq, harr⟩ := h b (.inScope c :: k) cs hro hb hr
  have hx : ∀ id, exitTo id (.inScope c :: k) = exitTo id k := fun id => by simp [exitTo]
  cases e with
  | normal =>
    have s2 : step P (lone (b.atR a₁ (.inScope c :: k)) cs w₁) = .next (lone (b.atR a₁ k) cs w₁) := step_lone_go (by simp [stepG, stepG.exec, Frame.atR])
    exact ⟨.normal, a₁, w₁, hq, .head h0 s1 (StepsIn.trans harr (.one (fenced_calm hb hr rfl) s2))⟩
  | exit id =>
    exact ⟨_, a₁, w₁, hq, fun k' hk => .head h0 s1 (harr.1 k' (by rw [hx]; exact hk)),
      fun hr' hk => let ⟨k₁, h1, h2⟩ := harr.2 hr' (by rw [hx]; exact hk); ⟨k₁, h1, .head h0 s1 h2⟩⟩
  | goto l => exact hq.elim
  | ret => exact ⟨_, a₁, w₁, hq, .of_steps (.one h0 s1) harr⟩
  | panic ch => exact ⟨_, a₁, w₁, hq, .of_steps (.one h0 s1) harr⟩
  | outgrown => exact ⟨_, a₁, w₁, hq, .of_steps (.one h0 s1) harr⟩

/-- A block is done with; what it lay in may be written. -/
theorem Sim.kill (hS : Sim w0 M0 hI h ρ H w) {i : Nat} {w' : World} {b : Nat} {x : Nat × Nat} (hl : (hget H i).live = true) (hb : ρ i (hget H i).n = some (b, x))
    (hos : w'.os = w.os) (htape : w'.tape = w.tape) (hout : w'.output = w.output) (hsize : w'.heap.size = w.heap.size) (hother : ∀ c, c ≠ b → w'.heap[c]? = w.heap[c]?) : Sim w0 M0 hI h ρ (hset H i .dead) w' := by
  have hil := hS.live_lt hl
  obtain ⟨b1, x1, h1, hbn, hblt⟩ := (hS.blk i).lies hl
  rw [hb] at h1
  cases h1
  have hne : ∀ j, j ≠ i → hget (hset H i .dead) j = hget H j := fun j hj => by rw [hget_set, if_neg (by omega)]
  have hsame : hget (hset H i .dead) i = .dead := by rw [hget_set, if_pos ⟨rfl, hil⟩]
  have hlive : ∀ j, (hget (hset H i .dead) j).live = true → j ≠ i := by
    rintro j hj rfl
    rw [hsame] at hj
    cases hj
  exact {
    os := hos.trans hS.os
    tape := htape.trans hS.tape
    output := hout.trans hS.output
    size := by rw [hsize]; exact hS.size
    imm := fun c o hc => by
      show w'.heap[c]? = some o
      rw [hother c (fun e => by rw [e, hbn] at hc; cases hc)]
      exact hS.imm c o hc
    blk := fun j => by
      by_cases hj : j = i
      · rw [hj, hsame]
        trivial
      · rw [hne j hj]
        exact (hS.blk j).mono (.refl _) (.refl _) fun b' x' hl' hb' hn => ⟨hother b' fun e => by
          rw [e] at hb'
          exact hS.inj j i _ _ _ hj hl' hl hb' hb, hn⟩
    own := fun j b' x' hl' hb' => by
      have j1 := hlive j hl'
      rw [hne j j1] at hl' hb'
      exact hS.own j b' x' hl' hb'
    inj := fun j k b' x' y hjk hj hk hb' => by
      have j1 := hlive j hj
      have k1 := hlive k hk
      rw [hne j j1] at hj hb'
      rw [hne k k1] at hk ⊢
      exact hS.inj j k b' x' y hjk hj hk hb'
    dom := fun j n y hy => by rw [hset_len]; exact hS.dom j n y hy
    ver := fun j sz ag ds hd => by
      by_cases hj : j = i
      · rw [hj, hsame] at hd
        cases hd
      · rw [hne j hj] at hd
        exact hS.ver j sz ag ds hd
    keep := hS.keep
    frame := fun c hc hm => by
      rw [hother c (fun e => by
        rcases hS.own i b x hl hb with h2 | h2
        · exact hm (e ▸ h2)
        · omega)]
      exact hS.frame c hc hm }

theorem Marks.wr {w' : World} {H' : Hp} {ds : List Deferred} {b : Nat} {r : Loop} (hf : Marks w0 h ρ H w ds) (hb : w.heap[b]? = some (.loop r)) (hS : Sim w0 M0 hI h ρ H' w') (hother : ∀ c, c ≠ b → w'.heap[c]? = w.heap[c]?) : Marks w0 h ρ H' w' ds := by
  obtain ⟨bs, h1, h2, h3⟩ := hf
  refine ⟨bs, h1, h2, fun c hc => ?_⟩
  obtain ⟨m1, m2, m3, m4⟩ := h3 c hc
  have hne : c ≠ b := fun e => by rw [e, hb] at m1; cases m1
  have m1' : w'.heap[c]? = some (.deferred (some [])) := by rw [hother c hne]; exact m1
  exact ⟨m1', m2, m3, hS.notMine m1'⟩

theorem rng_sound {rd l0 : Option Nat} {g : Operand} {ps : Array Nat} {asg body : Code} {Q : Post} {ts : List D} {H : Hp} {a : Act} {w : World} (hb : GLe E.h0 h1) (hrd : RdOk ρ0 rd l0) (h : RngOk P E rd g ps.toList asg body Q ts H) (hst : St w0 M0 hI h1 ρ0 ts H a w) :
    (Code.rangeFunc g ps asg body).wpIn (fen l0) 0 P (Up w0 M0 hI h1 ρ0 Q) a w := by
  obtain ⟨f, fi, ca, hg, hbd, hrg, hfun⟩ := h
  obtain ⟨hh, ρ, hgl, hρ, hS, hF, hmk⟩ := hst
  obtain ⟨fd, hfd, hbo, hnm⟩ := hasBody_spec hbd
  have hv := hF.ev (hb.trans hgl) g
  rw [hg] at hv
  generalize hvg : a.eval g = vg at hv
  cases hv with | fn _ _ _ fv cv us ws hs hs' hu hw hr hq =>
  refine wpIn_rangeFunc fun fn _ => ?_
  obtain ⟨w1, mk, r, hent, hS1, hmk1, r1, r2, r3, r4, r5, r6⟩ : ∃ (w1 : World) (mk : List Deferred) (r : Loop), (Instr.enterLoop fn a.tmps ps asg body (fen l0).round).run P w = .ok (w1.heap.size, mk) (w1.alloc (.loop r)) ∧ Sim w0 M0 hI hh ρ H w1 ∧ Marks w0 hh ρ H w1 (mk ++ a.defers) ∧
      r.tmps = a.tmps ∧ r.params = ps ∧ r.assign = asg ∧ r.body = body ∧ r.state = .ready ∧ r.pending = none := by
    cases l0 with
    | none =>
      have hS1 : Sim w0 M0 hI hh ρ H (w.alloc (.deferred (some []))) := hS.more rfl rfl rfl (by simp) fun b hb => alloc_old _ _ hb
      refine ⟨w.alloc (.deferred (some [])), [mark w.heap.size], { state := .ready, pending := none, fn := fn, tmps := a.tmps, params := ps, assign := asg, body := body, defers := w.heap.size }, ?_, hS1, ?_, rfl, rfl, rfl, rfl, rfl, rfl⟩
      · rw [World.size_alloc]
        exact run_enterLoop_outer fn a.tmps ps asg body
      · obtain ⟨bs, e1, e2, e3⟩ := hmk.more (w' := w.alloc (.deferred (some []))) (by simp) fun b hb => alloc_old _ _ hb
        obtain ⟨bs0, e1', _, e3'⟩ := hmk
        refine ⟨w.heap.size :: bs, by simp [e1], List.nodup_cons.2 ⟨fun hin => ?_, e2⟩, fun b hbm => ?_⟩
        · have hnew := (e3 _ hin).lies
          have : bs0 = bs := by
            have hinj : ∀ (x y : List Nat), x.map mark = y.map mark → x = y := by
              intro x
              induction x with
              | nil => intro y hy; cases y with | nil => rfl | cons => simp at hy
              | cons p x ih =>
                intro y hy
                cases y with
                | nil => simp at hy
                | cons q y =>
                  simp only [List.map_cons, List.cons.injEq] at hy
                  have : p = q := by
                    have := hy.1
                    simp [mark] at this
                    exact this
                  rw [this, ih y hy.2]
            exact hinj _ _ (e1'.symm.trans e1)
          subst this
          have := (Array.getElem?_eq_some_iff.1 (e3' _ hin).lies).1
          omega
        · rcases List.mem_cons.1 hbm with rfl | hbm
          · exact ⟨alloc_new _ _, hS.new_none, hS.size, hS1.notMine (alloc_new _ _)⟩
          · exact e3 b hbm
    | some l =>
      cases rd with
      | none => exact hrd.elim
      | some i =>
        obtain ⟨x, hx⟩ := hrd
        have hir := hrg i rfl
        have hblk := hS.blk i
        cases hgi : hget H i <;> rw [hgi] at hir hblk <;> first | (cases hir; done) | skip
        obtain ⟨b', z, r0, a1, a2, a3, _⟩ := hblk
        rw [hρ _ _ _ hx] at a1
        cases a1
        exact ⟨w, [], { state := .ready, pending := none, fn := fn, tmps := a.tmps, params := ps, assign := asg, body := body, defers := r0.defers }, run_enterLoop_inner a3 fn a.tmps ps asg body, hS, hmk, rfl, rfl, rfl, rfl, rfl, rfl⟩
  have key := hS1.push (.loop r) (.rng ts ps.toList asg body .ready) (0, 0) ?_
  · obtain ⟨k1, k2⟩ := key
    have hT2 : Marks w0 hh (ρ.set H.length 0 (w1.heap.size, (0, 0))) (H ++ [.rng ts ps.toList asg body .ready]) (w1.alloc (.loop r)) (mk ++ a.defers) := (hmk1.more (w' := w1.alloc (.loop r)) (by simp) fun b hb => alloc_old _ _ hb).re k2
    refine ⟨w1.heap.size, mk, w1.alloc (.loop r), { target := .fn (.func f) cv, args := fv ++ #[.func (.yield w1.heap.size) #[] #[]] }, w1.alloc (.loop r), f, fv ++ #[.func (.yield w1.heap.size) #[] #[]] ++ cv, w1.alloc (.loop r), hent, ?_, fun _ _ => trivial, ?_, fun hx => (by cases hx), callsIn_fen ((hfun.run (w1.alloc (.loop r)) (Mine _ _) hh hh _ _ _ (hb.trans hgl) k2.inside ?_ ?_).mono fun e w' hhh => ?_)⟩
    · rw [run_resolve (c := rangeCall g w1.heap.size) (f := g) rfl hvg]
      simp [rangeCall, Act.eval]
    · simp only [invoke]
      exact run_callFunc hfd hbo hnm
    · simp [hs, hs']; omega
    · have hy : AllRel hh (ρ.set H.length 0 (w1.heap.size, (0, 0))) [.yld H.length] #[.func (.yield w1.heap.size) #[] #[]] := fun j d hj => by
        match j, hj with
        | 0, hj =>
          cases hj
          exact ⟨_, rfl, .yld _ _ _ (Rn.set_same _ _ _ _)⟩
      rw [List.append_assoc, Array.append_assoc]
      exact app_get hs (vals_get us hs hu fun j d hj => (hr j d hj).mono (.refl _) k1) (app_get rfl hy (vals_get ws hs' hw fun j d hj => (hq j d hj).mono (.refl _) k1))
    · obtain ⟨v, r', H', h', ρ', rfl, hR, hle, hrl, hSim, hrel⟩ := hhh
      have hT3 := hT2.step hSim
      have hS3 := k2.outside hSim
      have hl3 := hrl _ _ _ (Rn.set_same ρ H.length 0 (w1.heap.size, (0, 0)))
      -- the record
      have fin : ∀ (ts' : List D) (ps' : List Nat) (as' bo' : Code) (st : RSt), hget H' H.length = .rng ts' ps' as' bo' st → (∀ rr, st.of rr → rr.state ≠ .busy) →
          ∃ (w4 : World) (rr : Loop), st.of rr ∧ (Instr.endLoop w1.heap.size).run P w' = .ok rr.pending w4 ∧ St w0 M0 hI h1 ρ0 ts (hset H' H.length .dead) { a with defers := mk ++ a.defers } w4 := by
        intro ts' ps' as' bo' st hgr hnb
        have hblk := hS3.blk H.length
        rw [hgr] at hblk
        obtain ⟨b', z, rr, a1, a2, a3, a4, a5, a6, a7, a8⟩ := hblk
        rw [hl3] at a1
        cases a1
        have hother : ∀ c, c ≠ w1.heap.size → (w'.putObj w1.heap.size (.loop { rr with state := .exhausted })).heap[c]? = w'.heap[c]? := fun c hc => World.putObj_heap_other hc
        have hS4 := hS3.kill (i := H.length) (w' := w'.putObj w1.heap.size (.loop { rr with state := .exhausted })) (by rw [hgr]; rfl) (by rw [hgr]; exact hl3) rfl rfl rfl (by simp) hother
        exact ⟨_, rr, a8, run_endLoop a3 (hnb rr a8), h', ρ', hgl.trans hle, (hρ.trans k1).trans hrl, hS4, ⟨hF.1, fun t => (hF.2 t).mono hle (k1.trans hrl)⟩, hT3.wr a3 hS4 hother⟩
      unfold rngEnd at hR
      split at hR
      · rename_i hgr
        obtain ⟨w4, rr, hst, hrun, hs4⟩ := fin _ _ _ _ _ hgr fun rr hrr => by rw [hrr.1]; simp
        exact ⟨rr.pending, w4, hrun, by rw [hst.2]; exact ⟨_, _, hR, hs4⟩⟩
      · rename_i c hgr
        obtain ⟨w4, rr, hst, hrun, hs4⟩ := fin _ _ _ _ _ hgr fun rr hrr => by rw [hrr.1]; simp
        split at hR
        · exact ⟨rr.pending, w4, hrun, by rw [hst.2]; exact wpIn_ret ⟨_, _, hR, hs4⟩⟩
        · exact ⟨rr.pending, w4, hrun, by rw [hst.2]; exact wpIn_exit ⟨_, _, hR, hs4⟩⟩
        · exact hR.elim
      · exact hR.elim
  · exact ⟨w1.heap.size, (0, 0), r, Rn.set_same _ _ _ _, hS1.new_none, alloc_new _ _, ⟨by rw [r1]; exact hF.1, fun t => by rw [r1]; exact (hF.2 t).mono (.refl _) (Rn.le_set (.inl (hS1.fresh (Nat.le_refl _))))⟩, by rw [r2], r3, r4, r5, r6⟩

def Rn.cut (ρ : Rn) (m : Nat) : Rn := fun i n => if i < m then ρ i n else none
theorem Rn.cut_lt {ρ : Rn} {m i n : Nat} (hi : i < m) : ρ.cut m i n = ρ i n := by simp [Rn.cut, hi]
theorem Rn.cut_some {ρ : Rn} {m i n : Nat} {x : Nat × Nat × Nat} (h : ρ.cut m i n = some x) : i < m ∧ ρ i n = some x := by
  unfold Rn.cut at h
  split at h
  · rename_i hi
    exact ⟨hi, h⟩
  · cases h
theorem RelV.under {m : Nat} {d : D} {v : Value} (r : RelV h ρ d v) : d.under m = true → RelV h (Rn.cut ρ m) d v := by
  have getL : ∀ {l : List D}, D.underL m l = true → ∀ (j : Nat) (d : D), l[j]? = some d → d.under m = true := by
    intro l
    induction l with
    | nil => intro _ j d hj; simp at hj
    | cons x l ih =>
      intro hl j d hj
      simp only [D.underL, Bool.and_eq_true] at hl
      cases j with
      | zero => simp at hj; exact hj ▸ hl.1
      | succ j => exact ih hl.2 j d (by simpa using hj)
  induction r with
  | und v => exact fun _ => .und v
  | bool b => exact fun _ => .bool b
  | int k n => exact fun _ => .int k n
  | str l s e => exact fun _ => .str l s e
  | lnil t a c ht => exact fun _ => .lnil t a c ht
  | list t xs b off n c sz cs e fz us hx hn hlen ht hsz hcl hcc hb hc ho hr ih =>
    exact fun _ => (RelV.list t xs b off n c sz cs e fz us hx hn hlen ht hsz hcl hcc hb hc ho hr).closed rfl
  | «at» ds off b o o' cs e fz us hb ho hc h1 hr ih => exact fun hl => .at ds off b o o' cs e fz us hb ho hc h1 fun j d hj => ih j d hj (getL (by simpa [D.under] using hl) j d hj)
  | nilp => exact fun _ => .nilp
  | ptr i off n b c s hb =>
    intro hl
    simp only [D.under, decide_eq_true_eq] at hl
    exact .ptr i off n b c s (by rw [Rn.cut_lt hl]; exact hb)
  | own i len n b c cs sz hb hc hl' =>
    intro hl
    simp only [D.under, decide_eq_true_eq] at hl
    exact .own i len n b c cs sz (by rw [Rn.cut_lt hl]; exact hb) hc hl'
  | asl i off len n b o c cs sz hb hl' ho =>
    intro hl
    simp only [D.under, decide_eq_true_eq] at hl
    exact .asl i off len n b o c cs sz (by rw [Rn.cut_lt hl]; exact hb) hl' ho
  | agg ds vs hs h1 us hu hr ih => exact fun hl => .agg ds vs hs h1 us hu fun j d hj => ih j d hj (getL (by simpa [D.under] using hl) j d hj)
  | tup ds vs hs us hu hr ih => exact fun hl => .tup ds vs hs us hu fun j d hj => ih j d hj (getL (by simpa [D.under] using hl) j d hj)
  | fn f fi ca fv cv us ws hs hs' hu hw hr hq ih1 ih2 =>
    intro hl
    simp only [D.under, Bool.and_eq_true] at hl
    exact .fn f fi ca fv cv us ws hs hs' hu hw (fun j d hj => ih1 j d hj (getL hl.1 j d hj)) (fun j d hj => ih2 j d hj (getL hl.2 j d hj))
  | nilf => exact fun _ => .nilf
  | iface t d v hr ih => exact fun hl => .iface t d v (ih (by simpa [D.under] using hl))
  | nili => exact fun _ => .nili
  | yld i b x hb =>
    intro hl
    simp only [D.under, decide_eq_true_eq] at hl
    exact .yld i b x (by rw [Rn.cut_lt hl]; exact hb)
  | mp i b x hb =>
    intro hl
    simp only [D.under, decide_eq_true_eq] at hl
    exact .mp i b x (by rw [Rn.cut_lt hl]; exact hb)
  | nilm => exact fun _ => .nilm

theorem underL_get {m : Nat} : ∀ {l : List D}, D.underL m l = true → ∀ (j : Nat) (d : D), l[j]? = some d → d.under m = true
  | [], _, j, d, hj => by simp at hj
  | x :: l, hl, j, d, hj => by
    simp only [D.underL, Bool.and_eq_true] at hl
    cases j with
    | zero => simp at hj; exact hj ▸ hl.1
    | succ j => exact underL_get hl.2 j d (by simpa using hj)
theorem underL_nth {m : Nat} : ∀ {l : List D}, D.underL m l = true → ∀ j, (nth l j).under m = true
  | [], _, j => by simp [nth, D.under]
  | x :: l, hl, j => by
    simp only [D.underL, Bool.and_eq_true] at hl
    cases j with
    | zero => exact hl.1
    | succ j => exact underL_nth hl.2 j
theorem underP_get {m : Nat} : ∀ {l : List (D × D)}, underP m l = true → ∀ (j : Nat) (e : D × D), l[j]? = some e → e.1.under m = true ∧ e.2.under m = true
  | [], _, j, d, hj => by simp at hj
  | x :: l, hl, j, d, hj => by
    simp only [underP, Bool.and_eq_true] at hl
    cases j with
    | zero => simp at hj; exact hj ▸ ⟨hl.1, hl.2.1⟩
    | succ j => exact underP_get hl.2.2 j d (by simpa using hj)
theorem underH_get {m : Nat} : ∀ {H : Hp}, underH m H = true → ∀ i, (hget H i).under m = true
  | [], _, i => by simp [hget, Blk.under]
  | x :: l, hl, i => by
    simp only [underH, Bool.and_eq_true] at hl
    cases i with
    | zero => exact hl.1
    | succ i => exact underH_get hl.2 i
theorem hget_take (H : Hp) (m i : Nat) : hget (H.take m) i = if i < m then hget H i else .dead := by
  induction H generalizing m i with
  | nil => simp [hget]
  | cons b H ih =>
    cases m with
    | zero => simp [hget]
    | succ m =>
      cases i with
      | zero => simp [hget]
      | succ i => simp only [List.take_succ_cons, hget, ih, Nat.add_lt_add_iff_right]

theorem Row.under {m : Nat} {cs : Array Value} {off : Nat} {ds : List D} (r : Row h ρ cs off ds) (hl : D.underL m ds = true) : Row h (Rn.cut ρ m) cs off ds :=
  fun j d hj => let ⟨u, a, b, c⟩ := r j d hj; ⟨u, a, b, c.under (underL_get hl j d hj)⟩
theorem RelB.under {m i : Nat} {bl : Blk} (r : RelB h ρ i w bl) (hi : i < m) (hl : bl.under m = true) : RelB h (Rn.cut ρ m) i w bl := by
  cases bl with
  | var ds =>
    obtain ⟨b, c, s, cs, e, fz, a1, a2, a3, a4, a5, a6, a7⟩ := r
    exact ⟨b, c, s, cs, e, fz, by rw [Rn.cut_lt hi]; exact a1, a2, a3, a4, a5, a6.under hl, a7⟩
  | row sz ag ds =>
    obtain ⟨b, c, cs, e, fz, a1, a2, a3, a4, a5, a6, a7⟩ := r
    exact ⟨b, c, cs, e, fz, by rw [Rn.cut_lt hi]; exact a1, a2, a3, a4, a5, a6.under hl, a7⟩
  | frz sz ag ds =>
    obtain ⟨b, c, s, cs, e, fz, a1, a2, a3⟩ := r
    exact ⟨b, c, s, cs, e, fz, by rw [Rn.cut_lt hi]; exact a1, a2, a3.under hl⟩
  | iter s pos =>
    obtain ⟨b, c, z, bs, a1, a2, a3, a4⟩ := r
    exact ⟨b, c, z, bs, by rw [Rn.cut_lt hi]; exact a1, a2, a3, a4⟩
  | rng ts ps asg body st =>
    obtain ⟨b, x, r', a1, a2, a3, a4, a5⟩ := r
    exact ⟨b, x, r', by rw [Rn.cut_lt hi]; exact a1, a2, a3, ⟨a4.1, fun t => (a4.2 t).under (underL_nth hl t)⟩, a5⟩
  | map es =>
    obtain ⟨b, x, l, c, a1, a2, a3, a4, a5, a6⟩ := r
    refine ⟨b, x, l, c, by rw [Rn.cut_lt hi]; exact a1, a2, a3, a4, a5, fun j e hj => ?_⟩
    obtain ⟨y, q1, q2, q3, q4⟩ := a6 j e hj
    have := underP_get hl j e hj
    exact ⟨y, q1, q2.under this.1, q3.under this.2, q4⟩
  | dead => trivial

theorem Sim.drop {m : Nat} (hS : Sim w0 M0 hI h ρ H w) (hl : underH m (H.take m) = true) : Sim w0 M0 hI h (Rn.cut ρ m) (H.take m) w where
  os := hS.os
  tape := hS.tape
  output := hS.output
  size := hS.size
  imm := hS.imm
  blk := fun i => by
    have := underH_get hl i
    rw [hget_take] at this ⊢
    split at this
    · rename_i hi
      rw [if_pos hi]
      exact (hS.blk i).under hi this
    · rename_i hi
      rw [if_neg hi]
      trivial
  own := fun i b x hlv hb => by
    obtain ⟨hi, hb⟩ := Rn.cut_some hb
    rw [hget_take, if_pos hi] at hlv hb
    exact hS.own i b x hlv hb
  inj := fun i j b x y hij hi hj hb hb2 => by
    obtain ⟨hi', hb⟩ := Rn.cut_some hb
    obtain ⟨hj', hb2⟩ := Rn.cut_some hb2
    rw [hget_take, if_pos hi'] at hi hb
    rw [hget_take, if_pos hj'] at hj hb2
    exact hS.inj i j b x y hij hi hj hb hb2
  dom := fun i n x hx => by
    obtain ⟨hi, hx⟩ := Rn.cut_some hx
    have := hS.dom i n x hx
    simp only [List.length_take]
    omega
  ver := fun i sz ag ds hd n x hx => by
    obtain ⟨hi, hx⟩ := Rn.cut_some hx
    rw [hget_take, if_pos hi] at hd
    exact hS.ver i sz ag ds hd n x hx
  keep := hS.keep
  frame := hS.frame

theorem St.norm {m0 : Nat} {ts ts' : List D} {H' : Hp} {a : Act} (hst : St w0 M0 hI h1 ρ0 ts H a w) (hd0 : ∀ i n x, ρ0 i n = some x → i < m0) (hn : Norm m0 ts H ts' H') : St w0 M0 hI h1 ρ0 ts' H' a w := by
  obtain ⟨h, ρ, hg, hρ, hS, hF, hmk⟩ := hst
  have hF' : RelF h ρ ts' a := ⟨hn.len.trans hF.1, fun t => by
    rcases hn.weak t with e | e
    · rw [e]; exact hF.2 t
    · rw [e]; exact .und _⟩
  rcases hn.heap with rfl | ⟨m, hm, rfl, ht, hh⟩
  · exact ⟨h, ρ, hg, hρ, hS, hF', hmk⟩
  · have hS' := hS.drop hh
    exact ⟨h, _, hg, fun i n x hx => by rw [Rn.cut_lt (by have := hd0 i n x hx; omega)]; exact hρ i n x hx, hS', ⟨hF'.1, fun t => (hF'.2 t).under (underL_nth ht t)⟩, hmk.re hS'⟩

theorem awp_sound {cx : Cx} {l0 : Option Nat} (hm : P.follows .mixedOrders = true) (hb : GLe E.h0 h1) (hrd : RdOk ρ0 cx.rd l0) (hd0 : ∀ i n x, ρ0 i n = some x → i < cx.m0) : ∀ (c : Code) (Q : Post) (ts : List D) (H : Hp) (a : Act) (w : World), awp P E cx c Q ts H → St w0 M0 hI h1 ρ0 ts H a w → c.wpIn (fen l0) 0 P (Up w0 M0 hI h1 ρ0 Q) a w
  | .skip, Q, ts, H, a, w, h, hst => wpIn_skip ⟨ts, H, h, hst⟩
  | .region _ ops false, Q, ts, H, a, w, h, hst => aseq_wp hb (fun ts H a w hk hs => ⟨ts, H, hk, hs⟩) h hst
  | .region _ ops true, Q, ts, H, a, w, h, hst => by
    obtain ⟨m, h1, h2⟩ := h
    exact aq_wp hm hb h1 (fun ts H a w hk hs => ⟨ts, H, hk, hs⟩) h2 hst
  | .seq x y, Q, ts, H, a, w, h, hst => by
    refine wpIn_seq (wpIn_mono (awp_sound hm hb hrd hd0 x _ ts H a w h hst) fun e a w hh => ?_)
    obtain ⟨ts', H', hq, hs⟩ := hh
    cases e <;> first
      | exact awp_sound hm hb hrd hd0 y Q ts' H' a w hq hs
      | exact ⟨ts', H', hq, hs⟩
  | .cond c x y, Q, ts, H, a, w, h, hst => by
    obtain ⟨b, h1, h2⟩ := h
    obtain ⟨hh, ρ, hg, hρ, hS, hF, hdef⟩ := hst
    have hc := hF.ev (hb.trans hg) c
    rw [h1] at hc
    have hv : a.eval c = .bool b := by
      generalize a.eval c = v at hc
      cases hc
      rfl
    refine wpIn_cond hv ?_
    cases b
    · exact awp_sound hm hb hrd hd0 y Q ts H a w h2 ⟨hh, ρ, hg, hρ, hS, hF, hdef⟩
    · exact awp_sound hm hb hrd hd0 x Q ts H a w h2 ⟨hh, ρ, hg, hρ, hS, hF, hdef⟩
  | .block id c, Q, ts, H, a, w, h, hst => by
    refine wpIn_block (wpIn_mono (awp_sound hm hb hrd hd0 c _ ts H a w h hst) fun e a w hh => ?_)
    obtain ⟨ts', H', hq, hs⟩ := hh
    cases e <;> simp only [Post.block] at hq <;> simp only [Exit.inBlock] <;> first
      | exact ⟨ts', H', hq, hs⟩
      | (split at hq
         · rename_i he
           rw [if_pos he]
           exact ⟨ts', H', hq, hs⟩
         · rename_i he
           rw [if_neg he]
           exact ⟨ts', H', hq, hs⟩)
  | .loop c, Q, ts, H, a, w, h, hst => by
    obtain ⟨n, h⟩ := h
    have key : ∀ (n : Nat) (ts : List D) (H : Hp) (a : Act) (w : World), loopN cx.m0 (awp P E cx c) Q n ts H → St w0 M0 hI h1 ρ0 ts H a w → ∀ (b : Frame) (k : List Item) (cs : List Frame), b.roundOf = (fen l0).round → (fen l0).fn b.fn → (fen l0).room (cs.length + 1 + 0) →
        ∃ e a' w', Up w0 M0 hI h1 ρ0 Q e a' w' ∧ ArrivesIn (Machine.fenced P (fen l0)) P (lone (b.atR a (.code c :: .inLoop c :: k)) cs w) b k cs e a' w' := by
      intro n
      induction n with
      | zero => intro ts H a w h; exact h.elim
      | succ n ih =>
        intro ts H a w h hst b k cs hro hbf hr
        obtain ⟨tsn, Hn, hno, h⟩ := h
        obtain ⟨e, a₁, w₁, hq, harr⟩ := awp_sound hm hb hrd hd0 c _ tsn Hn a w h (hst.norm hd0 hno) b (.inLoop c :: k) cs hro hbf hr
        obtain ⟨ts', H', hq, hs⟩ := hq
        cases e with
        | normal =>
          obtain ⟨e₂, a₂, w₂, hq₂, harr₂⟩ := ih ts' H' a₁ w₁ hq hs b k cs hro hbf hr
          exact ⟨e₂, a₂, w₂, hq₂, .of_steps (StepsIn.trans harr (.one (fenced_calm hbf hr rfl) stepR_inLoop)) harr₂⟩
        | exit id => exact ⟨_, a₁, w₁, ⟨ts', H', hq, hs⟩, .pass (x := .inLoop c) rfl (fun _ _ => .inl (by simp)) harr⟩
        | goto l => exact ⟨_, a₁, w₁, ⟨ts', H', hq, hs⟩, .pass (x := .inLoop c) rfl (fun _ _ => .inl (by simp)) harr⟩
        | ret => exact ⟨_, a₁, w₁, ⟨ts', H', hq, hs⟩, .pass (x := .inLoop c) rfl (fun _ _ => .inl (by simp)) harr⟩
        | panic ch => exact ⟨_, a₁, w₁, ⟨ts', H', hq, hs⟩, .pass (x := .inLoop c) rfl (fun _ _ => .inl (by simp)) harr⟩
        | outgrown => exact ⟨_, a₁, w₁, ⟨ts', H', hq, hs⟩, .pass (x := .inLoop c) rfl (fun _ _ => .inl (by simp)) harr⟩
    intro b k cs hro hbf hr
    obtain ⟨e, a', w', hq, harr⟩ := key n ts H a w h hst b k cs hro hbf hr
    exact ⟨e, a', w', hq, .of_steps (.one (fenced_calm hbf hr rfl) stepR_loop) harr⟩
  | .exit id, Q, ts, H, a, w, h, hst => wpIn_exit ⟨ts, H, h, hst⟩
  | .ret, Q, ts, H, a, w, h, hst => wpIn_ret ⟨ts, H, h, hst⟩
  | .rangeFunc g ps asg body, Q, ts, H, a, w, h, hst => rng_sound hb hrd h hst
  | .scope c, Q, ts, H, a, w, h, hst => by
    refine wpIn_scope (wpIn_mono (awp_sound hm hb hrd hd0 c _ ts H a w h hst) fun e a w hh => ?_)
    obtain ⟨ts', H', hq, hs⟩ := hh
    cases e <;> simp only [Post.scope] at hq <;> simp only [Exit.noGoto] <;> first
      | exact ⟨ts', H', hq, hs⟩
      | exact hq.elim
  | .label _, Q, ts, H, a, w, h, hst => wpIn_label ⟨ts, H, h, hst⟩
  | .goto _, Q, ts, H, a, w, h, hst => h.elim
  | .refuse _, Q, ts, H, a, w, h, hst => h.elim

/-- A result variable's data. -/
def resV (P : Program) (ts : List D) (H : Hp) : ResultVar → Option D
  | .tmp t => some (nth ts t)
  | .cell a t => dLoad (ty P t) (szOf P t) H (nth ts a)
def resL (P : Program) (ts : List D) (H : Hp) : List ResultVar → Option (List D)
  | [] => some []
  | r :: rs => match resV P ts H r, resL P ts H rs with
    | some d, some ds => some (d :: ds)
    | _, _ => none
def resD (P : Program) (ts : List D) (H : Hp) (rs : List ResultVar) : Option D :=
  match resL P ts H rs with
  | some [d] => some d
  | some ds => some (.tup ds)
  | none => none

theorem run_resV (hS : Sim w0 M0 hI h ρ H w) {ts : List D} {a : Act} (hF : RelF h ρ ts a) {r : ResultVar} {d : D} (e : resV P ts H r = some d) :
    ∃ v, ((match r with | .tmp t => pure (a.tmps.getD t undef) | .cell x t => do loadVar t (← asAddr (a.tmps.getD x undef)) : Sem Value)).run P w = .ok v w ∧ RelV h ρ d v := by
  cases r with
  | tmp t =>
    simp only [resV, Option.some.injEq] at e
    subst e
    exact ⟨_, rfl, hF.2 t⟩
  | cell x t =>
    simp only [resV] at e
    obtain ⟨v, hv, rv⟩ := run_loadAt (P := P) hS (hF.2 x) e
    refine ⟨v, ?_, rv⟩
    have hx := hF.2 x
    show ((do loadVar t (← asAddr (a.tmps.getD x undef)) : Sem Value)).run P w = _
    generalize a.tmps.getD x undef = vx at hv hx ⊢
    generalize nth ts x = dx at e hx
    cases hx <;> first
      | (simp only [Instr.loadAt, Instr.sureAddr, Sem.run_bind, Sem.run_pure, Result.andThen_ok] at hv; simp only [asAddr, Sem.run_bind, Sem.run_pure, Result.andThen_ok]; exact hv)
      | (simp only [dLoad] at e; cases e)

theorem run_resL (hS : Sim w0 M0 hI h ρ H w) {ts : List D} {a : Act} (hF : RelF h ρ ts a) : ∀ {rs : List ResultVar} {ds : List D}, resL P ts H rs = some ds →
    ∃ vs : List Value, ((rs.mapM fun | .tmp t => pure (a.tmps.getD t undef) | .cell x t => do loadVar t (← asAddr (a.tmps.getD x undef)) : Sem (List Value))).run P w = .ok vs w ∧ vs.length = ds.length ∧ ∀ (j : Nat) (d : D), ds[j]? = some d → ∃ v : Value, vs[j]? = some v ∧ RelV h ρ d v
  | [], ds, e => by
    simp only [resL, Option.some.injEq] at e
    subst e
    exact ⟨[], rfl, rfl, fun j d hj => by simp at hj⟩
  | r :: rs, ds, e => by
    simp only [resL] at e
    split at e
    · rename_i d ds' h1 h2
      cases e
      obtain ⟨v, hv, rv⟩ := run_resV (P := P) hS hF h1
      obtain ⟨vs, hvs, hl, hr⟩ := run_resL hS hF h2
      refine ⟨v :: vs, ?_, by simp [hl], fun j d' hj => ?_⟩
      · rw [List.mapM_cons, Sem.run_bind]
        have hv' := hv
        cases r <;> simp only at hv' ⊢ <;> rw [hv'] <;> simp only [Result.andThen_ok, Sem.run_bind] <;> rw [hvs] <;> rfl
      · cases j with
        | zero => simp at hj; subst hj; exact ⟨v, rfl, rv⟩
        | succ j => exact hr j d' (by simpa using hj)
    · cases e

theorem run_results (hS : Sim w0 M0 hI h ρ H w) {ts : List D} {a : Act} (hF : RelF h ρ ts a) {fn : Func} {d : D} (e : resD P ts H fn.results.toList = some d) : ∃ v, (results fn a.tmps).run P w = .ok v w ∧ RelV h ρ d v := by
  unfold resD at e
  cases hr : resL P ts H fn.results.toList with
  | none => simp [hr] at e
  | some ds =>
    obtain ⟨vs, hvs, hl, hget⟩ := run_resL (P := P) hS hF hr
    have hrun : (results fn a.tmps).run P w = .ok (if h : vs.toArray.size = 1 then vs.toArray[0] else .tuple vs.toArray) w := by
      simp only [results, Sem.run_bind, Array.mapM_eq_mapM_toList, Sem.run_map]
      erw [hvs]
      simp only [Result.andThen_ok, Sem.run_pure]
    refine ⟨_, hrun, ?_⟩
    rw [hr] at e
    split at e
    · rename_i d' hds
      cases hds
      cases e
      obtain ⟨v, hv, rv⟩ := hget 0 d rfl
      match vs, hl with
      | [x], _ => simp at hv; subst hv; simpa using rv
    · rename_i ds' hne hds
      cases hds
      cases e
      rw [dif_neg]
      · refine .tup _ _ (by simp [hl]) (fun j => vs.toArray.getD j undef) (fun j hj => ?_) (fun j d hj => ?_)
        · simp [hl, hj, Array.getD]
        · obtain ⟨v, hv, rv⟩ := hget j d hj
          rw [Array.getD_eq_getD_getElem?]
          simp [hv]
          exact rv
      · intro h1
        have h2 : ds.length = 1 := by rw [← hl]; simpa using h1
        obtain ⟨x, hx⟩ := List.length_eq_one_iff.1 h2
        exact hne x hx
    · cases e
end
end Go.Lv

namespace Go.Lv
open Go
set_option linter.unusedVariables false
set_option linter.unusedSimpArgs false

/-- Data that own nothing, out of data that may own rows: those are written no more. -/
def reifyL (f : Hp → D → Option (D × Hp)) : Hp → List D → Option (List D × Hp)
  | H, [] => some ([], H)
  | H, d :: l => match f H d with
    | some (d', H') => match reifyL f H' l with
      | some (l', H'') => some (d' :: l', H'')
      | none => none
    | none => none
def reify : Nat → Hp → D → Option (D × Hp)
  | 0, H, d => if d.closed then some (d, H) else none
  | k + 1, H, d => if d.closed then some (d, H) else
    match d with
    | .own i len n => match hget H i with
      | .row sz ag cs | .frz sz ag cs =>
        if cs.length = n ∧ len * sz ≤ n then
          match reifyL (reify k) (frz1 H i) (cs.take (len * sz)) with
          | some (cs', H') => if ag = true ∨ sz = 1 ∧ allCell cs' = true then some (.list false (els ag sz len cs'), H') else none
          | none => none
        else none
      | _ => none
    | .agg cs => match reifyL (reify k) H cs with
      | some (cs', H') => some (.agg cs', H')
      | none => none
    | .tup cs => match reifyL (reify k) H cs with
      | some (cs', H') => some (.tup cs', H')
      | none => none
    | _ => none

section
variable {P : Program} {w0 : World} {M0 : Nat → Prop} {hI h1 h : Gh} {ρ0 ρ : Rn} {H : Hp} {w : World} {E : Env}

def ReOk (w0 : World) (M0 : Nat → Prop) (hI : Gh) (ρ : Rn) (w : World) (f : Hp → D → Option (D × Hp)) : Prop :=
  ∀ (h : Gh) (H : Hp) (d : D) (v : Value) (d' : D) (H' : Hp), f H d = some (d', H') → Sim w0 M0 hI h ρ H w → RelV h ρ d v → ∃ h', GLe h h' ∧ Sim w0 M0 hI h' ρ H' w ∧ RelV h' ρ d' v ∧ d'.closed = true

theorem reifyL_sound {f : Hp → D → Option (D × Hp)} (hf : ReOk w0 M0 hI ρ w f) : ∀ (l : List D) (h : Gh) (H : Hp) (us : Nat → Value) (l' : List D) (H' : Hp), reifyL f H l = some (l', H') → Sim w0 M0 hI h ρ H w → (∀ (j : Nat) (d : D), l[j]? = some d → RelV h ρ d (us j)) →
    ∃ h', GLe h h' ∧ Sim w0 M0 hI h' ρ H' w ∧ l'.length = l.length ∧ D.closedL l' = true ∧ ∀ (j : Nat) (d : D), l'[j]? = some d → RelV h' ρ d (us j)
  | [], h, H, us, l', H', e, hS, hr => by
    simp only [reifyL, Option.some.injEq, Prod.mk.injEq] at e
    obtain ⟨rfl, rfl⟩ := e
    exact ⟨h, .refl _, hS, rfl, rfl, fun j d hj => by simp at hj⟩
  | d :: l, h, H, us, l', H', e, hS, hr => by
    simp only [reifyL] at e
    split at e
    · rename_i d1 H1 h1
      split at e
      · rename_i l1 H2 h2
        cases e
        obtain ⟨ha, g1, s1, r1, c1⟩ := hf h H d (us 0) d1 H1 h1 hS (hr 0 d rfl)
        obtain ⟨hb, g2, s2, len, cl, r2⟩ := reifyL_sound hf l ha H1 (fun j => us (j + 1)) l1 _ h2 s1 (fun j d hj => (hr (j + 1) d (by simpa using hj)).mono g1 (.refl _))
        refine ⟨hb, g1.trans g2, s2, by simp [len], by simp [D.closedL, c1, cl], fun j d hj => ?_⟩
        cases j with
        | zero => simp at hj; subst hj; exact r1.mono g2 (.refl _)
        | succ j => exact r2 j d (by simpa using hj)
      · cases e
    · cases e

theorem reify_sound : ∀ (k : Nat), ReOk w0 M0 hI ρ w (reify k)
  | 0 => by
    intro h H d v d' H' e hS hr
    simp only [reify] at e
    split at e
    · rename_i hc
      cases e
      exact ⟨h, .refl _, hS, hr, hc⟩
    · cases e
  | k + 1 => by
    intro h H d v d' H' e hS hr
    have ih := reify_sound k
    simp only [reify] at e
    split at e
    · rename_i hc
      cases e
      exact ⟨h, .refl _, hS, hr, hc⟩
    · split at e
      · rename_i i len n _
        cases hr with | own _ _ _ b c cs0 sz0 hb hcs hlen =>
        have go : ∀ (sz : Nat) (ag : Bool) (cs : List D), (hget H i = .row sz ag cs ∨ hget H i = .frz sz ag cs) → cs.length = n → len * sz ≤ n → ∀ cs', reifyL (reify k) (frz1 H i) (cs.take (len * sz)) = some (cs', H') → (ag = true ∨ sz = 1 ∧ allCell cs' = true) →
            ∃ h', GLe h h' ∧ Sim w0 M0 hI h' ρ H' w ∧ RelV h' ρ (.list false (els ag sz len cs')) (.slice (some ⟨b, 0, none⟩) len c) ∧ (D.list false (els ag sz len cs')).closed = true := by
          intro sz ag cs hg hn hle cs' hre hc
          obtain ⟨h1, g1, s1⟩ := hS.freeze i
          have hfr : hget (frz1 H i) i = .frz sz ag cs := by
            rcases hg with hg | hg
            · have hil := hS.live_lt (i := i) (by rw [hg]; rfl)
              simp only [frz1, hg]
              rw [hget_set, if_pos ⟨rfl, hil⟩]
            · simp only [frz1, hg]
          have hblk := s1.blk i
          rw [hfr] at hblk
          obtain ⟨b', c', s', ccs, el, fz, a1, a2, a3⟩ := hblk
          rw [hn, hb] at a1
          cases a1
          have r3 := a3.take (len * sz)
          obtain ⟨h2, g2, s2, hl2, cl2, rel2⟩ := reifyL_sound ih (cs.take (len * sz)) h1 _ (fun j => ccs.getD j undef) cs' H' hre s1 (fun j d hj => by
            obtain ⟨u, q1, _, q3⟩ := r3 j d hj
            rw [Nat.zero_add] at q1
            rw [Array.getD_eq_getD_getElem?, q1]
            exact q3)
          have hlt : cs'.length = len * sz := by rw [hl2]; simp; omega
          refine ⟨h2, g1.trans g2, s2, RelV.ofRow (g2 _ _ a2) (fun j d hj => ?_) hlt hc cl2 hlen (fun h => by cases h), rfl⟩
          have hj' : j < (cs.take (len * sz)).length := by rw [← hl2]; exact (List.getElem?_eq_some_iff.1 hj).1
          obtain ⟨u, q1, q2, _⟩ := r3 j _ (List.getElem?_eq_getElem hj')
          have := rel2 j d hj
          rw [Nat.zero_add] at q1
          rw [Array.getD_eq_getD_getElem?, q1] at this
          exact ⟨u, by rw [Nat.zero_add]; exact q1, q2, this⟩
        split at e
        · rename_i sz ag cs hg
          split at e
          · rename_i hh
            split at e
            · rename_i cs' H1 hre
              split at e
              · rename_i hc
                cases e
                exact go sz ag cs (.inl hg) hh.1 hh.2 cs' hre hc
              · cases e
            · cases e
          · cases e
        · rename_i sz ag cs hg
          split at e
          · rename_i hh
            split at e
            · rename_i cs' H1 hre
              split at e
              · rename_i hc
                cases e
                exact go sz ag cs (.inr hg) hh.1 hh.2 cs' hre hc
              · cases e
            · cases e
          · cases e
        · cases e
      · rename_i cs _
        split at e
        · rename_i cs' H1 hre
          cases e
          cases hr with | agg _ vs hs h1 us hu hrel =>
          obtain ⟨h2, g2, s2, hl2, cl2, rel2⟩ := reifyL_sound ih cs h H us cs' _ hre hS hrel
          exact ⟨h2, g2, s2, .agg _ vs (by rw [hs, hl2]) h1 us (fun j hj => hu j (by rw [← hl2]; exact hj)) rel2, by simpa [D.closed] using cl2⟩
        · cases e
      · rename_i cs _
        split at e
        · rename_i cs' H1 hre
          cases e
          cases hr with | tup _ vs hs us hu hrel =>
          obtain ⟨h2, g2, s2, hl2, cl2, rel2⟩ := reifyL_sound ih cs h H us cs' _ hre hS hrel
          exact ⟨h2, g2, s2, .tup _ vs (by rw [hs, hl2]) us (fun j hj => hu j (by rw [← hl2]; exact hj)) rel2, by simpa [D.closed] using cl2⟩
        · cases e
      · cases e

def undL : Nat → List D
  | 0 => []
  | n + 1 => .und :: undL n
theorem undL_len : ∀ n, (undL n).length = n
  | 0 => rfl
  | n + 1 => by simp [undL, undL_len n]
theorem undL_get : ∀ (n j : Nat), nth (undL n) j = .und
  | 0, j => rfl
  | n + 1, 0 => rfl
  | n + 1, j + 1 => undL_get n j
theorem nth_app : ∀ (l m : List D) (j : Nat), nth (l ++ m) j = if j < l.length then nth l j else nth m (j - l.length)
  | [], m, j => by simp [nth]
  | a :: l, m, 0 => by simp [nth]
  | a :: l, m, j + 1 => by simp only [List.cons_append, nth, List.length_cons]; rw [nth_app l m j]; simp only [Nat.add_lt_add_iff_right, Nat.add_sub_add_right]

/-- The end of a body. -/
def Fin (P : Program) (rs : List ResultVar) (post : D → Hp → Prop) : Post
  | .normal, ts, H | .ret, ts, H => ∃ d, resD P ts H rs = some d ∧ ∃ r H', reify 6 H d = some (r, H') ∧ post r H'
  | _, _, _ => False

/-- A block that is nobody's is written. -/
theorem Sim.turn (hS : Sim w0 M0 hI h ρ H w) {b : Nat} {o : Obj} (hm : Mark w0 h ρ H w b) : Sim w0 M0 hI h ρ H (w.putObj b o) where
  os := hS.os
  tape := hS.tape
  output := hS.output
  size := by simp; exact hS.size
  imm := fun c p hc => by
    show (w.putObj b o).heap[c]? = some p
    rw [World.putObj_heap_other (fun e => by rw [e, hm.none] at hc; cases hc)]
    exact hS.imm c p hc
  blk := fun j => (hS.blk j).mono (.refl _) (.refl _) fun b' x' hl' hb' hn => ⟨World.putObj_heap_other fun e => hm.free ⟨j, x', hl', by rw [← e]; exact hb'⟩, hn⟩
  own := hS.own
  inj := hS.inj
  dom := hS.dom
  ver := hS.ver
  keep := hS.keep
  frame := fun c hc hmm => by
    rw [World.putObj_heap_other (fun e => by have := hm.new; omega)]
    exact hS.frame c hc hmm

theorem leave_marks {fn : Func} {tmps : Array Value} {R : Ending → World → Prop} (hfin : ∀ w', Sim w0 M0 hI h ρ H w' → ∃ v, (results fn tmps).run P w' = .ok v w' ∧ R (.returned v) w') :
    ∀ (bs : List Nat) (w : World), bs.Nodup → (∀ b ∈ bs, Mark w0 h ρ H w b) → Sim w0 M0 hI h ρ H w → LeavesInM Fence.wide 0 P fn tmps R (bs.map mark) .returning w
  | [], w, hn, hm, hS => by
    obtain ⟨v, h1, h2⟩ := hfin w hS
    exact ⟨v, h1, h2⟩
  | b :: bs, w, hn, hm, hS => by
    have hb := hm b (by simp)
    have hS' := hS.turn (o := .deferred none) hb
    obtain ⟨n1, n2⟩ := List.nodup_cons.1 hn
    refine ⟨by simp, .inl ⟨b, _, rfl, run_takeDeferred hb.lies, leave_marks hfin bs _ n2 (fun c hc => ?_) hS'⟩⟩
    obtain ⟨m1, m2, m3, m4⟩ := hm c (by simp [hc])
    have hcb : c ≠ b := fun e => n1 (e ▸ hc)
    exact ⟨by rw [World.putObj_heap_other hcb]; exact m1, m2, m3, m4⟩

/-- The frame in which a call begins. -/
theorem call_start {f : FuncId} {fn : Func} {c : Code} {args : List D} {vs : Array Value} {hh : Gh} (hS : Sim w0 M0 hI hh ρ H w) (hsz : vs.size = args.length) (hrel : AllRel hh ρ args vs) :
    St w0 M0 hI hh ρ (args ++ undL (fn.ntmps - args.length)) H { tmps := vs ++ Array.replicate (fn.ntmps - vs.size) undef, defers := [] } w := by
  refine ⟨hh, ρ, .refl _, .refl _, hS, ⟨by simp [undL_len, hsz], fun t => ?_⟩, .nil _ _ _ _ _⟩
  rw [nth_app, Array.getD_eq_getD_getElem?, Array.getElem?_append, ← hsz]
  split
  · rename_i hlt
    rw [nth_get]
    have hlt' : t < args.length := by omega
    obtain ⟨v, hv, rv⟩ := hrel t args[t] (by simp [hlt'])
    rw [List.getElem?_eq_getElem hlt', hv]
    exact rv
  · rw [undL_get]
    exact .und _

/-- A call, out of its body. -/
theorem calls_by {f : FuncId} {fn : Func} {c : Code} {args : List D} {vs : Array Value} {hh : Gh} {Q : Post} {R : Ending → World → Prop} (hm : P.follows .mixedOrders = true) (hf : P.funcs[f]? = some fn) (hc : fn.body = some c)
    (hbase : GLe E.h0 hh) (hS : Sim w0 M0 hI hh ρ H w) (hsz : vs.size = args.length) (hrel : AllRel hh ρ args vs) (h : awp P E ⟨none, H.length⟩ c Q (args ++ undL (fn.ntmps - args.length)) H)
    (hQ : ∀ e ts H', Q e ts H' → (e = .normal ∨ e = .ret) ∧ ∃ d, resD P ts H' fn.results.toList = some d ∧ ∀ h' ρ' w' v, GLe hh h' → RLe ρ ρ' → Sim w0 M0 hI h' ρ' H' w' → RelV h' ρ' d v → R (.returned v) w') : Calls P f vs w R := by
  refine callsIn_wide.1 (callsIn_of_wp_marks (n := 0) hf hc trivial ?_)
  refine wpIn_mono (awp_sound (l0 := none) hm hbase (cx := ⟨none, H.length⟩) trivial hS.dom c _ _ H _ w h (call_start (f := f) (c := c) hS hsz hrel)) fun e a w' hup => ?_
  obtain ⟨ts, H', hq, h', ρ', hg, hρ, hS', hF, bs, hd, hnd, hmk⟩ := hup
  obtain ⟨he, d, hres, hfin⟩ := hQ e ts H' hq
  have key : LeavesInM Fence.wide 0 P fn a.tmps R a.defers .returning w' := by
    rw [hd]
    refine leave_marks (fun w'' hS'' => ?_) bs w' hnd hmk hS'
    obtain ⟨v, hv, rv⟩ := run_results (P := P) hS'' hF hres
    exact ⟨v, hv, hfin h' ρ' w'' v hg hρ hS'' rv⟩
  rcases he with rfl | rfl
  · exact key
  · exact key

theorem calls_by' {f : FuncId} {fn : Func} {c : Code} {args : List D} {vs : Array Value} {hh : Gh} {Q : Post} {R : Ending → World → Prop} (hm : P.follows .mixedOrders = true) (hf : P.funcs[f]? = some fn) (hc : fn.body = some c)
    (hbase : GLe E.h0 hh) (hS : Sim w0 M0 hI hh ρ H w) (hsz : vs.size = args.length) (hrel : AllRel hh ρ args vs) (h : awp P E ⟨none, H.length⟩ c Q (args ++ undL (fn.ntmps - args.length)) H)
    (hQ : ∀ e ts H', Q e ts H' → (e = .normal ∨ e = .ret) ∧ ∃ d, resD P ts H' fn.results.toList = some d ∧ ∀ h' ρ' w' v, GLe hh h' → RLe ρ ρ' → Sim w0 M0 hI h' ρ' H' w' → RelV h' ρ' d v → R (.returned v) w') : Calls P f vs w R := calls_by hm hf hc hbase hS hsz hrel h hQ
/-- A contract out of the body. -/
theorem den_of {f : FuncId} {fn : Func} {c : Code} {args : List D} {S : Hp} {post : D → Hp → Prop} (hm : P.follows .mixedOrders = true) (hf : P.funcs[f]? = some fn) (hc : fn.body = some c)
    (h : awp P E ⟨none, S.length⟩ c (Fin P fn.results.toList post) (args ++ undL (fn.ntmps - args.length)) S) : Den P E f args S post := by
  intro hh ρ w vs M hbase hS hsz hrel
  refine calls_by hm hf hc hbase hS hsz hrel h fun e ts H hq => ?_
  have fin : (∃ d, resD P ts H fn.results.toList = some d ∧ ∃ r H', reify 6 H d = some (r, H') ∧ post r H') → ∃ d, resD P ts H fn.results.toList = some d ∧ ∀ h' ρ' w' v, GLe hh h' → RLe ρ ρ' → Sim w M hh h' ρ' H w' → RelV h' ρ' d v →
      ∃ v' r S' h'' ρ'', Ending.returned v = .returned v' ∧ post r S' ∧ GLe hh h'' ∧ RLe ρ ρ'' ∧ Sim w M hh h'' ρ'' S' w' ∧ RelV h'' ρ'' r v' := by
    rintro ⟨d, hd, r, H', hre, hp⟩
    refine ⟨d, hd, fun h' ρ' w' v hg hρ hS' rv => ?_⟩
    obtain ⟨h2, g2, s2, r2, _⟩ := reify_sound 6 h' H d v r H' hre hS' rv
    exact ⟨v, r, H', h2, ρ', rfl, hp, hg.trans g2, hρ, s2, r2⟩
  cases e <;> simp only [Fin] at hq <;> first
    | exact ⟨.inl rfl, fin hq⟩
    | exact ⟨.inr rfl, fin hq⟩
    | exact hq.elim

theorem pden_of {f : FuncId} {fn : Func} {c : Code} {args : List D} {r : D} (hm : P.follows .mixedOrders = true) (hf : P.funcs[f]? = some fn) (hc : fn.body = some c) (ha : D.closedL args = true) (hr : r.closed = true)
    (h : awp P E ⟨none, 0⟩ c (Fin P fn.results.toList fun r' _ => r' = r) (args ++ undL (fn.ntmps - args.length)) []) : PDen P E f args r := ⟨ha, hr, den_of hm hf hc h⟩
end
end Go.Lv

namespace Go.Lv
open Go
set_option linter.unusedVariables false
set_option linter.unusedSimpArgs false
/- ### What points beyond its memory is not told -/
section
variable {w0 : World} {M0 : Nat → Prop} {hI h : Gh} {ρ : Rn} {H : Hp} {w : World} {P : Program} {E : Env}
theorem underL_of {m : Nat} : ∀ {l : List D}, (∀ (j : Nat) (d : D), l[j]? = some d → d.under m = true) → D.underL m l = true
  | [], _ => rfl
  | d :: l, h => by
    simp only [D.underL, Bool.and_eq_true]
    exact ⟨h 0 d rfl, underL_of fun j d hj => h (j + 1) d (by simpa using hj)⟩
theorem RelV.told {m : Nat} (hd : ∀ i n x, ρ i n = some x → i < m) {d : D} {v : Value} (r : RelV h ρ d v) : d.under m = true := by
  induction r with
  | und v => rfl
  | bool b => rfl
  | int k n => rfl
  | str l s e => rfl
  | lnil t a c ht => rfl
  | list t xs b off n c sz cs e fz us hx hn hlen ht hsz hcl hcc hb hc ho hr ih => rfl
  | «at» ds off b o o' cs e fz us hb ho hc h1 hr ih => exact underL_of fun j d hj => ih j d hj
  | nilp => rfl
  | ptr i off n b c s hb => simpa [D.under] using hd _ _ _ hb
  | own i len n b c cs sz hb hc hl => simpa [D.under] using hd _ _ _ hb
  | asl i off len n b o c cs sz hb hl ho => simpa [D.under] using hd _ _ _ hb
  | agg ds vs hs h1 us hu hr ih => exact underL_of fun j d hj => ih j d hj
  | tup ds vs hs us hu hr ih => exact underL_of fun j d hj => ih j d hj
  | fn f fi ca fv cv us ws hs hs' hu hw hr hq ih1 ih2 =>
    simp only [D.under, Bool.and_eq_true]
    exact ⟨underL_of fun j d hj => ih1 j d hj, underL_of fun j d hj => ih2 j d hj⟩
  | nilf => rfl
  | iface t d v hr ih => exact ih
  | nili => rfl
  | yld i b x hb => simpa [D.under] using hd _ _ _ hb
  | mp i b x hb => simpa [D.under] using hd _ _ _ hb
  | nilm => rfl
theorem Row.told {m : Nat} (hd : ∀ i n x, ρ i n = some x → i < m) {cs : Array Value} {off : Nat} {ds : List D} (r : Row h ρ cs off ds) : D.underL m ds = true :=
  underL_of fun j d hj => let ⟨_, _, _, hr⟩ := r j d hj; hr.told hd
theorem nth_underL {m : Nat} : ∀ {l : List D}, (∀ t, (nth l t).under m = true) → D.underL m l = true
  | [], _ => rfl
  | d :: l, h => by
    simp only [D.underL, Bool.and_eq_true]
    exact ⟨h 0, nth_underL fun t => h (t + 1)⟩
theorem RelB.told {m i : Nat} {bl : Blk} (hd : ∀ i n x, ρ i n = some x → i < m) (r : RelB h ρ i w bl) : bl.under m = true := by
  cases bl with
  | var ds => obtain ⟨b, c, s, cs, e, fz, a1, a2, a3, a4, a5, a6, a7⟩ := r; exact a6.told hd
  | row sz ag ds => obtain ⟨b, c, cs, e, fz, a1, a2, a3, a4, a5, a6, a7⟩ := r; exact a6.told hd
  | frz sz ag ds => obtain ⟨b, c, s, cs, e, fz, a1, a2, a3⟩ := r; exact a3.told hd
  | iter s pos => rfl
  | rng ts ps asg body st => obtain ⟨b, x, r', a1, a2, a3, a4, a5⟩ := r; exact nth_underL fun t => (a4.2 t).told hd
  | map es =>
    obtain ⟨b, x, l, c, a1, a2, a3, a4, a5, a6⟩ := r
    have : ∀ (es : List (D × D)), (∀ (j : Nat) (e : D × D), es[j]? = some e → e.1.under m = true ∧ e.2.under m = true) → underP m es = true := by
      intro es
      induction es with
      | nil => intro _; rfl
      | cons e es ih =>
        intro hh
        simp only [underP, Bool.and_eq_true]
        exact ⟨(hh 0 e rfl).1, (hh 0 e rfl).2, ih fun j e hj => hh (j + 1) e (by simpa using hj)⟩
    exact this es fun j e hj => let ⟨y, q1, q2, q3, q4⟩ := a6 j e hj; ⟨q2.told hd, q3.told hd⟩
  | dead => rfl
theorem underH_of {m : Nat} : ∀ {H : Hp}, (∀ i, (hget H i).under m = true) → underH m H = true
  | [], _ => rfl
  | b :: H, h => by
    simp only [underH, Bool.and_eq_true]
    exact ⟨h 0, underH_of fun i => h (i + 1)⟩
theorem Sim.told (hS : Sim w0 M0 hI h ρ H w) : underH H.length H = true := underH_of fun i => (hS.blk i).told hS.dom

/-- A call that leaves the caller's memory as it was, and what it made is forgotten. -/
theorem Fun.keep {f : FuncId} {args : List D} {H : Hp} {r : D} (hr : r.under H.length = true) (hf : Fun P E f args H fun d H' => d = r ∧ H'.take H.length = H) : Fun P E f args H fun d H' => d = r ∧ H' = H := by
  refine ⟨fun w0 M0 hI h ρ w vs hb hS hsz hrel => (hf.run w0 M0 hI h ρ w vs hb hS hsz hrel).mono fun e w' hh => ?_⟩
  obtain ⟨v, r', H', h', ρ', he, ⟨rfl, hH⟩, h1, h2, hS', hv⟩ := hh
  have hS2 := hS'.drop (m := H.length) (by rw [hH]; exact hS.told)
  rw [hH] at hS2
  exact ⟨v, r', H, h', _, he, ⟨rfl, rfl⟩, h1, fun i n x hx => by rw [Rn.cut_lt (hS.dom _ _ _ hx)]; exact h2 _ _ _ hx, hS2, hv.under hr⟩
end
end Go.Lv

namespace Go.Lv
open Go
set_option linter.unusedVariables false
set_option linter.unusedSimpArgs false
mutual
/-- It points only at blocks that are ok. -/
def D.only (ok : Nat → Bool) : D → Bool
  | .ptr i _ _ => ok i
  | .own i _ _ => ok i
  | .asl i _ _ _ => ok i
  | .yld i => ok i
  | .mp i => ok i
  | .at cs _ => D.onlyL ok cs
  | .agg cs => D.onlyL ok cs
  | .tup cs => D.onlyL ok cs
  | .fn _ a b => D.onlyL ok a && D.onlyL ok b
  | .iface _ d => d.only ok
  | _ => true
def D.onlyL (ok : Nat → Bool) : List D → Bool
  | [] => true
  | d :: l => d.only ok && D.onlyL ok l
end
def onlyP (ok : Nat → Bool) : List (D × D) → Bool
  | [] => true
  | e :: l => e.1.only ok && (e.2.only ok && onlyP ok l)
def Blk.only (ok : Nat → Bool) : Blk → Bool
  | .var cs | .row _ _ cs | .frz _ _ cs => D.onlyL ok cs
  | .rng ts _ _ _ _ => D.onlyL ok ts
  | .map es => onlyP ok es
  | _ => true
def onlyH (ok : Nat → Bool) : Hp → Bool
  | [] => true
  | b :: l => b.only ok && onlyH ok l
def Rn.mask (ρ : Rn) (ok : Nat → Bool) : Rn := fun i n => if ok i = true then ρ i n else none
theorem Rn.mask_ok {ρ : Rn} {ok : Nat → Bool} {i n : Nat} (hi : ok i = true) : ρ.mask ok i n = ρ i n := by simp [Rn.mask, hi]
theorem Rn.mask_some {ρ : Rn} {ok : Nat → Bool} {i n : Nat} {x : Nat × Nat × Nat} (h : ρ.mask ok i n = some x) : ok i = true ∧ ρ i n = some x := by
  unfold Rn.mask at h
  split at h
  · rename_i hi
    exact ⟨hi, h⟩
  · cases h
section
variable {w0 : World} {M0 : Nat → Prop} {hI h : Gh} {ρ : Rn} {H : Hp} {w : World} {P : Program} {E : Env}
theorem RelV.only {ok : Nat → Bool} {d : D} {v : Value} (r : RelV h ρ d v) : d.only ok = true → RelV h (Rn.mask ρ ok) d v := by
  have getL : ∀ {l : List D}, D.onlyL ok l = true → ∀ (j : Nat) (d : D), l[j]? = some d → d.only ok = true := by
    intro l
    induction l with
    | nil => intro _ j d hj; simp at hj
    | cons x l ih =>
      intro hl j d hj
      simp only [D.onlyL, Bool.and_eq_true] at hl
      cases j with
      | zero => simp at hj; exact hj ▸ hl.1
      | succ j => exact ih hl.2 j d (by simpa using hj)
  induction r with
  | und v => exact fun _ => .und v
  | bool b => exact fun _ => .bool b
  | int k n => exact fun _ => .int k n
  | str l s e => exact fun _ => .str l s e
  | lnil t a c ht => exact fun _ => .lnil t a c ht
  | list t xs b off n c sz cs e fz us hx hn hlen ht hsz hcl hcc hb hc ho hr ih =>
    exact fun _ => (RelV.list t xs b off n c sz cs e fz us hx hn hlen ht hsz hcl hcc hb hc ho hr).closed rfl
  | «at» ds off b o o' cs e fz us hb ho hc h1 hr ih => exact fun hl => .at ds off b o o' cs e fz us hb ho hc h1 fun j d hj => ih j d hj (getL (by simpa [D.only] using hl) j d hj)
  | nilp => exact fun _ => .nilp
  | ptr i off n b c s hb =>
    intro hl
    simp only [D.only] at hl
    exact .ptr i off n b c s (by rw [Rn.mask_ok hl]; exact hb)
  | own i len n b c cs sz hb hc hl' =>
    intro hl
    simp only [D.only] at hl
    exact .own i len n b c cs sz (by rw [Rn.mask_ok hl]; exact hb) hc hl'
  | asl i off len n b o c cs sz hb hl' ho =>
    intro hl
    simp only [D.only] at hl
    exact .asl i off len n b o c cs sz (by rw [Rn.mask_ok hl]; exact hb) hl' ho
  | agg ds vs hs h1 us hu hr ih => exact fun hl => .agg ds vs hs h1 us hu fun j d hj => ih j d hj (getL (by simpa [D.only] using hl) j d hj)
  | tup ds vs hs us hu hr ih => exact fun hl => .tup ds vs hs us hu fun j d hj => ih j d hj (getL (by simpa [D.only] using hl) j d hj)
  | fn f fi ca fv cv us ws hs hs' hu hw hr hq ih1 ih2 =>
    intro hl
    simp only [D.only, Bool.and_eq_true] at hl
    exact .fn f fi ca fv cv us ws hs hs' hu hw (fun j d hj => ih1 j d hj (getL hl.1 j d hj)) (fun j d hj => ih2 j d hj (getL hl.2 j d hj))
  | nilf => exact fun _ => .nilf
  | iface t d v hr ih => exact fun hl => .iface t d v (ih (by simpa [D.only] using hl))
  | nili => exact fun _ => .nili
  | yld i b x hb =>
    intro hl
    simp only [D.only] at hl
    exact .yld i b x (by rw [Rn.mask_ok hl]; exact hb)
  | mp i b x hb =>
    intro hl
    simp only [D.only] at hl
    exact .mp i b x (by rw [Rn.mask_ok hl]; exact hb)
  | nilm => exact fun _ => .nilm

theorem onlyL_get {ok : Nat → Bool} : ∀ {l : List D}, D.onlyL ok l = true → ∀ (j : Nat) (d : D), l[j]? = some d → d.only ok = true
  | [], _, j, d, hj => by simp at hj
  | x :: l, hl, j, d, hj => by
    simp only [D.onlyL, Bool.and_eq_true] at hl
    cases j with
    | zero => simp at hj; exact hj ▸ hl.1
    | succ j => exact onlyL_get hl.2 j d (by simpa using hj)
theorem onlyL_nth {ok : Nat → Bool} : ∀ {l : List D}, D.onlyL ok l = true → ∀ j, (nth l j).only ok = true
  | [], _, j => by simp [nth, D.only]
  | x :: l, hl, j => by
    simp only [D.onlyL, Bool.and_eq_true] at hl
    cases j with
    | zero => exact hl.1
    | succ j => exact onlyL_nth hl.2 j
theorem onlyP_get {ok : Nat → Bool} : ∀ {l : List (D × D)}, onlyP ok l = true → ∀ (j : Nat) (e : D × D), l[j]? = some e → e.1.only ok = true ∧ e.2.only ok = true
  | [], _, j, d, hj => by simp at hj
  | x :: l, hl, j, d, hj => by
    simp only [onlyP, Bool.and_eq_true] at hl
    cases j with
    | zero => simp at hj; exact hj ▸ ⟨hl.1, hl.2.1⟩
    | succ j => exact onlyP_get hl.2.2 j d (by simpa using hj)
theorem onlyH_get {ok : Nat → Bool} : ∀ {H : Hp}, onlyH ok H = true → ∀ i, (hget H i).only ok = true
  | [], _, i => by simp [hget, Blk.only]
  | x :: l, hl, i => by
    simp only [onlyH, Bool.and_eq_true] at hl
    cases i with
    | zero => exact hl.1
    | succ i => exact onlyH_get hl.2 i
theorem Row.only {ok : Nat → Bool} {cs : Array Value} {off : Nat} {ds : List D} (r : Row h ρ cs off ds) (hl : D.onlyL ok ds = true) : Row h (Rn.mask ρ ok) cs off ds :=
  fun j d hj => let ⟨u, a, b, c⟩ := r j d hj; ⟨u, a, b, c.only (onlyL_get hl j d hj)⟩
theorem RelB.only {ok : Nat → Bool} {i : Nat} {bl : Blk} (r : RelB h ρ i w bl) (hi : ok i = true) (hl : bl.only ok = true) : RelB h (Rn.mask ρ ok) i w bl := by
  cases bl with
  | var ds =>
    obtain ⟨b, c, s, cs, e, fz, a1, a2, a3, a4, a5, a6, a7⟩ := r
    exact ⟨b, c, s, cs, e, fz, by rw [Rn.mask_ok hi]; exact a1, a2, a3, a4, a5, a6.only hl, a7⟩
  | row sz ag ds =>
    obtain ⟨b, c, cs, e, fz, a1, a2, a3, a4, a5, a6, a7⟩ := r
    exact ⟨b, c, cs, e, fz, by rw [Rn.mask_ok hi]; exact a1, a2, a3, a4, a5, a6.only hl, a7⟩
  | frz sz ag ds =>
    obtain ⟨b, c, s, cs, e, fz, a1, a2, a3⟩ := r
    exact ⟨b, c, s, cs, e, fz, by rw [Rn.mask_ok hi]; exact a1, a2, a3.only hl⟩
  | iter s pos =>
    obtain ⟨b, c, z, bs, a1, a2, a3, a4⟩ := r
    exact ⟨b, c, z, bs, by rw [Rn.mask_ok hi]; exact a1, a2, a3, a4⟩
  | rng ts ps asg body st =>
    obtain ⟨b, x, r', a1, a2, a3, a4, a5⟩ := r
    exact ⟨b, x, r', by rw [Rn.mask_ok hi]; exact a1, a2, a3, ⟨a4.1, fun t => (a4.2 t).only (onlyL_nth hl t)⟩, a5⟩
  | map es =>
    obtain ⟨b, x, l, c, a1, a2, a3, a4, a5, a6⟩ := r
    refine ⟨b, x, l, c, by rw [Rn.mask_ok hi]; exact a1, a2, a3, a4, a5, fun j e hj => ?_⟩
    obtain ⟨y, q1, q2, q3, q4⟩ := a6 j e hj
    have := onlyP_get hl j e hj
    exact ⟨y, q1, q2.only this.1, q3.only this.2, q4⟩
  | dead => trivial


def okH (H : Hp) (i : Nat) : Bool := decide (i < H.length) && !(hget H i).isRng
def maskH : Hp → Hp
  | [] => []
  | b :: H => (if b.isRng then .dead else b) :: maskH H
theorem hget_mask : ∀ (H : Hp) (i : Nat), hget (maskH H) i = if (hget H i).isRng then .dead else hget H i
  | [], i => by simp [maskH, hget, Blk.isRng]
  | b :: H, 0 => rfl
  | b :: H, i + 1 => hget_mask H i
theorem maskH_len : ∀ (H : Hp), (maskH H).length = H.length
  | [] => rfl
  | b :: H => by simp [maskH, maskH_len H]
theorem hget_lt : ∀ {H : Hp} {i : Nat}, (hget H i).live = true → i < H.length
  | [], i, h => by simp [hget, Blk.live] at h
  | b :: H, 0, h => by simp
  | b :: H, i + 1, h => by simp; exact hget_lt (H := H) h
mutual
theorem under_only {H : Hp} : ∀ {d : D}, d.only (okH H) = true → d.under H.length = true
  | .ptr i _ _, h => by simp only [D.only, okH, Bool.and_eq_true] at h; exact h.1
  | .own i _ _, h => by simp only [D.only, okH, Bool.and_eq_true] at h; exact h.1
  | .asl i _ _ _, h => by simp only [D.only, okH, Bool.and_eq_true] at h; exact h.1
  | .yld i, h => by simp only [D.only, okH, Bool.and_eq_true] at h; exact h.1
  | .mp i, h => by simp only [D.only, okH, Bool.and_eq_true] at h; exact h.1
  | .at cs _, h => by simp only [D.only] at h; simp only [D.under]; exact under_onlyL h
  | .agg cs, h => by simp only [D.only] at h; simp only [D.under]; exact under_onlyL h
  | .tup cs, h => by simp only [D.only] at h; simp only [D.under]; exact under_onlyL h
  | .fn _ a b, h => by simp only [D.only, Bool.and_eq_true] at h; simp only [D.under, Bool.and_eq_true]; exact ⟨under_onlyL h.1, under_onlyL h.2⟩
  | .iface _ d, h => by simp only [D.only] at h; simp only [D.under]; exact under_only h
  | .und, _ => rfl
  | .bool _, _ => rfl
  | .int _ _, _ => rfl
  | .str _, _ => rfl
  | .list .., _ => rfl
  | .nilp, _ => rfl
  | .nilf, _ => rfl
  | .nili, _ => rfl
  | .nilm, _ => rfl
theorem under_onlyL {H : Hp} : ∀ {l : List D}, D.onlyL (okH H) l = true → D.underL H.length l = true
  | [], _ => rfl
  | d :: l, h => by
    simp only [D.onlyL, Bool.and_eq_true] at h
    simp only [D.underL, Bool.and_eq_true]
    exact ⟨under_only h.1, under_onlyL h.2⟩
end
/-- A call that is told no running loop. -/
theorem Fun.mask {f : FuncId} {args : List D} {r : D} (ha : D.onlyL (okH H) args = true) (hm : onlyH (okH H) (maskH H) = true) (hr : r.only (okH H) = true) (hf : Fun P E f args (maskH H) fun d H' => d = r ∧ H' = maskH H) : Fun P E f args H fun d H' => d = r ∧ H' = H := by
  refine ⟨fun w0 M0 hI h ρ w vs hb hS hsz hrel => ?_⟩
  have hrl : ∀ i, okH H i = true → (hget H i).isRng = false := fun i hi => by simp [okH] at hi; exact hi.2
  have hlt : ∀ i, okH H i = true → i < H.length := fun i hi => by simp [okH] at hi; exact hi.1
  have hok : ∀ i, (hget H i).live = true → (hget H i).isRng = false → okH H i = true := fun i h1 h2 => by simp [okH, h2, hget_lt h1]
  let M' : Nat → Prop := fun b => ∃ i x, okH H i = true ∧ (hget H i).live = true ∧ ρ i (hget H i).n = some (b, x)
  have hg : ∀ i, okH H i = true → hget (maskH H) i = hget H i := fun i hi => by rw [hget_mask, hrl i hi]; rfl
  have hg' : ∀ i, (hget (maskH H) i).live = true → okH H i = true := fun i hi => by
    rw [hget_mask] at hi
    split at hi
    · cases hi
    · rename_i hn
      exact hok i hi (by simpa using hn)
  have hS1 : Sim w M' h h (Rn.mask ρ (okH H)) (maskH H) w := {
    os := rfl
    tape := rfl
    output := rfl
    size := Nat.le_refl _
    imm := hS.imm
    blk := fun i => by
      cases hi : okH H i with
      | true =>
        have := onlyH_get hm i
        rw [hg i hi] at this ⊢
        exact (hS.blk i).only hi this
      | false =>
        have : hget (maskH H) i = .dead := by
          cases hl : (hget (maskH H) i).live with
          | true => rw [hg' i hl] at hi; cases hi
          | false =>
            rw [hget_mask] at hl ⊢
            split
            · rfl
            · rename_i hn
              rw [if_neg hn] at hl
              simp only [okH, Bool.and_eq_false_iff, decide_eq_false_iff_not, Bool.not_eq_false'] at hi
              rcases hi with hi | hi
              · exact hget_ge _ _ (by omega)
              · exact absurd hi hn
        rw [this]
        trivial
    own := fun i b x hl hb => by
      have hi := hg' i hl
      rw [hg i hi] at hl hb
      rw [Rn.mask_ok hi] at hb
      exact .inl ⟨i, x, hi, hl, hb⟩
    inj := fun i j b x y hij hli hlj hbi hbj => by
      have hi := hg' i hli
      have hj := hg' j hlj
      rw [hg i hi] at hli hbi
      rw [hg j hj] at hlj hbj
      rw [Rn.mask_ok hi] at hbi
      rw [Rn.mask_ok hj] at hbj
      exact hS.inj i j b x y hij hli hlj hbi hbj
    dom := fun i n x hx => by
      rw [maskH_len]
      exact hS.dom i n x (Rn.mask_some hx).2
    ver := fun i sz ag ds hd n x hx => by
      obtain ⟨hi, hx⟩ := Rn.mask_some hx
      rw [hg i hi] at hd
      exact hS.ver i sz ag ds hd n x hx
    keep := fun b _ _ => rfl
    frame := fun b _ _ => rfl }
  refine (hf.run w M' h h _ w vs hb hS1 hsz fun j d hj => ?_).mono fun e w' hh => ?_
  · obtain ⟨v, h1, h2⟩ := hrel j d hj
    exact ⟨v, h1, h2.only (onlyL_get ha j d hj)⟩
  obtain ⟨v, r', H', h', ρ', he, ⟨rfl, rfl⟩, hle, hρ, hS', hv⟩ := hh
  have hM : ∀ b, M' b → M0 b ∨ w0.heap.size ≤ b := fun b ⟨i, x, _, hl, hb⟩ => hS.own i b x hl hb
  let ρ2 : Rn := fun i n => if okH H i = true then ρ' i n else ρ i n
  have e1 : ∀ i n, okH H i = true → ρ2 i n = ρ' i n := fun i n hi => by show (if okH H i = true then ρ' i n else ρ i n) = _; rw [if_pos hi]
  have e2 : ∀ i n, ¬ okH H i = true → ρ2 i n = ρ i n := fun i n hi => by show (if okH H i = true then ρ' i n else ρ i n) = _; rw [if_neg hi]
  have le2 : RLe (Rn.mask ρ' (okH H)) ρ2 := fun i n x hx => by
    obtain ⟨hi, hx⟩ := Rn.mask_some hx
    rw [e1 i n hi]; exact hx
  have le1 : RLe ρ ρ2 := fun i n x hx => by
    by_cases hi : okH H i = true
    · rw [e1 i n hi]; exact hρ i n x (by rw [Rn.mask_ok hi]; exact hx)
    · rw [e2 i n hi]; exact hx
  have far : ∀ j, ¬ okH H j = true → ∀ b x, (hget H j).live = true → ρ j (hget H j).n = some (b, x) → ¬ M' b := fun j hj b x hl hb ⟨i, y, hi, hli, hbi⟩ =>
    hS.inj j i b x y (fun e => hj (e ▸ hi)) hl hli hb hbi
  refine ⟨v, _, H, h', ρ2, he, ⟨rfl, rfl⟩, hle, le1, ?_, (hv.only hr).mono (.refl _) le2⟩
  exact {
    os := hS'.os.trans hS.os
    tape := hS'.tape.trans hS.tape
    output := hS'.output.trans hS.output
    size := Nat.le_trans hS.size hS'.size
    imm := hS'.imm
    blk := fun i => by
      by_cases hi : okH H i = true
      · have h1 := hS'.blk i
        have h2 := onlyH_get hm i
        rw [hg i hi] at h1 h2
        exact (h1.only hi h2).mono (.refl _) le2 fun b x hl hb hn => ⟨rfl, hn⟩
      · refine (hS.blk i).mono hle le1 fun b x hl hb hn => ?_
        obtain ⟨b', x', h1, _, h3⟩ := (hS.blk i).lies hl
        rw [hb] at h1
        cases h1
        have := far i hi b x hl hb
        exact ⟨hS'.frame b h3 this, by rw [hS'.keep b h3 this]; exact hn⟩
    own := fun i b x hl hb => by
      by_cases hi : okH H i = true
      · rw [e1 _ _ hi] at hb
        rcases hS'.own i b x (by rw [hg i hi]; exact hl) (by rw [hg i hi]; exact hb) with hm' | hm'
        · exact hM b hm'
        · exact .inr (Nat.le_trans hS.size hm')
      · rw [e2 _ _ hi] at hb
        exact hS.own i b x hl hb
    inj := fun i j b x y hij hli hlj hbi hbj => by
      have mix : ∀ i j b x y, okH H i = true → ¬ okH H j = true → (hget H i).live = true → (hget H j).live = true → ρ2 i (hget H i).n = some (b, x) → ρ2 j (hget H j).n ≠ some (b, y) := fun i j b x y hi hj hli hlj hbi hbj => by
        rw [e1 _ _ hi] at hbi
        rw [e2 _ _ hj] at hbj
        rcases hS'.own i b x (by rw [hg i hi]; exact hli) (by rw [hg i hi]; exact hbi) with hm' | hm'
        · exact far j hj b y hlj hbj hm'
        · obtain ⟨b', x', h1, _, h3⟩ := (hS.blk j).lies hlj
          rw [hbj] at h1
          cases h1
          omega
      by_cases hi : okH H i = true
      · by_cases hj : okH H j = true
        · rw [e1 _ _ hi] at hbi
          rw [e1 _ _ hj] at hbj
          exact hS'.inj i j b x y hij (by rw [hg i hi]; exact hli) (by rw [hg j hj]; exact hlj) (by rw [hg i hi]; exact hbi) (by rw [hg j hj]; exact hbj)
        · exact mix i j b x y hi hj hli hlj hbi hbj
      · by_cases hj : okH H j = true
        · exact mix j i b y x hj hi hlj hli hbj hbi
        · rw [e2 _ _ hi] at hbi
          rw [e2 _ _ hj] at hbj
          exact hS.inj i j b x y hij hli hlj hbi hbj
    dom := fun i n x hx => by
      by_cases hi : okH H i = true
      · exact hlt i hi
      · rw [e2 _ _ hi] at hx
        exact hS.dom i n x hx
    ver := fun i sz ag ds hd n x hx => by
      by_cases hi : okH H i = true
      · rw [e1 _ _ hi] at hx
        exact hS'.ver i sz ag ds (by rw [hg i hi]; exact hd) n x hx
      · rw [e2 _ _ hi] at hx
        exact hS.ver i sz ag ds hd n x hx
    keep := fun b hb hmb => by
      have hn : ¬ M' b := fun hm' => by
        rcases hM b hm' with h1 | h1
        · exact hmb h1
        · omega
      rw [hS'.keep b (Nat.lt_of_lt_of_le hb hS.size) hn]
      exact hS.keep b hb hmb
    frame := fun b hb hmb => by
      have hn : ¬ M' b := fun hm' => by
        rcases hM b hm' with h1 | h1
        · exact hmb h1
        · omega
      rw [hS'.frame b (Nat.lt_of_lt_of_le hb hS.size) hn]
      exact hS.frame b hb hmb }
end
end Go.Lv

namespace Go.Lv
open Go
set_option linter.unusedVariables false
set_option linter.unusedSimpArgs false
mutual
/-- Its blocks by other names. -/
def D.ren (τ : Nat → Nat) : D → D
  | .ptr i o n => .ptr (τ i) o n
  | .own i l n => .own (τ i) l n
  | .asl i o l n => .asl (τ i) o l n
  | .yld i => .yld (τ i)
  | .mp i => .mp (τ i)
  | .at cs o => .at (D.renL τ cs) o
  | .agg cs => .agg (D.renL τ cs)
  | .tup cs => .tup (D.renL τ cs)
  | .fn f a b => .fn f (D.renL τ a) (D.renL τ b)
  | .iface t d => .iface t (d.ren τ)
  | .und => .und
  | .bool b => .bool b
  | .int k n => .int k n
  | .str s => .str s
  | .list t xs => .list t xs
  | .nilp => .nilp
  | .nilf => .nilf
  | .nili => .nili
  | .nilm => .nilm
def D.renL (τ : Nat → Nat) : List D → List D
  | [] => []
  | d :: l => d.ren τ :: D.renL τ l
end
def renP (τ : Nat → Nat) : List (D × D) → List (D × D)
  | [] => []
  | e :: l => (e.1.ren τ, e.2.ren τ) :: renP τ l
def Blk.ren (τ : Nat → Nat) : Blk → Blk
  | .var cs => .var (D.renL τ cs)
  | .row sz ag cs => .row sz ag (D.renL τ cs)
  | .frz sz ag cs => .frz sz ag (D.renL τ cs)
  | .iter s p => .iter s p
  | .rng ts ps a b st => .rng (D.renL τ ts) ps a b st
  | .map es => .map (renP τ es)
  | .dead => .dead
def renB (τ : Nat → Nat) : Hp → Hp
  | [] => []
  | b :: H => b.ren τ :: renB τ H
/-- Which block of the large memory: of those that are told; the new ones stand behind. -/
def tau (σ : List Nat) (m : Nat) (k : Nat) : Nat :=
  match σ, k with
  | [], k => m + k
  | i :: _, 0 => i
  | _ :: σ, k + 1 => tau σ m k
/-- The way back. -/
def kap (σ : List Nat) (m : Nat) (i : Nat) : Option Nat :=
  match σ with
  | [] => if m ≤ i then some (i - m) else none
  | j :: σ => if i = j then some 0 else (kap σ m i).map (· + 1)
def layH (τ : Nat → Nat) : Hp → List Nat → Hp → Hp
  | H, [], S => H ++ renB τ S
  | H, i :: σ, [] => H
  | H, i :: σ, b :: S => layH τ (hset H i (b.ren τ)) σ S
/-- Each but once, and there. -/
def okS (m : Nat) : List Nat → Bool
  | [] => true
  | i :: σ => decide (i < m) && (!(σ.contains i) && okS m σ)
theorem renL_map (τ : Nat → Nat) : ∀ l : List D, D.renL τ l = l.map (D.ren τ)
  | [] => rfl
  | d :: l => by simp [D.renL, renL_map τ l]
theorem renP_map (τ : Nat → Nat) : ∀ l : List (D × D), renP τ l = l.map fun e => (e.1.ren τ, e.2.ren τ)
  | [] => rfl
  | d :: l => by simp [renP, renP_map τ l]
theorem renB_map (τ : Nat → Nat) : ∀ l : Hp, renB τ l = l.map (Blk.ren τ)
  | [] => rfl
  | d :: l => by simp [renB, renB_map τ l]
theorem renL_len (τ : Nat → Nat) (l : List D) : (D.renL τ l).length = l.length := by simp [renL_map]
theorem nth_ren (τ : Nat → Nat) : ∀ (l : List D) (t : Nat), nth (D.renL τ l) t = (nth l t).ren τ
  | [], t => by simp [D.renL, nth, D.ren]
  | d :: l, 0 => rfl
  | d :: l, t + 1 => nth_ren τ l t
theorem hget_ren (τ : Nat → Nat) : ∀ (l : Hp) (t : Nat), hget (renB τ l) t = (hget l t).ren τ
  | [], t => by simp [renB, hget, Blk.ren]
  | d :: l, 0 => rfl
  | d :: l, t + 1 => hget_ren τ l t
theorem ren_live (τ : Nat → Nat) (b : Blk) : (b.ren τ).live = b.live := by cases b <;> rfl
theorem ren_n (τ : Nat → Nat) (b : Blk) : (b.ren τ).n = b.n := by cases b <;> simp [Blk.ren, Blk.n, renL_len]
section
variable {w0 : World} {M0 : Nat → Prop} {hI h : Gh} {ρ : Rn} {H : Hp} {w : World} {P : Program} {E : Env}
theorem RelV.ren {τ : Nat → Nat} {ρ2 : Rn} (hτ : ∀ i n x, ρ i n = some x → ρ2 (τ i) n = some x) {d : D} {v : Value} (r : RelV h ρ d v) : RelV h ρ2 (d.ren τ) v := by
  have gm : ∀ {l : List D} {us : Nat → Value}, (∀ j d, l[j]? = some d → RelV h ρ2 (d.ren τ) (us j)) → ∀ j d, (D.renL τ l)[j]? = some d → RelV h ρ2 d (us j) := by
    intro l us hh j d hj
    rw [renL_map, List.getElem?_map] at hj
    cases hl : l[j]? with
    | none => simp [hl] at hj
    | some x =>
      simp [hl] at hj
      subst hj
      exact hh j x hl
  induction r with
  | und v => exact .und v
  | bool b => exact .bool b
  | int k n => exact .int k n
  | str l s e => exact .str l s e
  | lnil t a c ht => exact .lnil t a c ht
  | list t xs b off n c sz cs e fz us hx hn hlen ht hsz hcl hcc hb hc ho hr ih =>
    exact (RelV.list t xs b off n c sz cs e fz us hx hn hlen ht hsz hcl hcc hb hc ho hr).closed rfl
  | «at» ds off b o o' cs e fz us hb ho hc h1 hr ih => exact .at _ off b o o' cs e fz us hb ho (by rw [renL_len]; exact hc) (by rw [renL_len]; exact h1) (gm ih)
  | nilp => exact .nilp
  | ptr i off n b c s hb => exact .ptr _ off n b c s (hτ _ _ _ hb)
  | own i len n b c cs sz hb hc hl => exact .own _ len n b c cs sz (hτ _ _ _ hb) hc hl
  | asl i off len n b o c cs sz hb hl ho => exact .asl _ off len n b o c cs sz (hτ _ _ _ hb) hl ho
  | agg ds vs hs h1 us hu hr ih => exact .agg _ vs (by rw [renL_len]; exact hs) h1 us (by rw [renL_len]; exact hu) (gm ih)
  | tup ds vs hs us hu hr ih => exact .tup _ vs (by rw [renL_len]; exact hs) us (by rw [renL_len]; exact hu) (gm ih)
  | fn f fi ca fv cv us ws hs hs' hu hw hr hq ih1 ih2 => exact .fn f _ _ fv cv us ws (by rw [renL_len]; exact hs) (by rw [renL_len]; exact hs') (by rw [renL_len]; exact hu) (by rw [renL_len]; exact hw) (gm ih1) (gm ih2)
  | nilf => exact .nilf
  | iface t d v hr ih => exact .iface t _ v ih
  | nili => exact .nili
  | yld i b x hb => exact .yld _ b x (hτ _ _ _ hb)
  | mp i b x hb => exact .mp _ b x (hτ _ _ _ hb)
  | nilm => exact .nilm
theorem RelV.back {τ : Nat → Nat} {ρ2 : Rn} {m : Nat} (hτ : ∀ i n x, i < m → ρ (τ i) n = some x → ρ2 i n = some x) {d' : D} {v : Value} (r : RelV h ρ d' v) : ∀ d : D, d' = d.ren τ → d.under m = true → RelV h ρ2 d v := by
  have gm : ∀ {l l' : List D} {us : Nat → Value}, (∀ j d', l'[j]? = some d' → ∀ d : D, d' = d.ren τ → d.under m = true → RelV h ρ2 d (us j)) → l' = D.renL τ l → D.underL m l = true → ∀ j d, l[j]? = some d → RelV h ρ2 d (us j) := by
    intro l l' us hh e hu j d hj
    subst e
    exact hh j (d.ren τ) (by rw [renL_map, List.getElem?_map, hj]; rfl) d rfl (underL_get hu j d hj)
  induction r with
  | und v => intro d e hu; cases d <;> simp only [D.ren, reduceCtorEq] at e; exact .und v
  | bool b => intro d e hu; cases d <;> simp only [D.ren, reduceCtorEq] at e; cases e; exact .bool b
  | int k n => intro d e hu; cases d <;> simp only [D.ren, reduceCtorEq] at e; cases e; exact .int k n
  | str l s e0 => intro d e hu; cases d <;> simp only [D.ren, reduceCtorEq] at e; cases e; exact .str l s e0
  | lnil t a c ht => intro d e hu; cases d <;> simp only [D.ren, reduceCtorEq] at e; cases e; exact .lnil t a c ht
  | list t xs b off n c sz cs e0 fz us hx hn hlen ht hsz hcl hcc hb hc ho hr ih =>
    intro d e hu
    cases d <;> simp only [D.ren, reduceCtorEq] at e
    cases e
    exact (RelV.list t xs b off n c sz cs e0 fz us hx hn hlen ht hsz hcl hcc hb hc ho hr).closed rfl
  | «at» ds off b o o' cs e0 fz us hb ho hc h1 hr ih =>
    intro d e hu
    cases d <;> simp only [D.ren, reduceCtorEq] at e
    rename_i ds' off'
    cases e
    simp only [renL_len] at hc h1
    exact .at _ _ b o o' cs e0 fz us hb ho hc h1 (gm ih rfl (by simpa [D.under] using hu))
  | nilp => intro d e hu; cases d <;> simp only [D.ren, reduceCtorEq] at e; exact .nilp
  | ptr i off n b c s hb =>
    intro d e hu
    cases d <;> simp only [D.ren, reduceCtorEq] at e
    cases e
    simp only [D.under, decide_eq_true_eq] at hu
    exact .ptr _ _ _ b c s (hτ _ _ _ hu hb)
  | own i len n b c cs sz hb hc hl =>
    intro d e hu
    cases d <;> simp only [D.ren, reduceCtorEq] at e
    cases e
    simp only [D.under, decide_eq_true_eq] at hu
    exact .own _ _ _ b c cs sz (hτ _ _ _ hu hb) hc hl
  | asl i off len n b o c cs sz hb hl ho =>
    intro d e hu
    cases d <;> simp only [D.ren, reduceCtorEq] at e
    cases e
    simp only [D.under, decide_eq_true_eq] at hu
    exact .asl _ _ _ _ b o c cs sz (hτ _ _ _ hu hb) hl ho
  | agg ds vs hs h1 us hu0 hr ih =>
    intro d e hu
    cases d <;> simp only [D.ren, reduceCtorEq] at e
    cases e
    simp only [renL_len] at hs hu0
    exact .agg _ vs hs h1 us hu0 (gm ih rfl (by simpa [D.under] using hu))
  | tup ds vs hs us hu0 hr ih =>
    intro d e hu
    cases d <;> simp only [D.ren, reduceCtorEq] at e
    cases e
    simp only [renL_len] at hs hu0
    exact .tup _ vs hs us hu0 (gm ih rfl (by simpa [D.under] using hu))
  | fn f fi ca fv cv us ws hs hs' hu0 hw hr hq ih1 ih2 =>
    intro d e hu
    cases d <;> simp only [D.ren, reduceCtorEq] at e
    cases e
    simp only [renL_len] at hs hs' hu0 hw
    simp only [D.under, Bool.and_eq_true] at hu
    exact .fn _ _ _ fv cv us ws hs hs' hu0 hw (gm ih1 rfl hu.1) (gm ih2 rfl hu.2)
  | nilf => intro d e hu; cases d <;> simp only [D.ren, reduceCtorEq] at e; exact .nilf
  | iface t d0 v hr ih =>
    intro d e hu
    cases d <;> simp only [D.ren, reduceCtorEq] at e
    cases e
    exact .iface _ _ v (ih _ rfl (by simpa [D.under] using hu))
  | nili => intro d e hu; cases d <;> simp only [D.ren, reduceCtorEq] at e; exact .nili
  | yld i b x hb =>
    intro d e hu
    cases d <;> simp only [D.ren, reduceCtorEq] at e
    cases e
    simp only [D.under, decide_eq_true_eq] at hu
    exact .yld _ b x (hτ _ _ _ hu hb)
  | mp i b x hb =>
    intro d e hu
    cases d <;> simp only [D.ren, reduceCtorEq] at e
    cases e
    simp only [D.under, decide_eq_true_eq] at hu
    exact .mp _ b x (hτ _ _ _ hu hb)
  | nilm => intro d e hu; cases d <;> simp only [D.ren, reduceCtorEq] at e; exact .nilm
theorem Row.ren {τ : Nat → Nat} {ρ2 : Rn} (hτ : ∀ i n x, ρ i n = some x → ρ2 (τ i) n = some x) {cs : Array Value} {off : Nat} {ds : List D} (r : Row h ρ cs off ds) : Row h ρ2 cs off (D.renL τ ds) := fun j d hj => by
  rw [renL_map, List.getElem?_map] at hj
  cases hl : ds[j]? with
  | none => simp [hl] at hj
  | some x =>
    simp [hl] at hj
    subst hj
    obtain ⟨u, a, b, c⟩ := r j x hl
    exact ⟨u, a, b, c.ren hτ⟩
theorem Row.back {τ : Nat → Nat} {ρ2 : Rn} {m : Nat} (hτ : ∀ i n x, i < m → ρ (τ i) n = some x → ρ2 i n = some x) {cs : Array Value} {off : Nat} {ds : List D} (r : Row h ρ cs off (D.renL τ ds)) (hu : D.underL m ds = true) : Row h ρ2 cs off ds := fun j d hj => by
  obtain ⟨u, a, b, c⟩ := r j (d.ren τ) (by rw [renL_map, List.getElem?_map, hj]; rfl)
  exact ⟨u, a, b, c.back hτ d rfl (underL_get hu j d hj)⟩
theorem RelB.ren {τ : Nat → Nat} {ρ2 : Rn} (hτ : ∀ i n x, ρ i n = some x → ρ2 (τ i) n = some x) {i : Nat} {bl : Blk} (r : RelB h ρ i w bl) : RelB h ρ2 (τ i) w (bl.ren τ) := by
  cases bl with
  | var ds =>
    obtain ⟨b, c, s, cs, e, fz, a1, a2, a3, a4, a5, a6, a7⟩ := r
    exact ⟨b, c, s, cs, e, fz, by rw [renL_len]; exact hτ _ _ _ a1, a2, a3, a4, by rw [renL_len]; exact a5, a6.ren hτ, a7⟩
  | row sz ag ds =>
    obtain ⟨b, c, cs, e, fz, a1, a2, a3, a4, a5, a6, a7⟩ := r
    exact ⟨b, c, cs, e, fz, by rw [renL_len]; exact hτ _ _ _ a1, a2, a3, a4, by rw [renL_len]; exact a5, a6.ren hτ, a7⟩
  | frz sz ag ds =>
    obtain ⟨b, c, s, cs, e, fz, a1, a2, a3⟩ := r
    exact ⟨b, c, s, cs, e, fz, by rw [renL_len]; exact hτ _ _ _ a1, a2, a3.ren hτ⟩
  | iter s pos =>
    obtain ⟨b, c, z, bs, a1, a2, a3, a4⟩ := r
    exact ⟨b, c, z, bs, hτ _ _ _ a1, a2, a3, a4⟩
  | rng ts ps asg body st =>
    obtain ⟨b, x, r', a1, a2, a3, a4, a5⟩ := r
    exact ⟨b, x, r', hτ _ _ _ a1, a2, a3, ⟨by rw [renL_len]; exact a4.1, fun t => by rw [nth_ren]; exact (a4.2 t).ren hτ⟩, a5⟩
  | map es =>
    obtain ⟨b, x, l, c, a1, a2, a3, a4, a5, a6⟩ := r
    refine ⟨b, x, l, c, hτ _ _ _ a1, a2, a3, by simpa [renP_map] using a4, by simpa [renP_map] using a5, fun j e hj => ?_⟩
    rw [renP_map, List.getElem?_map] at hj
    cases hl : es[j]? with
    | none => simp [hl] at hj
    | some x =>
      simp [hl] at hj
      subst hj
      obtain ⟨y, q1, q2, q3, q4⟩ := a6 j x hl
      exact ⟨y, q1, q2.ren hτ, q3.ren hτ, q4⟩
  | dead => trivial
theorem RelB.back {τ : Nat → Nat} {ρ2 : Rn} {m : Nat} (hτ : ∀ i n x, i < m → ρ (τ i) n = some x → ρ2 i n = some x) {i : Nat} {bl : Blk} (hi : i < m) (r : RelB h ρ (τ i) w (bl.ren τ)) (hu : bl.under m = true) : RelB h ρ2 i w bl := by
  cases bl with
  | var ds =>
    obtain ⟨b, c, s, cs, e, fz, a1, a2, a3, a4, a5, a6, a7⟩ := r
    rw [renL_len] at a1 a5
    exact ⟨b, c, s, cs, e, fz, hτ _ _ _ hi a1, a2, a3, a4, a5, a6.back hτ hu, a7⟩
  | row sz ag ds =>
    obtain ⟨b, c, cs, e, fz, a1, a2, a3, a4, a5, a6, a7⟩ := r
    rw [renL_len] at a1 a5
    exact ⟨b, c, cs, e, fz, hτ _ _ _ hi a1, a2, a3, a4, a5, a6.back hτ hu, a7⟩
  | frz sz ag ds =>
    obtain ⟨b, c, s, cs, e, fz, a1, a2, a3⟩ := r
    rw [renL_len] at a1
    exact ⟨b, c, s, cs, e, fz, hτ _ _ _ hi a1, a2, a3.back hτ hu⟩
  | iter s pos =>
    obtain ⟨b, c, z, bs, a1, a2, a3, a4⟩ := r
    exact ⟨b, c, z, bs, hτ _ _ _ hi a1, a2, a3, a4⟩
  | rng ts ps asg body st =>
    obtain ⟨b, x, r', a1, a2, a3, a4, a5⟩ := r
    refine ⟨b, x, r', hτ _ _ _ hi a1, a2, a3, ⟨by rw [← a4.1, renL_len], fun t => ?_⟩, a5⟩
    have := a4.2 t
    rw [nth_ren] at this
    exact this.back hτ _ rfl (underL_nth hu t)
  | map es =>
    obtain ⟨b, x, l, c, a1, a2, a3, a4, a5, a6⟩ := r
    refine ⟨b, x, l, c, hτ _ _ _ hi a1, a2, a3, by simpa [renP_map] using a4, by simpa [renP_map] using a5, fun j e hj => ?_⟩
    obtain ⟨y, q1, q2, q3, q4⟩ := a6 j (e.1.ren τ, e.2.ren τ) (by rw [renP_map, List.getElem?_map, hj]; rfl)
    have := underP_get hu j e hj
    exact ⟨y, q1, q2.back hτ _ rfl this.1, q3.back hτ _ rfl this.2, q4⟩
  | dead => trivial
theorem tau_kap {m : Nat} : ∀ {σ : List Nat}, okS m σ = true → ∀ k, kap σ m (tau σ m k) = some k
  | [], _, k => by simp [kap, tau]
  | j :: σ, h, 0 => by simp [kap, tau]
  | j :: σ, h, k + 1 => by
    simp only [okS, Bool.and_eq_true, decide_eq_true_eq, Bool.not_eq_true'] at h
    have hne : tau σ m k ≠ j := by
      intro e
      have h2 := h.2.1
      have : ∀ (σ : List Nat) (k : Nat), tau σ m k = j → j < m → σ.contains j = true := by
        intro σ
        induction σ with
        | nil => intro k e hj; simp [tau] at e; omega
        | cons a l ih =>
          intro k e hj
          cases k with
          | zero => simp [tau] at e; simp [e]
          | succ k => simp only [tau] at e; simp; exact .inr (by simpa using ih k e hj)
      rw [this σ k e h.1] at h2
      cases h2
    simp [kap, tau, hne, tau_kap h.2.2 k]
theorem kap_tau {m : Nat} : ∀ {σ : List Nat} {i k : Nat}, kap σ m i = some k → tau σ m k = i
  | [], i, k, h => by
    simp only [kap] at h
    split at h
    · cases h; simp only [tau]; omega
    · cases h
  | j :: σ, i, k, h => by
    simp only [kap] at h
    split at h
    · cases h; simp [tau, *]
    · cases hk : kap σ m i with
      | none => simp [hk] at h
      | some q =>
        simp [hk] at h
        subst h
        show tau σ m q = i
        exact kap_tau hk
theorem tau_lt {m : Nat} : ∀ {σ : List Nat}, okS m σ = true → ∀ k, k < σ.length → tau σ m k < m
  | [], _, k, h => by simp at h
  | j :: σ, h, 0, _ => by simp only [okS, Bool.and_eq_true, decide_eq_true_eq] at h; exact h.1
  | j :: σ, h, k + 1, hk => by simp only [okS, Bool.and_eq_true] at h; exact tau_lt h.2.2 k (by simpa using hk)
theorem tau_ge {m : Nat} : ∀ {σ : List Nat} {k : Nat}, σ.length ≤ k → tau σ m k = m + (k - σ.length)
  | [], k, _ => by simp [tau]
  | j :: σ, 0, h => by simp at h
  | j :: σ, k + 1, h => by simp only [tau]; rw [tau_ge (by simpa using h)]; simp
theorem layH_len (τ : Nat → Nat) : ∀ (σ : List Nat) (H S : Hp), σ.length ≤ S.length → (layH τ H σ S).length = H.length + (S.length - σ.length)
  | [], H, S, h => by simp [layH, renB_map]
  | i :: σ, H, [], h => by simp at h
  | i :: σ, H, b :: S, h => by simp only [layH]; rw [layH_len τ σ _ S (by simpa using h), hset_len]; simp
theorem hget_apps : ∀ (H G : Hp) (i : Nat), hget (H ++ G) i = if i < H.length then hget H i else hget G (i - H.length)
  | [], G, i => by simp
  | b :: H, G, 0 => by simp [hget]
  | b :: H, G, i + 1 => by simp only [List.cons_append, hget, hget_apps H G i, List.length_cons]; simp
theorem layH_get (τ : Nat → Nat) : ∀ (σ : List Nat) (H S : Hp) (i : Nat), okS H.length σ = true → σ.length ≤ S.length → hget (layH τ H σ S) i = match kap σ H.length i with
    | some k => (hget S k).ren τ
    | none => hget H i
  | [], H, S, i, _, _ => by
    simp only [layH, kap, hget_apps, hget_ren]
    by_cases h : H.length ≤ i
    · have : ¬ i < H.length := by omega
      simp [this, h]
    · have : i < H.length := by omega
      simp [this, h]
  | j :: σ, H, [], i, _, h => by simp at h
  | j :: σ, H, b :: S, i, ho, h => by
    have ho' := ho
    simp only [okS, Bool.and_eq_true, decide_eq_true_eq, Bool.not_eq_true'] at ho
    simp only [layH]
    rw [layH_get τ σ _ S i (by rw [hset_len]; exact ho.2.2) (by simpa using h), hset_len]
    simp only [kap]
    by_cases e : i = j
    · subst e
      have hk : kap σ H.length i = none := by
        cases hk : kap σ H.length i with
        | none => rfl
        | some k =>
          have h1 := kap_tau hk
          have h2 := tau_kap ho' (k + 1)
          simp only [tau, h1, kap] at h2
          simp at h2
      rw [hk]
      simp only [if_true]
      rw [hget_set]
      simp [ho.1, hget]
    · simp only [if_neg e]
      cases hk : kap σ H.length i with
      | none => simp only [Option.map_none]; rw [hget_set]; simp [e]
      | some k => simp only [Option.map_some, hget]
/-- The part of the memory that a call is told, by other names. -/
def takeS (H : Hp) (τ : Nat → Nat) : List Nat → Hp → Prop
  | [], [] => True
  | i :: σ, b :: S => hget H i = b.ren τ ∧ takeS H τ σ S
  | _, _ => False
theorem takeS_len {H : Hp} {τ : Nat → Nat} : ∀ {σ : List Nat} {S : Hp}, takeS H τ σ S → S.length = σ.length
  | [], [], _ => rfl
  | i :: σ, b :: S, h => by simp [takeS_len h.2]
  | [], b :: S, h => h.elim
  | i :: σ, [], h => h.elim
theorem takeS_get {H : Hp} {τ : Nat → Nat} {m : Nat} : ∀ {σ : List Nat} {S : Hp}, takeS H τ σ S → ∀ k, k < σ.length → hget H (tau σ m k) = (hget S k).ren τ
  | [], [], _, k, h => by simp at h
  | i :: σ, b :: S, h, 0, _ => h.1
  | i :: σ, b :: S, h, k + 1, hk => takeS_get h.2 k (by simpa using hk)
  | [], b :: S, h, _, _ => h.elim
  | i :: σ, [], h, _, _ => h.elim
/-- A contract on a small memory is one on any memory that holds its blocks. -/
theorem Fun.ren {f : FuncId} {args : List D} {r : D} {S S1 : Hp} (σ : List Nat) (hσ : okS H.length σ = true) (hS0 : takeS H (tau σ H.length) σ S) (ha : D.underL S.length args = true) (hu : underH S.length S = true)
    (hl : S.length ≤ S1.length) (hf : Fun P E f args S fun d H' => d = r ∧ H' = S1) :
    Fun P E f (D.renL (tau σ H.length) args) H fun d H' => d = r.ren (tau σ H.length) ∧ H' = layH (tau σ H.length) H σ S1 := by
  refine ⟨fun w0 M0 hI h ρ w vs hb hS hsz hrel => ?_⟩
  generalize hτ : tau σ H.length = τ at *
  have hSl : S.length = σ.length := takeS_len hS0
  have hlt : ∀ k, k < σ.length → τ k < H.length := fun k hk => hτ ▸ tau_lt hσ k hk
  have hge : ∀ k, σ.length ≤ k → τ k = H.length + (k - σ.length) := fun k hk => hτ ▸ tau_ge hk
  have hκτ : ∀ k, kap σ H.length (τ k) = some k := fun k => hτ ▸ tau_kap hσ k
  have hτκ : ∀ {i k}, kap σ H.length i = some k → τ k = i := fun h => hτ ▸ kap_tau h
  have hinj : ∀ {i j}, τ i = τ j → i = j := fun {i j} e => by
    have h1 := hκτ i
    rw [e, hκτ j] at h1
    exact (Option.some.inj h1).symm
  have hgk : ∀ k, k < σ.length → hget H (τ k) = (hget S k).ren τ := fun k hk => by
    have h9 := takeS_get (m := H.length) hS0 k hk
    rw [hτ] at h9
    exact h9
  let ρs : Rn := fun k n => if k < σ.length then ρ (τ k) n else none
  have hρs : ∀ {k n}, k < σ.length → ρs k n = ρ (τ k) n := fun {k n} hk => by show (if k < σ.length then ρ (τ k) n else none) = _; rw [if_pos hk]
  have hρs' : ∀ {k n x}, ρs k n = some x → k < σ.length ∧ ρ (τ k) n = some x := fun {k n x} hx => by
    by_cases hk : k < σ.length
    · rw [hρs hk] at hx; exact ⟨hk, hx⟩
    · have : ρs k n = none := by show (if k < σ.length then ρ (τ k) n else none) = _; rw [if_neg hk]
      rw [this] at hx; cases hx
  have hbk : ∀ i n x, i < S.length → ρ (τ i) n = some x → ρs i n = some x := fun i n x hi hx => by rw [hρs (by omega)]; exact hx
  let M' : Nat → Prop := fun b => ∃ k x, k < σ.length ∧ (hget S k).live = true ∧ ρ (τ k) (hget S k).n = some (b, x)
  have hdead : ∀ k, ¬ k < σ.length → hget S k = .dead := fun k hk => hget_ge _ _ (by omega)
  have hlv : ∀ {k}, (hget S k).live = true → k < σ.length := fun {k} hk => by
    rcases Nat.lt_or_ge k σ.length with h1 | h1
    · exact h1
    · rw [hdead k (by omega)] at hk; cases hk
  have hS1 : Sim w M' h h ρs S w := {
    os := rfl
    tape := rfl
    output := rfl
    size := Nat.le_refl _
    imm := hS.imm
    blk := fun k => by
      by_cases hk : k < σ.length
      · refine RelB.back (m := S.length) hbk (by omega) ?_ (underH_get hu k)
        rw [← hgk k hk]
        exact hS.blk _
      · rw [hdead k hk]; trivial
    own := fun k b x hl hb => by
      have hk := hlv hl
      rw [hρs hk] at hb
      exact .inl ⟨k, x, hk, hl, hb⟩
    inj := fun i j b x y hij hli hlj hbi hbj => by
      have hi := hlv hli
      have hj := hlv hlj
      rw [hρs hi] at hbi
      rw [hρs hj] at hbj
      refine hS.inj (τ i) (τ j) b x y (fun e => hij (hinj e)) ?_ ?_ ?_ ?_
      · rw [hgk i hi, ren_live]; exact hli
      · rw [hgk j hj, ren_live]; exact hlj
      · rw [hgk i hi, ren_n]; exact hbi
      · rw [hgk j hj, ren_n]; exact hbj
    dom := fun i n x hx => by have := (hρs' hx).1; omega
    ver := fun k sz ag ds hd n x hx => by
      obtain ⟨hk, hx⟩ := hρs' hx
      have := hS.ver (τ k) sz ag (D.renL τ ds) (by rw [hgk k hk, hd]; rfl) n x hx
      rwa [renL_len] at this
    keep := fun b _ _ => rfl
    frame := fun b _ _ => rfl }
  refine (hf.run w M' h h ρs w vs hb hS1 (by rw [hsz, renL_len]) fun j d hj => ?_).mono fun e w' hh => ?_
  · obtain ⟨v, h1, h2⟩ := hrel j (d.ren τ) (by rw [renL_map, List.getElem?_map, hj]; rfl)
    exact ⟨v, h1, h2.back hbk d rfl (underL_get ha j d hj)⟩
  obtain ⟨v, r', H', h', ρ', he, ⟨rfl, rfl⟩, hle, hρ, hS', hv⟩ := hh
  have hM : ∀ b, M' b → M0 b ∨ w0.heap.size ≤ b := fun b ⟨k, x, hk, hl, hb⟩ => hS.own (τ k) b x (by rw [hgk k hk, ren_live]; exact hl) (by rw [hgk k hk, ren_n]; exact hb)
  let ρ2 : Rn := fun i n => match kap σ H.length i with
    | some k => ρ' k n
    | none => ρ i n
  have e1 : ∀ {i k} n, kap σ H.length i = some k → ρ2 i n = ρ' k n := fun {i k} n hk => by show (match kap σ H.length i with | some k => ρ' k n | none => ρ i n) = _; rw [hk]
  have e2 : ∀ {i} n, kap σ H.length i = none → ρ2 i n = ρ i n := fun {i} n hk => by show (match kap σ H.length i with | some k => ρ' k n | none => ρ i n) = _; rw [hk]
  have le2 : ∀ k n x, ρ' k n = some x → ρ2 (τ k) n = some x := fun k n x hx => by rw [e1 n (hκτ k)]; exact hx
  have hsm : ∀ {i k}, kap σ H.length i = some k → i < H.length → k < σ.length := fun {i k} hk hi => by
    have h1 := hτκ hk
    rcases Nat.lt_or_ge k σ.length with h2 | h2
    · exact h2
    · have := hge k h2; omega
  have le1 : RLe ρ ρ2 := fun i n x hx => by
    cases hk : kap σ H.length i with
    | none => rw [e2 n hk]; exact hx
    | some k =>
      rw [e1 n hk]
      have hk' := hsm hk (hS.dom _ _ _ hx)
      refine hρ k n x ?_
      rw [hρs hk', hτκ hk]
      exact hx
  have far : ∀ j, kap σ H.length j = none → ∀ b x, (hget H j).live = true → ρ j (hget H j).n = some (b, x) → ¬ M' b := fun j hj b x hl hb ⟨k, y, hk, hlk, hbk⟩ =>
    hS.inj j (τ k) b x y (fun e => by rw [e, hκτ k] at hj; cases hj) hl (by rw [hgk k hk, ren_live]; exact hlk) hb (by rw [hgk k hk, ren_n]; exact hbk)
  have g1 : ∀ {i k}, kap σ H.length i = some k → hget (layH τ H σ H') i = (hget H' k).ren τ := fun {i k} hk => by rw [layH_get τ σ H H' i hσ (by omega), hk]
  have g2 : ∀ {i}, kap σ H.length i = none → hget (layH τ H σ H') i = hget H i := fun {i} hk => by rw [layH_get τ σ H H' i hσ (by omega), hk]
  refine ⟨v, _, _, h', ρ2, he, ⟨rfl, rfl⟩, hle, le1, ?_, hv.ren le2⟩
  exact {
    os := hS'.os.trans hS.os
    tape := hS'.tape.trans hS.tape
    output := hS'.output.trans hS.output
    size := Nat.le_trans hS.size hS'.size
    imm := hS'.imm
    blk := fun i => by
      cases hk : kap σ H.length i with
      | some k =>
        rw [g1 hk]
        have := (hS'.blk k).ren (τ := τ) le2
        rwa [hτκ hk] at this
      | none =>
        rw [g2 hk]
        refine (hS.blk i).mono hle le1 fun b x hl hb hn => ?_
        obtain ⟨b', x', h1, _, h3⟩ := (hS.blk i).lies hl
        rw [hb] at h1
        cases h1
        have := far i hk b x hl hb
        exact ⟨hS'.frame b h3 this, by rw [hS'.keep b h3 this]; exact hn⟩
    own := fun i b x hl hb => by
      cases hk : kap σ H.length i with
      | some k =>
        rw [g1 hk] at hl hb
        rw [e1 _ hk, ren_n] at hb
        rw [ren_live] at hl
        rcases hS'.own k b x hl hb with hm' | hm'
        · exact hM b hm'
        · exact .inr (Nat.le_trans hS.size hm')
      | none =>
        rw [g2 hk] at hl hb
        rw [e2 _ hk] at hb
        exact hS.own i b x hl hb
    inj := fun i j b x y hij hli hlj hbi hbj => by
      have mix : ∀ i j k b x y, kap σ H.length i = some k → kap σ H.length j = none → (hget H' k).live = true → (hget H j).live = true → ρ' k (hget H' k).n = some (b, x) → ρ j (hget H j).n ≠ some (b, y) := fun i j k b x y hi hj hli hlj hbi hbj => by
        rcases hS'.own k b x hli hbi with hm' | hm'
        · exact far j hj b y hlj hbj hm'
        · obtain ⟨b', x', h1, _, h3⟩ := (hS.blk j).lies hlj
          rw [hbj] at h1
          cases h1
          omega
      cases hi : kap σ H.length i with
      | some k =>
        rw [g1 hi] at hli hbi
        rw [e1 _ hi, ren_n] at hbi
        rw [ren_live] at hli
        cases hj : kap σ H.length j with
        | some q =>
          rw [g1 hj] at hlj hbj
          rw [e1 _ hj, ren_n] at hbj
          rw [ren_live] at hlj
          refine hS'.inj k q b x y (fun e => hij ?_) hli hlj hbi hbj
          rw [← hτκ hi, ← hτκ hj, e]
        | none =>
          rw [g2 hj] at hlj hbj
          rw [e2 _ hj] at hbj
          exact mix i j k b x y hi hj hli hlj hbi hbj
      | none =>
        rw [g2 hi] at hli hbi
        rw [e2 _ hi] at hbi
        cases hj : kap σ H.length j with
        | some q =>
          rw [g1 hj] at hlj hbj
          rw [e1 _ hj, ren_n] at hbj
          rw [ren_live] at hlj
          exact mix j i q b y x hj hi hlj hli hbj hbi
        | none =>
          rw [g2 hj] at hlj hbj
          rw [e2 _ hj] at hbj
          exact hS.inj i j b x y hij hli hlj hbi hbj
    dom := fun i n x hx => by
      rw [layH_len τ σ H H' (by omega)]
      cases hk : kap σ H.length i with
      | some k =>
        rw [e1 _ hk] at hx
        have h1 := hS'.dom k n x hx
        have h2 := hτκ hk
        rcases Nat.lt_or_ge k σ.length with h3 | h3
        · have := hlt k h3; omega
        · have := hge k h3; omega
      | none =>
        rw [e2 _ hk] at hx
        have := hS.dom i n x hx
        omega
    ver := fun i sz ag ds hd n x hx => by
      cases hk : kap σ H.length i with
      | some k =>
        rw [e1 _ hk] at hx
        rw [g1 hk] at hd
        cases hb : hget H' k with
        | row sz' ag' ds' =>
          rw [hb] at hd
          cases hd
          rw [renL_len]
          exact hS'.ver k _ _ _ hb n x hx
        | _ => rw [hb] at hd; cases hd
      | none =>
        rw [e2 _ hk] at hx
        rw [g2 hk] at hd
        exact hS.ver i sz ag ds hd n x hx
    keep := fun b hb hmb => by
      have hn : ¬ M' b := fun hm' => by
        rcases hM b hm' with h1 | h1
        · exact hmb h1
        · omega
      rw [hS'.keep b (Nat.lt_of_lt_of_le hb hS.size) hn]
      exact hS.keep b hb hmb
    frame := fun b hb hmb => by
      have hn : ¬ M' b := fun hm' => by
        rcases hM b hm' with h1 | h1
        · exact hmb h1
        · omega
      rw [hS'.frame b (Nat.lt_of_lt_of_le hb hS.size) hn]
      exact hS.frame b hb hmb }
/-- What is handed back is frozen; what was made, forgotten. -/
theorem Fun.rest {f : FuncId} {args : List D} {r : D} {S1 : Hp} (hl : H.length ≤ S1.length) (hr : r.under S1.length = true) (hu : underH S1.length S1 = true)
    (hf : Fun P E f args H fun d H' => (d = r ∧ H'.take S1.length = S1) ∨ ∃ H'', reify 6 H' d = some (r, H'') ∧ H''.take S1.length = S1) : Fun P E f args H fun d H' => d = r ∧ H' = S1 := by
  refine ⟨fun w0 M0 hI h ρ w vs hb hS hsz hrel => (hf.run w0 M0 hI h ρ w vs hb hS hsz hrel).mono fun e w' hh => ?_⟩
  obtain ⟨v, r', H', h', ρ', he, hR, h1, h2, hS', hv⟩ := hh
  have fin : ∀ {h2' : Gh} {H2 : Hp}, GLe h h2' → Sim w0 M0 hI h2' ρ' H2 w' → RelV h2' ρ' r v → H2.take S1.length = S1 → ∃ v r'' H' h' ρ', e = .returned v ∧ (r'' = r ∧ H' = S1) ∧ GLe h h' ∧ RLe ρ ρ' ∧ Sim w0 M0 hI h' ρ' H' w' ∧ RelV h' ρ' r'' v := by
    intro h2' H2 hg hS2 hv2 hH
    have hS3 := hS2.drop (m := S1.length) (by rw [hH]; exact hu)
    rw [hH] at hS3
    exact ⟨v, r, S1, h2', _, he, ⟨rfl, rfl⟩, hg, fun i n x hx => by rw [Rn.cut_lt (Nat.lt_of_lt_of_le (hS.dom _ _ _ hx) hl)]; exact h2 _ _ _ hx, hS3, hv2.under hr⟩
  rcases hR with ⟨rfl, hH⟩ | ⟨H'', hre, hH⟩
  · exact fin h1 hS' hv hH
  · obtain ⟨h3, g3, hS3, hv3, _⟩ := reify_sound 6 h' H' r' v r H'' hre hS' hv
    exact fin (h1.trans g3) hS3 hv3 hH
end
end Go.Lv
