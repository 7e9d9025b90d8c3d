/- LvQ: a region that draws its order: what comes up in whatever order comes to what it comes to in its own. -/
import Derived.Test.YtmpbkkfkkbdndabDoorLv4
import Derived.Scope
namespace Go.Lv
open Go
set_option linter.unusedVariables false
set_option linter.unusedSimpArgs false

/-- What each operation waits for, as bits. -/
def bfs : List Oper → List Nat → List Nat
  | [], acc => acc
  | o :: l, acc => bfs l (acc ++ [o.after.toList.foldl (fun s e => if Region.binds .any e then s ||| 2 ^ e.on ||| acc.getD e.on 0 else s) 0])
/-- j waits for i. -/
inductive Waits (ops : List Oper) : Nat → Nat → Prop
  | one (i j o e) (ho : ops[j]? = some o) (he : e ∈ o.after) (hb : Region.binds .any e = true) (hi : e.on = i) : Waits ops i j
  | more (i k j o e) (ho : ops[j]? = some o) (he : e ∈ o.after) (hb : Region.binds .any e = true) (hk : e.on = k) (h : Waits ops i k) : Waits ops i j

theorem testBit_fold (acc : List Nat) (i : Nat) : ∀ (l : List Edge) (s : Nat), (l.foldl (fun s e => if Region.binds .any e then s ||| 2 ^ e.on ||| acc.getD e.on 0 else s) s).testBit i = true →
    s.testBit i = true ∨ ∃ e ∈ l, Region.binds .any e = true ∧ (e.on = i ∨ (acc.getD e.on 0).testBit i = true)
  | [], s, h => .inl h
  | e :: l, s, h => by
    simp only [List.foldl_cons] at h
    rcases testBit_fold acc i l _ h with h | ⟨e', he, hb, h⟩
    · split at h
      · rename_i hb
        simp only [Nat.testBit_or, Nat.testBit_two_pow, Bool.or_eq_true, decide_eq_true_eq] at h
        rcases h with (h | h) | h
        · exact .inl h
        · exact .inr ⟨e, by simp, hb, .inl h⟩
        · exact .inr ⟨e, by simp, hb, .inr h⟩
      · exact .inl h
    · exact .inr ⟨e', by simp [he], hb, h⟩

theorem bfs_waits (ops : List Oper) : ∀ (l : List Oper) (acc : List Nat), ops.drop acc.length = l → (∀ (j i : Nat), (acc.getD j 0).testBit i = true → Waits ops i j) → ∀ (j i : Nat), ((bfs l acc).getD j 0).testBit i = true → Waits ops i j
  | [], acc, hd, hinv, j, i, h => hinv j i h
  | o :: l, acc, hd, hinv, j, i, h => by
    simp only [bfs] at h
    refine bfs_waits ops l _ ?_ ?_ j i h
    · rw [List.length_append, ← List.drop_drop, hd]
      rfl
    · intro j i h
      have ho : ops[acc.length]? = some o := by
        have : (ops.drop acc.length)[0]? = some o := by rw [hd]; rfl
        rw [List.getElem?_drop] at this
        simpa using this
      rw [List.getD_eq_getElem?_getD, List.getElem?_append] at h
      split at h
      · exact hinv j i (by rw [List.getD_eq_getElem?_getD]; exact h)
      · rename_i hge
        by_cases hj : j = acc.length
        · subst hj
          simp only [Nat.sub_self, List.getElem?_cons_zero, Option.getD_some] at h
          rcases testBit_fold acc i _ _ h with h | ⟨e, he, hb, h⟩
          · simp at h
          · rcases h with h | h
            · exact .one i _ o e ho (by simpa using he) hb h
            · exact .more i e.on _ o e ho (by simpa using he) hb rfl (hinv _ _ h)
        · have : j - acc.length ≠ 0 := by omega
          obtain ⟨k, hk⟩ : ∃ k, j - acc.length = k + 1 := ⟨j - acc.length - 1, by omega⟩
          rw [hk] at h
          simp at h

/-- A region that draws may be read in its own order: operations that don't wait for each other look at nothing that the other writes; from the m-th on each waits for all ahead of it. -/
def regOk (ops : Array Oper) (m : Nat) : Bool :=
  decide (m ≤ ops.size) && regOkL ops (bfs ops.toList []) m ops.toList 0
where
  regOkL (ops : Array Oper) (B : List Nat) (m : Nat) : List Oper → Nat → Bool
    | [], _ => true
    | oj :: l, j => (oj.after.toList.all fun e => !Region.binds .any e || decide (e.on < j)) && pairs ops B m oj j ops.toList 0 && regOkL ops B m l (j + 1)
  pairs (ops : Array Oper) (B : List Nat) (m : Nat) (oj : Oper) (j : Nat) : List Oper → Nat → Bool
    | [], _ => true
    | oi :: l, i => decide (j ≤ i) || (((B.getD j 0).testBit i || (decide (j < m) && oi.apart ops oj)) && pairs ops B m oj j l (i + 1))

theorem pairs_spec {ops : Array Oper} {B : List Nat} {m : Nat} {oj : Oper} {j : Nat} : ∀ (l : List Oper) (i : Nat), regOk.pairs ops B m oj j l i = true → ∀ (k : Nat) (o : Oper), l[k]? = some o → i + k < j → (B.getD j 0).testBit (i + k) = true ∨ (j < m ∧ o.apart ops oj = true)
  | [], i, h, k, o, hk, hlt => by simp at hk
  | oi :: l, i, h, k, o, hk, hlt => by
    simp only [regOk.pairs, Bool.or_eq_true, decide_eq_true_eq, Bool.and_eq_true] at h
    rcases h with h | ⟨h1, h2⟩
    · omega
    · cases k with
      | zero =>
        simp only [List.getElem?_cons_zero, Option.some.injEq] at hk
        subst hk
        exact h1
      | succ k =>
        have := pairs_spec l (i + 1) h2 k o (by simpa using hk) (by omega)
        rwa [show i + 1 + k = i + (k + 1) from by omega] at this

theorem regOkL_spec {ops : Array Oper} {B : List Nat} {m : Nat} : ∀ (l : List Oper) (j : Nat), regOk.regOkL ops B m l j = true → ∀ (k : Nat) (o : Oper), l[k]? = some o →
    (∀ e ∈ o.after, Region.binds .any e = true → e.on < j + k) ∧ regOk.pairs ops B m o (j + k) ops.toList 0 = true
  | [], j, h, k, o, hk => by simp at hk
  | oj :: l, j, h, k, o, hk => by
    simp only [regOk.regOkL, Bool.and_eq_true] at h
    obtain ⟨⟨h1, h2⟩, h3⟩ := h
    cases k with
    | zero =>
      simp only [List.getElem?_cons_zero, Option.some.injEq] at hk
      subst hk
      refine ⟨fun e he hb => ?_, h2⟩
      have := List.all_eq_true.1 h1 e (by simpa using he)
      simpa [hb] using this
    | succ k =>
      have := regOkL_spec l (j + 1) h3 k o (by simpa using hk)
      rwa [show j + 1 + k = j + (k + 1) from by omega] at this

/-- What regOk says. -/
theorem regOk_spec {ops : Array Oper} {m : Nat} (h : regOk ops m = true) : m ≤ ops.size ∧ (∀ (j : Nat) (o : Oper), ops[j]? = some o → ∀ e ∈ o.after, Region.binds .any e = true → e.on < j) ∧
    (∀ (i j : Nat) (oi oj : Oper), ops[i]? = some oi → ops[j]? = some oj → i < j → Waits ops.toList i j ∨ (j < m ∧ oi.apart ops oj = true)) := by
  simp only [regOk, Bool.and_eq_true, decide_eq_true_eq] at h
  obtain ⟨hm, h⟩ := h
  refine ⟨hm, fun j o ho e he hb => ?_, fun i j oi oj hi hj hij => ?_⟩
  · have := (regOkL_spec _ _ h j o (by simpa using ho)).1 e he hb
    omega
  · have hp := (regOkL_spec _ _ h j oj (by simpa using hj)).2
    rw [Nat.zero_add] at hp
    rcases pairs_spec _ _ hp i oi (by simpa using hi) (by omega) with h1 | h1
    · rw [Nat.zero_add] at h1
      exact .inl (bfs_waits ops.toList ops.toList [] (by simp) (fun j i h => by simp at h) j i h1)
    · exact .inr h1

theorem countP_set : ∀ (l : List Bool) (i : Nat), l[i]? = some false → (l.set i true).countP (! ·) + 1 = l.countP (! ·)
  | [], i, h => by simp at h
  | b :: l, 0, h => by
    simp at h
    subst h
    simp
  | b :: l, i + 1, h => by
    have := countP_set l i (by simpa using h)
    simp only [List.set_cons_succ, List.countP_cons]
    omega

section
variable {P : Program} {w0 : World} {M0 : Nat → Prop} {hI h1 h : Gh} {ρ0 ρ : Rn} {H : Hp} {w : World} {E : Env}

/-- The world grew, and nothing else. -/
theorem Sim.more {w' : World} (hS : Sim w0 M0 hI h ρ H w) (ho : w'.os = w.os) (ht : w'.tape = w.tape) (hu : w'.output = w.output) (hs : w.heap.size ≤ w'.heap.size) (hb : ∀ b, b < w.heap.size → w'.heap[b]? = w.heap[b]?) : Sim w0 M0 hI h ρ H w' where
  os := ho.trans hS.os
  tape := ht.trans hS.tape
  output := hu.trans hS.output
  size := Nat.le_trans hS.size hs
  imm := fun b o e => by
    have e' : w.heap[b]? = some o := hS.imm b o e
    show w'.heap[b]? = some o
    rw [show w'.heap[b]? = w.heap[b]? from hb b (Array.getElem?_eq_some_iff.1 e').1]
    exact e'
  blk := fun i => (hS.blk i).mono (.refl _) (.refl _) fun b x hl hb' hn => by
    obtain ⟨b', x', h1, h2, h3⟩ := (hS.blk i).lies hl
    rw [hb'] at h1
    cases h1
    exact ⟨hb b h3, hn⟩
  own := hS.own
  inj := hS.inj
  dom := hS.dom
  ver := hS.ver
  keep := hS.keep
  frame := fun b hlt hm => by rw [hb b (by have := hS.size; omega)]; exact hS.frame b hlt hm

/-- The blocks that are the heap's. -/
def Mine (ρ : Rn) (H : Hp) (b : Nat) : Prop := ∃ j x, (hget H j).live = true ∧ ρ j (hget H j).n = some (b, x)
theorem Sim.inside (hS : Sim w0 M0 hI h ρ H w) : Sim w (Mine ρ H) h h ρ H w where
  os := rfl
  tape := rfl
  output := rfl
  size := Nat.le_refl _
  imm := hS.imm
  blk := hS.blk
  own := fun i b x hl hb => .inl ⟨i, x, hl, hb⟩
  inj := hS.inj
  dom := hS.dom
  ver := hS.ver
  keep := fun b _ _ => rfl
  frame := fun b _ _ => rfl
theorem Sim.outside {h' : Gh} {ρ' : Rn} {H' : Hp} {w' : World} (hS : Sim w0 M0 hI h ρ H w) (hC : Sim w (Mine ρ H) h h' ρ' H' w') : Sim w0 M0 hI h' ρ' H' w' := by
  have hm : ∀ b, Mine ρ H b → M0 b ∨ w0.heap.size ≤ b := fun b ⟨j, x, hl, hb⟩ => hS.own j b x hl hb
  exact {
    os := hC.os.trans hS.os
    tape := hC.tape.trans hS.tape
    output := hC.output.trans hS.output
    size := Nat.le_trans hS.size hC.size
    imm := hC.imm
    blk := hC.blk
    own := fun i b x hl hb => by
      rcases hC.own i b x hl hb with h1 | h1
      · exact hm b h1
      · exact .inr (Nat.le_trans hS.size h1)
    inj := hC.inj
    dom := hC.dom
    ver := hC.ver
    keep := fun b hlt hn => by
      have hnm : ¬ Mine ρ H b := fun e => by rcases hm b e with h1 | h1; exact hn h1; omega
      rw [hC.keep b (by have := hS.size; omega) hnm]
      exact hS.keep b hlt hn
    frame := fun b hlt hn => by
      have hnm : ¬ Mine ρ H b := fun e => by rcases hm b e with h1 | h1; exact hn h1; omega
      rw [hC.frame b (by have := hS.size; omega) hnm]
      exact hS.frame b hlt hn }

/-- A variable that was made, and that nobody looked at yet. -/
structure Flo (w0 : World) (h : Gh) (ρ : Rn) (H : Hp) (w : World) (b : Nat) (z : List D) : Prop where
  lies : ∃ cs e, w.heap[b]? = some (.cells cs e (0, 0)) ∧ cs.size = z.length ∧ Row h ρ cs 0 z
  none : h b = none
  new : w0.heap.size ≤ b
  free : ¬ Mine ρ H b
theorem Flo.step {w0 w w' : World} {h h' : Gh} {ρ ρ' : Rn} {H : Hp} {b : Nat} {z : List D} (hf : Flo w0 h ρ H w b z) (hC : Sim w (Mine ρ H) h h' ρ' H w') (hg : GLe h h') (hr : RLe ρ ρ') : Flo w0 h' ρ' H w' b z := by
  obtain ⟨cs, e, h1, h2, h3⟩ := hf.lies
  have hlt := (Array.getElem?_eq_some_iff.1 h1).1
  refine ⟨⟨cs, e, by rw [hC.frame b hlt hf.free]; exact h1, h2, h3.mono hg hr⟩, by rw [hC.keep b hlt hf.free]; exact hf.none, hf.new, ?_⟩
  rintro ⟨j, x, hl, hb⟩
  rcases hC.own j b x hl hb with h4 | h4
  · exact hf.free h4
  · omega
theorem Sim.adopt (hS : Sim w0 M0 hI h ρ H w) {b : Nat} {z : List D} (hf : Flo w0 h ρ H w b z) :
    RLe ρ (ρ.set H.length z.length (b, (z.length, 0))) ∧ Sim w0 M0 hI h (ρ.set H.length z.length (b, (z.length, 0))) (H ++ [.var z]) w := by
  obtain ⟨cs, e, c1, c2, c3⟩ := hf.lies
  have hfr : ∀ n, ρ H.length n = none := fun n => hS.fresh (Nat.le_refl _)
  have hle : RLe ρ (ρ.set H.length z.length (b, (z.length, 0))) := Rn.le_set (.inl (hfr _))
  refine ⟨hle, ?_⟩
  have hold : ∀ i n, i < H.length → (ρ.set H.length z.length (b, (z.length, 0))) i n = ρ i n := fun i n hi => Rn.set_ne _ _ (by omega)
  have hcase : ∀ i, (hget (H ++ [.var z]) i).live = true → (i < H.length ∧ hget (H ++ [.var z]) i = hget H i) ∨ (i = H.length ∧ hget (H ++ [.var z]) i = .var z) := by
    intro i hl
    rw [hget_app] at hl ⊢
    split
    · exact .inl ⟨by assumption, rfl⟩
    · rename_i h1
      rw [if_neg h1] at hl
      split
      · exact .inr ⟨by assumption, rfl⟩
      · rename_i h2; rw [if_neg h2] at hl; cases hl
  have hset : (ρ.set H.length z.length (b, (z.length, 0))) H.length (Blk.var z).n = some (b, (z.length, 0)) := Rn.set_same _ _ _ _
  exact {
    os := hS.os
    tape := hS.tape
    output := hS.output
    size := hS.size
    imm := hS.imm
    blk := by
      intro i
      rw [hget_app]
      split
      · exact (hS.blk i).mono (.refl _) hle fun b x hl hb hnone => ⟨rfl, hnone⟩
      · split
        · rename_i h1 h2
          subst h2
          exact ⟨b, z.length, 0, cs, e, (0, 0), hset, hf.none, c1, c2, rfl, c3.mono (.refl _) hle, fun j hj => by simp⟩
        · trivial
    own := by
      intro i b' y hl hy
      rcases hcase i hl with ⟨hi, he⟩ | ⟨hi, he⟩
      · rw [he] at hl hy
        rw [hold _ _ hi] at hy
        exact hS.own i b' y hl hy
      · subst hi
        rw [he, hset] at hy
        cases hy
        exact .inr hf.new
    inj := by
      intro i j b' y y' hij hi hj hy
      rcases hcase i hi with ⟨hi', he⟩ | ⟨hi', he⟩ <;> rcases hcase j hj with ⟨hj', he'⟩ | ⟨hj', he'⟩
      · rw [he] at hi hy
        rw [he'] at hj ⊢
        rw [hold _ _ hi'] at hy
        rw [hold _ _ hj']
        exact hS.inj i j b' y y' hij hi hj hy
      · rw [he] at hi hy
        rw [hold _ _ hi'] at hy
        subst hj'
        rw [he', hset]
        intro e
        cases e
        exact hf.free ⟨i, _, hi, hy⟩
      · subst hi'
        rw [he, hset] at hy
        cases hy
        rw [he'] at hj ⊢
        rw [hold _ _ hj']
        intro e
        exact hf.free ⟨j, _, hj, e⟩
      · omega
    dom := by
      intro i n y hy
      rw [List.length_append, List.length_singleton]
      by_cases hi : i = H.length
      · omega
      · rw [Rn.set_ne _ _ (.inl hi)] at hy
        have := hS.dom i n y hy
        omega
    ver := by
      intro i sz ag ds hd n y hy
      rw [hget_app] at hd
      split at hd
      · rename_i hi
        rw [hold _ _ hi] at hy
        exact hS.ver i sz ag ds hd n y hy
      · split at hd <;> cases hd
    keep := hS.keep
    frame := hS.frame }
theorem Flo.next {w0 w : World} {h : Gh} {ρ : Rn} {H : Hp} {b b' : Nat} {z z' : List D} (hS : Sim w0 M0 hI h ρ H w) (hf : Flo w0 h ρ H w b' z') (hne : b' ≠ b) : Flo w0 h (ρ.set H.length z.length (b, (z.length, 0))) (H ++ [.var z]) w b' z' := by
  obtain ⟨cs, e, c1, c2, c3⟩ := hf.lies
  have hle : RLe ρ (ρ.set H.length z.length (b, (z.length, 0))) := Rn.le_set (.inl (hS.fresh (Nat.le_refl _)))
  refine ⟨⟨cs, e, c1, c2, c3.mono (.refl _) hle⟩, hf.none, hf.new, ?_⟩
  rintro ⟨j, x, hl, hb⟩
  rw [hget_app] at hl hb
  split at hl
  · rename_i hj
    rw [if_pos hj, Rn.set_ne _ _ (.inl (by omega))] at hb
    exact hf.free ⟨j, x, hl, hb⟩
  · split at hl
    · rename_i h1 h2
      subst h2
      rw [if_neg h1, if_pos rfl] at hb
      have : (ρ.set H.length z.length (b, (z.length, 0))) H.length (Blk.var z).n = some (b, (z.length, 0)) := Rn.set_same _ _ _ _
      rw [this] at hb
      cases hb
      exact hne rfl
    · cases hl

theorem run_alloc2 {ty' : TypeId} (hz : 0 < (zcells P ty').length) (w : World) : ∃ cs : Array Value, (Instr.alloc ty' true (.tuple #[])).run P w = .ok (.pointer (some ⟨w.heap.size, 0, none⟩)) (w.alloc (.cells cs ty')) ∧ cs.size = (zcells P ty').length ∧ ∀ h ρ, Row h ρ cs 0 (zcells P ty') := by
  obtain ⟨i, zv, hi, hzv, rz⟩ := zcells_spec (h := fun _ => none) (ρ := fun _ _ => none) hz
  refine ⟨zv.cells, ?_, rz.1, fun h ρ => ?_⟩
  · simp only [Instr.alloc, Sem.run_bind, run_zero hi hzv, Result.andThen_ok, Go.newVar, newRow, run_newObj, Sem.run_pure, World.alloc_eq]
  · obtain ⟨i', zv', hi', hzv', rz'⟩ := zcells_spec (h := h) (ρ := ρ) hz
    rw [hi] at hi'
    cases hi'
    rw [hzv] at hzv'
    cases hzv'
    exact rz'.2

/-- No other operation writes here. -/
def soleAt (ops : Array Oper) (i t : Nat) : Bool := (List.range ops.size).all fun j => j == i || !((ops[j]?).bind (·.dst) == some t)
theorem sole_spec {ops : Array Oper} {i t j : Nat} {o : Oper} (hs : soleAt ops i t = true) (ho : ops[j]? = some o) (hd : o.dst = some t) : j = i := by
  unfold soleAt at hs
  have := List.all_eq_true.1 hs j (List.mem_range.2 (Array.getElem?_eq_some_iff.1 ho).1)
  rw [ho] at this
  simpa [hd] using this
abbrev Pend := List (Nat × Nat × List D)
def fillT : List D → Nat → Pend → List D
  | ts, _, [] => ts
  | ts, n, x :: l => fillT (put ts x.2.1 (.ptr n 0 x.2.2.length)) (n + 1) l
def fillH (l : Pend) : Hp := l.map fun x => .var x.2.2

/-- A region's operations, the first m of them in whatever order; variables that are made among these come to be seen behind them. -/
def aq (P : Program) (E : Env) (ops : Array Oper) : Nat → Nat → List Oper → List D → Hp → Pend → (List D → Hp → Prop) → Prop
  | 0, _, l, ts, H, pd, K => aseq P E ops l (fillT ts H.length pd) (H ++ fillH pd) K
  | _ + 1, _, [], ts, H, pd, K => K (fillT ts H.length pd) (H ++ fillH pd)
  | m + 1, k, o :: rest, ts, H, pd, K => match wantD ops ts o with
    | some true => (∃ d, Step P E o (ev E.g ts) H (fun d' H' => d' = d ∧ H' = H) ∧ aq P E ops m (k + 1) rest (putO ts o.dst d) H pd K) ∨
      (∃ t ty', o.op = .alloc ty' ∧ o.dst = some t ∧ 0 < (zcells P ty').length ∧ soleAt ops k t = true ∧ aq P E ops m (k + 1) rest (putO ts o.dst .und) H (pd ++ [(k, t, zcells P ty')]) K)
    | some false => aq P E ops m (k + 1) rest (putO ts o.dst (.tup [])) H pd K
    | none => False

/-- An operation of these makes a variable. -/
def Makes (P : Program) (ops : Array Oper) (T : Nat → List D) (dd : Nat → D) (x : Nat × Nat × List D) : Prop :=
  dd x.1 = .und ∧ ∃ o ty', ops[x.1]? = some o ∧ o.op = .alloc ty' ∧ o.dst = some x.2.1 ∧ zcells P ty' = x.2.2 ∧ 0 < x.2.2.length ∧ soleAt ops x.1 x.2.1 = true ∧ wantD ops (T x.1) o = some true
theorem alloc_forget {o : Oper} {α : Operand → D} {ty' : TypeId} (ho : o.op = .alloc ty') (hz : 0 < (zcells P ty').length) : Step P E o α H fun d' H' => d' = .und ∧ H' = H := by
  intro w0 M0 hI h ρ w a hbase hS hT next Q hk
  obtain ⟨cs, h1, _, _⟩ := run_alloc2 (P := P) hz w
  unfold Oper.wp
  have : (execOp a.eval o).run P w = .ok (.value (.pointer (some ⟨w.heap.size, 0, none⟩))) (w.alloc (.cells cs ty')) := by simp [execOp, ho, h1]
  rw [this, Oper.upon_value]
  exact hk .und H _ _ h ρ ⟨rfl, rfl⟩ (.refl _) (.refl _) (hS.more rfl rfl rfl (by simp) fun b hb => alloc_old _ _ hb) (.und _)

/-- What the walk in the region's own order shows of its first m operations. -/
structure Lex (P : Program) (E : Env) (ops : Array Oper) (H : Hp) (k m : Nat) (T : Nat → List D) (dd : Nat → D) : Prop where
  step : ∀ i o, k ≤ i → i < m → ops[i]? = some o → T (i + 1) = putO (T i) o.dst (dd i) ∧
    ((wantD ops (T i) o = some true ∧ Step P E o (ev E.g (T i)) H fun d' H' => d' = dd i ∧ H' = H) ∨ (wantD ops (T i) o = some false ∧ dd i = .tup []))

theorem aq_lex {ops : Array Oper} {K : List D → Hp → Prop} : ∀ (n k : Nat) (ts : List D) (pd : Pend), k + n ≤ ops.size → aq P E ops n k (ops.toList.drop k) ts H pd K → (∀ x ∈ pd, x.1 < k) → pd.Pairwise (fun x y => x.1 < y.1) →
    ∃ T dd pd', T k = ts ∧ Lex P E ops H k (k + n) T dd ∧ (∀ x ∈ pd', x ∈ pd ∨ (k ≤ x.1 ∧ x.1 < k + n ∧ Makes P ops T dd x)) ∧ pd'.Pairwise (fun x y => x.1 < y.1) ∧ aseq P E ops (ops.toList.drop (k + n)) (fillT (T (k + n)) H.length pd') (H ++ fillH pd') K
  | 0, k, ts, pd, hle, hs, hp, hq => ⟨fun _ => ts, fun _ => .und, pd, rfl, ⟨fun i o h1 h2 => by omega⟩, fun x hx => .inl hx, hq, by simpa [aq] using hs⟩
  | n + 1, k, ts, pd, hle, hs, hp, hq => by
    have hlt : k < ops.toList.length := by simp; omega
    rw [List.drop_eq_getElem_cons hlt] at hs
    have hk : ops[k]? = some ops.toList[k] := by
      rw [← Array.getElem?_toList]
      exact List.getElem?_eq_getElem hlt
    simp only [aq] at hs
    have go : ∀ d pd1, (wantD ops ts ops.toList[k] = some true ∧ Step P E ops.toList[k] (ev E.g ts) H (fun d' H' => d' = d ∧ H' = H) ∨ wantD ops ts ops.toList[k] = some false ∧ d = .tup []) → aq P E ops n (k + 1) (ops.toList.drop (k + 1)) (putO ts ops.toList[k].dst d) H pd1 K →
        (∀ x ∈ pd1, x ∈ pd ∨ (x.1 = k ∧ ∀ (T : Nat → List D) (dd : Nat → D), T k = ts → dd k = d → Makes P ops T dd x)) → (∀ x ∈ pd1, x.1 < k + 1) → pd1.Pairwise (fun x y => x.1 < y.1) →
        ∃ T dd pd', T k = ts ∧ Lex P E ops H k (k + (n + 1)) T dd ∧ (∀ x ∈ pd', x ∈ pd ∨ (k ≤ x.1 ∧ x.1 < k + (n + 1) ∧ Makes P ops T dd x)) ∧ pd'.Pairwise (fun x y => x.1 < y.1) ∧ aseq P E ops (ops.toList.drop (k + (n + 1))) (fillT (T (k + (n + 1))) H.length pd') (H ++ fillH pd') K := by
      intro d pd1 hd hrest hm1 hl1 hw1
      obtain ⟨T, dd, pd', e1, hl, hmk, hpw, e2⟩ := aq_lex n (k + 1) _ pd1 (by omega) hrest hl1 hw1
      refine ⟨fun i => if i = k then ts else T i, fun i => if i = k then d else dd i, pd', by simp, ⟨fun i o h1 h2 ho => ?_⟩, fun x hx => ?_, hpw, ?_⟩
      · by_cases hik : i = k
        · subst hik
          rw [hk] at ho
          cases ho
          simp only [if_true]
          rw [if_neg (by omega)]
          exact ⟨e1, hd⟩
        · have := hl.step i o (by omega) (by omega) ho
          simp only [if_neg hik]
          rw [if_neg (by omega)]
          exact this
      · rcases hmk x hx with hx1 | ⟨hx1, hx2, hx3⟩
        · rcases hm1 x hx1 with hx2 | ⟨hx2, hx3⟩
          · exact .inl hx2
          · exact .inr ⟨by omega, by omega, hx3 _ _ (by simp) (by simp)⟩
        · refine .inr ⟨by omega, by omega, ?_⟩
          obtain ⟨a0, o, ty', a1, a2, a3, a4, a5, a6, a7⟩ := hx3
          exact ⟨by simp only; rw [if_neg (by omega)]; exact a0, o, ty', a1, a2, a3, a4, a5, a6, by simp only; rw [if_neg (by omega)]; exact a7⟩
      · simp only
        rw [if_neg (by omega), show k + (n + 1) = k + 1 + n from by omega]
        exact e2
    split at hs
    · rename_i hw
      rcases hs with ⟨d, h1, h2⟩ | ⟨t, ty', h1, h2, h3, h4, h5⟩
      · exact go d pd (.inl ⟨hw, h1⟩) h2 (fun x hx => .inl hx) (fun x hx => by have := hp x hx; omega) hq
      · refine go .und _ (.inl ⟨hw, alloc_forget h1 h3⟩) h5 (fun x hx => ?_) (fun x hx => ?_) ?_
        · rcases List.mem_append.1 hx with hx | hx
          · exact .inl hx
          · rw [List.mem_singleton] at hx
            subst hx
            exact .inr ⟨rfl, fun T dd hT hd => ⟨hd, _, ty', hk, h1, h2, rfl, h3, h4, by rw [hT]; exact hw⟩⟩
        · rcases List.mem_append.1 hx with hx | hx
          · have := hp x hx; omega
          · rw [List.mem_singleton] at hx
            subst hx
            simp
        · rw [List.pairwise_append]
          exact ⟨hq, List.pairwise_singleton _ _, fun x hx y hy => by
            rw [List.mem_singleton] at hy
            subst hy
            exact hp x hx⟩
    · rename_i hw
      exact go _ pd (.inr ⟨hw, rfl⟩) hs (fun x hx => .inl hx) (fun x hx => by have := hp x hx; omega) hq
    · exact hs.elim

/-- What a temporary holds once the operations of X have come up. -/
def Last (ops : Array Oper) (X : Nat → Prop) (dd : Nat → D) (ts0 : List D) (t : Nat) (d : D) : Prop :=
  (∃ i o, X i ∧ ops[i]? = some o ∧ o.dst = some t ∧ (∀ j o', X j → ops[j]? = some o' → o'.dst = some t → j ≤ i) ∧ d = if t < ts0.length then dd i else nth ts0 t) ∨
  ((∀ j o', X j → ops[j]? = some o' → o'.dst ≠ some t) ∧ d = nth ts0 t)

theorem lex_len {ops : Array Oper} {m : Nat} {T : Nat → List D} {dd : Nat → D} (hm : m ≤ ops.size) (hl : Lex P E ops H 0 m T dd) : ∀ i, i ≤ m → (T i).length = (T 0).length
  | 0, _ => rfl
  | i + 1, hi => by
    have hlt : i < ops.size := by omega
    have := (hl.step i ops[i] (by omega) (by omega) (by simp [hlt])).1
    rw [this, putO_len]
    exact lex_len hm hl i (by omega)

theorem lex_last {ops : Array Oper} {m : Nat} {T : Nat → List D} {dd : Nat → D} (hm : m ≤ ops.size) (hl : Lex P E ops H 0 m T dd) (t : Nat) : ∀ i, i ≤ m → Last ops (· < i) dd (T 0) t (nth (T i) t)
  | 0, _ => .inr ⟨fun j o' h => by omega, rfl⟩
  | i + 1, hi => by
    have hlt : i < ops.size := by omega
    have ho : ops[i]? = some ops[i] := by simp [hlt]
    have hs := (hl.step i ops[i] (by omega) (by omega) ho).1
    have ih := lex_last hm hl t i (by omega)
    have hlen := lex_len hm hl i (by omega)
    rw [hs]
    by_cases hd : ops[i].dst = some t
    · refine .inl ⟨i, ops[i], by omega, ho, hd, fun j o' hj _ _ => by omega, ?_⟩
      simp only [hd, putO, nth_put, true_and, hlen]
      split
      · rfl
      · rename_i hge
        rw [nth_get, nth_get, List.getElem?_eq_none (by omega), List.getElem?_eq_none (by omega)]
    · have hn : nth (putO (T i) ops[i].dst (dd i)) t = nth (T i) t := by
        cases hdd : ops[i].dst with
        | none => rfl
        | some t' =>
          simp only [putO, nth_put]
          rw [if_neg (fun h => hd (by rw [hdd, h.1]))]
      rw [hn]
      rcases ih with ⟨j, o, hj, hoj, hdj, hmax, hv⟩ | ⟨hno, hv⟩
      · refine .inl ⟨j, o, by omega, hoj, hdj, fun j' o' hj' ho' hd' => ?_, hv⟩
        by_cases e : j' = i
        · subst e
          rw [ho] at ho'
          cases ho'
          exact absurd hd' hd
        · exact hmax j' o' (by omega) ho' hd'
      · refine .inr ⟨fun j' o' hj' ho' hd' => ?_, hv⟩
        by_cases e : j' = i
        · subst e
          rw [ho] at ho'
          cases ho'
          exact hd hd'
        · exact hno j' o' (by omega) ho' hd'

theorem want_spec' {ops : Array Oper} {ts : List D} {a : Act} {o : Oper} {b : Bool} (r : ∀ t ∈ o.looksAt ops, RelV h ρ (nth ts t) (a.tmps.getD t undef)) (e : wantD ops ts o = some b) : Region.wanted o (yielded ops a.tmps) = b := by
  unfold wantD at e
  unfold Region.wanted
  split at e
  · rename_i hg
    cases e
    simp only [hg]
  · rename_i j want hg
    split at e
    · rename_i t ht
      split at e
      · rename_i c hc
        cases e
        have hr := r t (by simp [Oper.looksAt, hg, ht])
        rw [hc] at hr
        have hv : a.tmps[t]? = some (.bool c) := by
          rw [Array.getD_eq_getD_getElem?] at hr
          cases hx : a.tmps[t]? with
          | none => rw [hx] at hr; simp only [Option.getD_none, undef] at hr; cases hr
          | some v => rw [hx] at hr; simp only [Option.getD_some] at hr; cases hr; rfl
        simp only [hg, yielded, ht, Option.bind_some, hv]
        cases c <;> cases want <;> rfl
      · rename_i hc
        cases e
        have hr := r t (by simp [Oper.looksAt, hg, ht])
        rw [hc] at hr
        have hv := tup_nil hr
        rw [Array.getD_eq_getD_getElem?] at hv
        simp only [hg, yielded, ht, Option.bind_some]
        cases hx : a.tmps[t]? with
        | none => rfl
        | some v =>
          rw [hx, Option.getD_some] at hv
          subst hv
          rfl
      · cases e
    · cases e
end
end Go.Lv

namespace Go.Lv
open Go
set_option linter.unusedVariables false
set_option linter.unusedSimpArgs false
section
variable {P : Program} {w0 : World} {M0 : Nat → Prop} {hI h1 h : Gh} {ρ0 ρ : Rn} {H : Hp} {w : World} {E : Env} {ops : Array Oper} {m : Nat}

theorem mem_rdy {listed : Array Bool} {i : Nat} : i ∈ Region.ready .any ops listed ↔ i < ops.size ∧ listed.getD i true = false ∧ ∃ o, ops[i]? = some o ∧ ∀ e ∈ o.after, Region.binds .any e = true → listed.getD e.on false = true := by
  simp only [Region.ready, List.mem_filter, List.mem_range, Bool.and_eq_true, Bool.not_eq_true']
  constructor
  · rintro ⟨h1, h2, h3⟩
    refine ⟨h1, h2, ops[i], by simp [h1], fun e he hb => ?_⟩
    simp only [h1, getElem?_pos, Option.map_some, Option.getD_some, Array.all_eq_true_iff_forall_mem, Bool.or_eq_true, Bool.not_eq_true'] at h3
    rcases h3 e he with h | h
    · rw [hb] at h; cases h
    · exact h
  · rintro ⟨h1, h2, o, ho, h3⟩
    refine ⟨h1, h2, ?_⟩
    simp only [ho, Option.map_some, Option.getD_some, Array.all_eq_true_iff_forall_mem, Bool.or_eq_true, Bool.not_eq_true']
    intro e he
    cases hb : Region.binds .any e
    · exact .inl rfl
    · exact .inr (h3 e he hb)

theorem getD_true {listed : Array Bool} {i : Nat} (hi : i < listed.size) : listed.getD i true = listed.getD i false := by
  simp [Array.getD, hi]

theorem cnt_all {listed : Array Bool} (hc : listed.toList.countP (! ·) = 0) {i : Nat} (hi : i < listed.size) : listed.getD i false = true := by
  have : ∀ b ∈ listed.toList, ¬ ((! b) = true) := List.countP_eq_zero.1 hc
  have hm' : listed[i] ∈ listed.toList := by simp
  have := this _ hm'
  simp only [Array.getD, hi, dite_true]
  simpa using this
theorem cnt_some {listed : Array Bool} {n : Nat} (hc : listed.toList.countP (! ·) = n + 1) : ∃ i, i < listed.size ∧ listed.getD i false = false := by
  have : 0 < listed.toList.countP (! ·) := by omega
  obtain ⟨b, hb, hf⟩ := List.countP_pos_iff.1 this
  obtain ⟨i, hi, he⟩ := List.getElem_of_mem hb
  refine ⟨i, by simpa using hi, ?_⟩
  have hi' : i < listed.size := by simpa using hi
  have : listed[i]? = some b := by simpa [hi'] using he
  rw [Array.getD_eq_getD_getElem?, this]
  simpa using hf
theorem cnt_set {listed : Array Bool} {n i : Nat} (hc : listed.toList.countP (! ·) = n + 1) (hi : i < listed.size) (hf : listed.getD i true = false) : (listed.setIfInBounds i true).toList.countP (! ·) = n := by
  have h1 : listed.toList[i]? = some false := by
    simp only [Array.getD, hi, dite_true] at hf
    simp [hi]
    exact hf
  have := countP_set _ _ h1
  rw [Array.toList_setIfInBounds]
  omega
theorem getD_set {listed : Array Bool} {i j : Nat} (hi : i < listed.size) : (listed.setIfInBounds i true).getD j false = true ↔ j = i ∨ listed.getD j false = true := by
  rw [Array.getD_eq_getD_getElem?, Array.getElem?_setIfInBounds]
  by_cases e : i = j
  · subst e
    simp [hi]
  · rw [if_neg e, ← Array.getD_eq_getD_getElem?]
    constructor
    · exact .inr
    · rintro (h | h)
      · exact absurd h.symm e
      · exact h

theorem any_tail {K : List D → Hp → Prop} {Q : Exit → Act → World → Prop} (hb : GLe E.h0 h1) (hreg : regOk ops m = true) (hK : ∀ ts H a w, K ts H → St w0 M0 hI h1 ρ0 ts H a w → Q .normal a w) :
    ∀ (fuel k : Nat) (listed : Array Bool) (ts : List D) (H : Hp) (a : Act) (w : World), listed.toList.countP (! ·) = fuel → k ≤ ops.size → m ≤ k → listed.size = ops.size → (∀ i, listed.getD i false = true ↔ i < k) →
      aseq P E ops (ops.toList.drop k) ts H K → St w0 M0 hI h1 ρ0 ts H a w → wpAny P .any ops Q fuel listed a w
  | 0, k, listed, ts, H, a, w, hn, hkn, hm, hsz, hl, hs, hst => by
    have hk : k = ops.size := by
      rcases Nat.lt_or_ge k ops.size with h | h
      · have := (hl k).1 (cnt_all hn (by omega))
        omega
      · omega
    subst hk
    refine ⟨?_, ?_⟩
    · refine List.eq_nil_iff_forall_not_mem.2 fun i hi => ?_
      obtain ⟨h1, h2, _⟩ := mem_rdy.1 hi
      rw [getD_true (by omega), (hl i).2 h1] at h2
      cases h2
    · rw [List.drop_of_length_le (by simp)] at hs
      exact hK ts H a w hs hst
  | fuel + 1, k, listed, ts, H, a, w, hn, hkn, hm, hsz, hl, hs, hst => by
    obtain ⟨hmn, hedge, hpair⟩ := regOk_spec hreg
    have hlt : k < ops.size := by
      obtain ⟨i, hi, hf⟩ := cnt_some hn
      rcases Nat.lt_or_ge k ops.size with h | h
      · exact h
      · rw [(hl i).2 (by omega)] at hf
        cases hf
    have hko : ops[k]? = some ops[k] := by simp [hlt]
    have hkr : k ∈ Region.ready .any ops listed := by
      refine mem_rdy.2 ⟨hlt, ?_, ops[k], hko, fun e he hbe => (hl _).2 (hedge k _ hko e he hbe)⟩
      rw [getD_true (by omega)]
      cases hh : listed.getD k false with
      | false => rfl
      | true => have := (hl k).1 hh; omega
    refine ⟨fun h => (by rw [h] at hkr; cases hkr), fun i hi => ?_⟩
    obtain ⟨hi1, hi2, oi, hoi, hie⟩ := mem_rdy.1 hi
    have hik : i = k := by
      rcases Nat.lt_trichotomy i k with h | h | h
      · have := (hl i).2 h
        rw [getD_true (by omega)] at hi2
        rw [hi2] at this
        cases this
      · exact h
      · -- it waits for k, which isn't there yet
        have closed : ∀ p q, Waits ops.toList p q → (∀ o, ops[q]? = some o → ∀ e ∈ o.after, Region.binds .any e = true → e.on < k) → p < k := by
          intro p q hw
          induction hw with
          | one j o e ho he hbe hon =>
            intro hh
            have := hh o (by simpa using ho) e he hbe
            omega
          | more k' j o e ho he hbe hon h ih =>
            intro hh
            have h1 := hh o (by simpa using ho) e he hbe
            exact ih fun o' ho' e' he' hbe' => by
              have := hedge k' o' ho' e' he' hbe'
              omega
        rcases hpair k i _ _ hko hoi h with hw | ⟨hw, _⟩
        · have := closed k i hw fun o ho e he hbe => by
            rw [hoi] at ho
            cases ho
            exact (hl _).1 (hie e he hbe)
          omega
        · omega
    subst hik
    rw [hko] at hoi
    cases hoi
    obtain ⟨h, ρ, hg, hρ, hS, hF, hdef⟩ := hst
    rw [List.drop_eq_getElem_cons (by simpa using hlt)] at hs
    have hl' : ∀ j, (listed.setIfInBounds i true).getD j false = true ↔ j < i + 1 := by
      intro j
      rw [getD_set (by omega), hl j]
      omega
    have next := fun ts H a w => any_tail hb hreg hK fuel (i + 1) (listed.setIfInBounds i true) ts H a w (cnt_set hn (by omega) hi2) (by omega) (by omega) (by simp [hsz]) hl'
    simp only [aseq] at hs
    unfold wpOp
    simp only [hko]
    have hoe : ops.toList[i] = ops[i] := by simp
    rw [hoe] at hs
    split at hs
    · rename_i hw
      rw [want_spec hF hw, if_pos rfl]
      refine .inl (hs w0 M0 hI h ρ w a (hb.trans hg) hS (fun x _ => hF.ev (hb.trans hg) x) _ Q fun d H' v w' h' ρ' hr g1 r1 hS' hv => ?_)
      exact next _ H' _ w' hr ⟨h', ρ', hg.trans g1, hρ.trans r1, hS', (hF.mono g1 r1).put hv _, by rw [put_defers]; exact hdef⟩
    · rename_i hw
      rw [want_spec hF hw]
      simp only [Bool.false_eq_true, if_false]
      exact next _ H _ w hs ⟨h, ρ, hg, hρ, hS, hF.put rel_undef _, by rw [put_defers]; exact hdef⟩
    · exact hs.elim

theorem relF_upd {ts : List D} {a : Act} {t : Nat} {d : D} (r : RelF h ρ ts a) (hv : t < ts.length → RelV h ρ d (a.tmps.getD t undef)) : RelF h ρ (put ts t d) a := by
  refine ⟨by rw [put_len]; exact r.1, fun i => ?_⟩
  rw [nth_put]
  split
  · rename_i hc
    obtain ⟨rfl, hlt⟩ := hc
    exact hv hlt
  · exact r.2 i

/-- What was made comes to be seen. -/
theorem adopt_all {B : Nat → Nat} : ∀ (l : Pend) {ρ : Rn} {H : Hp} {ts : List D} {a : Act}, Sim w0 M0 hI h ρ H w → RelF h ρ ts a → (∀ x ∈ l, (x.2.1 < ts.length → a.tmps.getD x.2.1 undef = .pointer (some ⟨B x.1, 0, none⟩)) ∧ Flo w0 h ρ H w (B x.1) x.2.2) → l.Pairwise (fun x y => B x.1 ≠ B y.1) →
    ∃ ρ', RLe ρ ρ' ∧ Sim w0 M0 hI h ρ' (H ++ fillH l) w ∧ RelF h ρ' (fillT ts H.length l) a
  | [], ρ, H, ts, a, hS, hF, hx, hp => ⟨ρ, .refl _, by simpa [fillH] using hS, hF⟩
  | x :: l, ρ, H, ts, a, hS, hF, hx, hp => by
    obtain ⟨h1, h2⟩ := hx x (by simp)
    rw [List.pairwise_cons] at hp
    obtain ⟨k1, k2⟩ := hS.adopt h2
    have hF2 := relF_upd (hF.mono (.refl _) k1) (t := x.2.1) (d := .ptr H.length 0 x.2.2.length) fun hlt => by
      rw [h1 hlt]
      exact .ptr _ _ _ _ _ _ (Rn.set_same _ _ _ _)
    obtain ⟨ρ', g1, g2, g3⟩ := adopt_all l k2 hF2 (fun y hy => by
      obtain ⟨m1, m2⟩ := hx y (by simp [hy])
      exact ⟨by rw [put_len]; exact m1, Flo.next hS m2 (fun e => hp.1 y hy e.symm)⟩) hp.2
    refine ⟨ρ', k1.trans g1, ?_, ?_⟩
    · simpa [fillH] using g2
    · simpa [fillT] using g3

/-- The state while the first operations come up, in some order. -/
structure Mid (w0 : World) (M0 : Nat → Prop) (hI h1 : Gh) (ρ0 : Rn) (ops : Array Oper) (H : Hp) (T0 : List D) (dd : Nat → D) (pd : Pend) (listed : Array Bool) (a : Act) (w : World) : Prop where
  st : ∃ h ρ, GLe h1 h ∧ RLe ρ0 ρ ∧ Sim w0 M0 hI h ρ H w ∧ a.defers = [] ∧ a.tmps.size = T0.length ∧ (∀ t, ∃ d, Last ops (fun i => listed.getD i false = true) dd T0 t d ∧ RelV h ρ d (a.tmps.getD t undef)) ∧
    ∃ B : Nat → Nat, (∀ x ∈ pd, listed.getD x.1 false = true → (x.2.1 < T0.length → a.tmps.getD x.2.1 undef = .pointer (some ⟨B x.1, 0, none⟩)) ∧ Flo w0 h ρ H w (B x.1) x.2.2) ∧
      ∀ x ∈ pd, ∀ y ∈ pd, listed.getD x.1 false = true → listed.getD y.1 false = true → x.1 ≠ y.1 → B x.1 ≠ B y.1

theorem last_uniq {X X' : Nat → Prop} {dd : Nat → D} {T0 : List D} {t : Nat} {d d' : D} (hX : ∀ i, X i ↔ X' i) (h1 : Last ops X dd T0 t d) (h2 : Last ops X' dd T0 t d') : d = d' := by
  rcases h1 with ⟨i, o, hi, ho, hd, hmax, hv⟩ | ⟨hno, hv⟩ <;> rcases h2 with ⟨i', o', hi', ho', hd', hmax', hv'⟩ | ⟨hno', hv'⟩
  · have e1 := hmax i' o' ((hX i').2 hi') ho' hd'
    have e2 := hmax' i o ((hX i).1 hi) ho hd
    have : i = i' := by omega
    subst this
    rw [hv, hv']
  · exact absurd hd (hno' i o ((hX i).1 hi) ho)
  · exact absurd hd' (hno i' o' ((hX i').2 hi') ho')
  · rw [hv, hv']

theorem any_head {K : List D → Hp → Prop} {Q : Exit → Act → World → Prop} {T : Nat → List D} {dd : Nat → D} (hb : GLe E.h0 h1) (hreg : regOk ops m = true) {pd : Pend} (hlex : Lex P E ops H 0 m T dd) (hmk : ∀ x ∈ pd, x.1 < m ∧ Makes P ops T dd x) (hpw : pd.Pairwise fun x y => x.1 < y.1) (htail : aseq P E ops (ops.toList.drop m) (fillT (T m) H.length pd) (H ++ fillH pd) K)
    (hK : ∀ ts H a w, K ts H → St w0 M0 hI h1 ρ0 ts H a w → Q .normal a w) :
    ∀ (fuel : Nat) (listed : Array Bool) (a : Act) (w : World), listed.toList.countP (! ·) = fuel → listed.size = ops.size → (∀ i, m ≤ i → listed.getD i false = false) →
      (∀ i j, listed.getD j false = true → Waits ops.toList i j → listed.getD i false = true) → Mid w0 M0 hI h1 ρ0 ops H (T 0) dd pd listed a w → wpAny P .any ops Q fuel listed a w := by
  obtain ⟨hmn, hedge, hpair⟩ := regOk_spec hreg
  -- when the first m are all there
  have hfin : ∀ (fuel : Nat) (listed : Array Bool) (a : Act) (w : World), listed.toList.countP (! ·) = fuel → listed.size = ops.size → (∀ i, listed.getD i false = true ↔ i < m) → Mid w0 M0 hI h1 ρ0 ops H (T 0) dd pd listed a w → wpAny P .any ops Q fuel listed a w := by
    intro fuel listed a w hcnt hsz hl hmid
    obtain ⟨h, ρ, hg, hρ, hS, hdef, hts, hlast, B, hB1, hB2⟩ := hmid.st
    have hF : RelF h ρ (T m) a := ⟨by rw [lex_len hmn hlex m (Nat.le_refl _), hts], fun t => by
      obtain ⟨d, h1, h2⟩ := hlast t
      rw [last_uniq (fun i => (hl i).symm) (lex_last hmn hlex t m (Nat.le_refl _)) h1]
      exact h2⟩
    have hll : ∀ x ∈ pd, listed.getD x.1 false = true := fun x hx => (hl x.1).2 (hmk x hx).1
    obtain ⟨ρ', k1, k2, k3⟩ := adopt_all (B := B) pd hS hF (fun x hx => by
      obtain ⟨m1, m2⟩ := hB1 x hx (hll x hx)
      exact ⟨by rw [lex_len hmn hlex m (Nat.le_refl _)]; exact m1, m2⟩) (hpw.imp_of_mem fun {x y} hx hy hxy => hB2 x hx y hy (hll x hx) (hll y hy) (by omega))
    exact any_tail hb hreg hK fuel m listed _ _ a w hcnt hmn (Nat.le_refl _) hsz hl htail ⟨h, ρ', hg, hρ.trans k1, k2, k3, hdef⟩
  intro fuel
  induction fuel with
  | zero =>
    intro listed a w hcnt hsz hge hcl hmid
    have hmn' : m = ops.size := by
      rcases Nat.lt_or_ge m ops.size with h | h
      · have := cnt_all hcnt (i := m) (by omega)
        rw [hge m (Nat.le_refl _)] at this
        cases this
      · omega
    refine hfin 0 listed a w hcnt hsz (fun i => ⟨fun h => ?_, fun h => cnt_all hcnt (by omega)⟩) hmid
    rcases Nat.lt_or_ge i m with h' | h'
    · exact h'
    · rw [hge i h'] at h; cases h
  | succ fuel ih =>
    intro listed a w hcnt hsz hge hcl hmid
    by_cases hdone : ∀ i, i < m → listed.getD i false = true
    · refine hfin (fuel + 1) listed a w hcnt hsz (fun i => ⟨fun h => ?_, hdone i⟩) hmid
      rcases Nat.lt_or_ge i m with h' | h'
      · exact h'
      · rw [hge i h'] at h; cases h
    · -- one that isn't there, and waits for none
      have hex : ∃ i, i < m ∧ listed.getD i false = false ∧ ∀ j, j < i → listed.getD j false = true := by
        have : ∃ i, i < m ∧ listed.getD i false = false := by
          refine Classical.byContradiction fun hno => hdone fun i hi => ?_
          cases hh : listed.getD i false with
          | true => rfl
          | false => exact absurd ⟨i, hi, hh⟩ hno
        obtain ⟨i, h1, h2⟩ := this
        induction i using Nat.strongRecOn with
        | _ i ihi =>
          by_cases hall : ∀ j, j < i → listed.getD j false = true
          · exact ⟨i, h1, h2, hall⟩
          · obtain ⟨j, hj⟩ := Classical.not_forall.1 hall
            obtain ⟨hj1, hj2⟩ := Classical.not_imp.1 hj
            exact ihi j hj1 (by omega) (by simpa using hj2)
      obtain ⟨i0, hi0m, hi0f, hi0⟩ := hex
      have hi0lt : i0 < ops.size := by omega
      have hi0r : i0 ∈ Region.ready .any ops listed := mem_rdy.2 ⟨hi0lt, by rw [getD_true (by omega)]; exact hi0f, ops[i0], by simp [hi0lt], fun e he hbe => hi0 _ (hedge i0 ops[i0] (by simp [hi0lt]) e he hbe)⟩
      refine ⟨fun h => (by rw [h] at hi0r; cases hi0r), fun i hi => ?_⟩
      obtain ⟨hi1, hi2, oi, hoi, hie⟩ := mem_rdy.1 hi
      have hif : listed.getD i false = false := by rw [← getD_true (by omega)]; exact hi2
      -- what it waits for is there
      have hwait : ∀ p, Waits ops.toList p i → listed.getD p false = true := by
        intro p hw
        cases hw with
        | one j o e ho he hbe hon =>
          rw [show ops.toList[i]? = ops[i]? from by simp, hoi] at ho
          cases ho
          rw [← hon]
          exact hie e he hbe
        | more k j o e ho he hbe hon hw' =>
          rw [show ops.toList[i]? = ops[i]? from by simp, hoi] at ho
          cases ho
          have := hie e he hbe
          rw [hon] at this
          exact hcl _ _ this hw'
      have him : i < m := by
        rcases Nat.lt_or_ge i m with h | h
        · exact h
        · rcases hpair i0 i ops[i0] oi (by simp [hi0lt]) hoi (by omega) with hw | ⟨hw, _⟩
          · rw [hwait i0 hw] at hi0f; cases hi0f
          · omega
      obtain ⟨h, ρ, hg, hρ, hS, hdef, hts, hlast, B, hB1, hB2⟩ := hmid.st
      -- what it looks at is what it looks at in its own order
      have hlook : ∀ t ∈ oi.looksAt ops, RelV h ρ (nth (T i) t) (a.tmps.getD t undef) := by
        intro t ht
        obtain ⟨d, h1, h2⟩ := hlast t
        have hd : nth (T i) t = d := by
          rcases lex_last hmn hlex t i (by omega) with ⟨j, o, hj, hoj, hdj, hmax, hv⟩ | ⟨hno, hv⟩
          · have hjX : listed.getD j false = true := by
              rcases hpair j i o oi hoj hoi hj with hw | ⟨_, hap⟩
              · exact hwait j hw
              · exact absurd ht ((Oper.apart_spec hap).1 t hdj)
            rcases h1 with ⟨j', o', hj', hoj', hdj', hmax', hv'⟩ | ⟨hno', hv'⟩
            · have e1 : j ≤ j' := hmax' j o hjX hoj hdj
              have e2 : j' ≤ j := by
                rcases Nat.lt_trichotomy j' i with hh | hh | hh
                · exact hmax j' o' hh hoj' hdj'
                · subst hh; rw [hif] at hj'; cases hj'
                · rcases hpair i j' oi o' hoi hoj' hh with hw | ⟨_, hap⟩
                  · have := hcl i j' hj' hw
                    rw [hif] at this; cases this
                  · exact absurd ht ((Oper.apart_spec hap).2.2 t hdj')
              have : j = j' := by omega
              subst this
              rw [hv, hv']
            · exact absurd hdj (hno' j o hjX hoj)
          · rcases h1 with ⟨j', o', hj', hoj', hdj', hmax', hv'⟩ | ⟨hno', hv'⟩
            · rcases Nat.lt_trichotomy j' i with hh | hh | hh
              · exact absurd hdj' (hno j' o' hh hoj')
              · subst hh; rw [hif] at hj'; cases hj'
              · rcases hpair i j' oi o' hoi hoj' hh with hw | ⟨_, hap⟩
                · have := hcl i j' hj' hw
                  rw [hif] at this; cases this
                · exact absurd ht ((Oper.apart_spec hap).2.2 t hdj')
            · rw [hv, hv']
        rw [hd]
        exact h2
      have hop : ∀ x ∈ oi.op.operands.toList, RelV h ρ (ev E.g (T i) x) (a.eval x) := by
        intro x hx
        cases x with
        | tmp t => exact hlook t (by simp only [Oper.looksAt, List.mem_append, List.mem_filterMap]; exact .inl ⟨.tmp t, hx, rfl⟩)
        | const v => exact ofV_rel v
        | global g => exact (E.ok g).mono (hb.trans hg) (fun i n x e => by cases e)
        | func f => exact .fn _ _ _ _ _ (fun _ => undef) (fun _ => undef) rfl rfl (fun j hj => by simp at hj) (fun j hj => by simp at hj) (fun j d hj => by simp at hj) (fun j d hj => by simp at hj)
      -- behind it
      have next : ∀ (v : Value) (w' : World) (h' : Gh) (ρ' : Rn) (B' : Nat → Nat), GLe h h' → RLe ρ ρ' → Sim w0 M0 hI h' ρ' H w' → RelV h' ρ' (dd i) v →
          (∀ x ∈ pd, (x.1 = i ∨ listed.getD x.1 false = true) → (x.2.1 < (T 0).length → (a.put oi.dst v).tmps.getD x.2.1 undef = .pointer (some ⟨B' x.1, 0, none⟩)) ∧ Flo w0 h' ρ' H w' (B' x.1) x.2.2) →
          (∀ x ∈ pd, ∀ y ∈ pd, (x.1 = i ∨ listed.getD x.1 false = true) → (y.1 = i ∨ listed.getD y.1 false = true) → x.1 ≠ y.1 → B' x.1 ≠ B' y.1) → wpAny P .any ops Q fuel (listed.setIfInBounds i true) (a.put oi.dst v) w' := by
        intro v w' h' ρ' B' g1 r1 hS' hv hf1 hf2
        refine ih _ _ _ (cnt_set hcnt (by omega) hi2) (by simp [hsz]) (fun j hj => ?_) (fun p q hq hw => ?_) ⟨h', ρ', hg.trans g1, hρ.trans r1, hS', by rw [put_defers]; exact hdef, ?_, fun t => ?_, B', fun x hx hxl => hf1 x hx ((getD_set (by omega)).1 hxl), fun x hx y hy hxl hyl => hf2 x hx y hy ((getD_set (by omega)).1 hxl) ((getD_set (by omega)).1 hyl)⟩
        · cases hh : (listed.setIfInBounds i true).getD j false with
          | false => rfl
          | true =>
            rcases (getD_set (by omega)).1 hh with e | e
            · omega
            · rw [hge j hj] at e; cases e
        · rw [getD_set (by omega)] at hq ⊢
          rcases hq with rfl | hq
          · exact .inr (hwait p hw)
          · exact .inr (hcl p q hq hw)
        · cases oi.dst <;> simp [Act.put, hts]
        · obtain ⟨d, h1, h2⟩ := hlast t
          by_cases hdt : oi.dst = some t
          · refine ⟨if t < (T 0).length then dd i else nth (T 0) t, .inl ⟨i, oi, (getD_set (by omega)).2 (.inl rfl), hoi, hdt, fun j o' hj ho' hd' => ?_, rfl⟩, ?_⟩
            · rcases (getD_set (by omega)).1 hj with e | e
              · omega
              · rcases Nat.lt_or_ge i j with hh | hh
                · rcases hpair i j oi o' hoi ho' hh with hw | ⟨_, hap⟩
                  · have := hcl i j e hw
                    rw [hif] at this; cases this
                  · exact absurd hd' ((Oper.apart_spec hap).2.1 t hdt)
                · exact hh
            · simp only [hdt, Act.put]
              rw [Array.getD_eq_getD_getElem?, Array.getElem?_setIfInBounds]
              simp only [if_true]
              by_cases hlt : t < a.tmps.size
              · rw [if_pos hlt, if_pos (by rw [← hts]; exact hlt)]
                exact hv
              · rw [if_neg hlt, if_neg (by rw [← hts]; exact hlt), nth_get, List.getElem?_eq_none (by rw [← hts]; omega)]
                exact .und _
          · refine ⟨d, ?_, ?_⟩
            · rcases h1 with ⟨j, o, hj, hoj, hdj, hmax, hv'⟩ | ⟨hno, hv'⟩
              · refine .inl ⟨j, o, (getD_set (by omega)).2 (.inr hj), hoj, hdj, fun j' o' hj' ho' hd' => ?_, hv'⟩
                rcases (getD_set (by omega)).1 hj' with e | e
                · subst e
                  rw [hoi] at ho'
                  cases ho'
                  exact absurd hd' hdt
                · exact hmax j' o' e ho' hd'
              · refine .inr ⟨fun j' o' hj' ho' hd' => ?_, hv'⟩
                rcases (getD_set (by omega)).1 hj' with e | e
                · subst e
                  rw [hoi] at ho'
                  cases ho'
                  exact hdt hd'
                · exact hno j' o' e ho' hd'
            · have : (a.put oi.dst v).tmps.getD t undef = a.tmps.getD t undef := by
                cases hdd : oi.dst with
                | none => rfl
                | some t' =>
                  simp only [Act.put]
                  rw [Array.getD_eq_getD_getElem?, Array.getElem?_setIfInBounds_ne (fun e => hdt (by rw [hdd, e])), ← Array.getD_eq_getD_getElem?]
              rw [this]
              exact h2.mono g1 r1
      -- what was made stays as it is where another one comes up
      have others : ∀ (v : Value) (w' : World) (h' : Gh) (ρ' : Rn), (∀ x ∈ pd, x.1 ≠ i) → GLe h h' → RLe ρ ρ' → Sim w (Mine ρ H) h h' ρ' H w' → RelV h' ρ' (dd i) v → wpAny P .any ops Q fuel (listed.setIfInBounds i true) (a.put oi.dst v) w' := by
        intro v w' h' ρ' hne g1 r1 hC hv
        refine next v w' h' ρ' B g1 r1 (hS.outside hC) hv (fun x hx hxl => ?_) (fun x hx y hy hxl hyl hxy => ?_)
        · have hxl' := hxl.resolve_left (hne x hx)
          obtain ⟨m1, m2⟩ := hB1 x hx hxl'
          refine ⟨fun hlt => ?_, m2.step hC g1 r1⟩
          obtain ⟨_, _, o, ty', a1, a2, a3, a4, a5, a6, a7⟩ := hmk x hx
          have hdn : oi.dst ≠ some x.2.1 := fun e => hne x hx (sole_spec a6 hoi e).symm
          have : (a.put oi.dst v).tmps.getD x.2.1 undef = a.tmps.getD x.2.1 undef := by
            cases hdd : oi.dst with
            | none => rfl
            | some t' =>
              simp only [Act.put]
              rw [Array.getD_eq_getD_getElem?, Array.getElem?_setIfInBounds_ne (fun e => hdn (by rw [hdd, e])), ← Array.getD_eq_getD_getElem?]
          rw [this]
          exact m1 hlt
        · exact hB2 x hx y hy (hxl.resolve_left (hne x hx)) (hyl.resolve_left (hne y hy)) hxy
      unfold wpOp
      simp only [hoi]
      by_cases hpx : ∃ x ∈ pd, x.1 = i
      · obtain ⟨x, hx, rfl⟩ := hpx
        obtain ⟨_, a0, o, ty', a1, a2, a3, a4, a5, a6, a7⟩ := hmk x hx
        rw [hoi] at a1
        cases a1
        rw [want_spec' hlook a7, if_pos rfl]
        refine .inl ?_
        obtain ⟨cs, c1, c2, c3⟩ := run_alloc2 (P := P) (ty' := ty') (by rw [a4]; exact a5) w
        unfold Oper.wp
        have : (execOp a.eval oi).run P w = .ok (.value (.pointer (some ⟨w.heap.size, 0, none⟩))) (w.alloc (.cells cs ty')) := by simp [execOp, a2, c1]
        rw [this, Oper.upon_value]
        have hlt : ∀ y ∈ pd, listed.getD y.1 false = true → B y.1 < w.heap.size := fun y hy hyl => by
          obtain ⟨cs', e', q1, _⟩ := (hB1 y hy hyl).2.lies
          exact (Array.getElem?_eq_some_iff.1 q1).1
        have hiy : ∀ y ∈ pd, listed.getD y.1 false = true → y.1 ≠ x.1 := fun y hy hyl e => by rw [e, hif] at hyl; cases hyl
        refine next _ _ h ρ (fun j => if j = x.1 then w.heap.size else B j) (.refl _) (.refl _) (hS.more rfl rfl rfl (by simp) fun b hb => alloc_old _ _ hb) (by rw [a0]; exact .und _) (fun y hy hyl => ?_) (fun y hy z hz hyl hzl hyz => ?_)
        · by_cases hyx : y.1 = x.1
          · have hyx2 : y = x := by
              rcases List.mem_iff_getElem.1 hy with ⟨p, hp, rfl⟩
              rcases List.mem_iff_getElem.1 hx with ⟨q, hq, rfl⟩
              rcases Nat.lt_trichotomy p q with hh | hh | hh
              · have := (List.pairwise_iff_getElem.1 hpw) p q hp hq hh; omega
              · subst hh; rfl
              · have := (List.pairwise_iff_getElem.1 hpw) q p hq hp hh; omega
            subst hyx2
            simp only [if_true]
            refine ⟨fun hl2 => ?_, ⟨⟨cs, ty', alloc_new _ _, by rw [c2, a4], by rw [← a4]; exact c3 h ρ⟩, hS.new_none, hS.size, ?_⟩⟩
            · rw [a3]
              simp only [Act.put]
              rw [Array.getD_eq_getD_getElem?, Array.getElem?_setIfInBounds_self_of_lt (by rw [hts]; exact hl2)]
              rfl
            · rintro ⟨j, x', hl', hb'⟩
              obtain ⟨b', x'', q1, _, q3⟩ := (hS.blk j).lies hl'
              rw [hb'] at q1
              cases q1
              omega
          · have hyl' := hyl.resolve_left hyx
            obtain ⟨m1, m2⟩ := hB1 y hy hyl'
            simp only [if_neg hyx]
            refine ⟨fun hl2 => ?_, ?_⟩
            · obtain ⟨_, _, o', ty2, b1, b2, b3, b4, b5, b6, b7⟩ := hmk y hy
              have hdn : oi.dst ≠ some y.2.1 := fun e => hyx (sole_spec b6 hoi e).symm
              rw [a3] at hdn ⊢
              simp only [Act.put]
              rw [Array.getD_eq_getD_getElem?, Array.getElem?_setIfInBounds_ne (fun e => hdn (by rw [e])), ← Array.getD_eq_getD_getElem?]
              exact m1 hl2
            · obtain ⟨cs', e', q1, q2, q3⟩ := m2.lies
              exact ⟨⟨cs', e', by rw [alloc_old _ _ (hlt y hy hyl')]; exact q1, q2, q3⟩, m2.none, m2.new, m2.free⟩
        · by_cases hyx : y.1 = x.1
          · have hzx : z.1 ≠ x.1 := fun e => hyz (hyx.trans e.symm)
            simp only [if_pos hyx, if_neg hzx]
            have := hlt z hz (hzl.resolve_left hzx)
            omega
          · by_cases hzx : z.1 = x.1
            · simp only [if_neg hyx, if_pos hzx]
              have := hlt y hy (hyl.resolve_left hyx)
              omega
            · simp only [if_neg hyx, if_neg hzx]
              exact hB2 y hy z hz (hyl.resolve_left hyx) (hzl.resolve_left hzx) hyz
      · have hne : ∀ x ∈ pd, x.1 ≠ i := fun x hx e => hpx ⟨x, hx, e⟩
        rcases (hlex.step i oi (by omega) him hoi).2 with ⟨hw, hstep⟩ | ⟨hw, hdd⟩
        · rw [want_spec' hlook hw, if_pos rfl]
          refine .inl (hstep w (Mine ρ H) h h ρ w a (hb.trans hg) hS.inside hop _ Q fun d H' v w' h' ρ' hr g1 r1 hS' hv => ?_)
          obtain ⟨rfl, rfl⟩ := hr
          exact others v w' h' ρ' hne g1 r1 hS' hv
        · rw [want_spec' hlook hw]
          simp only [Bool.false_eq_true, if_false]
          exact others undef w h ρ hne (.refl _) (.refl _) hS.inside (by rw [hdd]; exact rel_undef)

theorem aq_wp {id : Nat} {K : List D → Hp → Prop} {Q : Exit → Act → World → Prop} {ts : List D} {a : Act} (hm : P.follows .mixedOrders = true) (hb : GLe E.h0 h1) (hreg : regOk ops m = true) (hK : ∀ ts H a w, K ts H → St w0 M0 hI h1 ρ0 ts H a w → Q .normal a w)
    (hs : aq P E ops m 0 ops.toList ts H [] K) (hst : St w0 M0 hI h1 ρ0 ts H a w) : (Code.region id ops true).wp P Q a w := by
  obtain ⟨hmn, _, _⟩ := regOk_spec hreg
  obtain ⟨T, dd, pd, rfl, hlex, hmk, hpw, htail⟩ := aq_lex (ops := ops) m 0 ts [] (by omega) (by simpa using hs) (fun x hx => by simp at hx) List.Pairwise.nil
  rw [Nat.zero_add] at hlex hmk htail
  refine wp_region_any hm ?_
  obtain ⟨h, ρ, hg, hρ, hS, hF, hdef⟩ := hst
  have nolist : ∀ j, (Array.replicate ops.size false).getD j false = true → False := fun j hj => by
    simp [Array.getD_eq_getD_getElem?, Array.getElem?_replicate] at hj
    split at hj <;> cases hj
  refine any_head hb hreg hlex (fun x hx => by
    rcases hmk x hx with e | ⟨_, e1, e2⟩
    · simp at e
    · exact ⟨by omega, e2⟩) hpw htail hK ops.size _ a _ ?_ (by simp) (fun i _ => ?_) (fun i j hj => ?_) ⟨h, ρ, hg, hρ, hS.drew, hdef, hF.1.symm, fun t => ⟨_, .inr ⟨fun j o' hj => (nolist j hj).elim, rfl⟩, hF.2 t⟩, fun _ => 0, fun x hx hxl => (nolist _ hxl).elim, fun x hx y hy hxl => (nolist _ hxl).elim⟩
  · simp [List.countP_replicate]
  · simp [Array.getD_eq_getD_getElem?, Array.getElem?_replicate]
    split <;> rfl
  · exact (nolist j hj).elim
end
end Go.Lv

namespace Go.Lv
open Go
set_option linter.unusedVariables false
set_option linter.unusedSimpArgs false

abbrev Post := Exit → List D → Hp → Prop
def Post.then (K : List D → Hp → Prop) (Q : Post) : Post
  | .normal, ts, H => K ts H
  | e, ts, H => Q e ts H
def Post.block (id : Nat) (Q : Post) : Post
  | .exit id', ts, H => if id' = id then Q .normal ts H else Q (.exit id') ts H
  | e, ts, H => Q e ts H
def loopN (body : Post → List D → Hp → Prop) (Q : Post) : Nat → List D → Hp → Prop
  | 0, _, _ => False
  | n + 1, ts, H => body (Post.then (loopN body Q n) Q) ts H

/-- A scope of labels to which nothing jumps. -/
def Post.scope (Q : Post) : Post
  | .goto _, _, _ => False
  | e, ts, H => Q e ts H

/-- What code comes to. -/
def awp (P : Program) (E : Env) : Code → Post → List D → Hp → Prop
  | .skip, Q, ts, H => Q .normal ts H
  | .region _ ops false, Q, ts, H => aseq P E ops ops.toList ts H (Q .normal)
  | .region _ ops true, Q, ts, H => ∃ m, regOk ops m = true ∧ aq P E ops m 0 ops.toList ts H [] (Q .normal)
  | .seq a b, Q, ts, H => awp P E a (Post.then (awp P E b Q) Q) ts H
  | .cond c x y, Q, ts, H => ∃ b, ev E.g ts c = .bool b ∧ if b then awp P E x Q ts H else awp P E y Q ts H
  | .block id c, Q, ts, H => awp P E c (Post.block id Q) ts H
  | .loop c, Q, ts, H => ∃ n, loopN (awp P E c) Q n ts H
  | .exit id, Q, ts, H => Q (.exit id) ts H
  | .ret, Q, ts, H => Q .ret ts H
  | .scope c, Q, ts, H => awp P E c (Post.scope Q) ts H
  | .label _, Q, ts, H => Q .normal ts H
  | _, _, _, _ => False

section
variable {P : Program} {w0 : World} {M0 : Nat → Prop} {hI h1 h : Gh} {ρ0 ρ : Rn} {H : Hp} {w : World} {E : Env}

theorem aq_mono {ops : Array Oper} {K K' : List D → Hp → Prop} (hk : ∀ ts H, K ts H → K' ts H) : ∀ (m k : Nat) (l : List Oper) (ts : List D) (H : Hp) (pd : Pend), aq P E ops m k l ts H pd K → aq P E ops m k l ts H pd K'
  | 0, k, l, ts, H, pd, hs => aseq_mono hk l _ _ hs
  | m + 1, k, [], ts, H, pd, hs => hk _ _ hs
  | m + 1, k, o :: rest, ts, H, pd, hs => by
    simp only [aq] at hs ⊢
    split at hs
    · rcases hs with ⟨d, h1, h2⟩ | ⟨t, ty', h1, h2, h3, h4, h5⟩
      · exact .inl ⟨d, h1, aq_mono hk m _ rest _ H _ h2⟩
      · exact .inr ⟨t, ty', h1, h2, h3, h4, aq_mono hk m _ rest _ H _ h5⟩
    · exact aq_mono hk m _ rest _ H _ hs
    · exact hs

theorem awp_mono : ∀ (c : Code) {Q Q' : Post}, (∀ e ts H, Q e ts H → Q' e ts H) → ∀ ts H, awp P E c Q ts H → awp P E c Q' ts H
  | .skip, Q, Q', hq, ts, H, h => hq _ _ _ h
  | .region _ ops false, Q, Q', hq, ts, H, h => aseq_mono (hq .normal) _ _ _ h
  | .region _ ops true, Q, Q', hq, ts, H, h => let ⟨m, h1, h2⟩ := h; ⟨m, h1, aq_mono (hq .normal) _ _ _ _ _ _ h2⟩
  | .seq a b, Q, Q', hq, ts, H, h => awp_mono a (fun e ts H he => by
      cases e <;> first | exact awp_mono b hq _ _ he | exact hq _ _ _ he) ts H h
  | .cond c x y, Q, Q', hq, ts, H, h => by
    obtain ⟨b, h1, h2⟩ := h
    refine ⟨b, h1, ?_⟩
    cases b
    · exact awp_mono y hq _ _ h2
    · exact awp_mono x hq _ _ h2
  | .block id c, Q, Q', hq, ts, H, h => awp_mono c (fun e ts H he => by
      cases e <;> simp only [Post.block] at he ⊢ <;> first
        | exact hq _ _ _ he
        | (split at he
           · rename_i hc
             rw [if_pos hc]
             exact hq _ _ _ he
           · rename_i hc
             rw [if_neg hc]
             exact hq _ _ _ he)) ts H h
  | .loop c, Q, Q', hq, ts, H, h => by
    obtain ⟨n, h⟩ := h
    refine ⟨n, ?_⟩
    induction n generalizing ts H with
    | zero => exact h
    | succ n ih => exact awp_mono c (fun e ts H he => by cases e <;> first | exact ih _ _ he | exact hq _ _ _ he) ts H h
  | .exit id, Q, Q', hq, ts, H, h => hq _ _ _ h
  | .ret, Q, Q', hq, ts, H, h => hq _ _ _ h
  | .rangeFunc .., Q, Q', hq, ts, H, h => h.elim
  | .scope c, Q, Q', hq, ts, H, h => awp_mono c (fun e ts H he => by
      cases e <;> first | exact hq _ _ _ he | exact he) ts H h
  | .label _, Q, Q', hq, ts, H, h => hq _ _ _ h
  | .goto _, Q, Q', hq, ts, H, h => h.elim
  | .refuse _, Q, Q', hq, ts, H, h => h.elim

/-- What stands behind, on the machine. -/
def Up (w0 : World) (M0 : Nat → Prop) (hI h1 : Gh) (ρ0 : Rn) (Q : Post) : Exit → Act → World → Prop :=
  fun e a w => ∃ ts H, Q e ts H ∧ St w0 M0 hI h1 ρ0 ts H a w

theorem awp_sound (hm : P.follows .mixedOrders = true) (hb : GLe E.h0 h1) : ∀ (c : Code) (Q : Post) (ts : List D) (H : Hp) (a : Act) (w : World), awp P E c Q ts H → St w0 M0 hI h1 ρ0 ts H a w → c.wp P (Up w0 M0 hI h1 ρ0 Q) a w
  | .skip, Q, ts, H, a, w, h, hst => wp_skip ⟨ts, H, h, hst⟩
  | .region _ ops false, Q, ts, H, a, w, h, hst => aseq_wp hb (fun ts H a w hk hs => ⟨ts, H, hk, hs⟩) h hst
  | .region _ ops true, Q, ts, H, a, w, h, hst => by
    obtain ⟨m, h1, h2⟩ := h
    exact aq_wp hm hb h1 (fun ts H a w hk hs => ⟨ts, H, hk, hs⟩) h2 hst
  | .seq x y, Q, ts, H, a, w, h, hst => by
    refine wp_seq (wp_mono (awp_sound hm hb x _ ts H a w h hst) fun e a w hh => ?_)
    obtain ⟨ts', H', hq, hs⟩ := hh
    cases e <;> first
      | exact awp_sound hm hb y Q ts' H' a w hq hs
      | exact ⟨ts', H', hq, hs⟩
  | .cond c x y, Q, ts, H, a, w, h, hst => by
    obtain ⟨b, h1, h2⟩ := h
    obtain ⟨hh, ρ, hg, hρ, hS, hF, hdef⟩ := hst
    have hc := hF.ev (hb.trans hg) c
    rw [h1] at hc
    have hv : a.eval c = .bool b := by
      generalize a.eval c = v at hc
      cases hc
      rfl
    refine wp_cond hv ?_
    cases b
    · exact awp_sound hm hb y Q ts H a w h2 ⟨hh, ρ, hg, hρ, hS, hF, hdef⟩
    · exact awp_sound hm hb x Q ts H a w h2 ⟨hh, ρ, hg, hρ, hS, hF, hdef⟩
  | .block id c, Q, ts, H, a, w, h, hst => by
    refine wp_block (wp_mono (awp_sound hm hb c _ ts H a w h hst) fun e a w hh => ?_)
    obtain ⟨ts', H', hq, hs⟩ := hh
    cases e <;> simp only [Post.block] at hq <;> simp only [Exit.inBlock] <;> first
      | exact ⟨ts', H', hq, hs⟩
      | (split at hq
         · rename_i he
           rw [if_pos he]
           exact ⟨ts', H', hq, hs⟩
         · rename_i he
           rw [if_neg he]
           exact ⟨ts', H', hq, hs⟩)
  | .loop c, Q, ts, H, a, w, h, hst => by
    obtain ⟨n, h⟩ := h
    have key : ∀ (n : Nat) (ts : List D) (H : Hp) (a : Act) (w : World), loopN (awp P E c) Q n ts H → St w0 M0 hI h1 ρ0 ts H a w → ∀ (b : Frame) (k : List Item) (cs : List Frame),
        ∃ e a' w', Up w0 M0 hI h1 ρ0 Q e a' w' ∧ Arrives P (lone (b.at a (.code c :: .inLoop c :: k)) cs w) b k cs e a' w' := by
      intro n
      induction n with
      | zero => intro ts H a w h; exact h.elim
      | succ n ih =>
        intro ts H a w h hst b k cs
        obtain ⟨e, a₁, w₁, hq, harr⟩ := awp_sound hm hb c _ ts H a w h hst b (.inLoop c :: k) cs
        obtain ⟨ts', H', hq, hs⟩ := hq
        cases e with
        | normal =>
          obtain ⟨e₂, a₂, w₂, hq₂, harr₂⟩ := ih ts' H' a₁ w₁ hq hs b k cs
          exact ⟨e₂, a₂, w₂, hq₂, .of_steps (Steps.trans harr (.one step_inLoop)) harr₂⟩
        | exit id => exact ⟨_, a₁, w₁, ⟨ts', H', hq, hs⟩, .pass (x := .inLoop c) rfl (fun _ _ => .inl (by simp)) harr⟩
        | goto l => exact ⟨_, a₁, w₁, ⟨ts', H', hq, hs⟩, .pass (x := .inLoop c) rfl (fun _ _ => .inl (by simp)) harr⟩
        | ret => exact ⟨_, a₁, w₁, ⟨ts', H', hq, hs⟩, .pass (x := .inLoop c) rfl (fun _ _ => .inl (by simp)) harr⟩
        | panic ch => exact ⟨_, a₁, w₁, ⟨ts', H', hq, hs⟩, .pass (x := .inLoop c) rfl (fun _ _ => .inl (by simp)) harr⟩
        | outgrown => exact ⟨_, a₁, w₁, ⟨ts', H', hq, hs⟩, .pass (x := .inLoop c) rfl (fun _ _ => .inl (by simp)) harr⟩
    intro b k cs
    obtain ⟨e, a', w', hq, harr⟩ := key n ts H a w h hst b k cs
    exact ⟨e, a', w', hq, .of_steps (.one step_loop) harr⟩
  | .exit id, Q, ts, H, a, w, h, hst => wp_exit ⟨ts, H, h, hst⟩
  | .ret, Q, ts, H, a, w, h, hst => wp_ret ⟨ts, H, h, hst⟩
  | .rangeFunc .., Q, ts, H, a, w, h, hst => h.elim
  | .scope c, Q, ts, H, a, w, h, hst => by
    refine wp_scope_straight (wp_mono (awp_sound hm hb c _ ts H a w h hst) fun e a w hh => ?_)
    obtain ⟨ts', H', hq, hs⟩ := hh
    cases e <;> simp only [Post.scope] at hq <;> simp only [Exit.noGoto] <;> first
      | exact ⟨ts', H', hq, hs⟩
      | exact hq.elim
  | .label _, Q, ts, H, a, w, h, hst => wp_label ⟨ts, H, h, hst⟩
  | .goto _, Q, ts, H, a, w, h, hst => h.elim
  | .refuse _, Q, ts, H, a, w, h, hst => h.elim

/-- A result variable's data. -/
def resV (P : Program) (ts : List D) (H : Hp) : ResultVar → Option D
  | .tmp t => some (nth ts t)
  | .cell a t => dLoad (ty P t) (szOf P t) H (nth ts a)
def resL (P : Program) (ts : List D) (H : Hp) : List ResultVar → Option (List D)
  | [] => some []
  | r :: rs => match resV P ts H r, resL P ts H rs with
    | some d, some ds => some (d :: ds)
    | _, _ => none
def resD (P : Program) (ts : List D) (H : Hp) (rs : List ResultVar) : Option D :=
  match resL P ts H rs with
  | some [d] => some d
  | some ds => some (.tup ds)
  | none => none

theorem run_resV (hS : Sim w0 M0 hI h ρ H w) {ts : List D} {a : Act} (hF : RelF h ρ ts a) {r : ResultVar} {d : D} (e : resV P ts H r = some d) :
    ∃ v, ((match r with | .tmp t => pure (a.tmps.getD t undef) | .cell x t => do loadVar t (← asAddr (a.tmps.getD x undef)) : Sem Value)).run P w = .ok v w ∧ RelV h ρ d v := by
  cases r with
  | tmp t =>
    simp only [resV, Option.some.injEq] at e
    subst e
    exact ⟨_, rfl, hF.2 t⟩
  | cell x t =>
    simp only [resV] at e
    obtain ⟨v, hv, rv⟩ := run_loadAt (P := P) hS (hF.2 x) e
    refine ⟨v, ?_, rv⟩
    have hx := hF.2 x
    show ((do loadVar t (← asAddr (a.tmps.getD x undef)) : Sem Value)).run P w = _
    generalize a.tmps.getD x undef = vx at hv hx ⊢
    generalize nth ts x = dx at e hx
    cases hx <;> first
      | (simp only [Instr.loadAt, Instr.sureAddr, Sem.run_bind, Sem.run_pure, Result.andThen_ok] at hv; simp only [asAddr, Sem.run_bind, Sem.run_pure, Result.andThen_ok]; exact hv)
      | (simp only [dLoad] at e; cases e)

theorem run_resL (hS : Sim w0 M0 hI h ρ H w) {ts : List D} {a : Act} (hF : RelF h ρ ts a) : ∀ {rs : List ResultVar} {ds : List D}, resL P ts H rs = some ds →
    ∃ vs : List Value, ((rs.mapM fun | .tmp t => pure (a.tmps.getD t undef) | .cell x t => do loadVar t (← asAddr (a.tmps.getD x undef)) : Sem (List Value))).run P w = .ok vs w ∧ vs.length = ds.length ∧ ∀ (j : Nat) (d : D), ds[j]? = some d → ∃ v : Value, vs[j]? = some v ∧ RelV h ρ d v
  | [], ds, e => by
    simp only [resL, Option.some.injEq] at e
    subst e
    exact ⟨[], rfl, rfl, fun j d hj => by simp at hj⟩
  | r :: rs, ds, e => by
    simp only [resL] at e
    split at e
    · rename_i d ds' h1 h2
      cases e
      obtain ⟨v, hv, rv⟩ := run_resV (P := P) hS hF h1
      obtain ⟨vs, hvs, hl, hr⟩ := run_resL hS hF h2
      refine ⟨v :: vs, ?_, by simp [hl], fun j d' hj => ?_⟩
      · rw [List.mapM_cons, Sem.run_bind]
        have hv' := hv
        cases r <;> simp only at hv' ⊢ <;> rw [hv'] <;> simp only [Result.andThen_ok, Sem.run_bind] <;> rw [hvs] <;> rfl
      · cases j with
        | zero => simp at hj; subst hj; exact ⟨v, rfl, rv⟩
        | succ j => exact hr j d' (by simpa using hj)
    · cases e

theorem run_results (hS : Sim w0 M0 hI h ρ H w) {ts : List D} {a : Act} (hF : RelF h ρ ts a) {fn : Func} {d : D} (e : resD P ts H fn.results.toList = some d) : ∃ v, (results fn a.tmps).run P w = .ok v w ∧ RelV h ρ d v := by
  unfold resD at e
  cases hr : resL P ts H fn.results.toList with
  | none => simp [hr] at e
  | some ds =>
    obtain ⟨vs, hvs, hl, hget⟩ := run_resL (P := P) hS hF hr
    have hrun : (results fn a.tmps).run P w = .ok (if h : vs.toArray.size = 1 then vs.toArray[0] else .tuple vs.toArray) w := by
      simp only [results, Sem.run_bind, Array.mapM_eq_mapM_toList, Sem.run_map]
      erw [hvs]
      simp only [Result.andThen_ok, Sem.run_pure]
    refine ⟨_, hrun, ?_⟩
    rw [hr] at e
    split at e
    · rename_i d' hds
      cases hds
      cases e
      obtain ⟨v, hv, rv⟩ := hget 0 d rfl
      match vs, hl with
      | [x], _ => simp at hv; subst hv; simpa using rv
    · rename_i ds' hne hds
      cases hds
      cases e
      rw [dif_neg]
      · refine .tup _ _ (by simp [hl]) (fun j => vs.toArray.getD j undef) (fun j hj => ?_) (fun j d hj => ?_)
        · simp [hl, hj, Array.getD]
        · obtain ⟨v, hv, rv⟩ := hget j d hj
          rw [Array.getD_eq_getD_getElem?]
          simp [hv]
          exact rv
      · intro h1
        have h2 : ds.length = 1 := by rw [← hl]; simpa using h1
        obtain ⟨x, hx⟩ := List.length_eq_one_iff.1 h2
        exact hne x hx
    · cases e
end
end Go.Lv

namespace Go.Lv
open Go
set_option linter.unusedVariables false
set_option linter.unusedSimpArgs false

/-- Data that own nothing, out of data that may own rows: those are written no more. -/
def reifyL (f : Hp → D → Option (D × Hp)) : Hp → List D → Option (List D × Hp)
  | H, [] => some ([], H)
  | H, d :: l => match f H d with
    | some (d', H') => match reifyL f H' l with
      | some (l', H'') => some (d' :: l', H'')
      | none => none
    | none => none
def reify : Nat → Hp → D → Option (D × Hp)
  | 0, H, d => if d.closed then some (d, H) else none
  | k + 1, H, d => if d.closed then some (d, H) else
    match d with
    | .own i len n => match hget H i with
      | .row sz ag cs | .frz sz ag cs =>
        if cs.length = n ∧ len * sz ≤ n then
          match reifyL (reify k) (frz1 H i) (cs.take (len * sz)) with
          | some (cs', H') => if ag = true ∨ sz = 1 ∧ allCell cs' = true then some (.list false (els ag sz len cs'), H') else none
          | none => none
        else none
      | _ => none
    | .agg cs => match reifyL (reify k) H cs with
      | some (cs', H') => some (.agg cs', H')
      | none => none
    | .tup cs => match reifyL (reify k) H cs with
      | some (cs', H') => some (.tup cs', H')
      | none => none
    | _ => none

section
variable {P : Program} {w0 : World} {M0 : Nat → Prop} {hI h1 h : Gh} {ρ0 ρ : Rn} {H : Hp} {w : World} {E : Env}

def ReOk (w0 : World) (M0 : Nat → Prop) (hI : Gh) (ρ : Rn) (w : World) (f : Hp → D → Option (D × Hp)) : Prop :=
  ∀ (h : Gh) (H : Hp) (d : D) (v : Value) (d' : D) (H' : Hp), f H d = some (d', H') → Sim w0 M0 hI h ρ H w → RelV h ρ d v → ∃ h', GLe h h' ∧ Sim w0 M0 hI h' ρ H' w ∧ RelV h' ρ d' v ∧ d'.closed = true

theorem reifyL_sound {f : Hp → D → Option (D × Hp)} (hf : ReOk w0 M0 hI ρ w f) : ∀ (l : List D) (h : Gh) (H : Hp) (us : Nat → Value) (l' : List D) (H' : Hp), reifyL f H l = some (l', H') → Sim w0 M0 hI h ρ H w → (∀ (j : Nat) (d : D), l[j]? = some d → RelV h ρ d (us j)) →
    ∃ h', GLe h h' ∧ Sim w0 M0 hI h' ρ H' w ∧ l'.length = l.length ∧ D.closedL l' = true ∧ ∀ (j : Nat) (d : D), l'[j]? = some d → RelV h' ρ d (us j)
  | [], h, H, us, l', H', e, hS, hr => by
    simp only [reifyL, Option.some.injEq, Prod.mk.injEq] at e
    obtain ⟨rfl, rfl⟩ := e
    exact ⟨h, .refl _, hS, rfl, rfl, fun j d hj => by simp at hj⟩
  | d :: l, h, H, us, l', H', e, hS, hr => by
    simp only [reifyL] at e
    split at e
    · rename_i d1 H1 h1
      split at e
      · rename_i l1 H2 h2
        cases e
        obtain ⟨ha, g1, s1, r1, c1⟩ := hf h H d (us 0) d1 H1 h1 hS (hr 0 d rfl)
        obtain ⟨hb, g2, s2, len, cl, r2⟩ := reifyL_sound hf l ha H1 (fun j => us (j + 1)) l1 _ h2 s1 (fun j d hj => (hr (j + 1) d (by simpa using hj)).mono g1 (.refl _))
        refine ⟨hb, g1.trans g2, s2, by simp [len], by simp [D.closedL, c1, cl], fun j d hj => ?_⟩
        cases j with
        | zero => simp at hj; subst hj; exact r1.mono g2 (.refl _)
        | succ j => exact r2 j d (by simpa using hj)
      · cases e
    · cases e

theorem reify_sound : ∀ (k : Nat), ReOk w0 M0 hI ρ w (reify k)
  | 0 => by
    intro h H d v d' H' e hS hr
    simp only [reify] at e
    split at e
    · rename_i hc
      cases e
      exact ⟨h, .refl _, hS, hr, hc⟩
    · cases e
  | k + 1 => by
    intro h H d v d' H' e hS hr
    have ih := reify_sound k
    simp only [reify] at e
    split at e
    · rename_i hc
      cases e
      exact ⟨h, .refl _, hS, hr, hc⟩
    · split at e
      · rename_i i len n _
        cases hr with | own _ _ _ b c cs0 sz0 hb hcs hlen =>
        have go : ∀ (sz : Nat) (ag : Bool) (cs : List D), (hget H i = .row sz ag cs ∨ hget H i = .frz sz ag cs) → cs.length = n → len * sz ≤ n → ∀ cs', reifyL (reify k) (frz1 H i) (cs.take (len * sz)) = some (cs', H') → (ag = true ∨ sz = 1 ∧ allCell cs' = true) →
            ∃ h', GLe h h' ∧ Sim w0 M0 hI h' ρ H' w ∧ RelV h' ρ (.list false (els ag sz len cs')) (.slice (some ⟨b, 0, none⟩) len c) ∧ (D.list false (els ag sz len cs')).closed = true := by
          intro sz ag cs hg hn hle cs' hre hc
          obtain ⟨h1, g1, s1⟩ := hS.freeze i
          have hfr : hget (frz1 H i) i = .frz sz ag cs := by
            rcases hg with hg | hg
            · have hil := hS.live_lt (i := i) (by rw [hg]; rfl)
              simp only [frz1, hg]
              rw [hget_set, if_pos ⟨rfl, hil⟩]
            · simp only [frz1, hg]
          have hblk := s1.blk i
          rw [hfr] at hblk
          obtain ⟨b', c', s', ccs, el, fz, a1, a2, a3⟩ := hblk
          rw [hn, hb] at a1
          cases a1
          have r3 := a3.take (len * sz)
          obtain ⟨h2, g2, s2, hl2, cl2, rel2⟩ := reifyL_sound ih (cs.take (len * sz)) h1 _ (fun j => ccs.getD j undef) cs' H' hre s1 (fun j d hj => by
            obtain ⟨u, q1, _, q3⟩ := r3 j d hj
            rw [Nat.zero_add] at q1
            rw [Array.getD_eq_getD_getElem?, q1]
            exact q3)
          have hlt : cs'.length = len * sz := by rw [hl2]; simp; omega
          refine ⟨h2, g1.trans g2, s2, RelV.ofRow (g2 _ _ a2) (fun j d hj => ?_) hlt hc cl2 hlen (fun h => by cases h), rfl⟩
          have hj' : j < (cs.take (len * sz)).length := by rw [← hl2]; exact (List.getElem?_eq_some_iff.1 hj).1
          obtain ⟨u, q1, q2, _⟩ := r3 j _ (List.getElem?_eq_getElem hj')
          have := rel2 j d hj
          rw [Nat.zero_add] at q1
          rw [Array.getD_eq_getD_getElem?, q1] at this
          exact ⟨u, by rw [Nat.zero_add]; exact q1, q2, this⟩
        split at e
        · rename_i sz ag cs hg
          split at e
          · rename_i hh
            split at e
            · rename_i cs' H1 hre
              split at e
              · rename_i hc
                cases e
                exact go sz ag cs (.inl hg) hh.1 hh.2 cs' hre hc
              · cases e
            · cases e
          · cases e
        · rename_i sz ag cs hg
          split at e
          · rename_i hh
            split at e
            · rename_i cs' H1 hre
              split at e
              · rename_i hc
                cases e
                exact go sz ag cs (.inr hg) hh.1 hh.2 cs' hre hc
              · cases e
            · cases e
          · cases e
        · cases e
      · rename_i cs _
        split at e
        · rename_i cs' H1 hre
          cases e
          cases hr with | agg _ vs hs h1 us hu hrel =>
          obtain ⟨h2, g2, s2, hl2, cl2, rel2⟩ := reifyL_sound ih cs h H us cs' _ hre hS hrel
          exact ⟨h2, g2, s2, .agg _ vs (by rw [hs, hl2]) h1 us (fun j hj => hu j (by rw [← hl2]; exact hj)) rel2, by simpa [D.closed] using cl2⟩
        · cases e
      · rename_i cs _
        split at e
        · rename_i cs' H1 hre
          cases e
          cases hr with | tup _ vs hs us hu hrel =>
          obtain ⟨h2, g2, s2, hl2, cl2, rel2⟩ := reifyL_sound ih cs h H us cs' _ hre hS hrel
          exact ⟨h2, g2, s2, .tup _ vs (by rw [hs, hl2]) us (fun j hj => hu j (by rw [← hl2]; exact hj)) rel2, by simpa [D.closed] using cl2⟩
        · cases e
      · cases e

def undL : Nat → List D
  | 0 => []
  | n + 1 => .und :: undL n
theorem undL_len : ∀ n, (undL n).length = n
  | 0 => rfl
  | n + 1 => by simp [undL, undL_len n]
theorem undL_get : ∀ (n j : Nat), nth (undL n) j = .und
  | 0, j => rfl
  | n + 1, 0 => rfl
  | n + 1, j + 1 => undL_get n j
theorem nth_app : ∀ (l m : List D) (j : Nat), nth (l ++ m) j = if j < l.length then nth l j else nth m (j - l.length)
  | [], m, j => by simp [nth]
  | a :: l, m, 0 => by simp [nth]
  | a :: l, m, j + 1 => by simp only [List.cons_append, nth, List.length_cons]; rw [nth_app l m j]; simp only [Nat.add_lt_add_iff_right, Nat.add_sub_add_right]

/-- The end of a body. -/
def Fin (P : Program) (rs : List ResultVar) (post : D → Hp → Prop) : Post
  | .normal, ts, H | .ret, ts, H => ∃ d, resD P ts H rs = some d ∧ ∃ r H', reify 6 H d = some (r, H') ∧ post r H'
  | _, _, _ => False

/-- A contract out of the body. -/
theorem den_of {f : FuncId} {fn : Func} {c : Code} {args : List D} {S : Hp} {post : D → Hp → Prop} (hm : P.follows .mixedOrders = true) (hf : P.funcs[f]? = some fn) (hc : fn.body = some c)
    (h : awp P E c (Fin P fn.results.toList post) (args ++ undL (fn.ntmps - args.length)) S) : Den P E f args S post := by
  intro hh ρ w vs M hbase hS hsz hrel
  refine calls_of_wp hf hc ?_
  have hst : St w M hh hh ρ (args ++ undL (fn.ntmps - args.length)) S { tmps := vs ++ Array.replicate (fn.ntmps - vs.size) undef, defers := [] } w := by
    refine ⟨hh, ρ, .refl _, .refl _, hS, ⟨by simp [undL_len, hsz], fun t => ?_⟩, rfl⟩
    rw [nth_app, Array.getD_eq_getD_getElem?, Array.getElem?_append, ← hsz]
    split
    · rename_i hlt
      rw [nth_get]
      have hlt' : t < args.length := by omega
      obtain ⟨v, hv, rv⟩ := hrel t args[t] (by simp [hlt'])
      rw [List.getElem?_eq_getElem hlt', hv]
      exact rv
    · rw [undL_get]
      exact .und _
  refine wp_mono (awp_sound hm hbase c _ _ S _ w h hst) fun e a w' hup => ?_
  obtain ⟨ts, H, hq, h', ρ', hg, hρ, hS', hF, hdef⟩ := hup
  have fin : (∃ d, resD P ts H fn.results.toList = some d ∧ ∃ r H', reify 6 H d = some (r, H') ∧ post r H') → a.defers = [] ∧ ∃ v, (results fn a.tmps).run P w' = .ok v w' ∧ ∃ v' r S' h'' ρ'', Ending.returned v = .returned v' ∧ post r S' ∧ GLe hh h'' ∧ RLe ρ ρ'' ∧ Sim w M hh h'' ρ'' S' w' ∧ RelV h'' ρ'' r v' := by
    rintro ⟨d, hd, r, H', hre, hp⟩
    obtain ⟨v, hv, rv⟩ := run_results (P := P) hS' hF hd
    obtain ⟨h2, g2, s2, r2, _⟩ := reify_sound 6 h' H d v r H' hre hS' rv
    exact ⟨hdef, v, hv, v, r, H', h2, ρ', rfl, hp, hg.trans g2, hρ, s2, r2⟩
  cases e <;> simp only [Fin] at hq <;> first
    | exact fin hq
    | exact hq.elim

theorem pden_of {f : FuncId} {fn : Func} {c : Code} {args : List D} {r : D} (hm : P.follows .mixedOrders = true) (hf : P.funcs[f]? = some fn) (hc : fn.body = some c) (ha : D.closedL args = true) (hr : r.closed = true)
    (h : awp P E c (Fin P fn.results.toList fun r' _ => r' = r) (args ++ undL (fn.ntmps - args.length)) []) : PDen P E f args r := ⟨ha, hr, den_of hm hf hc h⟩
end
end Go.Lv
