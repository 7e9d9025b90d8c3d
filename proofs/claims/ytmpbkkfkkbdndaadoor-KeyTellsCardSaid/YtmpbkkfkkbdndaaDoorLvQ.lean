/- LvQ: a region that draws its order: what comes up in whatever order comes to what it comes to in its own. -/
import Derived.Test.YtmpbkkfkkbdndaaDoorLvP
namespace Go.Lv
open Go
set_option linter.unusedVariables false
set_option linter.unusedSimpArgs false

/-- What each operation waits for, as bits. -/
def bfs : List Oper → List Nat → List Nat
  | [], acc => acc
  | o :: l, acc => bfs l (acc ++ [o.after.toList.foldl (fun s e => if Region.binds .any e then s ||| 2 ^ e.on ||| acc.getD e.on 0 else s) 0])
/-- j waits for i. -/
inductive Waits (ops : List Oper) : Nat → Nat → Prop
  | one (i j o e) (ho : ops[j]? = some o) (he : e ∈ o.after) (hb : Region.binds .any e = true) (hi : e.on = i) : Waits ops i j
  | more (i k j o e) (ho : ops[j]? = some o) (he : e ∈ o.after) (hb : Region.binds .any e = true) (hk : e.on = k) (h : Waits ops i k) : Waits ops i j

theorem testBit_fold (acc : List Nat) (i : Nat) : ∀ (l : List Edge) (s : Nat), (l.foldl (fun s e => if Region.binds .any e then s ||| 2 ^ e.on ||| acc.getD e.on 0 else s) s).testBit i = true →
    s.testBit i = true ∨ ∃ e ∈ l, Region.binds .any e = true ∧ (e.on = i ∨ (acc.getD e.on 0).testBit i = true)
  | [], s, h => .inl h
  | e :: l, s, h => by
    simp only [List.foldl_cons] at h
    rcases testBit_fold acc i l _ h with h | ⟨e', he, hb, h⟩
    · split at h
      · rename_i hb
        simp only [Nat.testBit_or, Nat.testBit_two_pow, Bool.or_eq_true, decide_eq_true_eq] at h
        rcases h with (h | h) | h
        · exact .inl h
        · exact .inr ⟨e, by simp, hb, .inl h⟩
        · exact .inr ⟨e, by simp, hb, .inr h⟩
      · exact .inl h
    · exact .inr ⟨e', by simp [he], hb, h⟩

theorem bfs_waits (ops : List Oper) : ∀ (l : List Oper) (acc : List Nat), ops.drop acc.length = l → (∀ (j i : Nat), (acc.getD j 0).testBit i = true → Waits ops i j) → ∀ (j i : Nat), ((bfs l acc).getD j 0).testBit i = true → Waits ops i j
  | [], acc, hd, hinv, j, i, h => hinv j i h
  | o :: l, acc, hd, hinv, j, i, h => by
    simp only [bfs] at h
    refine bfs_waits ops l _ ?_ ?_ j i h
    · rw [List.length_append, ← List.drop_drop, hd]
      rfl
    · intro j i h
      have ho : ops[acc.length]? = some o := by
        have : (ops.drop acc.length)[0]? = some o := by rw [hd]; rfl
        rw [List.getElem?_drop] at this
        simpa using this
      rw [List.getD_eq_getElem?_getD, List.getElem?_append] at h
      split at h
      · exact hinv j i (by rw [List.getD_eq_getElem?_getD]; exact h)
      · rename_i hge
        by_cases hj : j = acc.length
        · subst hj
          simp only [Nat.sub_self, List.getElem?_cons_zero, Option.getD_some] at h
          rcases testBit_fold acc i _ _ h with h | ⟨e, he, hb, h⟩
          · simp at h
          · rcases h with h | h
            · exact .one i _ o e ho (by simpa using he) hb h
            · exact .more i e.on _ o e ho (by simpa using he) hb rfl (hinv _ _ h)
        · have : j - acc.length ≠ 0 := by omega
          obtain ⟨k, hk⟩ : ∃ k, j - acc.length = k + 1 := ⟨j - acc.length - 1, by omega⟩
          rw [hk] at h
          simp at h

/-- A region that draws may be read in its own order: operations that don't wait for each other look at nothing that the other writes; from the m-th on each waits for all ahead of it. -/
def regOk (ops : Array Oper) (m : Nat) : Bool :=
  decide (m ≤ ops.size) && regOkL ops (bfs ops.toList []) m ops.toList 0
where
  regOkL (ops : Array Oper) (B : List Nat) (m : Nat) : List Oper → Nat → Bool
    | [], _ => true
    | oj :: l, j => (oj.after.toList.all fun e => !Region.binds .any e || decide (e.on < j)) && pairs ops B m oj j ops.toList 0 && regOkL ops B m l (j + 1)
  pairs (ops : Array Oper) (B : List Nat) (m : Nat) (oj : Oper) (j : Nat) : List Oper → Nat → Bool
    | [], _ => true
    | oi :: l, i => decide (j ≤ i) || (((B.getD j 0).testBit i || (decide (j < m) && oi.apart ops oj)) && pairs ops B m oj j l (i + 1))

theorem pairs_spec {ops : Array Oper} {B : List Nat} {m : Nat} {oj : Oper} {j : Nat} : ∀ (l : List Oper) (i : Nat), regOk.pairs ops B m oj j l i = true → ∀ (k : Nat) (o : Oper), l[k]? = some o → i + k < j → (B.getD j 0).testBit (i + k) = true ∨ (j < m ∧ o.apart ops oj = true)
  | [], i, h, k, o, hk, hlt => by simp at hk
  | oi :: l, i, h, k, o, hk, hlt => by
    simp only [regOk.pairs, Bool.or_eq_true, decide_eq_true_eq, Bool.and_eq_true] at h
    rcases h with h | ⟨h1, h2⟩
    · omega
    · cases k with
      | zero =>
        simp only [List.getElem?_cons_zero, Option.some.injEq] at hk
        subst hk
        exact h1
      | succ k =>
        have := pairs_spec l (i + 1) h2 k o (by simpa using hk) (by omega)
        rwa [show i + 1 + k = i + (k + 1) from by omega] at this

theorem regOkL_spec {ops : Array Oper} {B : List Nat} {m : Nat} : ∀ (l : List Oper) (j : Nat), regOk.regOkL ops B m l j = true → ∀ (k : Nat) (o : Oper), l[k]? = some o →
    (∀ e ∈ o.after, Region.binds .any e = true → e.on < j + k) ∧ regOk.pairs ops B m o (j + k) ops.toList 0 = true
  | [], j, h, k, o, hk => by simp at hk
  | oj :: l, j, h, k, o, hk => by
    simp only [regOk.regOkL, Bool.and_eq_true] at h
    obtain ⟨⟨h1, h2⟩, h3⟩ := h
    cases k with
    | zero =>
      simp only [List.getElem?_cons_zero, Option.some.injEq] at hk
      subst hk
      refine ⟨fun e he hb => ?_, h2⟩
      have := List.all_eq_true.1 h1 e (by simpa using he)
      simpa [hb] using this
    | succ k =>
      have := regOkL_spec l (j + 1) h3 k o (by simpa using hk)
      rwa [show j + 1 + k = j + (k + 1) from by omega] at this

/-- What regOk says. -/
theorem regOk_spec {ops : Array Oper} {m : Nat} (h : regOk ops m = true) : m ≤ ops.size ∧ (∀ (j : Nat) (o : Oper), ops[j]? = some o → ∀ e ∈ o.after, Region.binds .any e = true → e.on < j) ∧
    (∀ (i j : Nat) (oi oj : Oper), ops[i]? = some oi → ops[j]? = some oj → i < j → Waits ops.toList i j ∨ (j < m ∧ oi.apart ops oj = true)) := by
  simp only [regOk, Bool.and_eq_true, decide_eq_true_eq] at h
  obtain ⟨hm, h⟩ := h
  refine ⟨hm, fun j o ho e he hb => ?_, fun i j oi oj hi hj hij => ?_⟩
  · have := (regOkL_spec _ _ h j o (by simpa using ho)).1 e he hb
    omega
  · have hp := (regOkL_spec _ _ h j oj (by simpa using hj)).2
    rw [Nat.zero_add] at hp
    rcases pairs_spec _ _ hp i oi (by simpa using hi) (by omega) with h1 | h1
    · rw [Nat.zero_add] at h1
      exact .inl (bfs_waits ops.toList ops.toList [] (by simp) (fun j i h => by simp at h) j i h1)
    · exact .inr h1

theorem countP_set : ∀ (l : List Bool) (i : Nat), l[i]? = some false → (l.set i true).countP (! ·) + 1 = l.countP (! ·)
  | [], i, h => by simp at h
  | b :: l, 0, h => by
    simp at h
    subst h
    simp
  | b :: l, i + 1, h => by
    have := countP_set l i (by simpa using h)
    simp only [List.set_cons_succ, List.countP_cons]
    omega

section
variable {P : Program} {w0 : World} {M0 : Nat → Prop} {hI h1 h : Gh} {ρ0 ρ : Rn} {H : Hp} {w : World} {E : Env}

def aq (P : Program) (E : Env) (ops : Array Oper) : Nat → List Oper → List D → Hp → (List D → Hp → Prop) → Prop
  | 0, l, ts, H, K => aseq P E ops l ts H K
  | _ + 1, [], ts, H, K => K ts H
  | m + 1, o :: rest, ts, H, K => match wantD ops ts o with
    | some true => ∃ d, Step P E o (ev E.g ts) H (fun d' H' => d' = d ∧ H' = H) ∧ aq P E ops m rest (putO ts o.dst d) H K
    | some false => aq P E ops m rest (putO ts o.dst (.tup [])) H K
    | none => False

/-- What the walk in the region's own order shows of its first m operations. -/
structure Lex (P : Program) (E : Env) (ops : Array Oper) (H : Hp) (k m : Nat) (T : Nat → List D) (dd : Nat → D) : Prop where
  step : ∀ i o, k ≤ i → i < m → ops[i]? = some o → T (i + 1) = putO (T i) o.dst (dd i) ∧
    ((wantD ops (T i) o = some true ∧ Step P E o (ev E.g (T i)) H fun d' H' => d' = dd i ∧ H' = H) ∨ (wantD ops (T i) o = some false ∧ dd i = .tup []))

theorem aq_lex {ops : Array Oper} {K : List D → Hp → Prop} : ∀ (n k : Nat) (ts : List D), k + n ≤ ops.size → aq P E ops n (ops.toList.drop k) ts H K →
    ∃ T dd, T k = ts ∧ Lex P E ops H k (k + n) T dd ∧ aseq P E ops (ops.toList.drop (k + n)) (T (k + n)) H K
  | 0, k, ts, hle, hs => ⟨fun _ => ts, fun _ => .und, rfl, ⟨fun i o h1 h2 => by omega⟩, by simpa [aq] using hs⟩
  | n + 1, k, ts, hle, hs => by
    have hlt : k < ops.toList.length := by simp; omega
    rw [List.drop_eq_getElem_cons hlt] at hs
    have hk : ops[k]? = some ops.toList[k] := by
      rw [← Array.getElem?_toList]
      exact List.getElem?_eq_getElem hlt
    simp only [aq] at hs
    have go : ∀ d, (wantD ops ts ops.toList[k] = some true ∧ Step P E ops.toList[k] (ev E.g ts) H (fun d' H' => d' = d ∧ H' = H) ∨ wantD ops ts ops.toList[k] = some false ∧ d = .tup []) → aq P E ops n (ops.toList.drop (k + 1)) (putO ts ops.toList[k].dst d) H K →
        ∃ T dd, T k = ts ∧ Lex P E ops H k (k + (n + 1)) T dd ∧ aseq P E ops (ops.toList.drop (k + (n + 1))) (T (k + (n + 1))) H K := by
      intro d hd hrest
      obtain ⟨T, dd, e1, hl, e2⟩ := aq_lex n (k + 1) _ (by omega) hrest
      refine ⟨fun i => if i = k then ts else T i, fun i => if i = k then d else dd i, by simp, ⟨fun i o h1 h2 ho => ?_⟩, ?_⟩
      · by_cases hik : i = k
        · subst hik
          rw [hk] at ho
          cases ho
          simp only [if_true]
          rw [if_neg (by omega)]
          exact ⟨e1, hd⟩
        · have := hl.step i o (by omega) (by omega) ho
          simp only [if_neg hik]
          rw [if_neg (by omega)]
          exact this
      · simp only
        rw [if_neg (by omega), show k + (n + 1) = k + 1 + n from by omega]
        exact e2
    split at hs
    · rename_i hw
      obtain ⟨d, h1, h2⟩ := hs
      exact go d (.inl ⟨hw, h1⟩) h2
    · rename_i hw
      exact go (.tup []) (.inr ⟨hw, rfl⟩) hs
    · exact hs.elim

/-- What a temporary holds once the operations of X have come up. -/
def Last (ops : Array Oper) (X : Nat → Prop) (dd : Nat → D) (ts0 : List D) (t : Nat) (d : D) : Prop :=
  (∃ i o, X i ∧ ops[i]? = some o ∧ o.dst = some t ∧ (∀ j o', X j → ops[j]? = some o' → o'.dst = some t → j ≤ i) ∧ d = if t < ts0.length then dd i else nth ts0 t) ∨
  ((∀ j o', X j → ops[j]? = some o' → o'.dst ≠ some t) ∧ d = nth ts0 t)

theorem lex_len {ops : Array Oper} {m : Nat} {T : Nat → List D} {dd : Nat → D} (hm : m ≤ ops.size) (hl : Lex P E ops H 0 m T dd) : ∀ i, i ≤ m → (T i).length = (T 0).length
  | 0, _ => rfl
  | i + 1, hi => by
    have hlt : i < ops.size := by omega
    have := (hl.step i ops[i] (by omega) (by omega) (by simp [hlt])).1
    rw [this, putO_len]
    exact lex_len hm hl i (by omega)

theorem lex_last {ops : Array Oper} {m : Nat} {T : Nat → List D} {dd : Nat → D} (hm : m ≤ ops.size) (hl : Lex P E ops H 0 m T dd) (t : Nat) : ∀ i, i ≤ m → Last ops (· < i) dd (T 0) t (nth (T i) t)
  | 0, _ => .inr ⟨fun j o' h => by omega, rfl⟩
  | i + 1, hi => by
    have hlt : i < ops.size := by omega
    have ho : ops[i]? = some ops[i] := by simp [hlt]
    have hs := (hl.step i ops[i] (by omega) (by omega) ho).1
    have ih := lex_last hm hl t i (by omega)
    have hlen := lex_len hm hl i (by omega)
    rw [hs]
    by_cases hd : ops[i].dst = some t
    · refine .inl ⟨i, ops[i], by omega, ho, hd, fun j o' hj _ _ => by omega, ?_⟩
      simp only [hd, putO, nth_put, true_and, hlen]
      split
      · rfl
      · rename_i hge
        rw [nth_get, nth_get, List.getElem?_eq_none (by omega), List.getElem?_eq_none (by omega)]
    · have hn : nth (putO (T i) ops[i].dst (dd i)) t = nth (T i) t := by
        cases hdd : ops[i].dst with
        | none => rfl
        | some t' =>
          simp only [putO, nth_put]
          rw [if_neg (fun h => hd (by rw [hdd, h.1]))]
      rw [hn]
      rcases ih with ⟨j, o, hj, hoj, hdj, hmax, hv⟩ | ⟨hno, hv⟩
      · refine .inl ⟨j, o, by omega, hoj, hdj, fun j' o' hj' ho' hd' => ?_, hv⟩
        by_cases e : j' = i
        · subst e
          rw [ho] at ho'
          cases ho'
          exact absurd hd' hd
        · exact hmax j' o' (by omega) ho' hd'
      · refine .inr ⟨fun j' o' hj' ho' hd' => ?_, hv⟩
        by_cases e : j' = i
        · subst e
          rw [ho] at ho'
          cases ho'
          exact hd hd'
        · exact hno j' o' (by omega) ho' hd'

theorem want_spec' {ops : Array Oper} {ts : List D} {a : Act} {o : Oper} {b : Bool} (r : ∀ t ∈ o.looksAt ops, RelV h ρ (nth ts t) (a.tmps.getD t undef)) (e : wantD ops ts o = some b) : Region.wanted o (yielded ops a.tmps) = b := by
  unfold wantD at e
  unfold Region.wanted
  split at e
  · rename_i hg
    cases e
    simp only [hg]
  · rename_i j want hg
    split at e
    · rename_i t ht
      split at e
      · rename_i c hc
        cases e
        have hr := r t (by simp [Oper.looksAt, hg, ht])
        rw [hc] at hr
        have hv : a.tmps[t]? = some (.bool c) := by
          rw [Array.getD_eq_getD_getElem?] at hr
          cases hx : a.tmps[t]? with
          | none => rw [hx] at hr; simp only [Option.getD_none, undef] at hr; cases hr
          | some v => rw [hx] at hr; simp only [Option.getD_some] at hr; cases hr; rfl
        simp only [hg, yielded, ht, Option.bind_some, hv]
        cases c <;> cases want <;> rfl
      · rename_i hc
        cases e
        have hr := r t (by simp [Oper.looksAt, hg, ht])
        rw [hc] at hr
        have hv := tup_nil hr
        rw [Array.getD_eq_getD_getElem?] at hv
        simp only [hg, yielded, ht, Option.bind_some]
        cases hx : a.tmps[t]? with
        | none => rfl
        | some v =>
          rw [hx, Option.getD_some] at hv
          subst hv
          rfl
      · cases e
    · cases e
end
end Go.Lv
