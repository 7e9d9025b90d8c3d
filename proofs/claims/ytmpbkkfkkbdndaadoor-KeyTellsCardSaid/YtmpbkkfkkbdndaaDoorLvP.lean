/- LvP: frames, regions in their own order. -/
import Derived.Test.YtmpbkkfkkbdndaaDoorLvO
namespace Go.Lv
open Go
set_option linter.unusedVariables false
set_option linter.unusedSimpArgs false
section
variable {P : Program} {w0 : World} {M0 : Nat → Prop} {hI h1 h : Gh} {ρ0 ρ : Rn} {H : Hp} {w : World} {E : Env}

theorem put_len : ∀ (l : List D) (t : Nat) (d : D), (put l t d).length = l.length
  | [], t, d => rfl
  | a :: l, 0, d => rfl
  | a :: l, t + 1, d => by simp [put, put_len l t d]
theorem putO_len (l : List D) (t : Option Nat) (d : D) : (putO l t d).length = l.length := by cases t <;> simp [putO, put_len]
theorem nth_put : ∀ (l : List D) (t i : Nat) (d : D), nth (put l t d) i = if i = t ∧ t < l.length then d else nth l i
  | [], t, i, d => by simp [put]
  | a :: l, 0, 0, d => by simp [put, nth]
  | a :: l, 0, i + 1, d => by simp [put, nth]
  | a :: l, t + 1, 0, d => by simp [put, nth]
  | a :: l, t + 1, i + 1, d => by
    simp only [put, nth, List.length_cons]
    rw [nth_put l t i d]
    simp only [Nat.add_lt_add_iff_right, Nat.add_right_cancel_iff]

/-- A frame told as data. -/
def RelF (h : Gh) (ρ : Rn) (ts : List D) (a : Act) : Prop := ts.length = a.tmps.size ∧ ∀ t, RelV h ρ (nth ts t) (a.tmps.getD t undef)

theorem RelF.mono {h' : Gh} {ρ' : Rn} {ts : List D} {a : Act} (r : RelF h ρ ts a) (hh : GLe h h') (hρ : RLe ρ ρ') : RelF h' ρ' ts a := ⟨r.1, fun t => (r.2 t).mono hh hρ⟩

theorem RelF.put {ts : List D} {a : Act} {d : D} {v : Value} (r : RelF h ρ ts a) (hv : RelV h ρ d v) (t : Option Nat) : RelF h ρ (putO ts t d) (a.put t v) := by
  cases t with
  | none => exact r
  | some t =>
    refine ⟨by simp [putO, put_len, Act.put, r.1], fun i => ?_⟩
    simp only [putO, Act.put]
    rw [nth_put, Array.getD_eq_getD_getElem?]
    by_cases hc : i = t ∧ t < ts.length
    · obtain ⟨rfl, hlt⟩ := hc
      rw [if_pos ⟨rfl, hlt⟩, Array.getElem?_setIfInBounds_self_of_lt (by rw [← r.1]; exact hlt)]
      exact hv
    · rw [if_neg hc]
      have : (a.tmps.setIfInBounds t v)[i]? = a.tmps[i]? := by
        by_cases hit : i = t
        · subst hit
          have : ¬ i < a.tmps.size := by rw [← r.1]; omega
          rw [Array.getElem?_setIfInBounds]
          simp [this]
        · exact Array.getElem?_setIfInBounds_ne (fun e => hit e.symm)
      rw [this, ← Array.getD_eq_getD_getElem?]
      exact r.2 i

theorem RelF.ev {ts : List D} {a : Act} (r : RelF h ρ ts a) (hb : GLe E.h0 h) (x : Operand) : RelV h ρ (ev E.g ts x) (a.eval x) := by
  cases x with
  | tmp t => exact r.2 t
  | const v => exact ofV_rel v
  | global g => exact (E.ok g).mono hb (fun i n x e => by cases e)
  | func f => exact .fn _ _ _ _ _ (fun _ => undef) (fun _ => undef) rfl rfl (fun j hj => by simp at hj) (fun j hj => by simp at hj) (fun j d hj => by simp at hj) (fun j d hj => by simp at hj)

/-- Is the operation wanted? -/
def wantD (ops : Array Oper) (ts : List D) (o : Oper) : Option Bool :=
  match o.guard with
  | none => some true
  | some (j, want) => match (ops[j]?).bind (·.dst) with
    | some t => match nth ts t with
      | .bool b => some (b == want)
      | .tup [] => some false
      | _ => none
    | none => none
/-- What stands where nothing was yielded. -/
theorem rel_undef : RelV h ρ (.tup []) undef := .tup [] #[] rfl (fun _ => undef) (fun j hj => by simp at hj) (fun j d hj => by simp at hj)
theorem tup_nil {v : Value} (r : RelV h ρ (.tup []) v) : v = .tuple #[] := by
  cases r with | tup _ vs hs us hu hr =>
  cases vs with | mk l =>
  cases l with
  | nil => rfl
  | cons a l => simp at hs

theorem want_spec {ops : Array Oper} {ts : List D} {a : Act} {o : Oper} {b : Bool} (r : RelF h ρ ts a) (e : wantD ops ts o = some b) : Region.wanted o (yielded ops a.tmps) = b := by
  unfold wantD at e
  unfold Region.wanted
  split at e
  · rename_i hg
    cases e
    simp only [hg]
  · rename_i j want hg
    split at e
    · rename_i t ht
      split at e
      · rename_i c hc
        cases e
        have hr := r.2 t
        rw [hc] at hr
        have hv : a.tmps[t]? = some (.bool c) := by
          rw [Array.getD_eq_getD_getElem?] at hr
          cases hx : a.tmps[t]? with
          | none => rw [hx] at hr; simp only [Option.getD_none, undef] at hr; cases hr
          | some v => rw [hx] at hr; simp only [Option.getD_some] at hr; cases hr; rfl
        simp only [hg, yielded, ht, Option.bind_some, hv]
        cases c <;> cases want <;> rfl
      · rename_i hc
        cases e
        have hr := r.2 t
        rw [hc] at hr
        have hv := tup_nil hr
        rw [Array.getD_eq_getD_getElem?] at hv
        simp only [hg, yielded, ht, Option.bind_some]
        cases hx : a.tmps[t]? with
        | none => rfl
        | some v =>
          rw [hx, Option.getD_some] at hv
          subst hv
          rfl
      · cases e
    · cases e

/-- A region's operations, in their own order. -/
def aseq (P : Program) (E : Env) (ops : Array Oper) : List Oper → List D → Hp → (List D → Hp → Prop) → Prop
  | [], ts, H, K => K ts H
  | o :: rest, ts, H, K => match wantD ops ts o with
    | some true => Step P E o (ev E.g ts) H fun d H' => aseq P E ops rest (putO ts o.dst d) H' K
    | some false => aseq P E ops rest (putO ts o.dst (.tup [])) H K
    | none => False

/-- The state of a call: its frame, and memory. -/
def St (w0 : World) (M0 : Nat → Prop) (hI h1 : Gh) (ρ0 : Rn) (ts : List D) (H : Hp) (a : Act) (w : World) : Prop :=
  ∃ h ρ, GLe h1 h ∧ RLe ρ0 ρ ∧ Sim w0 M0 hI h ρ H w ∧ RelF h ρ ts a ∧ a.defers = []

theorem put_defers (a : Act) (t : Option Nat) (v : Value) : (a.put t v).defers = a.defers := by cases t <;> rfl

theorem aseq_mono {ops : Array Oper} {K K' : List D → Hp → Prop} (hk : ∀ ts H, K ts H → K' ts H) : ∀ (l : List Oper) (ts : List D) (H : Hp), aseq P E ops l ts H K → aseq P E ops l ts H K'
  | [], ts, H, hs => hk _ _ hs
  | o :: rest, ts, H, hs => by
    simp only [aseq] at hs ⊢
    split at hs
    · exact hs.mono fun d H' => aseq_mono hk rest _ H'
    · exact aseq_mono hk rest _ H hs
    · exact hs

theorem aseq_ops {ops : Array Oper} {K : List D → Hp → Prop} {Q : Exit → Act → World → Prop} (hb : GLe E.h0 h1) (hK : ∀ ts H a w, K ts H → St w0 M0 hI h1 ρ0 ts H a w → Q .normal a w) :
    ∀ (rest : List Oper) (k : Nat) (ts : List D) (H : Hp) (a : Act) (w : World), ops.toList.drop k = rest → aseq P E ops rest ts H K → St w0 M0 hI h1 ρ0 ts H a w → wpOps P ops Q (List.range' k rest.length) a w
  | [], k, ts, H, a, w, hd, hs, hst => by
    simp only [List.length_nil, List.range'_zero, wpOps]
    exact hK ts H a w hs hst
  | o :: rest, k, ts, H, a, w, hd, hs, hst => by
    obtain ⟨h, ρ, hg, hρ, hS, hF, hdef⟩ := hst
    have hk : ops[k]? = some o := by
      have : (ops.toList.drop k)[0]? = some o := by rw [hd]; rfl
      rw [List.getElem?_drop] at this
      simpa using this
    have hd' : ops.toList.drop (k + 1) = rest := by
      rw [← List.drop_drop, hd]
      rfl
    simp only [List.length_cons, List.range'_succ, wpOps, hk]
    simp only [aseq] at hs
    split at hs
    · rename_i hw
      rw [want_spec hF hw, if_pos rfl]
      refine .inl (hs w0 M0 hI h ρ w a (hb.trans hg) hS (fun x _ => hF.ev (hb.trans hg) x) _ Q fun d H' v w' h' ρ' hr g1 r1 hS' hv => ?_)
      exact aseq_ops hb hK rest (k + 1) _ H' _ w' hd' hr ⟨h', ρ', hg.trans g1, hρ.trans r1, hS', (hF.mono g1 r1).put hv _, by rw [put_defers]; exact hdef⟩
    · rename_i hw
      rw [want_spec hF hw]
      simp only [Bool.false_eq_true, if_false]
      exact aseq_ops hb hK rest (k + 1) _ H _ w hd' hs ⟨h, ρ, hg, hρ, hS, hF.put rel_undef _, by rw [put_defers]; exact hdef⟩
    · exact hs.elim

theorem aseq_wp {id : Nat} {ops : Array Oper} {K : List D → Hp → Prop} {Q : Exit → Act → World → Prop} {ts : List D} {a : Act} (hb : GLe E.h0 h1) (hK : ∀ ts H a w, K ts H → St w0 M0 hI h1 ρ0 ts H a w → Q .normal a w)
    (hs : aseq P E ops ops.toList ts H K) (hst : St w0 M0 hI h1 ρ0 ts H a w) : (Code.region id ops false).wp P Q a w := by
  refine wp_region ?_
  have := aseq_ops (Q := Q) hb hK ops.toList 0 ts H a w (by simp) hs hst
  rw [List.range_eq_range']
  simpa using this
end
end Go.Lv
