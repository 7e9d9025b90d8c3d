/- LvS: code over data; what a function's body shows of a call. -/
import Derived.Test.YtmpbkkfkkbdndaaDoorLvR
namespace Go.Lv
open Go
set_option linter.unusedVariables false
set_option linter.unusedSimpArgs false

abbrev Post := Exit → List D → Hp → Prop
def Post.then (K : List D → Hp → Prop) (Q : Post) : Post
  | .normal, ts, H => K ts H
  | e, ts, H => Q e ts H
def Post.block (id : Nat) (Q : Post) : Post
  | .exit id', ts, H => if id' = id then Q .normal ts H else Q (.exit id') ts H
  | e, ts, H => Q e ts H
def loopN (body : Post → List D → Hp → Prop) (Q : Post) : Nat → List D → Hp → Prop
  | 0, _, _ => False
  | n + 1, ts, H => body (Post.then (loopN body Q n) Q) ts H

/-- What code comes to. -/
def awp (P : Program) (E : Env) : Code → Post → List D → Hp → Prop
  | .skip, Q, ts, H => Q .normal ts H
  | .region _ ops false, Q, ts, H => aseq P E ops ops.toList ts H (Q .normal)
  | .region _ ops true, Q, ts, H => ∃ m, regOk ops m = true ∧ aq P E ops m ops.toList ts H (Q .normal)
  | .seq a b, Q, ts, H => awp P E a (Post.then (awp P E b Q) Q) ts H
  | .cond c x y, Q, ts, H => ∃ b, ev E.g ts c = .bool b ∧ if b then awp P E x Q ts H else awp P E y Q ts H
  | .block id c, Q, ts, H => awp P E c (Post.block id Q) ts H
  | .loop c, Q, ts, H => ∃ n, loopN (awp P E c) Q n ts H
  | .exit id, Q, ts, H => Q (.exit id) ts H
  | .ret, Q, ts, H => Q .ret ts H
  | _, _, _, _ => False

section
variable {P : Program} {w0 : World} {M0 : Nat → Prop} {hI h1 h : Gh} {ρ0 ρ : Rn} {H : Hp} {w : World} {E : Env}

theorem aq_mono {ops : Array Oper} {K K' : List D → Hp → Prop} (hk : ∀ ts H, K ts H → K' ts H) : ∀ (m : Nat) (l : List Oper) (ts : List D) (H : Hp), aq P E ops m l ts H K → aq P E ops m l ts H K'
  | 0, l, ts, H, hs => aseq_mono hk l ts H hs
  | m + 1, [], ts, H, hs => hk _ _ hs
  | m + 1, o :: rest, ts, H, hs => by
    simp only [aq] at hs ⊢
    split at hs
    · obtain ⟨d, h1, h2⟩ := hs
      exact ⟨d, h1, aq_mono hk m rest _ H h2⟩
    · exact aq_mono hk m rest _ H hs
    · exact hs

theorem awp_mono : ∀ (c : Code) {Q Q' : Post}, (∀ e ts H, Q e ts H → Q' e ts H) → ∀ ts H, awp P E c Q ts H → awp P E c Q' ts H
  | .skip, Q, Q', hq, ts, H, h => hq _ _ _ h
  | .region _ ops false, Q, Q', hq, ts, H, h => aseq_mono (hq .normal) _ _ _ h
  | .region _ ops true, Q, Q', hq, ts, H, h => let ⟨m, h1, h2⟩ := h; ⟨m, h1, aq_mono (hq .normal) _ _ _ _ h2⟩
  | .seq a b, Q, Q', hq, ts, H, h => awp_mono a (fun e ts H he => by
      cases e <;> first | exact awp_mono b hq _ _ he | exact hq _ _ _ he) ts H h
  | .cond c x y, Q, Q', hq, ts, H, h => by
    obtain ⟨b, h1, h2⟩ := h
    refine ⟨b, h1, ?_⟩
    cases b
    · exact awp_mono y hq _ _ h2
    · exact awp_mono x hq _ _ h2
  | .block id c, Q, Q', hq, ts, H, h => awp_mono c (fun e ts H he => by
      cases e <;> simp only [Post.block] at he ⊢ <;> first
        | exact hq _ _ _ he
        | (split at he
           · rename_i hc
             rw [if_pos hc]
             exact hq _ _ _ he
           · rename_i hc
             rw [if_neg hc]
             exact hq _ _ _ he)) ts H h
  | .loop c, Q, Q', hq, ts, H, h => by
    obtain ⟨n, h⟩ := h
    refine ⟨n, ?_⟩
    induction n generalizing ts H with
    | zero => exact h
    | succ n ih => exact awp_mono c (fun e ts H he => by cases e <;> first | exact ih _ _ he | exact hq _ _ _ he) ts H h
  | .exit id, Q, Q', hq, ts, H, h => hq _ _ _ h
  | .ret, Q, Q', hq, ts, H, h => hq _ _ _ h
  | .rangeFunc .., Q, Q', hq, ts, H, h => h.elim
  | .scope _, Q, Q', hq, ts, H, h => h.elim
  | .label _, Q, Q', hq, ts, H, h => h.elim
  | .goto _, Q, Q', hq, ts, H, h => h.elim
  | .refuse _, Q, Q', hq, ts, H, h => h.elim

/-- What stands behind, on the machine. -/
def Up (w0 : World) (M0 : Nat → Prop) (hI h1 : Gh) (ρ0 : Rn) (Q : Post) : Exit → Act → World → Prop :=
  fun e a w => ∃ ts H, Q e ts H ∧ St w0 M0 hI h1 ρ0 ts H a w

theorem awp_sound (hm : P.follows .mixedOrders = true) (hb : GLe E.h0 h1) : ∀ (c : Code) (Q : Post) (ts : List D) (H : Hp) (a : Act) (w : World), awp P E c Q ts H → St w0 M0 hI h1 ρ0 ts H a w → c.wp P (Up w0 M0 hI h1 ρ0 Q) a w
  | .skip, Q, ts, H, a, w, h, hst => wp_skip ⟨ts, H, h, hst⟩
  | .region _ ops false, Q, ts, H, a, w, h, hst => aseq_wp hb (fun ts H a w hk hs => ⟨ts, H, hk, hs⟩) h hst
  | .region _ ops true, Q, ts, H, a, w, h, hst => by
    obtain ⟨m, h1, h2⟩ := h
    exact aq_wp hm hb h1 (fun ts H a w hk hs => ⟨ts, H, hk, hs⟩) h2 hst
  | .seq x y, Q, ts, H, a, w, h, hst => by
    refine wp_seq (wp_mono (awp_sound hm hb x _ ts H a w h hst) fun e a w hh => ?_)
    obtain ⟨ts', H', hq, hs⟩ := hh
    cases e <;> first
      | exact awp_sound hm hb y Q ts' H' a w hq hs
      | exact ⟨ts', H', hq, hs⟩
  | .cond c x y, Q, ts, H, a, w, h, hst => by
    obtain ⟨b, h1, h2⟩ := h
    obtain ⟨hh, ρ, hg, hρ, hS, hF, hdef⟩ := hst
    have hc := hF.ev (hb.trans hg) c
    rw [h1] at hc
    have hv : a.eval c = .bool b := by
      generalize a.eval c = v at hc
      cases hc
      rfl
    refine wp_cond hv ?_
    cases b
    · exact awp_sound hm hb y Q ts H a w h2 ⟨hh, ρ, hg, hρ, hS, hF, hdef⟩
    · exact awp_sound hm hb x Q ts H a w h2 ⟨hh, ρ, hg, hρ, hS, hF, hdef⟩
  | .block id c, Q, ts, H, a, w, h, hst => by
    refine wp_block (wp_mono (awp_sound hm hb c _ ts H a w h hst) fun e a w hh => ?_)
    obtain ⟨ts', H', hq, hs⟩ := hh
    cases e <;> simp only [Post.block] at hq <;> simp only [Exit.inBlock] <;> first
      | exact ⟨ts', H', hq, hs⟩
      | (split at hq
         · rename_i he
           rw [if_pos he]
           exact ⟨ts', H', hq, hs⟩
         · rename_i he
           rw [if_neg he]
           exact ⟨ts', H', hq, hs⟩)
  | .loop c, Q, ts, H, a, w, h, hst => by
    obtain ⟨n, h⟩ := h
    have key : ∀ (n : Nat) (ts : List D) (H : Hp) (a : Act) (w : World), loopN (awp P E c) Q n ts H → St w0 M0 hI h1 ρ0 ts H a w → ∀ (b : Frame) (k : List Item) (cs : List Frame),
        ∃ e a' w', Up w0 M0 hI h1 ρ0 Q e a' w' ∧ Arrives P (lone (b.at a (.code c :: .inLoop c :: k)) cs w) b k cs e a' w' := by
      intro n
      induction n with
      | zero => intro ts H a w h; exact h.elim
      | succ n ih =>
        intro ts H a w h hst b k cs
        obtain ⟨e, a₁, w₁, hq, harr⟩ := awp_sound hm hb c _ ts H a w h hst b (.inLoop c :: k) cs
        obtain ⟨ts', H', hq, hs⟩ := hq
        cases e with
        | normal =>
          obtain ⟨e₂, a₂, w₂, hq₂, harr₂⟩ := ih ts' H' a₁ w₁ hq hs b k cs
          exact ⟨e₂, a₂, w₂, hq₂, .of_steps (Steps.trans harr (.one step_inLoop)) harr₂⟩
        | exit id => exact ⟨_, a₁, w₁, ⟨ts', H', hq, hs⟩, .pass (x := .inLoop c) rfl (fun _ _ => .inl (by simp)) harr⟩
        | goto l => exact ⟨_, a₁, w₁, ⟨ts', H', hq, hs⟩, .pass (x := .inLoop c) rfl (fun _ _ => .inl (by simp)) harr⟩
        | ret => exact ⟨_, a₁, w₁, ⟨ts', H', hq, hs⟩, .pass (x := .inLoop c) rfl (fun _ _ => .inl (by simp)) harr⟩
        | panic ch => exact ⟨_, a₁, w₁, ⟨ts', H', hq, hs⟩, .pass (x := .inLoop c) rfl (fun _ _ => .inl (by simp)) harr⟩
        | outgrown => exact ⟨_, a₁, w₁, ⟨ts', H', hq, hs⟩, .pass (x := .inLoop c) rfl (fun _ _ => .inl (by simp)) harr⟩
    intro b k cs
    obtain ⟨e, a', w', hq, harr⟩ := key n ts H a w h hst b k cs
    exact ⟨e, a', w', hq, .of_steps (.one step_loop) harr⟩
  | .exit id, Q, ts, H, a, w, h, hst => wp_exit ⟨ts, H, h, hst⟩
  | .ret, Q, ts, H, a, w, h, hst => wp_ret ⟨ts, H, h, hst⟩
  | .rangeFunc .., Q, ts, H, a, w, h, hst => h.elim
  | .scope _, Q, ts, H, a, w, h, hst => h.elim
  | .label _, Q, ts, H, a, w, h, hst => h.elim
  | .goto _, Q, ts, H, a, w, h, hst => h.elim
  | .refuse _, Q, ts, H, a, w, h, hst => h.elim

/-- A result variable's data. -/
def resV (P : Program) (ts : List D) (H : Hp) : ResultVar → Option D
  | .tmp t => some (nth ts t)
  | .cell a t => dLoad (ty P t) (szOf P t) H (nth ts a)
def resL (P : Program) (ts : List D) (H : Hp) : List ResultVar → Option (List D)
  | [] => some []
  | r :: rs => match resV P ts H r, resL P ts H rs with
    | some d, some ds => some (d :: ds)
    | _, _ => none
def resD (P : Program) (ts : List D) (H : Hp) (rs : List ResultVar) : Option D :=
  match resL P ts H rs with
  | some [d] => some d
  | some ds => some (.tup ds)
  | none => none

theorem run_resV (hS : Sim w0 M0 hI h ρ H w) {ts : List D} {a : Act} (hF : RelF h ρ ts a) {r : ResultVar} {d : D} (e : resV P ts H r = some d) :
    ∃ v, ((match r with | .tmp t => pure (a.tmps.getD t undef) | .cell x t => do loadVar t (← asAddr (a.tmps.getD x undef)) : Sem Value)).run P w = .ok v w ∧ RelV h ρ d v := by
  cases r with
  | tmp t =>
    simp only [resV, Option.some.injEq] at e
    subst e
    exact ⟨_, rfl, hF.2 t⟩
  | cell x t =>
    simp only [resV] at e
    obtain ⟨v, hv, rv⟩ := run_loadAt (P := P) hS (hF.2 x) e
    refine ⟨v, ?_, rv⟩
    have hx := hF.2 x
    show ((do loadVar t (← asAddr (a.tmps.getD x undef)) : Sem Value)).run P w = _
    generalize a.tmps.getD x undef = vx at hv hx ⊢
    generalize nth ts x = dx at e hx
    cases hx <;> first
      | (simp only [Instr.loadAt, Instr.sureAddr, Sem.run_bind, Sem.run_pure, Result.andThen_ok] at hv; simp only [asAddr, Sem.run_bind, Sem.run_pure, Result.andThen_ok]; exact hv)
      | (simp only [dLoad] at e; cases e)

theorem run_resL (hS : Sim w0 M0 hI h ρ H w) {ts : List D} {a : Act} (hF : RelF h ρ ts a) : ∀ {rs : List ResultVar} {ds : List D}, resL P ts H rs = some ds →
    ∃ vs : List Value, ((rs.mapM fun | .tmp t => pure (a.tmps.getD t undef) | .cell x t => do loadVar t (← asAddr (a.tmps.getD x undef)) : Sem (List Value))).run P w = .ok vs w ∧ vs.length = ds.length ∧ ∀ (j : Nat) (d : D), ds[j]? = some d → ∃ v : Value, vs[j]? = some v ∧ RelV h ρ d v
  | [], ds, e => by
    simp only [resL, Option.some.injEq] at e
    subst e
    exact ⟨[], rfl, rfl, fun j d hj => by simp at hj⟩
  | r :: rs, ds, e => by
    simp only [resL] at e
    split at e
    · rename_i d ds' h1 h2
      cases e
      obtain ⟨v, hv, rv⟩ := run_resV (P := P) hS hF h1
      obtain ⟨vs, hvs, hl, hr⟩ := run_resL hS hF h2
      refine ⟨v :: vs, ?_, by simp [hl], fun j d' hj => ?_⟩
      · rw [List.mapM_cons, Sem.run_bind]
        have hv' := hv
        cases r <;> simp only at hv' ⊢ <;> rw [hv'] <;> simp only [Result.andThen_ok, Sem.run_bind] <;> rw [hvs] <;> rfl
      · cases j with
        | zero => simp at hj; subst hj; exact ⟨v, rfl, rv⟩
        | succ j => exact hr j d' (by simpa using hj)
    · cases e

theorem run_results (hS : Sim w0 M0 hI h ρ H w) {ts : List D} {a : Act} (hF : RelF h ρ ts a) {fn : Func} {d : D} (e : resD P ts H fn.results.toList = some d) : ∃ v, (results fn a.tmps).run P w = .ok v w ∧ RelV h ρ d v := by
  unfold resD at e
  cases hr : resL P ts H fn.results.toList with
  | none => simp [hr] at e
  | some ds =>
    obtain ⟨vs, hvs, hl, hget⟩ := run_resL (P := P) hS hF hr
    have hrun : (results fn a.tmps).run P w = .ok (if h : vs.toArray.size = 1 then vs.toArray[0] else .tuple vs.toArray) w := by
      simp only [results, Sem.run_bind, Array.mapM_eq_mapM_toList, Sem.run_map]
      erw [hvs]
      simp only [Result.andThen_ok, Sem.run_pure]
    refine ⟨_, hrun, ?_⟩
    rw [hr] at e
    split at e
    · rename_i d' hds
      cases hds
      cases e
      obtain ⟨v, hv, rv⟩ := hget 0 d rfl
      match vs, hl with
      | [x], _ => simp at hv; subst hv; simpa using rv
    · rename_i ds' hne hds
      cases hds
      cases e
      rw [dif_neg]
      · refine .tup _ _ (by simp [hl]) (fun j => vs.toArray.getD j undef) (fun j hj => ?_) (fun j d hj => ?_)
        · simp [hl, hj, Array.getD]
        · obtain ⟨v, hv, rv⟩ := hget j d hj
          rw [Array.getD_eq_getD_getElem?]
          simp [hv]
          exact rv
      · intro h1
        have h2 : ds.length = 1 := by rw [← hl]; simpa using h1
        obtain ⟨x, hx⟩ := List.length_eq_one_iff.1 h2
        exact hne x hx
    · cases e
end
end Go.Lv
