/- LvT: what a call hands back; contracts out of bodies. -/
import Derived.Test.YtmpbkkfkkbdndaaDoorLvS
namespace Go.Lv
open Go
set_option linter.unusedVariables false
set_option linter.unusedSimpArgs false

/-- Data that own nothing, out of data that may own rows: those are written no more. -/
def reifyL (f : Hp → D → Option (D × Hp)) : Hp → List D → Option (List D × Hp)
  | H, [] => some ([], H)
  | H, d :: l => match f H d with
    | some (d', H') => match reifyL f H' l with
      | some (l', H'') => some (d' :: l', H'')
      | none => none
    | none => none
def reify : Nat → Hp → D → Option (D × Hp)
  | 0, H, d => if d.closed then some (d, H) else none
  | k + 1, H, d => if d.closed then some (d, H) else
    match d with
    | .own i len n => match hget H i with
      | .row sz ag cs | .frz sz ag cs =>
        if cs.length = n ∧ len * sz ≤ n then
          match reifyL (reify k) (frz1 H i) (cs.take (len * sz)) with
          | some (cs', H') => if ag = true ∨ sz = 1 ∧ allCell cs' = true then some (.list false (els ag sz len cs'), H') else none
          | none => none
        else none
      | _ => none
    | .agg cs => match reifyL (reify k) H cs with
      | some (cs', H') => some (.agg cs', H')
      | none => none
    | .tup cs => match reifyL (reify k) H cs with
      | some (cs', H') => some (.tup cs', H')
      | none => none
    | _ => none

section
variable {P : Program} {w0 : World} {M0 : Nat → Prop} {hI h1 h : Gh} {ρ0 ρ : Rn} {H : Hp} {w : World} {E : Env}

def ReOk (w0 : World) (M0 : Nat → Prop) (hI : Gh) (ρ : Rn) (w : World) (f : Hp → D → Option (D × Hp)) : Prop :=
  ∀ (h : Gh) (H : Hp) (d : D) (v : Value) (d' : D) (H' : Hp), f H d = some (d', H') → Sim w0 M0 hI h ρ H w → RelV h ρ d v → ∃ h', GLe h h' ∧ Sim w0 M0 hI h' ρ H' w ∧ RelV h' ρ d' v ∧ d'.closed = true

theorem reifyL_sound {f : Hp → D → Option (D × Hp)} (hf : ReOk w0 M0 hI ρ w f) : ∀ (l : List D) (h : Gh) (H : Hp) (us : Nat → Value) (l' : List D) (H' : Hp), reifyL f H l = some (l', H') → Sim w0 M0 hI h ρ H w → (∀ (j : Nat) (d : D), l[j]? = some d → RelV h ρ d (us j)) →
    ∃ h', GLe h h' ∧ Sim w0 M0 hI h' ρ H' w ∧ l'.length = l.length ∧ D.closedL l' = true ∧ ∀ (j : Nat) (d : D), l'[j]? = some d → RelV h' ρ d (us j)
  | [], h, H, us, l', H', e, hS, hr => by
    simp only [reifyL, Option.some.injEq, Prod.mk.injEq] at e
    obtain ⟨rfl, rfl⟩ := e
    exact ⟨h, .refl _, hS, rfl, rfl, fun j d hj => by simp at hj⟩
  | d :: l, h, H, us, l', H', e, hS, hr => by
    simp only [reifyL] at e
    split at e
    · rename_i d1 H1 h1
      split at e
      · rename_i l1 H2 h2
        cases e
        obtain ⟨ha, g1, s1, r1, c1⟩ := hf h H d (us 0) d1 H1 h1 hS (hr 0 d rfl)
        obtain ⟨hb, g2, s2, len, cl, r2⟩ := reifyL_sound hf l ha H1 (fun j => us (j + 1)) l1 _ h2 s1 (fun j d hj => (hr (j + 1) d (by simpa using hj)).mono g1 (.refl _))
        refine ⟨hb, g1.trans g2, s2, by simp [len], by simp [D.closedL, c1, cl], fun j d hj => ?_⟩
        cases j with
        | zero => simp at hj; subst hj; exact r1.mono g2 (.refl _)
        | succ j => exact r2 j d (by simpa using hj)
      · cases e
    · cases e

theorem reify_sound : ∀ (k : Nat), ReOk w0 M0 hI ρ w (reify k)
  | 0 => by
    intro h H d v d' H' e hS hr
    simp only [reify] at e
    split at e
    · rename_i hc
      cases e
      exact ⟨h, .refl _, hS, hr, hc⟩
    · cases e
  | k + 1 => by
    intro h H d v d' H' e hS hr
    have ih := reify_sound k
    simp only [reify] at e
    split at e
    · rename_i hc
      cases e
      exact ⟨h, .refl _, hS, hr, hc⟩
    · split at e
      · rename_i i len n _
        cases hr with | own _ _ _ b c cs0 sz0 hb hcs hlen =>
        have go : ∀ (sz : Nat) (ag : Bool) (cs : List D), (hget H i = .row sz ag cs ∨ hget H i = .frz sz ag cs) → cs.length = n → len * sz ≤ n → ∀ cs', reifyL (reify k) (frz1 H i) (cs.take (len * sz)) = some (cs', H') → (ag = true ∨ sz = 1 ∧ allCell cs' = true) →
            ∃ h', GLe h h' ∧ Sim w0 M0 hI h' ρ H' w ∧ RelV h' ρ (.list false (els ag sz len cs')) (.slice (some ⟨b, 0, none⟩) len c) ∧ (D.list false (els ag sz len cs')).closed = true := by
          intro sz ag cs hg hn hle cs' hre hc
          obtain ⟨h1, g1, s1⟩ := hS.freeze i
          have hfr : hget (frz1 H i) i = .frz sz ag cs := by
            rcases hg with hg | hg
            · have hil := hS.live_lt (i := i) (by rw [hg]; rfl)
              simp only [frz1, hg]
              rw [hget_set, if_pos ⟨rfl, hil⟩]
            · simp only [frz1, hg]
          have hblk := s1.blk i
          rw [hfr] at hblk
          obtain ⟨b', c', s', ccs, el, fz, a1, a2, a3⟩ := hblk
          rw [hn, hb] at a1
          cases a1
          have r3 := a3.take (len * sz)
          obtain ⟨h2, g2, s2, hl2, cl2, rel2⟩ := reifyL_sound ih (cs.take (len * sz)) h1 _ (fun j => ccs.getD j undef) cs' H' hre s1 (fun j d hj => by
            obtain ⟨u, q1, _, q3⟩ := r3 j d hj
            rw [Nat.zero_add] at q1
            rw [Array.getD_eq_getD_getElem?, q1]
            exact q3)
          have hlt : cs'.length = len * sz := by rw [hl2]; simp; omega
          refine ⟨h2, g1.trans g2, s2, RelV.ofRow (g2 _ _ a2) (fun j d hj => ?_) hlt hc cl2 hlen (fun h => by cases h), rfl⟩
          have hj' : j < (cs.take (len * sz)).length := by rw [← hl2]; exact (List.getElem?_eq_some_iff.1 hj).1
          obtain ⟨u, q1, q2, _⟩ := r3 j _ (List.getElem?_eq_getElem hj')
          have := rel2 j d hj
          rw [Nat.zero_add] at q1
          rw [Array.getD_eq_getD_getElem?, q1] at this
          exact ⟨u, by rw [Nat.zero_add]; exact q1, q2, this⟩
        split at e
        · rename_i sz ag cs hg
          split at e
          · rename_i hh
            split at e
            · rename_i cs' H1 hre
              split at e
              · rename_i hc
                cases e
                exact go sz ag cs (.inl hg) hh.1 hh.2 cs' hre hc
              · cases e
            · cases e
          · cases e
        · rename_i sz ag cs hg
          split at e
          · rename_i hh
            split at e
            · rename_i cs' H1 hre
              split at e
              · rename_i hc
                cases e
                exact go sz ag cs (.inr hg) hh.1 hh.2 cs' hre hc
              · cases e
            · cases e
          · cases e
        · cases e
      · rename_i cs _
        split at e
        · rename_i cs' H1 hre
          cases e
          cases hr with | agg _ vs hs h1 us hu hrel =>
          obtain ⟨h2, g2, s2, hl2, cl2, rel2⟩ := reifyL_sound ih cs h H us cs' _ hre hS hrel
          exact ⟨h2, g2, s2, .agg _ vs (by rw [hs, hl2]) h1 us (fun j hj => hu j (by rw [← hl2]; exact hj)) rel2, by simpa [D.closed] using cl2⟩
        · cases e
      · rename_i cs _
        split at e
        · rename_i cs' H1 hre
          cases e
          cases hr with | tup _ vs hs us hu hrel =>
          obtain ⟨h2, g2, s2, hl2, cl2, rel2⟩ := reifyL_sound ih cs h H us cs' _ hre hS hrel
          exact ⟨h2, g2, s2, .tup _ vs (by rw [hs, hl2]) us (fun j hj => hu j (by rw [← hl2]; exact hj)) rel2, by simpa [D.closed] using cl2⟩
        · cases e
      · cases e

def undL : Nat → List D
  | 0 => []
  | n + 1 => .und :: undL n
theorem undL_len : ∀ n, (undL n).length = n
  | 0 => rfl
  | n + 1 => by simp [undL, undL_len n]
theorem undL_get : ∀ (n j : Nat), nth (undL n) j = .und
  | 0, j => rfl
  | n + 1, 0 => rfl
  | n + 1, j + 1 => undL_get n j
theorem nth_app : ∀ (l m : List D) (j : Nat), nth (l ++ m) j = if j < l.length then nth l j else nth m (j - l.length)
  | [], m, j => by simp [nth]
  | a :: l, m, 0 => by simp [nth]
  | a :: l, m, j + 1 => by simp only [List.cons_append, nth, List.length_cons]; rw [nth_app l m j]; simp only [Nat.add_lt_add_iff_right, Nat.add_sub_add_right]

/-- The end of a body. -/
def Fin (P : Program) (rs : List ResultVar) (post : D → Hp → Prop) : Post
  | .normal, ts, H | .ret, ts, H => ∃ d, resD P ts H rs = some d ∧ ∃ r H', reify 6 H d = some (r, H') ∧ post r H'
  | _, _, _ => False

/-- A contract out of the body. -/
theorem den_of {f : FuncId} {fn : Func} {c : Code} {args : List D} {S : Hp} {post : D → Hp → Prop} (hm : P.follows .mixedOrders = true) (hf : P.funcs[f]? = some fn) (hc : fn.body = some c)
    (h : awp P E c (Fin P fn.results.toList post) (args ++ undL (fn.ntmps - args.length)) S) : Den P E f args S post := by
  intro hh ρ w vs M hbase hS hsz hrel
  refine calls_of_wp hf hc ?_
  have hst : St w M hh hh ρ (args ++ undL (fn.ntmps - args.length)) S { tmps := vs ++ Array.replicate (fn.ntmps - vs.size) undef, defers := [] } w := by
    refine ⟨hh, ρ, .refl _, .refl _, hS, ⟨by simp [undL_len, hsz], fun t => ?_⟩, rfl⟩
    rw [nth_app, Array.getD_eq_getD_getElem?, Array.getElem?_append, ← hsz]
    split
    · rename_i hlt
      rw [nth_get]
      have hlt' : t < args.length := by omega
      obtain ⟨v, hv, rv⟩ := hrel t args[t] (by simp [hlt'])
      rw [List.getElem?_eq_getElem hlt', hv]
      exact rv
    · rw [undL_get]
      exact .und _
  refine wp_mono (awp_sound hm hbase c _ _ S _ w h hst) fun e a w' hup => ?_
  obtain ⟨ts, H, hq, h', ρ', hg, hρ, hS', hF, hdef⟩ := hup
  have fin : (∃ d, resD P ts H fn.results.toList = some d ∧ ∃ r H', reify 6 H d = some (r, H') ∧ post r H') → a.defers = [] ∧ ∃ v, (results fn a.tmps).run P w' = .ok v w' ∧ ∃ v' r S' h'' ρ'', Ending.returned v = .returned v' ∧ post r S' ∧ GLe hh h'' ∧ RLe ρ ρ'' ∧ Sim w M hh h'' ρ'' S' w' ∧ RelV h'' ρ'' r v' := by
    rintro ⟨d, hd, r, H', hre, hp⟩
    obtain ⟨v, hv, rv⟩ := run_results (P := P) hS' hF hd
    obtain ⟨h2, g2, s2, r2, _⟩ := reify_sound 6 h' H d v r H' hre hS' rv
    exact ⟨hdef, v, hv, v, r, H', h2, ρ', rfl, hp, hg.trans g2, hρ, s2, r2⟩
  cases e <;> simp only [Fin] at hq <;> first
    | exact fin hq
    | exact hq.elim

theorem pden_of {f : FuncId} {fn : Func} {c : Code} {args : List D} {r : D} (hm : P.follows .mixedOrders = true) (hf : P.funcs[f]? = some fn) (hc : fn.body = some c) (ha : D.closedL args = true) (hr : r.closed = true)
    (h : awp P E c (Fin P fn.results.toList fun r' _ => r' = r) (args ++ undL (fn.ntmps - args.length)) []) : PDen P E f args r := ⟨ha, hr, den_of hm hf hc h⟩
end
end Go.Lv
