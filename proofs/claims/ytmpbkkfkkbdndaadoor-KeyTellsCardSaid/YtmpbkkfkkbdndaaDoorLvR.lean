/- LvR: a region that draws, in whatever order. -/
import Derived.Test.YtmpbkkfkkbdndaaDoorLvQ
namespace Go.Lv
open Go
set_option linter.unusedVariables false
set_option linter.unusedSimpArgs false
section
variable {P : Program} {w0 : World} {M0 : Nat → Prop} {hI h1 h : Gh} {ρ0 ρ : Rn} {H : Hp} {w : World} {E : Env} {ops : Array Oper} {m : Nat}

theorem mem_rdy {listed : Array Bool} {i : Nat} : i ∈ Region.ready .any ops listed ↔ i < ops.size ∧ listed.getD i true = false ∧ ∃ o, ops[i]? = some o ∧ ∀ e ∈ o.after, Region.binds .any e = true → listed.getD e.on false = true := by
  simp only [Region.ready, List.mem_filter, List.mem_range, Bool.and_eq_true, Bool.not_eq_true']
  constructor
  · rintro ⟨h1, h2, h3⟩
    refine ⟨h1, h2, ops[i], by simp [h1], fun e he hb => ?_⟩
    simp only [h1, getElem?_pos, Option.map_some, Option.getD_some, Array.all_eq_true_iff_forall_mem, Bool.or_eq_true, Bool.not_eq_true'] at h3
    rcases h3 e he with h | h
    · rw [hb] at h; cases h
    · exact h
  · rintro ⟨h1, h2, o, ho, h3⟩
    refine ⟨h1, h2, ?_⟩
    simp only [ho, Option.map_some, Option.getD_some, Array.all_eq_true_iff_forall_mem, Bool.or_eq_true, Bool.not_eq_true']
    intro e he
    cases hb : Region.binds .any e
    · exact .inl rfl
    · exact .inr (h3 e he hb)

theorem getD_true {listed : Array Bool} {i : Nat} (hi : i < listed.size) : listed.getD i true = listed.getD i false := by
  simp [Array.getD, hi]

theorem cnt_all {listed : Array Bool} (hc : listed.toList.countP (! ·) = 0) {i : Nat} (hi : i < listed.size) : listed.getD i false = true := by
  have : ∀ b ∈ listed.toList, ¬ ((! b) = true) := List.countP_eq_zero.1 hc
  have hm' : listed[i] ∈ listed.toList := by simp
  have := this _ hm'
  simp only [Array.getD, hi, dite_true]
  simpa using this
theorem cnt_some {listed : Array Bool} {n : Nat} (hc : listed.toList.countP (! ·) = n + 1) : ∃ i, i < listed.size ∧ listed.getD i false = false := by
  have : 0 < listed.toList.countP (! ·) := by omega
  obtain ⟨b, hb, hf⟩ := List.countP_pos_iff.1 this
  obtain ⟨i, hi, he⟩ := List.getElem_of_mem hb
  refine ⟨i, by simpa using hi, ?_⟩
  have hi' : i < listed.size := by simpa using hi
  have : listed[i]? = some b := by simpa [hi'] using he
  rw [Array.getD_eq_getD_getElem?, this]
  simpa using hf
theorem cnt_set {listed : Array Bool} {n i : Nat} (hc : listed.toList.countP (! ·) = n + 1) (hi : i < listed.size) (hf : listed.getD i true = false) : (listed.setIfInBounds i true).toList.countP (! ·) = n := by
  have h1 : listed.toList[i]? = some false := by
    simp only [Array.getD, hi, dite_true] at hf
    simp [hi]
    exact hf
  have := countP_set _ _ h1
  rw [Array.toList_setIfInBounds]
  omega
theorem getD_set {listed : Array Bool} {i j : Nat} (hi : i < listed.size) : (listed.setIfInBounds i true).getD j false = true ↔ j = i ∨ listed.getD j false = true := by
  rw [Array.getD_eq_getD_getElem?, Array.getElem?_setIfInBounds]
  by_cases e : i = j
  · subst e
    simp [hi]
  · rw [if_neg e, ← Array.getD_eq_getD_getElem?]
    constructor
    · exact .inr
    · rintro (h | h)
      · exact absurd h.symm e
      · exact h

theorem any_tail {K : List D → Hp → Prop} {Q : Exit → Act → World → Prop} (hb : GLe E.h0 h1) (hreg : regOk ops m = true) (hK : ∀ ts H a w, K ts H → St w0 M0 hI h1 ρ0 ts H a w → Q .normal a w) :
    ∀ (fuel k : Nat) (listed : Array Bool) (ts : List D) (H : Hp) (a : Act) (w : World), listed.toList.countP (! ·) = fuel → k ≤ ops.size → m ≤ k → listed.size = ops.size → (∀ i, listed.getD i false = true ↔ i < k) →
      aseq P E ops (ops.toList.drop k) ts H K → St w0 M0 hI h1 ρ0 ts H a w → wpAny P .any ops Q fuel listed a w
  | 0, k, listed, ts, H, a, w, hn, hkn, hm, hsz, hl, hs, hst => by
    have hk : k = ops.size := by
      rcases Nat.lt_or_ge k ops.size with h | h
      · have := (hl k).1 (cnt_all hn (by omega))
        omega
      · omega
    subst hk
    refine ⟨?_, ?_⟩
    · refine List.eq_nil_iff_forall_not_mem.2 fun i hi => ?_
      obtain ⟨h1, h2, _⟩ := mem_rdy.1 hi
      rw [getD_true (by omega), (hl i).2 h1] at h2
      cases h2
    · rw [List.drop_of_length_le (by simp)] at hs
      exact hK ts H a w hs hst
  | fuel + 1, k, listed, ts, H, a, w, hn, hkn, hm, hsz, hl, hs, hst => by
    obtain ⟨hmn, hedge, hpair⟩ := regOk_spec hreg
    have hlt : k < ops.size := by
      obtain ⟨i, hi, hf⟩ := cnt_some hn
      rcases Nat.lt_or_ge k ops.size with h | h
      · exact h
      · rw [(hl i).2 (by omega)] at hf
        cases hf
    have hko : ops[k]? = some ops[k] := by simp [hlt]
    have hkr : k ∈ Region.ready .any ops listed := by
      refine mem_rdy.2 ⟨hlt, ?_, ops[k], hko, fun e he hbe => (hl _).2 (hedge k _ hko e he hbe)⟩
      rw [getD_true (by omega)]
      cases hh : listed.getD k false with
      | false => rfl
      | true => have := (hl k).1 hh; omega
    refine ⟨fun h => (by rw [h] at hkr; cases hkr), fun i hi => ?_⟩
    obtain ⟨hi1, hi2, oi, hoi, hie⟩ := mem_rdy.1 hi
    have hik : i = k := by
      rcases Nat.lt_trichotomy i k with h | h | h
      · have := (hl i).2 h
        rw [getD_true (by omega)] at hi2
        rw [hi2] at this
        cases this
      · exact h
      · -- it waits for k, which isn't there yet
        have closed : ∀ p q, Waits ops.toList p q → (∀ o, ops[q]? = some o → ∀ e ∈ o.after, Region.binds .any e = true → e.on < k) → p < k := by
          intro p q hw
          induction hw with
          | one j o e ho he hbe hon =>
            intro hh
            have := hh o (by simpa using ho) e he hbe
            omega
          | more k' j o e ho he hbe hon h ih =>
            intro hh
            have h1 := hh o (by simpa using ho) e he hbe
            exact ih fun o' ho' e' he' hbe' => by
              have := hedge k' o' ho' e' he' hbe'
              omega
        rcases hpair k i _ _ hko hoi h with hw | ⟨hw, _⟩
        · have := closed k i hw fun o ho e he hbe => by
            rw [hoi] at ho
            cases ho
            exact (hl _).1 (hie e he hbe)
          omega
        · omega
    subst hik
    rw [hko] at hoi
    cases hoi
    obtain ⟨h, ρ, hg, hρ, hS, hF, hdef⟩ := hst
    rw [List.drop_eq_getElem_cons (by simpa using hlt)] at hs
    have hl' : ∀ j, (listed.setIfInBounds i true).getD j false = true ↔ j < i + 1 := by
      intro j
      rw [getD_set (by omega), hl j]
      omega
    have next := fun ts H a w => any_tail hb hreg hK fuel (i + 1) (listed.setIfInBounds i true) ts H a w (cnt_set hn (by omega) hi2) (by omega) (by omega) (by simp [hsz]) hl'
    simp only [aseq] at hs
    unfold wpOp
    simp only [hko]
    have hoe : ops.toList[i] = ops[i] := by simp
    rw [hoe] at hs
    split at hs
    · rename_i hw
      rw [want_spec hF hw, if_pos rfl]
      refine .inl (hs w0 M0 hI h ρ w a (hb.trans hg) hS (fun x _ => hF.ev (hb.trans hg) x) _ Q fun d H' v w' h' ρ' hr g1 r1 hS' hv => ?_)
      exact next _ H' _ w' hr ⟨h', ρ', hg.trans g1, hρ.trans r1, hS', (hF.mono g1 r1).put hv _, by rw [put_defers]; exact hdef⟩
    · rename_i hw
      rw [want_spec hF hw]
      simp only [Bool.false_eq_true, if_false]
      exact next _ H _ w hs ⟨h, ρ, hg, hρ, hS, hF.put rel_undef _, by rw [put_defers]; exact hdef⟩
    · exact hs.elim

/-- The state while the first operations come up, in some order. -/
structure Mid (w0 : World) (M0 : Nat → Prop) (hI h1 : Gh) (ρ0 : Rn) (ops : Array Oper) (H : Hp) (T0 : List D) (dd : Nat → D) (listed : Array Bool) (a : Act) (w : World) : Prop where
  st : ∃ h ρ, GLe h1 h ∧ RLe ρ0 ρ ∧ Sim w0 M0 hI h ρ H w ∧ a.defers = [] ∧ a.tmps.size = T0.length ∧ ∀ t, ∃ d, Last ops (fun i => listed.getD i false = true) dd T0 t d ∧ RelV h ρ d (a.tmps.getD t undef)

theorem last_uniq {X X' : Nat → Prop} {dd : Nat → D} {T0 : List D} {t : Nat} {d d' : D} (hX : ∀ i, X i ↔ X' i) (h1 : Last ops X dd T0 t d) (h2 : Last ops X' dd T0 t d') : d = d' := by
  rcases h1 with ⟨i, o, hi, ho, hd, hmax, hv⟩ | ⟨hno, hv⟩ <;> rcases h2 with ⟨i', o', hi', ho', hd', hmax', hv'⟩ | ⟨hno', hv'⟩
  · have e1 := hmax i' o' ((hX i').2 hi') ho' hd'
    have e2 := hmax' i o ((hX i).1 hi) ho hd
    have : i = i' := by omega
    subst this
    rw [hv, hv']
  · exact absurd hd (hno' i o ((hX i).1 hi) ho)
  · exact absurd hd' (hno i' o' ((hX i').2 hi') ho')
  · rw [hv, hv']

theorem any_head {K : List D → Hp → Prop} {Q : Exit → Act → World → Prop} {T : Nat → List D} {dd : Nat → D} (hb : GLe E.h0 h1) (hreg : regOk ops m = true) (hlex : Lex P E ops H 0 m T dd) (htail : aseq P E ops (ops.toList.drop m) (T m) H K)
    (hK : ∀ ts H a w, K ts H → St w0 M0 hI h1 ρ0 ts H a w → Q .normal a w) :
    ∀ (fuel : Nat) (listed : Array Bool) (a : Act) (w : World), listed.toList.countP (! ·) = fuel → listed.size = ops.size → (∀ i, m ≤ i → listed.getD i false = false) →
      (∀ i j, listed.getD j false = true → Waits ops.toList i j → listed.getD i false = true) → Mid w0 M0 hI h1 ρ0 ops H (T 0) dd listed a w → wpAny P .any ops Q fuel listed a w := by
  obtain ⟨hmn, hedge, hpair⟩ := regOk_spec hreg
  -- when the first m are all there
  have hfin : ∀ (fuel : Nat) (listed : Array Bool) (a : Act) (w : World), listed.toList.countP (! ·) = fuel → listed.size = ops.size → (∀ i, listed.getD i false = true ↔ i < m) → Mid w0 M0 hI h1 ρ0 ops H (T 0) dd listed a w → wpAny P .any ops Q fuel listed a w := by
    intro fuel listed a w hcnt hsz hl hmid
    obtain ⟨h, ρ, hg, hρ, hS, hdef, hts, hlast⟩ := hmid.st
    refine any_tail hb hreg hK fuel m listed (T m) H a w hcnt hmn (Nat.le_refl _) hsz hl htail ⟨h, ρ, hg, hρ, hS, ⟨by rw [lex_len hmn hlex m (Nat.le_refl _), hts], fun t => ?_⟩, hdef⟩
    obtain ⟨d, h1, h2⟩ := hlast t
    rw [last_uniq (fun i => (hl i).symm) (lex_last hmn hlex t m (Nat.le_refl _)) h1]
    exact h2
  intro fuel
  induction fuel with
  | zero =>
    intro listed a w hcnt hsz hge hcl hmid
    have hmn' : m = ops.size := by
      rcases Nat.lt_or_ge m ops.size with h | h
      · have := cnt_all hcnt (i := m) (by omega)
        rw [hge m (Nat.le_refl _)] at this
        cases this
      · omega
    refine hfin 0 listed a w hcnt hsz (fun i => ⟨fun h => ?_, fun h => cnt_all hcnt (by omega)⟩) hmid
    rcases Nat.lt_or_ge i m with h' | h'
    · exact h'
    · rw [hge i h'] at h; cases h
  | succ fuel ih =>
    intro listed a w hcnt hsz hge hcl hmid
    by_cases hdone : ∀ i, i < m → listed.getD i false = true
    · refine hfin (fuel + 1) listed a w hcnt hsz (fun i => ⟨fun h => ?_, hdone i⟩) hmid
      rcases Nat.lt_or_ge i m with h' | h'
      · exact h'
      · rw [hge i h'] at h; cases h
    · -- one that isn't there, and waits for none
      have hex : ∃ i, i < m ∧ listed.getD i false = false ∧ ∀ j, j < i → listed.getD j false = true := by
        have : ∃ i, i < m ∧ listed.getD i false = false := by
          refine Classical.byContradiction fun hno => hdone fun i hi => ?_
          cases hh : listed.getD i false with
          | true => rfl
          | false => exact absurd ⟨i, hi, hh⟩ hno
        obtain ⟨i, h1, h2⟩ := this
        induction i using Nat.strongRecOn with
        | _ i ihi =>
          by_cases hall : ∀ j, j < i → listed.getD j false = true
          · exact ⟨i, h1, h2, hall⟩
          · obtain ⟨j, hj⟩ := Classical.not_forall.1 hall
            obtain ⟨hj1, hj2⟩ := Classical.not_imp.1 hj
            exact ihi j hj1 (by omega) (by simpa using hj2)
      obtain ⟨i0, hi0m, hi0f, hi0⟩ := hex
      have hi0lt : i0 < ops.size := by omega
      have hi0r : i0 ∈ Region.ready .any ops listed := mem_rdy.2 ⟨hi0lt, by rw [getD_true (by omega)]; exact hi0f, ops[i0], by simp [hi0lt], fun e he hbe => hi0 _ (hedge i0 ops[i0] (by simp [hi0lt]) e he hbe)⟩
      refine ⟨fun h => (by rw [h] at hi0r; cases hi0r), fun i hi => ?_⟩
      obtain ⟨hi1, hi2, oi, hoi, hie⟩ := mem_rdy.1 hi
      have hif : listed.getD i false = false := by rw [← getD_true (by omega)]; exact hi2
      -- what it waits for is there
      have hwait : ∀ p, Waits ops.toList p i → listed.getD p false = true := by
        intro p hw
        cases hw with
        | one j o e ho he hbe hon =>
          rw [show ops.toList[i]? = ops[i]? from by simp, hoi] at ho
          cases ho
          rw [← hon]
          exact hie e he hbe
        | more k j o e ho he hbe hon hw' =>
          rw [show ops.toList[i]? = ops[i]? from by simp, hoi] at ho
          cases ho
          have := hie e he hbe
          rw [hon] at this
          exact hcl _ _ this hw'
      have him : i < m := by
        rcases Nat.lt_or_ge i m with h | h
        · exact h
        · rcases hpair i0 i ops[i0] oi (by simp [hi0lt]) hoi (by omega) with hw | ⟨hw, _⟩
          · rw [hwait i0 hw] at hi0f; cases hi0f
          · omega
      obtain ⟨h, ρ, hg, hρ, hS, hdef, hts, hlast⟩ := hmid.st
      -- what it looks at is what it looks at in its own order
      have hlook : ∀ t ∈ oi.looksAt ops, RelV h ρ (nth (T i) t) (a.tmps.getD t undef) := by
        intro t ht
        obtain ⟨d, h1, h2⟩ := hlast t
        have hd : nth (T i) t = d := by
          rcases lex_last hmn hlex t i (by omega) with ⟨j, o, hj, hoj, hdj, hmax, hv⟩ | ⟨hno, hv⟩
          · have hjX : listed.getD j false = true := by
              rcases hpair j i o oi hoj hoi hj with hw | ⟨_, hap⟩
              · exact hwait j hw
              · exact absurd ht ((Oper.apart_spec hap).1 t hdj)
            rcases h1 with ⟨j', o', hj', hoj', hdj', hmax', hv'⟩ | ⟨hno', hv'⟩
            · have e1 : j ≤ j' := hmax' j o hjX hoj hdj
              have e2 : j' ≤ j := by
                rcases Nat.lt_trichotomy j' i with hh | hh | hh
                · exact hmax j' o' hh hoj' hdj'
                · subst hh; rw [hif] at hj'; cases hj'
                · rcases hpair i j' oi o' hoi hoj' hh with hw | ⟨_, hap⟩
                  · have := hcl i j' hj' hw
                    rw [hif] at this; cases this
                  · exact absurd ht ((Oper.apart_spec hap).2.2 t hdj')
              have : j = j' := by omega
              subst this
              rw [hv, hv']
            · exact absurd hdj (hno' j o hjX hoj)
          · rcases h1 with ⟨j', o', hj', hoj', hdj', hmax', hv'⟩ | ⟨hno', hv'⟩
            · rcases Nat.lt_trichotomy j' i with hh | hh | hh
              · exact absurd hdj' (hno j' o' hh hoj')
              · subst hh; rw [hif] at hj'; cases hj'
              · rcases hpair i j' oi o' hoi hoj' hh with hw | ⟨_, hap⟩
                · have := hcl i j' hj' hw
                  rw [hif] at this; cases this
                · exact absurd ht ((Oper.apart_spec hap).2.2 t hdj')
            · rw [hv, hv']
        rw [hd]
        exact h2
      have hop : ∀ x ∈ oi.op.operands.toList, RelV h ρ (ev E.g (T i) x) (a.eval x) := by
        intro x hx
        cases x with
        | tmp t => exact hlook t (by simp only [Oper.looksAt, List.mem_append, List.mem_filterMap]; exact .inl ⟨.tmp t, hx, rfl⟩)
        | const v => exact ofV_rel v
        | global g => exact (E.ok g).mono (hb.trans hg) (fun i n x e => by cases e)
        | func f => exact .fn _ _ _ _ _ (fun _ => undef) (fun _ => undef) rfl rfl (fun j hj => by simp at hj) (fun j hj => by simp at hj) (fun j d hj => by simp at hj) (fun j d hj => by simp at hj)
      -- behind it
      have next : ∀ (v : Value) (w' : World) (h' : Gh) (ρ' : Rn), GLe h h' → RLe ρ ρ' → Sim w0 M0 hI h' ρ' H w' → RelV h' ρ' (dd i) v → wpAny P .any ops Q fuel (listed.setIfInBounds i true) (a.put oi.dst v) w' := by
        intro v w' h' ρ' g1 r1 hS' hv
        refine ih _ _ _ (cnt_set hcnt (by omega) hi2) (by simp [hsz]) (fun j hj => ?_) (fun p q hq hw => ?_) ⟨h', ρ', hg.trans g1, hρ.trans r1, hS', by rw [put_defers]; exact hdef, ?_, fun t => ?_⟩
        · cases hh : (listed.setIfInBounds i true).getD j false with
          | false => rfl
          | true =>
            rcases (getD_set (by omega)).1 hh with e | e
            · omega
            · rw [hge j hj] at e; cases e
        · rw [getD_set (by omega)] at hq ⊢
          rcases hq with rfl | hq
          · exact .inr (hwait p hw)
          · exact .inr (hcl p q hq hw)
        · cases oi.dst <;> simp [Act.put, hts]
        · obtain ⟨d, h1, h2⟩ := hlast t
          by_cases hdt : oi.dst = some t
          · refine ⟨if t < (T 0).length then dd i else nth (T 0) t, .inl ⟨i, oi, (getD_set (by omega)).2 (.inl rfl), hoi, hdt, fun j o' hj ho' hd' => ?_, rfl⟩, ?_⟩
            · rcases (getD_set (by omega)).1 hj with e | e
              · omega
              · rcases Nat.lt_or_ge i j with hh | hh
                · rcases hpair i j oi o' hoi ho' hh with hw | ⟨_, hap⟩
                  · have := hcl i j e hw
                    rw [hif] at this; cases this
                  · exact absurd hd' ((Oper.apart_spec hap).2.1 t hdt)
                · exact hh
            · simp only [hdt, Act.put]
              rw [Array.getD_eq_getD_getElem?, Array.getElem?_setIfInBounds]
              simp only [if_true]
              by_cases hlt : t < a.tmps.size
              · rw [if_pos hlt, if_pos (by rw [← hts]; exact hlt)]
                exact hv
              · rw [if_neg hlt, if_neg (by rw [← hts]; exact hlt), nth_get, List.getElem?_eq_none (by rw [← hts]; omega)]
                exact .und _
          · refine ⟨d, ?_, ?_⟩
            · rcases h1 with ⟨j, o, hj, hoj, hdj, hmax, hv'⟩ | ⟨hno, hv'⟩
              · refine .inl ⟨j, o, (getD_set (by omega)).2 (.inr hj), hoj, hdj, fun j' o' hj' ho' hd' => ?_, hv'⟩
                rcases (getD_set (by omega)).1 hj' with e | e
                · subst e
                  rw [hoi] at ho'
                  cases ho'
                  exact absurd hd' hdt
                · exact hmax j' o' e ho' hd'
              · refine .inr ⟨fun j' o' hj' ho' hd' => ?_, hv'⟩
                rcases (getD_set (by omega)).1 hj' with e | e
                · subst e
                  rw [hoi] at ho'
                  cases ho'
                  exact hdt hd'
                · exact hno j' o' e ho' hd'
            · have : (a.put oi.dst v).tmps.getD t undef = a.tmps.getD t undef := by
                cases hdd : oi.dst with
                | none => rfl
                | some t' =>
                  simp only [Act.put]
                  rw [Array.getD_eq_getD_getElem?, Array.getElem?_setIfInBounds_ne (fun e => hdt (by rw [hdd, e])), ← Array.getD_eq_getD_getElem?]
              rw [this]
              exact h2.mono g1 r1
      unfold wpOp
      simp only [hoi]
      rcases (hlex.step i oi (by omega) him hoi).2 with ⟨hw, hstep⟩ | ⟨hw, hdd⟩
      · rw [want_spec' hlook hw, if_pos rfl]
        refine .inl (hstep w0 M0 hI h ρ w a (hb.trans hg) hS hop _ Q fun d H' v w' h' ρ' hr g1 r1 hS' hv => ?_)
        obtain ⟨rfl, rfl⟩ := hr
        exact next v w' h' ρ' g1 r1 hS' hv
      · rw [want_spec' hlook hw]
        simp only [Bool.false_eq_true, if_false]
        exact next undef w h ρ (.refl _) (.refl _) hS (by rw [hdd]; exact rel_undef)

theorem aq_wp {id : Nat} {K : List D → Hp → Prop} {Q : Exit → Act → World → Prop} {ts : List D} {a : Act} (hm : P.follows .mixedOrders = true) (hb : GLe E.h0 h1) (hreg : regOk ops m = true) (hK : ∀ ts H a w, K ts H → St w0 M0 hI h1 ρ0 ts H a w → Q .normal a w)
    (hs : aq P E ops m ops.toList ts H K) (hst : St w0 M0 hI h1 ρ0 ts H a w) : (Code.region id ops true).wp P Q a w := by
  obtain ⟨hmn, _, _⟩ := regOk_spec hreg
  obtain ⟨T, dd, rfl, hlex, htail⟩ := aq_lex (ops := ops) m 0 ts (by omega) (by simpa using hs)
  rw [Nat.zero_add] at hlex htail
  refine wp_region_any hm ?_
  obtain ⟨h, ρ, hg, hρ, hS, hF, hdef⟩ := hst
  refine any_head hb hreg hlex htail hK ops.size _ a _ ?_ (by simp) (fun i _ => ?_) (fun i j hj => ?_) ⟨h, ρ, hg, hρ, hS.drew, hdef, hF.1.symm, fun t => ⟨_, .inr ⟨fun j o' hj => ?_, rfl⟩, hF.2 t⟩⟩
  · simp [List.countP_replicate]
  · simp [Array.getD_eq_getD_getElem?, Array.getElem?_replicate]
    split <;> rfl
  · simp [Array.getD_eq_getD_getElem?, Array.getElem?_replicate] at hj
    split at hj <;> cases hj
  · simp [Array.getD_eq_getD_getElem?, Array.getElem?_replicate] at hj
    split at hj <;> cases hj
end
end Go.Lv
