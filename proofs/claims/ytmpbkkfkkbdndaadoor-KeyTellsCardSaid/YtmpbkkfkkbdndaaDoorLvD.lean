/- LvD: '==' of plain structs and arrays. -/
import Derived.Test.YtmpbkkfkkbdndaaDoorLvC
import Derived.Laws.StructEq
namespace Go.Lv
open Go
set_option linter.unusedVariables false
set_option linter.unusedSimpArgs false

theorem run_part {P : Program} {w : World} {t : TypeId} {d : TypeDesc} (hd : P.underlying t = some d) (hc : 0 < P.cellsOf t) (cs : Array Value) (off : Nat) :
    (Go.part t cs off).run P w = if isAg P t then .ok (.agg (cs.extract off (off + P.cellsOf t))) w else match cs[off]? with | some v => .ok v w | none => .halt (.stuck "part: no such cell") w := by
  simp only [Go.part, Sem.run_bind, run_isAgg hd, Result.andThen_ok, Sem.run_ite]
  cases hi : isAg P t
  · simp only [Bool.false_eq_true, if_false]
    cases cs[off]? <;> rfl
  · simp [run_sizeOf hc]

theorem dEqL_app : ∀ {a c : List D} (b d : List D), a.length = c.length → dEqL (a ++ b) (c ++ d) = match dEqL a c with | some true => dEqL b d | x => x
  | [], [], b, d, _ => by simp [dEqL]
  | x :: a, y :: c, b, d, hl => by
    simp only [List.cons_append, dEqL]
    cases dEq x y with
    | none => rfl
    | some t =>
      cases t
      · rfl
      · exact dEqL_app b d (by simpa using hl)

theorem Row.drop {h : Gh} {ρ : Rn} {cs : Array Value} {off : Nat} {ds : List D} (r : Row h ρ cs off ds) (k : Nat) : Row h ρ cs (off + k) (ds.drop k) := by
  intro j d hj
  rw [List.getElem?_drop] at hj
  obtain ⟨u, a, b⟩ := r _ _ hj
  exact ⟨u, by rw [Nat.add_assoc]; exact a, b⟩
theorem Row.take {h : Gh} {ρ : Rn} {cs : Array Value} {off : Nat} {ds : List D} (r : Row h ρ cs off ds) (k : Nat) : Row h ρ cs off (ds.take k) := by
  intro j d hj
  rw [List.getElem?_take] at hj
  split at hj
  · exact r _ _ hj
  · cases hj
theorem Row.extract {h : Gh} {ρ : Rn} {cs : Array Value} {off : Nat} {ds : List D} (r : Row h ρ cs off ds) (n : Nat) (hn : ds.length ≤ n) : Row h ρ (cs.extract off (off + n)) 0 ds := by
  intro j d hj
  obtain ⟨u, a, b⟩ := r _ _ hj
  have hlt : j < ds.length := (List.getElem?_eq_some_iff.1 hj).1
  refine ⟨u, ?_, b⟩
  rw [Nat.zero_add, Array.getElem?_extract]
  have : off + j < cs.size := (Array.getElem?_eq_some_iff.1 a).1
  rw [if_pos (by omega)]
  exact a
theorem Row.single {h : Gh} {ρ : Rn} {cs : Array Value} {off : Nat} {ds : List D} (r : Row h ρ cs off ds) (hl : ds.length = 1) : ∃ d u, ds = [d] ∧ cs[off]? = some u ∧ RelV h ρ d u := by
  match ds, hl with
  | [d], _ =>
    obtain ⟨u, a, b, c⟩ := r 0 d rfl
    exact ⟨d, u, rfl, a, c⟩

theorem okK_len : ∀ {ks : List KK} {ds : List D}, okK ks ds = true → ds.length = ks.length
  | [], [], _ => rfl
  | .i :: ks, .int .. :: ds, h => by simp only [okK] at h; simp [okK_len h]
  | .b :: ks, .bool _ :: ds, h => by simp only [okK] at h; simp [okK_len h]
  | .s :: ks, .str _ :: ds, h => by simp only [okK] at h; simp [okK_len h]
theorem okK_app : ∀ {a b : List KK} {ds : List D}, okK (a ++ b) ds = true → okK a (ds.take a.length) = true ∧ okK b (ds.drop a.length) = true
  | [], b, ds, h => by simpa [okK] using h
  | k :: a, b, [], h => by cases k <;> simp [okK] at h
  | k :: a, b, d :: ds, h => by
    cases k <;> cases d <;> simp only [List.cons_append, okK, List.length_cons, List.take_succ_cons, List.drop_succ_cons] at h ⊢ <;> first
      | exact okK_app h
      | cases h

theorem kinds_some {P : Program} {m : Nat} {t : TypeId} {ks : List KK} (h : kinds P m t = some ks) : 0 < P.cellsOf t ∧ ∃ d, P.underlying t = some d := by
  cases m with
  | zero => simp [kinds] at h
  | succ m =>
    simp only [kinds] at h
    split at h
    · cases h
    · refine ⟨by omega, ?_⟩
      split at h <;> first | exact ⟨_, by assumption⟩ | cases h

theorem kindsF_len {P : Program} {m : Nat} (ih : ∀ t ks, kinds P m t = some ks → ks.length = P.cellsOf t) : ∀ (fs : List Field) (off : Nat) (total : Nat) (ks : List KK), kindsF (kinds P m) fs = some ks → tiles P off fs total = true → off + ks.length = total
  | [], off, total, ks, h, ht => by
    simp [kindsF] at h
    subst h
    simpa [tiles] using ht
  | f :: fs, off, total, ks, h, ht => by
    simp only [kindsF] at h
    split at h
    · cases h
    · split at h
      · rename_i a b ha hb
        cases h
        simp only [tiles, Bool.and_eq_true] at ht
        have := kindsF_len ih fs _ _ _ hb ht.2
        have := ih _ _ ha
        simp
        omega
      · cases h

theorem flat_rep {α : Type} (n : Nat) (l : List α) : (List.replicate n l).flatten.length = n * l.length := by
  simp [List.length_flatten]

theorem kinds_len {P : Program} : ∀ (m : Nat) (t : TypeId) (ks : List KK), kinds P m t = some ks → ks.length = P.cellsOf t
  | 0, t, ks, h => by simp [kinds] at h
  | m + 1, t, ks, h => by
    have ih := kinds_len (P := P) m
    simp only [kinds] at h
    split at h
    · cases h
    · split at h
      · split at h
        · cases h; simp [*]
        · cases h
      · split at h
        · cases h; simp [*]
        · cases h
      · split at h
        · cases h; simp [*]
        · cases h
      · split at h
        · rename_i hh
          have := kindsF_len ih _ _ _ _ h hh.2
          omega
        · cases h
      · rename_i n' e' _
        split at h
        · rename_i hh
          cases he : kinds P m e' with
          | none => simp [he] at h
          | some l =>
            simp only [he, Option.map_some, Option.some.injEq] at h
            subst h
            rw [flat_rep, ih _ _ he, hh]
        · cases h
      · cases h

section
variable {P : Program} {h : Gh} {ρ : Rn}

/-- '==' of the parts of two values, of a plain type. -/
def EqAt (P : Program) (h : Gh) (ρ : Rn) (t : TypeId) (ks : List KK) (n : Nat) : Prop :=
  ∀ (xs ys : Array Value) (off : Nat) (ds es : List D) (b : Bool) (w : World), Row h ρ xs off ds → Row h ρ ys off es → okK ks ds = true → okK ks es = true → dEqL ds es = some b →
    ((do let x ← Go.part t xs off; let y ← Go.part t ys off; Op.equalIn n t x y : Sem Bool)).run P w = .ok b w

theorem eqFields_ok {n : Nat} {kf : TypeId → Option (List KK)} (hkf : ∀ t ks, kf t = some ks → ks.length = P.cellsOf t) (ih : ∀ t ks, kf t = some ks → EqAt P h ρ t ks n) :
    ∀ (fs : List Field) (off total : Nat) (ks : List KK), kindsF kf fs = some ks → tiles P off fs total = true →
      ∀ (xs ys : Array Value) (ds es : List D) (b : Bool) (w : World), Row h ρ xs off ds → Row h ρ ys off es → okK ks ds = true → okK ks es = true → dEqL ds es = some b →
        (Op.eqFields n xs ys fs).run P w = .ok b w
  | [], off, total, ks, hk, ht, xs, ys, ds, es, b, w, r1, r2, o1, o2, e => by
    simp [kindsF] at hk
    subst hk
    cases ds <;> simp [okK] at o1
    cases es <;> simp [okK] at o2
    simp [dEqL] at e
    subst e
    rfl
  | f :: fs, off, total, ks, hk, ht, xs, ys, ds, es, b, w, r1, r2, o1, o2, e => by
    simp only [kindsF] at hk
    split at hk
    · cases hk
    · rename_i hnm
      split at hk
      · rename_i a b' ha hb
        cases hk
        simp only [tiles, Bool.and_eq_true, beq_iff_eq] at ht
        obtain ⟨hoff, ht⟩ := ht
        have hla := hkf _ _ ha
        obtain ⟨p1, q1⟩ := okK_app o1
        obtain ⟨p2, q2⟩ := okK_app o2
        have l1 := okK_len p1
        have l2 := okK_len p2
        have e' : dEqL (ds.take a.length ++ ds.drop a.length) (es.take a.length ++ es.drop a.length) = some b := by simpa using e
        rw [dEqL_app _ _ (by rw [l1, l2])] at e'
        simp only [Op.eqFields]
        rw [if_pos hnm, hoff]
        have key : ∀ c, dEqL (ds.take a.length) (es.take a.length) = some c → ((do let x ← Go.part f.type xs off; let y ← Go.part f.type ys off; Op.equalIn n f.type x y : Sem Bool)).run P w = .ok c w :=
          fun c hc => ih _ _ ha xs ys off _ _ c w (r1.take _) (r2.take _) p1 p2 hc
        cases hc : dEqL (ds.take a.length) (es.take a.length) with
        | none => rw [hc] at e'; cases e'
        | some c =>
          have k := key c hc
          simp only [Sem.run_bind] at k ⊢
          generalize (Go.part f.type xs off).run P w = r at k ⊢
          cases r with
          | halt x w1 => simp at k
          | ok x w1 =>
            simp only [Result.andThen_ok] at k ⊢
            generalize (Go.part f.type ys off).run P w1 = r at k ⊢
            cases r with
            | halt x w1 => simp at k
            | ok y w2 =>
              simp only [Result.andThen_ok] at k ⊢
              rw [k]
              simp only [Result.andThen_ok]
              rw [hc] at e'
              cases c
              · simp at e'
                subst e'
                simp
              · simp only [Bool.not_true, Bool.false_eq_true, if_false]
                have := r1.drop a.length
                have := r2.drop a.length
                exact eqFields_ok hkf ih fs (off + P.cellsOf f.type) total b' hb ht xs ys _ _ b w (by rw [← hla]; exact r1.drop _) (by rw [← hla]; exact r2.drop _) q1 q2 (by simpa using e')
      · cases hk

theorem isAg_of {t : TypeId} {d : TypeDesc} (hd : P.underlying t = some d) : isAg P t = (match d with | .struct _ | .array _ _ => true | _ => false) := by
  simp only [isAg, hd]
  cases d <;> rfl

/-- The loop of an array's '=='. -/
theorem eqArr_ok {n : Nat} {e : TypeId} {ks : List KK} (hl : ks.length = P.cellsOf e) (ih : EqAt P h ρ e ks n) :
    ∀ (k i : Nat) (xs ys : Array Value) (ds es : List D) (b : Bool) (w : World), Row h ρ xs (i * P.cellsOf e) ds → Row h ρ ys (i * P.cellsOf e) es →
      okK (List.replicate k ks).flatten ds = true → okK (List.replicate k ks).flatten es = true → dEqL ds es = some b →
        ((forIn (List.range' i k) ((none, ()) : Option Bool × Unit) fun i r => do
            let x ← Go.part e xs (i * P.cellsOf e); let y ← Go.part e ys (i * P.cellsOf e)
            if !(← Op.equalIn n e x y) then pure (.done (some false, ())) else pure (.yield (none, ())) : Sem (Option Bool × Unit))).run P w = .ok (if b then none else some false, ()) w
  | 0, i, xs, ys, ds, es, b, w, r1, r2, o1, o2, eq => by
    simp at o1 o2
    cases ds <;> simp [okK] at o1
    cases es <;> simp [okK] at o2
    simp [dEqL] at eq
    subst eq
    simp
  | k + 1, i, xs, ys, ds, es, b, w, r1, r2, o1, o2, eq => by
    simp only [List.replicate_succ, List.flatten_cons] at o1 o2
    obtain ⟨p1, q1⟩ := okK_app o1
    obtain ⟨p2, q2⟩ := okK_app o2
    have l1 := okK_len p1
    have l2 := okK_len p2
    have e' : dEqL (ds.take ks.length ++ ds.drop ks.length) (es.take ks.length ++ es.drop ks.length) = some b := by simpa using eq
    rw [dEqL_app _ _ (by rw [l1, l2])] at e'
    cases hc : dEqL (ds.take ks.length) (es.take ks.length) with
    | none => rw [hc] at e'; cases e'
    | some c =>
      have k' := ih xs ys _ _ _ c w (r1.take _) (r2.take _) p1 p2 hc
      simp only [List.range'_succ, List.forIn_cons, Sem.run_bind] at k' ⊢
      generalize (Go.part e xs (i * P.cellsOf e)).run P w = r at k' ⊢
      cases r with
      | halt x w1 => simp at k'
      | ok x w1 =>
        simp only [Result.andThen_ok] at k' ⊢
        generalize (Go.part e ys (i * P.cellsOf e)).run P w1 = r at k' ⊢
        cases r with
        | halt x w1 => simp at k'
        | ok y w2 =>
          simp only [Result.andThen_ok] at k' ⊢
          rw [k']
          simp only [Result.andThen_ok]
          rw [hc] at e'
          cases c
          · simp at e'
            subst e'
            simp
          · simp only [Bool.not_true, Bool.false_eq_true, if_false, Sem.run_pure, Result.andThen_ok]
            have h1 := r1.drop ks.length
            have h2 := r2.drop ks.length
            rw [hl, ← Nat.succ_mul] at h1 h2
            rw [hl] at q1 q2 e'
            exact eqArr_ok hl ih k (i + 1) xs ys _ _ b w h1 h2 q1 q2 (by simpa using e')

theorem kinds_scalar {n : Nat} {t : TypeId} {k0 : KK} {d : TypeDesc} (hd : P.underlying t = some d) (ha : isAg P t = false) (h1 : P.cellsOf t = 1)
    (hs : ∀ (x y : D) (vx vy : Value) (b : Bool) (w : World), RelV h ρ x vx → RelV h ρ y vy → okK [k0] [x] = true → okK [k0] [y] = true → dEqL [x] [y] = some b → (Op.equalIn n t vx vy).run P w = .ok b w) : EqAt P h ρ t [k0] n := by
  intro xs ys off ds es b w r1 r2 o1 o2 e
  obtain ⟨x, vx, rfl, hx, rx⟩ := r1.single (okK_len o1)
  obtain ⟨y, vy, rfl, hy, ry⟩ := r2.single (okK_len o2)
  simp only [Sem.run_bind, run_part hd (by omega), ha, hx, hy, Bool.false_eq_true, if_false, Result.andThen_ok]
  exact hs x y vx vy b w rx ry o1 o2 e

theorem eqAt_of_kinds : ∀ (m : Nat) (t : TypeId) (ks : List KK), kinds P m t = some ks → ∀ n, m ≤ n → EqAt P h ρ t ks n
  | 0, t, ks, hk, _, _ => by simp [kinds] at hk
  | m + 1, t, ks, hk, n, hn => by
    have ih := eqAt_of_kinds m
    have hlen := kinds_len _ _ _ hk
    obtain ⟨n, rfl⟩ : ∃ n', n = n' + 1 := ⟨n - 1, by omega⟩
    simp only [kinds] at hk
    split at hk
    · cases hk
    · rename_i hpos
      split at hk
      · rename_i k hd
        split at hk
        · rename_i h1
          cases hk
          refine kinds_scalar hd (by simp [isAg_of hd]) h1 fun x y vx vy b w rx ry ox oy e => ?_
          cases x <;> simp [okK] at ox
          cases y <;> simp [okK] at oy
          cases rx; cases ry
          rename_i k1 a1 k2 a2
          simp only [dEqL, dEq] at e
          by_cases hkk : k1 = k2
          · subst hkk
            simp only [if_true] at e
            rw [run_equalIn_int w n t _ k _ _ hd]
            cases hb : (a1 == a2) <;> simp [hb] at e <;> simp [e]
          · simp [hkk] at e
        · cases hk
      · rename_i hd
        split at hk
        · rename_i h1
          cases hk
          refine kinds_scalar hd (by simp [isAg_of hd]) h1 fun x y vx vy b w rx ry ox oy e => ?_
          cases x <;> simp [okK] at ox
          cases y <;> simp [okK] at oy
          cases rx; cases ry
          rename_i a1 a2
          simp only [dEqL, dEq] at e
          rw [run_equalIn_bool' w n t _ _ hd]
          cases hb : (a1 == a2) <;> simp [hb] at e <;> simp [e]
        · cases hk
      · rename_i hd
        split at hk
        · rename_i h1
          cases hk
          refine kinds_scalar hd (by simp [isAg_of hd]) h1 fun x y vx vy b w rx ry ox oy e => ?_
          cases x <;> simp [okK] at ox
          cases y <;> simp [okK] at oy
          cases rx with | str _ s1 e1 => cases ry with | str _ s2 e2 =>
          subst e1 e2
          simp only [dEqL, dEq] at e
          rw [run_equalIn_string w n t _ _ hd, ByteArray.toList_eq, ByteArray.toList_eq]
          cases hb : (s1.data.toList == s2.data.toList) <;> simp only [hb] at e <;> simpa using e
        · cases hk
      · rename_i fs hd
        split at hk
        · rename_i hh
          have hfo : P.fieldsOf t = fs := by simp [Program.fieldsOf, hd]
          intro xs ys off ds es b w r1 r2 o1 o2 e
          simp only [Sem.run_bind, run_part hd (by omega), isAg_of hd, if_true, Result.andThen_ok]
          rw [run_equalIn_agg w n t _ _ (by rw [hfo]; exact hd) hh.1, hfo]
          have l1 := okK_len o1
          have l2 := okK_len o2
          exact eqFields_ok (kinds_len m) (fun t ks hk => ih t ks hk n (by omega)) fs.toList 0 _ ks hk hh.2 _ _ ds es b w (r1.extract _ (by omega)) (r2.extract _ (by omega)) o1 o2 e
        · cases hk
      · rename_i k el hd
        split at hk
        · rename_i hh
          cases he : kinds P m el with
          | none => simp [he] at hk
          | some l =>
            simp only [he, Option.map_some, Option.some.injEq] at hk
            subst hk
            intro xs ys off ds es b w r1 r2 o1 o2 e
            have l1 := okK_len o1
            have l2 := okK_len o2
            have hpe := (kinds_some he).1
            simp only [Sem.run_bind, run_part hd (by omega), isAg_of hd, if_true, Result.andThen_ok]
            have x1 := r1.extract (P.cellsOf t) (by omega)
            have x2 := r2.extract (P.cellsOf t) (by omega)
            have key := eqArr_ok (kinds_len m _ _ he) (ih el l he n (by omega)) k 0 _ _ ds es b w (by simpa using x1) (by simpa using x2) o1 o2 e
            simp only [Op.equalIn, Sem.run_bind, run_underlying hd, Result.andThen_ok, run_sizeOf hpe]
            simp only [Std.Legacy.Range.forIn_eq_forIn_range', Std.Legacy.Range.size]
            rw [show (k - 0 + 1 - 1) / 1 = k from by simp, key]
            cases b <;> simp
        · cases hk
      · cases hk
end
end Go.Lv
