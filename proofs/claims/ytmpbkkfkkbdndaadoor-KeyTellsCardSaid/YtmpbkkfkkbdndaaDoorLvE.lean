/- LvE: operations that leave the heap alone. -/
import Derived.Test.YtmpbkkfkkbdndaaDoorLvD
import Derived.Laws.Build
namespace Go.Lv
open Go
set_option linter.unusedVariables false
set_option linter.unusedSimpArgs false

/-- What an operation leaves behind. -/
def Out (w0 : World) (M0 : Nat → Prop) (hI h : Gh) (ρ : Rn) (H' : Hp) (d : D) (r : Result Next) : Prop :=
  ∃ v w' h' ρ', (r = .ok (.value v) w' ∨ (r = .ok .skip w' ∧ v = undef)) ∧ GLe h h' ∧ RLe ρ ρ' ∧ Sim w0 M0 hI h' ρ' H' w' ∧ RelV h' ρ' d v

theorem run_v {P : Program} {w : World} (s : Sem Value) : (do pure (Next.value (← s)) : Sem Next).run P w = (s.run P w).andThen fun v w' => .ok (.value v) w' := by simp
theorem run_u {P : Program} {w : World} (s : Sem Unit) : (do s; pure Next.skip : Sem Next).run P w = (s.run P w).andThen fun _ w' => .ok .skip w' := by simp

section
variable {P : Program} {w0 : World} {M0 : Nat → Prop} {hI h : Gh} {ρ : Rn} {H : Hp} {w : World}

theorem Out.same {d : D} {v : Value} {r : Result Next} (hS : Sim w0 M0 hI h ρ H w) (hr : r = .ok (.value v) w) (hv : RelV h ρ d v) : Out w0 M0 hI h ρ H d r :=
  ⟨v, w, h, ρ, .inl hr, .refl _, .refl _, hS, hv⟩

theorem Out.sem {d : D} {v : Value} {s : Sem Value} (hS : Sim w0 M0 hI h ρ H w) (hr : s.run P w = .ok v w) (hv : RelV h ρ d v) :
    Out w0 M0 hI h ρ H d ((do pure (Next.value (← s)) : Sem Next).run P w) := .same hS (by rw [run_v, hr]; rfl) hv

theorem ty_ptr {t : TypeId} (ht : ty P t = .ptr) : ∃ el, P.underlying t = some (.pointer el) := by
  unfold ty at ht
  split at ht <;> first | exact ⟨_, by assumption⟩ | cases ht
theorem ty_bool {t : TypeId} (ht : ty P t = .bool) : P.underlying t = some .bool := by
  unfold ty at ht
  split at ht <;> first | assumption | cases ht
theorem ty_str {t : TypeId} (ht : ty P t = .str) : P.underlying t = some .string := by
  unfold ty at ht
  split at ht <;> first | assumption | cases ht
theorem ty_int {t : TypeId} {k : IntKind} (ht : ty P t = .int k) : P.underlying t = some (.int k) := by
  unfold ty at ht
  split at ht <;> first | (cases ht; assumption) | cases ht
theorem ty_slice {t : TypeId} {e sz bytes : Nat} {ag : Bool} (ht : ty P t = .slice e sz bytes ag) : P.underlying t = some (.slice e) ∧ sz = szOf P e ∧ bytes = P.bytesOf e ∧ ag = isAg P e := by
  unfold ty at ht
  split at ht <;> first | (cases ht; exact ⟨by assumption, rfl, rfl, rfl⟩) | cases ht
theorem ty_struct {t : TypeId} {fs : List FI} (ht : ty P t = .struct fs) : ∃ fa, P.underlying t = some (.struct fa) ∧ fs = fa.toList.map fun f => ⟨f.offset, szOf P f.type, isAg P f.type⟩ := by
  unfold ty at ht
  split at ht <;> first | (cases ht; exact ⟨_, by assumption, rfl⟩) | cases ht
theorem ty_arr {t : TypeId} {n sz : Nat} {ag : Bool} (ht : ty P t = .arr n sz ag) : ∃ e, P.underlying t = some (.array n e) ∧ sz = szOf P e ∧ ag = isAg P e := by
  unfold ty at ht
  split at ht <;> first | (cases ht; exact ⟨_, by assumption, rfl, rfl⟩) | cases ht

theorem run_eqPtr {t el : TypeId} (hu : P.underlying t = some (.pointer el)) (a b : Option Addr) (hab : a = none ∨ b = none) : (Op.equal t (.pointer a) (.pointer b)).run P w = .ok (a.isNone && b.isNone) w := by
  unfold Op.equal Op.maxDepth
  have key : ∀ n, (Op.equalIn (n + 1) t (.pointer a) (.pointer b)).run P w = .ok (a.isNone && b.isNone) w := by
    intro n
    simp only [Op.equalIn, Sem.run_bind, run_underlying hu, Result.andThen_ok]
    rcases hab with rfl | rfl
    · simp
    · cases a <;> simp
  exact key 9999

theorem run_eqBool {t : TypeId} (hu : P.underlying t = some .bool) (a b : Bool) : (Op.equal t (.bool a) (.bool b)).run P w = .ok (a == b) w := by
  unfold Op.equal Op.maxDepth
  exact run_equalIn_bool' w 9999 t a b hu

theorem kinds_no_guard : ∀ (m : Nat) (t : TypeId) (ks : List KK), kinds P m t = some ks → ∀ n, m ≤ n → P.eqGuardType n t = false
  | 0, t, ks, hk, _, _ => by simp [kinds] at hk
  | m + 1, t, ks, hk, n, hn => by
    obtain ⟨n, rfl⟩ : ∃ n', n = n' + 1 := ⟨n - 1, by omega⟩
    have ih := kinds_no_guard m
    simp only [kinds] at hk
    simp only [Program.eqGuardType]
    split at hk
    · cases hk
    · split at hk
      · rename_i hd; simp [hd]
      · rename_i hd; simp [hd]
      · rename_i hd; simp [hd]
      · rename_i fs hd
        simp only [hd]
        split at hk
        · have key : ∀ (l : List Field) (ks : List KK), kindsF (kinds P m) l = some ks → (l.any fun f => f.name != "_" && P.eqGuardType n f.type) = false := by
            intro l
            induction l with
            | nil => intro _ _; rfl
            | cons f l ihl =>
              intro ks hk
              simp only [kindsF] at hk
              split at hk
              · cases hk
              · split at hk
                · rename_i a b ha hb
                  simp only [List.any_cons, ihl _ hb, ih _ _ ha n (by omega), Bool.and_false, Bool.or_false]
                · cases hk
          rw [← Array.any_toList]
          exact key _ _ hk
        · cases hk
      · rename_i k el hd
        simp only [hd]
        split at hk
        · cases he : kinds P m el with
          | none => simp [he] at hk
          | some l => exact ih _ _ he n (by omega)
        · cases hk
      · cases hk

theorem run_binT {op : BinOp} {t : TypeId} {xo yo : Operand} {x y : D} {vx vy : Value} {d : D} (hx : RelV h ρ x vx) (hy : RelV h ρ y vy) (e : dBinT P op t x y = some d) :
    ∃ v, ((do eqGuard op t xo yo vx vy; binOp op t vx vy : Sem Value)).run P w = .ok v w ∧ RelV h ρ d v := by
  have ptr : ∀ (a b : Option Addr) (r : Bool) (d : D), ty P t = .ptr → (a = none ∨ b = none) → r = (a.isNone && b.isNone) → dEqO op (some r) = some d →
      ∃ v, ((do eqGuard op t xo yo (.pointer a) (.pointer b); binOp op t (.pointer a) (.pointer b) : Sem Value)).run P w = .ok v w ∧ RelV h ρ d v := by
    intro a b r d ht hab hr he
    obtain ⟨el, hu⟩ := ty_ptr ht
    have hq := run_eqPtr (w := w) hu a b hab
    rw [← hr] at hq
    simp only [eqGuard_at_pointer, Sem.run_bind, Sem.run_pure, Result.andThen_ok]
    cases op <;> simp only [dEqO] at he <;> first
      | (cases he; done)
      | (cases he; exact ⟨_, by simp [binOp, hq], .bool _⟩)
  unfold dBinT at e
  split at e
  · rename_i xs
    split at e
    · rename_i ys ks hkA
      unfold kindsA at hkA
      split at hkA
      case isFalse => cases hkA
      rename_i hh0
      obtain ⟨hag, hdep⟩ := hh0
      rename kinds P 9 t = some ks => hk
      split at e
      · rename_i hh
        obtain ⟨o1, o2⟩ := hh
        cases hx with | agg _ vs hs h1 us hu hr =>
        cases hy with | agg _ vs' hs' h1' us' hu' hr' =>
        have hg := kinds_no_guard 9 t ks hk P.depth hdep
        rw [Sem.run_bind, run_eqGuard_agg w op t xo yo _ _ hg, Result.andThen_ok]
        have rx : Row h ρ vs 0 xs := fun j d hj => ⟨us j, by simpa using hu j (List.getElem?_eq_some_iff.1 hj).1, h1 _ _ (hu j (List.getElem?_eq_some_iff.1 hj).1), hr j d hj⟩
        have ry : Row h ρ vs' 0 ys := fun j d hj => ⟨us' j, by simpa using hu' j (List.getElem?_eq_some_iff.1 hj).1, h1' _ _ (hu' j (List.getElem?_eq_some_iff.1 hj).1), hr' j d hj⟩
        have hl := kinds_len _ _ _ hk
        obtain ⟨hpos, dd, hd⟩ := kinds_some hk
        have lx := okK_len o1
        have ly := okK_len o2
        · cases heq : dEqL xs ys with
          | none => rw [heq] at e; cases e
          | some b =>
            have key := eqAt_of_kinds 9 t ks hk 10000 (by omega) vs vs' 0 xs ys b w rx ry o1 o2 heq
            simp only [Sem.run_bind, run_part hd hpos, hag, if_true, Result.andThen_ok] at key
            rw [show vs.extract 0 (0 + P.cellsOf t) = vs from by rw [Nat.zero_add, ← hl, ← lx, ← hs]; simp, show vs'.extract 0 (0 + P.cellsOf t) = vs' from by rw [Nat.zero_add, ← hl, ← ly, ← hs']; simp] at key
            rw [heq] at e
            cases op <;> simp only [dEqO] at e <;> first
              | (cases e; done)
              | (cases e; refine ⟨_, ?_, .bool _⟩; rw [run_eql_struct, key]; rfl)
              | (cases e; refine ⟨_, ?_, .bool _⟩; rw [run_neq_struct, key]; rfl)
      · cases e
    · cases e
  · split at e
    · rename_i ht
      cases hx; cases hy
      exact ptr _ _ false d ht (.inr rfl) (by simp) e
    · cases e
  · split at e
    · rename_i ht
      cases hx; cases hy
      exact ptr _ _ false d ht (.inr rfl) (by simp) e
    · cases e
  · split at e
    · rename_i ht
      cases hx; cases hy
      exact ptr _ _ true d ht (.inr rfl) (by simp) e
    · cases e
  · split at e
    · rename_i ht
      have hb := ty_bool ht
      cases hx; cases hy
      simp only [eqGuard_at_bool, Sem.run_bind, Sem.run_pure, Result.andThen_ok]
      cases op <;> simp only [dEqO] at e <;> first
        | (cases e; done)
        | (cases e; exact ⟨_, by simp [binOp, run_eqBool hb], .bool _⟩)
    · cases e
  · cases x <;> simp only [dBin] at e <;> try (cases e; done)
    · cases y <;> simp only at e <;> try (cases e; done)
      cases hx; cases hy
      simp only [eqGuard_at_int, Sem.run_bind, Sem.run_pure, Result.andThen_ok]
      exact run_binOp_int (by simp only [dBin]; exact e)
    · cases y <;> simp only at e <;> try (cases e; done)
      cases hx with | str _ s1 e1 => cases hy with | str _ s2 e2 =>
      subst e1 e2
      simp only [eqGuard_at_string, Sem.run_bind, Sem.run_pure, Result.andThen_ok]
      exact run_binOp_str (by simp only [dBin]; exact e)

theorem szOf_pos {t : TypeId} (hp : 0 < szOf P t) : szOf P t = P.cellsOf t ∧ ∃ d, P.underlying t = some d := by
  unfold szOf at *
  split at hp
  · rename_i hs
    rw [if_pos hs]
    exact ⟨rfl, Option.isSome_iff_exists.1 hs⟩
  · omega
theorem run_sizeOf' {t : TypeId} (hp : 0 < szOf P t) : (sizeOf t).run P w = .ok (szOf P t) w := by
  obtain ⟨h1, _⟩ := szOf_pos hp
  rw [h1] at hp ⊢
  exact run_sizeOf hp
theorem run_isAgg' {t : TypeId} (hp : 0 < szOf P t) : (isAgg t).run P w = .ok (isAg P t) w := by
  obtain ⟨_, d, hd⟩ := szOf_pos hp
  exact run_isAgg hd

theorem Row.oneC {cs : Array Value} {off : Nat} {ds : List D} (r : Row h ρ cs off ds) : ∀ (j : Nat) (v : Value), j < ds.length → cs[off + j]? = some v → v.oneCell' = true := by
  intro j v hj hv
  obtain ⟨u, a, b, _⟩ := r j ds[j] (by simp [hj])
  rw [a] at hv
  cases hv
  exact b

/-- A row's cells as a value. -/
theorem Row.agg {cs : Array Value} {off : Nat} {ds : List D} (r : Row h ρ cs off ds) : RelV h ρ (.agg ds) (.agg (cs.extract off (off + ds.length))) := by
  have hsz : (cs.extract off (off + ds.length)).size = ds.length := by
    cases hl : ds.length with
    | zero => simp; omega
    | succ n =>
      obtain ⟨u, a, _⟩ := r n ds[n] (by simp [hl])
      have := (Array.getElem?_eq_some_iff.1 a).1
      simp
      omega
  have hget : ∀ j, j < ds.length → (cs.extract off (off + ds.length))[j]? = cs[off + j]? := by
    intro j hj
    rw [Array.getElem?_extract]
    rw [if_pos]
    obtain ⟨u, a, _⟩ := r j ds[j] (by simp [hj])
    have := (Array.getElem?_eq_some_iff.1 a).1
    omega
  refine .agg ds _ hsz (fun j v hj => ?_) (fun j => (cs.extract off (off + ds.length)).getD j undef) (fun j hj => ?_) (fun j d hj => ?_)
  · have hlt : j < ds.length := by rw [← hsz]; exact (Array.getElem?_eq_some_iff.1 hj).1
    rw [hget j hlt] at hj
    exact r.oneC j v hlt hj
  · rw [Array.getD_eq_getD_getElem?, hget j hj]
    obtain ⟨u, a, _⟩ := r j ds[j] (by simp [hj])
    rw [a]
    rfl
  · have hlt : j < ds.length := (List.getElem?_eq_some_iff.1 hj).1
    rw [Array.getD_eq_getD_getElem?, hget j hlt]
    obtain ⟨u, a, _, c⟩ := r j d hj
    rw [a]
    exact c

theorem nth_get : ∀ (l : List D) (n : Nat), nth l n = (l[n]?).getD .und
  | [], n => by simp [nth]
  | d :: l, 0 => by simp [nth]
  | d :: l, n + 1 => by simp [nth, nth_get l n]

/-- A part of cells. -/
theorem run_partD {t : TypeId} {ds : List D} {cs : Array Value} {off0 off : Nat} {d : D} (r : Row h ρ cs off0 ds) (e : part (isAg P t) ds off (szOf P t) = some d) :
    ∃ v, (Go.part t cs (off0 + off)).run P w = .ok v w ∧ RelV h ρ d v := by
  unfold part at e
  split at e
  · rename_i hh
    obtain ⟨hle, hp, hag⟩ := hh
    obtain ⟨hsz, dd, hd⟩ := szOf_pos hp
    rw [run_part hd (by omega)]
    cases ha : isAg P t
    · simp only [ha, Bool.false_eq_true, false_or, if_false, Option.some.injEq] at hag e ⊢
      subst e
      have hlt : off < ds.length := by omega
      obtain ⟨u, a, b, c⟩ := r off ds[off] (by simp)
      rw [a]
      refine ⟨u, rfl, ?_⟩
      rw [nth_get]
      rw [List.getElem?_eq_getElem (by omega)]
      exact c
    · simp only [ha, if_true, Option.some.injEq] at e ⊢
      subst e
      have r2 := ((r.drop off).take (szOf P t)).agg
      have : ((ds.drop off).take (szOf P t)).length = szOf P t := by simp; omega
      rw [this] at r2
      rw [← hsz]
      exact ⟨_, rfl, r2⟩
  · cases e
end
end Go.Lv
