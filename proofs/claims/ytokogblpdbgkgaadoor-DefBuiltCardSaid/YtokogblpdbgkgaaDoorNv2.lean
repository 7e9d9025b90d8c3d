/- LvE: operations that leave the heap alone. -/
import Derived.Test.YtokogblpdbgkgaaDoorNv1
import Derived.Laws.Build
namespace Go.Lv
open Go
set_option linter.unusedVariables false
set_option linter.unusedSimpArgs false

/-- What an operation leaves behind. -/
def Out (w0 : World) (M0 : Nat → Prop) (hI h : Gh) (ρ : Rn) (H' : Hp) (d : D) (r : Result Next) : Prop :=
  ∃ v w' h' ρ', (r = .ok (.value v) w' ∨ (r = .ok .skip w' ∧ v = undef)) ∧ GLe h h' ∧ RLe ρ ρ' ∧ Sim w0 M0 hI h' ρ' H' w' ∧ RelV h' ρ' d v

theorem run_v {P : Program} {w : World} (s : Sem Value) : (do pure (Next.value (← s)) : Sem Next).run P w = (s.run P w).andThen fun v w' => .ok (.value v) w' := by simp
theorem run_u {P : Program} {w : World} (s : Sem Unit) : (do s; pure Next.skip : Sem Next).run P w = (s.run P w).andThen fun _ w' => .ok .skip w' := by simp

section
variable {P : Program} {w0 : World} {M0 : Nat → Prop} {hI h : Gh} {ρ : Rn} {H : Hp} {w : World}

theorem Out.same {d : D} {v : Value} {r : Result Next} (hS : Sim w0 M0 hI h ρ H w) (hr : r = .ok (.value v) w) (hv : RelV h ρ d v) : Out w0 M0 hI h ρ H d r :=
  ⟨v, w, h, ρ, .inl hr, .refl _, .refl _, hS, hv⟩

theorem Out.sem {d : D} {v : Value} {s : Sem Value} (hS : Sim w0 M0 hI h ρ H w) (hr : s.run P w = .ok v w) (hv : RelV h ρ d v) :
    Out w0 M0 hI h ρ H d ((do pure (Next.value (← s)) : Sem Next).run P w) := .same hS (by rw [run_v, hr]; rfl) hv

theorem ty_ptr {t : TypeId} (ht : ty P t = .ptr) : ∃ el, P.underlying t = some (.pointer el) := by
  unfold ty at ht
  split at ht <;> first | exact ⟨_, by assumption⟩ | cases ht
theorem ty_bool {t : TypeId} (ht : ty P t = .bool) : P.underlying t = some .bool := by
  unfold ty at ht
  split at ht <;> first | assumption | cases ht
theorem ty_str {t : TypeId} (ht : ty P t = .str) : P.underlying t = some .string := by
  unfold ty at ht
  split at ht <;> first | assumption | cases ht
theorem ty_int {t : TypeId} {k : IntKind} (ht : ty P t = .int k) : P.underlying t = some (.int k) := by
  unfold ty at ht
  split at ht <;> first | (cases ht; assumption) | cases ht
theorem ty_slice {t : TypeId} {e sz bytes : Nat} {ag : Bool} (ht : ty P t = .slice e sz bytes ag) : P.underlying t = some (.slice e) ∧ sz = szOf P e ∧ bytes = P.bytesOf e ∧ ag = isAg P e := by
  unfold ty at ht
  split at ht <;> first | (cases ht; exact ⟨by assumption, rfl, rfl, rfl⟩) | cases ht
theorem ty_struct {t : TypeId} {fs : List FI} (ht : ty P t = .struct fs) : ∃ fa, P.underlying t = some (.struct fa) ∧ fs = fa.toList.map fun f => ⟨f.offset, szOf P f.type, isAg P f.type⟩ := by
  unfold ty at ht
  split at ht <;> first | (cases ht; exact ⟨_, by assumption, rfl⟩) | cases ht
theorem ty_arr {t : TypeId} {n sz : Nat} {ag : Bool} (ht : ty P t = .arr n sz ag) : ∃ e, P.underlying t = some (.array n e) ∧ sz = szOf P e ∧ ag = isAg P e := by
  unfold ty at ht
  split at ht <;> first | (cases ht; exact ⟨_, by assumption, rfl, rfl⟩) | cases ht

theorem run_eqPtr {t el : TypeId} (hu : P.underlying t = some (.pointer el)) (a b : Option Addr) (hab : a = none ∨ b = none) : (Op.equal t (.pointer a) (.pointer b)).run P w = .ok (a.isNone && b.isNone) w := by
  unfold Op.equal Op.maxDepth
  have key : ∀ n, (Op.equalIn (n + 1) t (.pointer a) (.pointer b)).run P w = .ok (a.isNone && b.isNone) w := by
    intro n
    simp only [Op.equalIn, Sem.run_bind, run_underlying hu, Result.andThen_ok]
    rcases hab with rfl | rfl
    · simp
    · cases a <;> simp
  exact key 9999

theorem run_eqBool {t : TypeId} (hu : P.underlying t = some .bool) (a b : Bool) : (Op.equal t (.bool a) (.bool b)).run P w = .ok (a == b) w := by
  unfold Op.equal Op.maxDepth
  exact run_equalIn_bool' w 9999 t a b hu

theorem kinds_no_guard : ∀ (m : Nat) (t : TypeId) (ks : List KK), kinds P m t = some ks → ∀ n, m ≤ n → P.eqGuardType n t = false
  | 0, t, ks, hk, _, _ => by simp [kinds] at hk
  | m + 1, t, ks, hk, n, hn => by
    obtain ⟨n, rfl⟩ : ∃ n', n = n' + 1 := ⟨n - 1, by omega⟩
    have ih := kinds_no_guard m
    simp only [kinds] at hk
    simp only [Program.eqGuardType]
    split at hk
    · cases hk
    · split at hk
      · rename_i hd; simp [hd]
      · rename_i hd; simp [hd]
      · rename_i hd; simp [hd]
      · rename_i fs hd
        simp only [hd]
        split at hk
        · have key : ∀ (l : List Field) (ks : List KK), kindsF (kinds P m) l = some ks → (l.any fun f => f.name != "_" && P.eqGuardType n f.type) = false := by
            intro l
            induction l with
            | nil => intro _ _; rfl
            | cons f l ihl =>
              intro ks hk
              simp only [kindsF] at hk
              split at hk
              · cases hk
              · split at hk
                · rename_i a b ha hb
                  simp only [List.any_cons, ihl _ hb, ih _ _ ha n (by omega), Bool.and_false, Bool.or_false]
                · cases hk
          rw [← Array.any_toList]
          exact key _ _ hk
        · cases hk
      · rename_i k el hd
        simp only [hd]
        split at hk
        · cases he : kinds P m el with
          | none => simp [he] at hk
          | some l => exact ih _ _ he n (by omega)
        · cases hk
      · cases hk

theorem run_binT {op : BinOp} {t : TypeId} {xo yo : Operand} {x y : D} {vx vy : Value} {d : D} (hx : RelV h ρ x vx) (hy : RelV h ρ y vy) (e : dBinT P op t x y = some d) :
    ∃ v, ((do eqGuard op t xo yo vx vy; binOp op t vx vy : Sem Value)).run P w = .ok v w ∧ RelV h ρ d v := by
  have ptr : ∀ (a b : Option Addr) (r : Bool) (d : D), ty P t = .ptr → (a = none ∨ b = none) → r = (a.isNone && b.isNone) → dEqO op (some r) = some d →
      ∃ v, ((do eqGuard op t xo yo (.pointer a) (.pointer b); binOp op t (.pointer a) (.pointer b) : Sem Value)).run P w = .ok v w ∧ RelV h ρ d v := by
    intro a b r d ht hab hr he
    obtain ⟨el, hu⟩ := ty_ptr ht
    have hq := run_eqPtr (w := w) hu a b hab
    rw [← hr] at hq
    simp only [eqGuard_at_pointer, Sem.run_bind, Sem.run_pure, Result.andThen_ok]
    cases op <;> simp only [dEqO] at he <;> first
      | (cases he; done)
      | (cases he; exact ⟨_, by simp [binOp, hq], .bool _⟩)
  unfold dBinT at e
  split at e
  · rename_i xs
    split at e
    · rename_i ys ks hkA
      unfold kindsA at hkA
      split at hkA
      case isFalse => cases hkA
      rename_i hh0
      obtain ⟨hag, hdep⟩ := hh0
      rename kinds P 9 t = some ks => hk
      split at e
      · rename_i hh
        obtain ⟨o1, o2⟩ := hh
        cases hx with | agg _ vs hs h1 us hu hr =>
        cases hy with | agg _ vs' hs' h1' us' hu' hr' =>
        have hg := kinds_no_guard 9 t ks hk P.depth hdep
        rw [Sem.run_bind, run_eqGuard_agg w op t xo yo _ _ hg, Result.andThen_ok]
        have rx : Row h ρ vs 0 xs := fun j d hj => ⟨us j, by simpa using hu j (List.getElem?_eq_some_iff.1 hj).1, h1 _ _ (hu j (List.getElem?_eq_some_iff.1 hj).1), hr j d hj⟩
        have ry : Row h ρ vs' 0 ys := fun j d hj => ⟨us' j, by simpa using hu' j (List.getElem?_eq_some_iff.1 hj).1, h1' _ _ (hu' j (List.getElem?_eq_some_iff.1 hj).1), hr' j d hj⟩
        have hl := kinds_len _ _ _ hk
        obtain ⟨hpos, dd, hd⟩ := kinds_some hk
        have lx := okK_len o1
        have ly := okK_len o2
        · cases heq : dEqL xs ys with
          | none => rw [heq] at e; cases e
          | some b =>
            have key := eqAt_of_kinds 9 t ks hk 10000 (by omega) vs vs' 0 xs ys b w rx ry o1 o2 heq
            simp only [Sem.run_bind, run_part hd hpos, hag, if_true, Result.andThen_ok] at key
            rw [show vs.extract 0 (0 + P.cellsOf t) = vs from by rw [Nat.zero_add, ← hl, ← lx, ← hs]; simp, show vs'.extract 0 (0 + P.cellsOf t) = vs' from by rw [Nat.zero_add, ← hl, ← ly, ← hs']; simp] at key
            rw [heq] at e
            cases op <;> simp only [dEqO] at e <;> first
              | (cases e; done)
              | (cases e; refine ⟨_, ?_, .bool _⟩; rw [run_eql_struct, key]; rfl)
              | (cases e; refine ⟨_, ?_, .bool _⟩; rw [run_neq_struct, key]; rfl)
      · cases e
    · cases e
  · split at e
    · rename_i ht
      cases hx; cases hy
      exact ptr _ _ false d ht (.inr rfl) (by simp) e
    · cases e
  · split at e
    · rename_i ht
      cases hx; cases hy
      exact ptr _ _ false d ht (.inr rfl) (by simp) e
    · cases e
  · split at e
    · rename_i ht
      cases hx; cases hy
      exact ptr _ _ true d ht (.inr rfl) (by simp) e
    · cases e
  · split at e
    · rename_i ht
      have hb := ty_bool ht
      cases hx; cases hy
      simp only [eqGuard_at_bool, Sem.run_bind, Sem.run_pure, Result.andThen_ok]
      cases op <;> simp only [dEqO] at e <;> first
        | (cases e; done)
        | (cases e; exact ⟨_, by simp [binOp, run_eqBool hb], .bool _⟩)
    · cases e
  · cases x <;> simp only [dBin] at e <;> try (cases e; done)
    · cases y <;> simp only at e <;> try (cases e; done)
      cases hx; cases hy
      simp only [eqGuard_at_int, Sem.run_bind, Sem.run_pure, Result.andThen_ok]
      exact run_binOp_int (by simp only [dBin]; exact e)
    · cases y <;> simp only at e <;> try (cases e; done)
      cases hx with | str _ s1 e1 => cases hy with | str _ s2 e2 =>
      subst e1 e2
      simp only [eqGuard_at_string, Sem.run_bind, Sem.run_pure, Result.andThen_ok]
      exact run_binOp_str (by simp only [dBin]; exact e)

theorem szOf_pos {t : TypeId} (hp : 0 < szOf P t) : szOf P t = P.cellsOf t ∧ ∃ d, P.underlying t = some d := by
  unfold szOf at *
  split at hp
  · rename_i hs
    rw [if_pos hs]
    exact ⟨rfl, Option.isSome_iff_exists.1 hs⟩
  · omega
theorem run_sizeOf' {t : TypeId} (hp : 0 < szOf P t) : (sizeOf t).run P w = .ok (szOf P t) w := by
  obtain ⟨h1, _⟩ := szOf_pos hp
  rw [h1] at hp ⊢
  exact run_sizeOf hp
theorem run_isAgg' {t : TypeId} (hp : 0 < szOf P t) : (isAgg t).run P w = .ok (isAg P t) w := by
  obtain ⟨_, d, hd⟩ := szOf_pos hp
  exact run_isAgg hd

theorem Row.oneC {cs : Array Value} {off : Nat} {ds : List D} (r : Row h ρ cs off ds) : ∀ (j : Nat) (v : Value), j < ds.length → cs[off + j]? = some v → v.oneCell' = true := by
  intro j v hj hv
  obtain ⟨u, a, b, _⟩ := r j ds[j] (by simp [hj])
  rw [a] at hv
  cases hv
  exact b

/-- A row's cells as a value. -/
theorem Row.agg {cs : Array Value} {off : Nat} {ds : List D} (r : Row h ρ cs off ds) : RelV h ρ (.agg ds) (.agg (cs.extract off (off + ds.length))) := by
  have hsz : (cs.extract off (off + ds.length)).size = ds.length := by
    cases hl : ds.length with
    | zero => simp; omega
    | succ n =>
      obtain ⟨u, a, _⟩ := r n ds[n] (by simp [hl])
      have := (Array.getElem?_eq_some_iff.1 a).1
      simp
      omega
  have hget : ∀ j, j < ds.length → (cs.extract off (off + ds.length))[j]? = cs[off + j]? := by
    intro j hj
    rw [Array.getElem?_extract]
    rw [if_pos]
    obtain ⟨u, a, _⟩ := r j ds[j] (by simp [hj])
    have := (Array.getElem?_eq_some_iff.1 a).1
    omega
  refine .agg ds _ hsz (fun j v hj => ?_) (fun j => (cs.extract off (off + ds.length)).getD j undef) (fun j hj => ?_) (fun j d hj => ?_)
  · have hlt : j < ds.length := by rw [← hsz]; exact (Array.getElem?_eq_some_iff.1 hj).1
    rw [hget j hlt] at hj
    exact r.oneC j v hlt hj
  · rw [Array.getD_eq_getD_getElem?, hget j hj]
    obtain ⟨u, a, _⟩ := r j ds[j] (by simp [hj])
    rw [a]
    rfl
  · have hlt : j < ds.length := (List.getElem?_eq_some_iff.1 hj).1
    rw [Array.getD_eq_getD_getElem?, hget j hlt]
    obtain ⟨u, a, _, c⟩ := r j d hj
    rw [a]
    exact c

theorem nth_get : ∀ (l : List D) (n : Nat), nth l n = (l[n]?).getD .und
  | [], n => by simp [nth]
  | d :: l, 0 => by simp [nth]
  | d :: l, n + 1 => by simp [nth, nth_get l n]

/-- A part of cells. -/
theorem run_partD {t : TypeId} {ds : List D} {cs : Array Value} {off0 off : Nat} {d : D} (r : Row h ρ cs off0 ds) (e : part (isAg P t) ds off (szOf P t) = some d) :
    ∃ v, (Go.part t cs (off0 + off)).run P w = .ok v w ∧ RelV h ρ d v := by
  unfold part at e
  split at e
  · rename_i hh
    obtain ⟨hle, hp, hag⟩ := hh
    obtain ⟨hsz, dd, hd⟩ := szOf_pos hp
    rw [run_part hd (by omega)]
    cases ha : isAg P t
    · simp only [ha, Bool.false_eq_true, false_or, if_false, Option.some.injEq] at hag e ⊢
      subst e
      have hlt : off < ds.length := by omega
      obtain ⟨u, a, b, c⟩ := r off ds[off] (by simp)
      rw [a]
      refine ⟨u, rfl, ?_⟩
      rw [nth_get]
      rw [List.getElem?_eq_getElem (by omega)]
      exact c
    · simp only [ha, if_true, Option.some.injEq] at e ⊢
      subst e
      have r2 := ((r.drop off).take (szOf P t)).agg
      have : ((ds.drop off).take (szOf P t)).length = szOf P t := by simp; omega
      rw [this] at r2
      rw [← hsz]
      exact ⟨_, rfl, r2⟩
  · cases e
end
end Go.Lv

namespace Go.Lv
open Go
set_option linter.unusedVariables false
set_option linter.unusedSimpArgs false
section
variable {P : Program} {w0 : World} {M0 : Nat → Prop} {hI h : Gh} {ρ : Rn} {H : Hp} {w : World}

theorem run_un {op : UnOp} {x : D} {vx : Value} {d : D} (hx : RelV h ρ x vx) (e : dUn op x = some d) : ∃ v, (Op.unary op vx).run P w = .ok v w ∧ RelV h ρ d v := by
  cases op <;> cases x <;> simp only [dUn] at e <;> first
    | (cases e; done)
    | (cases e; cases hx; exact ⟨_, rfl, .int _ _⟩)
    | (cases e; cases hx; exact ⟨_, rfl, .bool _⟩)

theorem fi_spec {t : TypeId} {i : Nat} {f : FI} (hf : (ty P t).fi i = some f) : ∃ fa fd, P.underlying t = some (.struct fa) ∧ fa[i]? = some fd ∧ f.off = fd.offset ∧ f.sz = szOf P fd.type ∧ f.ag = isAg P fd.type := by
  unfold Ty.fi at hf
  split at hf
  · rename_i fs ht
    obtain ⟨fa, hu, rfl⟩ := ty_struct ht
    rw [List.getElem?_map] at hf
    cases hfa : fa.toList[i]? with
    | none => simp [hfa] at hf
    | some fd =>
      simp only [hfa, Option.map_some, Option.some.injEq] at hf
      subst hf
      exact ⟨fa, fd, hu, by simpa using hfa, rfl, rfl, rfl⟩
  · cases hf

theorem run_field {t : TypeId} {i : Nat} {x : D} {vx : Value} {d : D} (hx : RelV h ρ x vx) (e : dField ((ty P t).fi i) x = some d) : ∃ v, (Instr.field t vx i).run P w = .ok v w ∧ RelV h ρ d v := by
  unfold dField at e
  split at e
  · rename_i f cs hf
    obtain ⟨fa, fd, hu, hfd, h1, h2, h3⟩ := fi_spec hf
    cases hx with | agg _ vs hs hone us hu' hr =>
    have rx : Row h ρ vs 0 cs := fun j d hj => ⟨us j, by simpa using hu' j (List.getElem?_eq_some_iff.1 hj).1, hone _ _ (hu' j (List.getElem?_eq_some_iff.1 hj).1), hr j d hj⟩
    rw [h1, h2, h3] at e
    obtain ⟨v, hv, rv⟩ := run_partD (P := P) (w := w) rx e
    refine ⟨v, ?_, rv⟩
    rw [Nat.zero_add] at hv
    simp [Instr.field, run_underlying hu, hfd, asAgg, hv]
  · cases e

theorem run_fieldAt {t : TypeId} {i : Nat} {x : D} {vx : Value} {d : D} (hx : RelV h ρ x vx) (e : dFieldA ((ty P t).fi i) x = some d) : ∃ v, (Instr.fieldAt t vx i).run P w = .ok v w ∧ RelV h ρ d v := by
  unfold dFieldA at e
  split at e
  · rename_i f cs off hf
    split at e
    · cases e
    · rename_i hz
      cases e
      obtain ⟨fa, fd, hu, hfd, h1, h2, h3⟩ := fi_spec hf
      cases hx with | «at» _ _ b o o' cs' el fz us hb ho hc hone hr =>
      refine ⟨.pointer (some ⟨b, o' + f.off, none⟩), ?_, .at cs _ b o _ cs' el fz us hb (by omega) hc hone hr⟩
      have := run_sizeOf' (P := P) (w := w) (t := fd.type) (by omega)
      simp [Instr.fieldAt, run_underlying hu, hfd, Instr.sureAddr, fieldPlace, this, ← h2, hz, Addr.add_lit, h1]
  · rename_i f b0 off n hf
    split at e
    · cases e
    · rename_i hz
      cases e
      obtain ⟨fa, fd, hu, hfd, h1, h2, h3⟩ := fi_spec hf
      cases hx with | ptr _ _ _ b c s hb =>
      refine ⟨.pointer (some ⟨b, off + f.off, none⟩), ?_, .ptr _ _ _ b c s hb⟩
      have := run_sizeOf' (P := P) (w := w) (t := fd.type) (by omega)
      simp [Instr.fieldAt, run_underlying hu, hfd, Instr.sureAddr, fieldPlace, this, ← h2, hz, Addr.add_lit, h1]
  · cases e

theorem flat_get {xs : List D} {sz : Nat} (hsz : ∀ x ∈ xs, x.cells.length = sz) : ∀ {i : Nat} {x : D}, xs[i]? = some x → ∀ j d, x.cells[j]? = some d → (xs.flatMap D.cells)[i * sz + j]? = some d := by
  induction xs with
  | nil => intro i x hx; simp at hx
  | cons a l ih =>
    intro i x hx j d hj
    simp only [List.flatMap_cons]
    have ha := hsz a (by simp)
    cases i with
    | zero =>
      simp only [List.getElem?_cons_zero, Option.some.injEq] at hx
      subst hx
      have hlt := (List.getElem?_eq_some_iff.1 hj).1
      rw [List.getElem?_append_left (by omega)]
      simpa using hj
    | succ i =>
      rw [List.getElem?_append_right (by rw [ha, Nat.succ_mul]; omega)]
      have := ih (fun x hx => hsz x (by simp [hx])) (i := i) (x := x) (by simpa using hx) j d hj
      rw [ha]
      rw [show (i + 1) * sz + j - sz = i * sz + j from by rw [Nat.succ_mul]; omega]
      exact this

theorem flat_len {xs : List D} {sz : Nat} (hsz : ∀ x ∈ xs, x.cells.length = sz) : (xs.flatMap D.cells).length = xs.length * sz := by
  induction xs with
  | nil => simp
  | cons a l ih =>
    simp only [List.flatMap_cons, List.length_append, List.length_cons]
    rw [ih (fun x hx => hsz x (by simp [hx])), hsz a (by simp), Nat.succ_mul]
    omega

theorem run_idxS {t el : TypeId} (hu : P.underlying t = some (.slice el)) (hp : 0 < szOf P el) (b off len c : Nat) (k : IntKind) (n : Int) (h0 : 0 ≤ n) (h1 : n < len) :
    (Instr.indexAt t (.slice (some ⟨b, off, none⟩) len c) (.int k n)).run P w = .ok (.pointer (some ⟨b, off + n.toNat * szOf P el, none⟩)) w := by
  simp only [Instr.indexAt, asIntOf, Sem.run_bind, Sem.run_pure, Result.andThen_ok, run_underlying hu, Sem.run_ite, run_sizeOf' hp, Addr.add_lit, if_pos (show 0 ≤ n ∧ n < len from ⟨h0, h1⟩)]
theorem run_idxArr {t el : TypeId} {m : Nat} (hu : P.underlying t = some (.array m el)) (hp : 0 < szOf P el) (b off : Nat) (k : IntKind) (n : Int) (h0 : 0 ≤ n) (h1 : n < m) :
    (Instr.indexAt t (.pointer (some ⟨b, off, none⟩)) (.int k n)).run P w = .ok (.pointer (some ⟨b, off + n.toNat * szOf P el, none⟩)) w := by
  simp only [Instr.indexAt, Instr.sureAddr, asIntOf, Sem.run_bind, Sem.run_pure, Result.andThen_ok, run_underlying hu, Sem.run_ite, run_sizeOf' hp, Addr.add_lit, if_pos (show 0 ≤ n ∧ n < m from ⟨h0, h1⟩)]

theorem run_indexAt {t : TypeId} {x i : D} {vx vi : Value} {d : D} (hx : RelV h ρ x vx) (hi : RelV h ρ i vi) (e : dIdxA (ty P t) x i = some d) : ∃ v, (Instr.indexAt t vx vi).run P w = .ok v w ∧ RelV h ρ d v := by
  unfold dIdxA at e
  split at e
  · rename_i el sz bytes ag tt xs k n ht
    obtain ⟨hu, rfl, _, _⟩ := ty_slice ht
    cases hi
    split at e
    · rename_i h0
      obtain ⟨h0, hp⟩ := h0
      split at e
      · rename_i dx hdx
        split at e
        · rename_i hcl
          cases e
          cases hx with
          | lnil t a c ht => simp at hdx
          | list t _ b off n' c sz' cs el' fz us hx hn hlen ht hsz hcl' hcc hb hc ho hr =>
            have hlt : n.toNat < xs.length := (List.getElem?_eq_some_iff.1 hdx).1
            have hs' : sz' = szOf P el := by rw [← hcl]; exact (hsz dx (List.mem_of_getElem? hdx)).symm
            subst hs'
            have hg := flat_get hsz hdx
            refine ⟨_, run_idxS hu hp b off n' c k n h0 (by omega), ?_⟩
            refine .at _ 0 b (off + n.toNat * szOf P el) _ cs el' fz (fun j => us (n.toNat * szOf P el + j)) hb rfl (fun j hj => ?_) (fun j hj => ?_) (fun j d hj => ?_)
            · have h2 := hg j _ (List.getElem?_eq_getElem hj)
              rw [Nat.add_assoc]
              exact hc _ (List.getElem?_eq_some_iff.1 h2).1
            · have h2 := hg j _ (List.getElem?_eq_getElem hj)
              exact ho _ (List.getElem?_eq_some_iff.1 h2).1
            · exact hr _ _ (hg j d hj)
        · cases e
      · cases e
    · cases e
  · rename_i el sz bytes ag b0 len N k n ht
    obtain ⟨hu, rfl, _, _⟩ := ty_slice ht
    cases hi
    split at e
    · rename_i hh
      cases e
      cases hx with | own _ _ _ b c cs sz hb hc hl =>
      exact ⟨_, run_idxS hu hh.2.2 b 0 len c k n hh.1 hh.2.1, by rw [Nat.zero_add]; exact .ptr _ _ _ b cs sz hb⟩
    · cases e
  · rename_i el sz bytes ag b0 off len N k n ht
    obtain ⟨hu, rfl, _, _⟩ := ty_slice ht
    cases hi
    split at e
    · rename_i hh
      cases e
      cases hx with | asl _ _ _ _ b o c cs sz hb hl ho =>
      obtain rfl := ho (by omega)
      exact ⟨_, run_idxS hu hh.2.2 b o len c k n hh.1 hh.2.1, .ptr _ _ _ b cs sz hb⟩
    · cases e
  · rename_i m sz ag b0 off N k n ht
    obtain ⟨el, hu, rfl, _⟩ := ty_arr ht
    cases hi
    split at e
    · rename_i hh
      cases e
      cases hx with | ptr _ _ _ b c s hb =>
      exact ⟨_, run_idxArr hu hh.2.2 b off k n hh.1 hh.2.1, .ptr _ _ _ b c s hb⟩
    · cases e
  · rename_i m sz ag cs off k n ht
    obtain ⟨el, hu, rfl, _⟩ := ty_arr ht
    cases hi
    split at e
    · rename_i hh
      cases e
      cases hx with | «at» _ _ b o o' cs' el' fz us hb ho hc hone hr =>
      exact ⟨_, run_idxArr hu hh.2.2 b o' k n hh.1 hh.2.1, .at cs _ b o _ cs' el' fz us hb (by omega) hc hone hr⟩
    · cases e
  · cases e

theorem run_index {t : TypeId} {x i : D} {vx vi : Value} {d : D} (hx : RelV h ρ x vx) (hi : RelV h ρ i vi) (e : dIdx (ty P t) x i = some d) : ∃ v, (Instr.index t vx vi).run P w = .ok v w ∧ RelV h ρ d v := by
  unfold dIdx at e
  split at e
  · rename_i s k n ht
    have hu := ty_str ht
    cases hi
    cases hx with | str _ s1 e1 =>
    subst e1
    split at e
    · rename_i h0
      split at e
      · rename_i b hb
        cases e
        refine ⟨.int .u8 b.toNat, ?_, .int _ _⟩
        have hlt : n.toNat < s1.size := by have := (List.getElem?_eq_some_iff.1 hb).1; simpa using this
        have hg : s1[n.toNat]? = some b := by
          rw [ByteArray.getElem?_lt' _ _ hlt]
          have := (List.getElem?_eq_some_iff.1 hb).2
          rw [← this]
          rfl
        simp only [Instr.index, asIntOf, Sem.run_bind, Sem.run_pure, Result.andThen_ok, run_underlying hu, if_pos h0, hg]
      · cases e
    · cases e
  · rename_i m sz ag cs k n ht
    obtain ⟨el, hu, hsz, hag⟩ := ty_arr ht
    subst hsz hag
    cases hi
    split at e
    · rename_i hh
      cases hx with | agg _ vs hs hone us hu' hr =>
      have rx : Row h ρ vs 0 cs := fun j d hj => ⟨us j, by simpa using hu' j (List.getElem?_eq_some_iff.1 hj).1, hone _ _ (hu' j (List.getElem?_eq_some_iff.1 hj).1), hr j d hj⟩
      obtain ⟨v, hv, rv⟩ := run_partD (P := P) (w := w) rx e
      refine ⟨v, ?_, rv⟩
      rw [Nat.zero_add] at hv
      have hp : 0 < szOf P el := by
        unfold part at e
        split at e
        · rename_i h1; exact h1.2.1
        · cases e
      simp only [Instr.index, asIntOf, Sem.run_bind, Sem.run_pure, Result.andThen_ok, run_underlying hu, Sem.run_ite, run_sizeOf' hp, if_pos (show 0 ≤ n ∧ n < m from hh), hv]
    · cases e
  · cases e

theorem getElem?_ofFn_toArray {α : Type} (l : List α) (j : Nat) : l.toArray[j]? = l[j]? := by simp

/-- Loading n cells. -/
theorem run_loadCells {cs : Array Value} {el : TypeId} {fz : Nat × Nat} {b off : Nat} (hb : w.heap[b]? = some (.cells cs el fz)) : ∀ (n i : Nat) (acc : Array Value), off + i + n ≤ cs.size →
    (loadCellsFrom ⟨b, off, none⟩ i n acc).run P w = .ok (acc ++ cs.extract (off + i) (off + i + n)) w
  | 0, i, acc, hle => by simp [loadCellsFrom]; omega
  | n + 1, i, acc, hle => by
    have hc : w.cell? ⟨b, off + i, none⟩ = some cs[off + i] := by
      simp only [World.cell?, hb]
      simp
    simp only [loadCellsFrom, Sem.run_bind, Addr.add_lit, run_load, hc, Result.andThen_ok]
    rw [run_loadCells hb n (i + 1) _ (by omega)]
    congr 1
    rw [Array.push_eq_append, Array.append_assoc]
    congr 1
    rw [show off + (i + 1) = (off + i) + 1 from by omega]
    apply Array.ext
    · simp; omega
    · intro j hj hj'
      simp only [Array.getElem_append, Array.getElem_extract]
      split
      · rename_i hlt
        have : j = 0 := by simpa using hlt
        subst this
        simp
      · rename_i hlt
        simp only [List.size_toArray, List.length_cons, List.length_nil] at hlt ⊢
        congr 1
        omega

theorem run_loadVar {t : TypeId} {ds : List D} {cs : Array Value} {el : TypeId} {fz : Nat × Nat} {b off0 off : Nat} {d : D} (hb : w.heap[b]? = some (.cells cs el fz)) (r : Row h ρ cs off0 ds)
    (e : part (isAg P t) ds off (szOf P t) = some d) : ∃ v, (loadVar t ⟨b, off0 + off, none⟩).run P w = .ok v w ∧ RelV h ρ d v := by
  have e' := e
  unfold part at e
  split at e
  · rename_i hh
    obtain ⟨hle, hp, hag⟩ := hh
    cases ha : isAg P t
    · simp only [ha, Bool.false_eq_true, false_or, if_false, Option.some.injEq] at hag e
      subst e
      have hlt : off < ds.length := by omega
      obtain ⟨u, a, _, c⟩ := r off ds[off] (by simp)
      have hc : w.cell? ⟨b, off0 + off, none⟩ = some u := by simp only [World.cell?, hb]; simpa using a
      refine ⟨u, ?_, ?_⟩
      · simp only [loadVar, Sem.run_bind, run_isAgg' hp, ha, Result.andThen_ok, Bool.false_eq_true, if_false, run_load, hc]
      · rw [nth_get, List.getElem?_eq_getElem hlt]
        exact c
    · simp only [ha, if_true, Option.some.injEq] at e
      subst e
      have r2 := ((r.drop off).take (szOf P t)).agg
      have hl : ((ds.drop off).take (szOf P t)).length = szOf P t := by simp; omega
      rw [hl] at r2
      have hbd : off0 + off + szOf P t ≤ cs.size := by
        obtain ⟨u, a, _⟩ := r (off + szOf P t - 1) ds[off + szOf P t - 1] (by simp)
        have := (Array.getElem?_eq_some_iff.1 a).1
        omega
      refine ⟨_, ?_, r2⟩
      simp only [loadVar, Sem.run_bind, run_isAgg' hp, ha, Result.andThen_ok, if_true, run_sizeOf' hp, loadCells]
      rw [run_loadCells hb _ _ _ (by omega)]
      simp
  · cases e

theorem cellsOf_some {i n : Nat} {cs : List D} (e : cellsOf H i n = some cs) : (hget H i).isC = true ∧ (hget H i).cs = cs ∧ cs.length = n := by
  simp only [cellsOf] at e
  split at e
  · rename_i hh
    simp only [Bool.and_eq_true, beq_iff_eq] at hh
    cases e
    exact ⟨hh.1, rfl, hh.2⟩
  · cases e

/-- Where a block's cells lie. -/
theorem Sim.at (hS : Sim w0 M0 hI h ρ H w) {i n : Nat} {ds : List D} (e : cellsOf H i n = some ds) : ∃ b c s cs el fz, ρ i n = some (b, c, s) ∧ w.heap[b]? = some (.cells cs el fz) ∧ Row h ρ cs 0 ds := by
  obtain ⟨h1, h2, h3⟩ := cellsOf_some e
  have hb := hS.blk i
  cases hg : hget H i with
  | var l =>
    rw [hg] at hb h2
    simp only [Blk.cs] at h2
    subst h2 h3
    obtain ⟨b, c, s, cs, el, fz, a1, a2, a3, a4, a5, a6, a7⟩ := hb
    exact ⟨b, c, s, cs, el, fz, a1, a3, a6⟩
  | row sz ag l =>
    rw [hg] at hb h2
    simp only [Blk.cs] at h2
    subst h2 h3
    obtain ⟨b, c, cs, el, fz, a1, a2, a3, a4, a5, a6, a7⟩ := hb
    exact ⟨b, c, sz, cs, el, fz, a1, a3, a6⟩
  | frz sz ag l =>
    rw [hg] at hb h2
    simp only [Blk.cs] at h2
    subst h2 h3
    obtain ⟨b, c, s, cs, el, fz, a1, a2, a3⟩ := hb
    exact ⟨b, c, s, cs, el, fz, a1, hS.imm _ _ a2, a3⟩
  | iter s p => rw [hg] at h1; cases h1
  | rng ts ps a b st => rw [hg] at h1; cases h1
  | map es => rw [hg] at h1; cases h1
  | dead => rw [hg] at h1; cases h1

theorem run_loadAt (hS : Sim w0 M0 hI h ρ H w) {t : TypeId} {x : D} {vx : Value} {d : D} (hx : RelV h ρ x vx) (e : dLoad (ty P t) (szOf P t) H x = some d) : ∃ v, (Instr.loadAt t vx).run P w = .ok v w ∧ RelV h ρ d v := by
  have hag : (ty P t).isA = isAg P t := by
    unfold ty isAg
    cases P.underlying t with
    | none => rfl
    | some d => cases d <;> rfl
  unfold dLoad at e
  rw [hag] at e
  split at e
  · rename_i cs off
    cases hx with | «at» _ _ b o o' cs' el' fz us hb ho hc hone hr =>
    subst ho
    have rx : Row h ρ cs' o cs := fun j d hj => ⟨us j, hc j (List.getElem?_eq_some_iff.1 hj).1, hone j (List.getElem?_eq_some_iff.1 hj).1, hr j d hj⟩
    obtain ⟨v, hv, rv⟩ := run_loadVar (P := P) (hS.imm _ _ hb) rx e
    exact ⟨v, by simp [Instr.loadAt, Instr.sureAddr, hv], rv⟩
  · rename_i i off n
    split at e
    · rename_i ds hds
      cases hx with | ptr _ _ _ b c s hb =>
      obtain ⟨b', c', s', cs, el, fz, hb', hw, r⟩ := hS.at hds
      rw [hb] at hb'
      cases hb'
      obtain ⟨v, hv, rv⟩ := run_loadVar (P := P) hw r e
      rw [Nat.zero_add] at hv
      exact ⟨v, by simp [Instr.loadAt, Instr.sureAddr, hv], rv⟩
    · cases e
  · cases e
end
end Go.Lv

namespace Go.Lv
open Go
set_option linter.unusedVariables false
set_option linter.unusedSimpArgs false
section
variable {P : Program} {w0 : World} {M0 : Nat → Prop} {hI h : Gh} {ρ : Rn} {H : Hp} {w : World}

def ORel (h : Gh) (ρ : Rn) (x : Option D) (v : Option Value) : Prop :=
  match x, v with
  | none, none => True
  | some d, some u => RelV h ρ d u
  | _, _ => False

theorem run_bnd {x : Option D} {v : Option Value} {y dflt l : Nat} {code : BoundsCode} (hx : ORel h ρ x v) (e : dBnd x dflt = some l) (hl : x.isSome → l ≤ y) :
    ((match v with | some v => Instr.sliceBound v y code | none => pure dflt : Sem Nat)).run P w = .ok l w := by
  unfold dBnd at e
  split at e
  · cases v with
    | none => cases e; rfl
    | some u => exact hx.elim
  · cases v with
    | none => exact hx.elim
    | some u =>
      cases hx
      split at e
      · rename_i h0
        cases e
        have := hl rfl
        simp only [Instr.sliceBound, asIntOf, Sem.run_bind, Sem.run_pure, Result.andThen_ok, Sem.run_ite]
        rw [if_pos (by omega)]
      · cases e
  · cases e

theorem run_bnds {lo hi : Option D} {vlo vhi : Option Value} {isS : Bool} {len cap l hh : Nat} (hlo : ORel h ρ lo vlo) (hhi : ORel h ρ hi vhi) (e1 : dBnd lo 0 = some l) (e2 : dBnd hi len = some hh) (h1 : l ≤ hh) (h2 : hi.isSome → hh ≤ cap) :
    (Instr.sliceBounds isS len cap vlo vhi none).run P w = .ok (l, hh, cap) w := by
  have k2 := run_bnd (P := P) (w := w) (code := if isS then .sliceAcap else .sliceAlen) hhi e2 h2
  have k1 := run_bnd (P := P) (w := w) (code := .sliceB) hlo e1 (fun _ => h1)
  cases vhi <;> cases vlo <;> simp only [Sem.run_pure, Result.ok.injEq, and_true] at k1 k2 <;>
    simp only [Instr.sliceBounds, Sem.run_bind, Sem.run_pure, Result.andThen_ok, k1, k2, Option.isSome_none, Bool.false_eq_true, if_false]

theorem run_bnds3 {lo hi mx : Option D} {vlo vhi vmx : Option Value} {isS : Bool} {len cap l hh m : Nat} (hlo : ORel h ρ lo vlo) (hhi : ORel h ρ hi vhi) (hmx : ORel h ρ mx vmx) (e1 : dBnd lo 0 = some l) (e2 : dBnd hi len = some hh) (e3 : dBnd mx 0 = some m)
    (hs : hi.isSome = true) (hs' : mx.isSome = true) (h1 : l ≤ hh) (h2 : hh ≤ m) (h3 : m ≤ cap) :
    (Instr.sliceBounds isS len cap vlo vhi vmx).run P w = .ok (l, hh, m) w := by
  cases hi with
  | none => cases hs
  | some hi =>
  cases mx with
  | none => cases hs'
  | some mx =>
  cases vhi with
  | none => exact hhi.elim
  | some vhi =>
  cases vmx with
  | none => exact hmx.elim
  | some vmx =>
  have k3 := run_bnd (P := P) (w := w) (code := if isS then .slice3Acap else .slice3Alen) hmx e3 (fun _ => h3)
  have k2 := run_bnd (P := P) (w := w) (code := .slice3B) hhi e2 (fun _ => h2)
  have k1 := run_bnd (P := P) (w := w) (code := .slice3C) hlo e1 (fun _ => h1)
  cases vlo <;> simp only [Sem.run_pure, Result.ok.injEq, and_true] at k1 k2 k3 <;>
    simp only [Instr.sliceBounds, Sem.run_bind, Sem.run_pure, Result.andThen_ok, k1, k2, k3, Option.isSome_some, if_true]

theorem flatMap_take {sz : Nat} {xs : List D} (hsz : ∀ x ∈ xs, x.cells.length = sz) (k : Nat) : (xs.take k).flatMap D.cells = (xs.flatMap D.cells).take (k * sz) := by
  induction xs generalizing k with
  | nil => simp
  | cons a l ih =>
    cases k with
    | zero => simp
    | succ k =>
      have ha := hsz a (by simp)
      simp only [List.take_succ_cons, List.flatMap_cons]
      rw [ih (fun x hx => hsz x (by simp [hx])), List.take_append, ha, Nat.succ_mul]
      rw [List.take_of_length_le (l := a.cells) (by omega), show k * sz + sz - sz = k * sz from by omega]
theorem flatMap_drop {sz : Nat} {xs : List D} (hsz : ∀ x ∈ xs, x.cells.length = sz) (k : Nat) : (xs.drop k).flatMap D.cells = (xs.flatMap D.cells).drop (k * sz) := by
  induction xs generalizing k with
  | nil => simp
  | cons a l ih =>
    cases k with
    | zero => simp
    | succ k =>
      have ha := hsz a (by simp)
      simp only [List.drop_succ_cons, List.flatMap_cons]
      rw [ih (fun x hx => hsz x (by simp [hx])), List.drop_append, ha, Nat.succ_mul]
      rw [List.drop_of_length_le (l := a.cells) (by omega), show k * sz + sz - sz = k * sz from by omega]
      simp

theorem RelV.list_inv {t : Bool} {xs : List D} {v : Value} (r : RelV h ρ (.list t xs) v) : ∃ a n c, v = .slice a n c ∧ n = xs.length ∧ n ≤ c ∧ (t = true → c = n) := by
  cases r with
  | lnil t a c ht => exact ⟨a, 0, c, rfl, rfl, by omega, ht⟩
  | list t _ b off n c sz cs e fz us hx hn hlen ht hsz hcl hcc hb hc ho hr => exact ⟨_, n, c, rfl, hn, hlen, ht⟩

/-- A window of a slice that isn't written. -/
theorem RelV.window {t : Bool} {xs : List D} {a : Option Addr} {n c l hh m sz' : Nat} {t' : Bool} (r : RelV h ρ (.list t xs) (.slice a n c)) (h1 : l ≤ hh) (h2 : hh ≤ xs.length) (hm : hh ≤ m) (ht' : t' = true → m = hh)
    (hsz' : ∀ x ∈ xs, x.cells.length = sz') : RelV h ρ (.list t' ((xs.take hh).drop l)) (.slice (if m = l then a else a.map (·.add (l * sz'))) (hh - l) (m - l)) := by
  cases r with
  | lnil t a c ht =>
    simp only [List.length_nil] at h2
    have : hh = 0 := by omega
    have : l = 0 := by omega
    subst hh l
    simp only [List.take_nil, List.drop_nil, Nat.sub_zero]
    exact .lnil _ _ _ (fun h => by have := ht' h; omega)
  | list t _ b off n c sz cs e fz us hx hn hlen ht hsz hcl hcc hb hc ho hr =>
    have hsame : sz = sz' := by
      cases xs with
      | nil => exact absurd rfl hx
      | cons x xs => rw [← hsz x (by simp), ← hsz' x (by simp)]
    subst hsame
    by_cases hz : hh = l
    · subst hz
      have : (xs.take hh).drop hh = [] := by simp
      rw [this, Nat.sub_self]
      exact .lnil _ _ _ (fun h => by have := ht' h; omega)
    · have hml : m ≠ l := by omega
      rw [if_neg hml]
      have hsub : ∀ x ∈ (xs.take hh).drop l, x ∈ xs := fun x hx => List.mem_of_mem_take (List.mem_of_mem_drop hx)
      have hfl : ((xs.take hh).drop l).flatMap D.cells = ((xs.flatMap D.cells).take (hh * sz)).drop (l * sz) := by
        rw [flatMap_drop (sz := sz) (fun x hx => hsz x (List.mem_of_mem_take hx)), flatMap_take hsz]
      have hget : ∀ j d, (((xs.take hh).drop l).flatMap D.cells)[j]? = some d → (xs.flatMap D.cells)[l * sz + j]? = some d := by
        intro j d hj
        rw [hfl, List.getElem?_drop, List.getElem?_take] at hj
        split at hj
        · exact hj
        · cases hj
      have hlt : ∀ j, j < (((xs.take hh).drop l).flatMap D.cells).length → l * sz + j < (xs.flatMap D.cells).length := by
        intro j hj
        exact (List.getElem?_eq_some_iff.1 (hget j _ (List.getElem?_eq_getElem hj))).1
      simp only [Option.map_some, Addr.add_lit]
      have hlen' : ((xs.take hh).drop l).length = hh - l := by simp; omega
      refine .list t' _ b (off + l * sz) (hh - l) (m - l) sz cs e fz (fun j => us (l * sz + j)) ?_ hlen'.symm (by omega) (fun h => by have := ht' h; omega) (fun x hx => hsz x (hsub x hx)) (fun x hx => hcl x (hsub x hx)) (fun x hx => hcc x (hsub x hx)) hb ?_ ?_ ?_
      · intro hnil
        rw [hnil] at hlen'
        simp at hlen'
        omega
      · intro j hj
        rw [Nat.add_assoc]
        exact hc _ (hlt j hj)
      · intro j hj
        exact ho _ (hlt j hj)
      · intro j d hj
        exact hr _ _ (hget j d hj)

theorem allSz_spec {sz : Nat} {xs : List D} (e : allSz sz xs = true) : ∀ x ∈ xs, x.cells.length = sz := by
  intro x hx
  have := List.all_eq_true.1 e x hx
  simpa using this

theorem run_sliceS {t el : TypeId} (hu : P.underlying t = some (.slice el)) (hp : 0 < szOf P el) {a : Option Addr} {len cap l hh m : Nat} {vlo vhi vmx : Option Value} (hb : (Instr.sliceBounds true len cap vlo vhi vmx).run P w = .ok (l, hh, m) w) :
    (Instr.sliceAt t (.slice a len cap) vlo vhi vmx).run P w = .ok (.slice (if m = l then a else a.map (·.add (l * szOf P el))) (hh - l) (m - l)) w := by
  simp only [Instr.sliceAt, Instr.slice, Sem.run_bind, run_underlying hu, Result.andThen_ok, hb, run_sizeOf' hp, Sem.run_pure]
theorem run_sliceArr {t el : TypeId} {n : Nat} (hu : P.underlying t = some (.array n el)) (hp : 0 < szOf P el) {b off l hh m : Nat} {vlo vhi vmx : Option Value} (hb : (Instr.sliceBounds false n n vlo vhi vmx).run P w = .ok (l, hh, m) w) :
    (Instr.sliceAt t (.pointer (some ⟨b, off, none⟩)) vlo vhi vmx).run P w = .ok (.slice (some (if m = l then ⟨b, off, none⟩ else ⟨b, off + l * szOf P el, none⟩)) (hh - l) (m - l)) w := by
  simp only [Instr.sliceAt, Instr.sureAddr, Sem.run_bind, run_underlying hu, Result.andThen_ok, hb, run_sizeOf' hp, Sem.run_pure, Addr.add_lit]

theorem run_slice {t : TypeId} {x : D} {vx : Value} {lo hi mx : Option D} {vlo vhi vmx : Option Value} {d : D} (hx : RelV h ρ x vx) (hlo : ORel h ρ lo vlo) (hhi : ORel h ρ hi vhi) (hmx : ORel h ρ mx vmx) (e : dSlice (ty P t) x lo hi mx = some d) :
    ∃ v, (Instr.sliceAt t vx vlo vhi vmx).run P w = .ok v w ∧ RelV h ρ d v := by
  have nomx : mx = none → vmx = none := by rintro rfl; cases vmx with | none => rfl | some u => exact hmx.elim
  unfold dSlice at e
  split at e
  · rename_i s ht
    have hu := ty_str ht
    split at e
    · rename_i l hh hl hh'
      split at e
      · rename_i hle
        cases e
        cases nomx rfl
        cases hx with | str _ s1 e1 =>
        subst e1
        have hb := run_bnds (P := P) (w := w) (isS := false) (len := s1.size) (cap := s1.size) hlo hhi hl (by simpa using hh') hle.1 (fun _ => by simpa using hle.2)
        refine ⟨.string (s1.extract l hh), ?_, .str _ _ ?_⟩
        · simp only [Instr.sliceAt, Instr.slice, Sem.run_bind, run_underlying hu, Result.andThen_ok, Option.isSome_none, Bool.false_eq_true, if_false, Sem.run_pure, hb]
        · simp [List.drop_take]
      · cases e
    · cases e
  · rename_i el sz bytes ag tt xs ht
    obtain ⟨hu, rfl, _, _⟩ := ty_slice ht
    split at e
    · rename_i hall
      obtain ⟨hp, hall⟩ := hall
      have hsz := allSz_spec hall
      split at e
      · rename_i l hh hl hh'
        split at e
        · rename_i hle
          cases e
          cases nomx rfl
          obtain ⟨a, n, c, rfl, hn, hnc, htt⟩ := hx.list_inv
          subst hn
          have hb := run_bnds (P := P) (w := w) (isS := true) (len := xs.length) (cap := c) hlo hhi hl hh' hle.1 (fun _ => by omega)
          exact ⟨_, run_sliceS hu hp hb, hx.window hle.1 hle.2 (by omega) (fun h => by simp at h; have := htt h.1; omega) hsz⟩
        · cases e
      · rename_i l hh mx hl hh'
        split at e
        · rename_i m hm
          split at e
          · rename_i hle
            cases e
            obtain ⟨a, n, c, rfl, hn, hnc, htt⟩ := hx.list_inv
            subst hn
            have hb := run_bnds3 (P := P) (w := w) (isS := true) (len := xs.length) (cap := c) hlo hhi hmx hl hh' hm hle.1 rfl hle.2.1 hle.2.2.1 (by omega)
            exact ⟨_, run_sliceS hu hp hb, hx.window hle.2.1 (by omega) (by omega) (fun h => by simp at h; omega) hsz⟩
          · cases e
        · cases e
      · cases e
    · cases e
  · rename_i el sz bytes ag i len N ht
    obtain ⟨hu, rfl, _, _⟩ := ty_slice ht
    split at e
    · rename_i hp
      split at e
      · rename_i l hh hl hh'
        split at e
        · rename_i hle
          cases e
          cases nomx rfl
          cases hx with | own _ _ _ b c cs sz hb hc hlc =>
          have hbd := run_bnds (P := P) (w := w) (isS := true) (len := len) (cap := c) hlo hhi hl hh' hle.1 (fun _ => by omega)
          refine ⟨_, run_sliceS hu hp hbd, ?_⟩
          by_cases h0 : l = 0
          · subst h0
            simp only [if_true, Nat.zero_mul, Option.map_some, Addr.add_lit, Nat.add_zero, Nat.sub_zero, ite_self]
            exact .own _ _ _ b c cs sz hb hc (by omega)
          · rw [if_neg h0]
            by_cases hcl : c = l
            · rw [if_pos hcl]
              exact .asl _ _ _ _ b 0 _ cs sz hb (by omega) (fun h => by omega)
            · rw [if_neg hcl]
              simp only [Option.map_some, Addr.add_lit, Nat.zero_add]
              exact .asl _ _ _ _ b _ _ cs sz hb (by omega) (fun h => rfl)
        · cases e
      · cases e
    · cases e
  · rename_i el sz bytes ag i off len N ht
    obtain ⟨hu, rfl, _, _⟩ := ty_slice ht
    split at e
    · rename_i hp
      split at e
      · rename_i l hh hl hh'
        split at e
        · rename_i hle
          cases e
          cases nomx rfl
          cases hx with | asl _ _ _ _ b o c cs sz hb hlc ho =>
          have hbd := run_bnds (P := P) (w := w) (isS := true) (len := len) (cap := c) hlo hhi hl hh' hle.1 (fun _ => by omega)
          refine ⟨_, run_sliceS hu hp hbd, ?_⟩
          by_cases hcl : c = l
          · rw [if_pos hcl]
            exact .asl _ _ _ _ b _ _ cs sz hb (by omega) (fun h => by omega)
          · rw [if_neg hcl]
            simp only [Option.map_some, Addr.add_lit]
            exact .asl _ _ _ _ b _ _ cs sz hb (by omega) (fun h => by rw [ho (by omega)])
        · cases e
      · cases e
    · cases e
  · rename_i n sz ag i off N ht
    obtain ⟨el, hu, rfl, _⟩ := ty_arr ht
    split at e
    · rename_i hp
      split at e
      · rename_i l hh hl hh'
        split at e
        · rename_i hle
          cases e
          cases nomx rfl
          cases hx with | ptr _ _ _ b c s hb =>
          have hbd := run_bnds (P := P) (w := w) (isS := false) (len := n) (cap := n) hlo hhi hl hh' hle.1 (fun _ => by omega)
          refine ⟨_, run_sliceArr hu hp hbd, ?_⟩
          by_cases hcl : n = l
          · rw [if_pos hcl]
            exact .asl _ _ _ _ b _ _ c s hb (by omega) (fun h => by omega)
          · rw [if_neg hcl]
            exact .asl _ _ _ _ b _ _ c s hb (by omega) (fun h => rfl)
        · cases e
      · rename_i l hh mx hl hh'
        split at e
        · rename_i m hm
          split at e
          · rename_i hle
            cases e
            cases hx with | ptr _ _ _ b c s hb =>
            have hbd := run_bnds3 (P := P) (w := w) (isS := false) (len := n) (cap := n) hlo hhi hmx hl hh' hm hle.1 rfl hle.2.1 hle.2.2.1 (by omega)
            refine ⟨_, run_sliceArr hu hp hbd, ?_⟩
            by_cases hcl : m = l
            · rw [if_pos hcl]
              exact .asl _ _ _ _ b _ _ c s hb (by omega) (fun h => by omega)
            · rw [if_neg hcl]
              exact .asl _ _ _ _ b _ _ c s hb (by omega) (fun h => rfl)
          · cases e
        · cases e
      · cases e
    · cases e
  · cases e
end
end Go.Lv

namespace Go.Lv
open Go
set_option linter.unusedVariables false
set_option linter.unusedSimpArgs false
section
variable {P : Program} {w0 : World} {M0 : Nat → Prop} {hI h : Gh} {ρ : Rn} {H : Hp} {w : World}

theorem ofV_rel (v : Value) : RelV h ρ (ofV v) v := by
  unfold ofV
  split
  · exact .bool _
  · exact .int _ _
  · exact .str _ _ rfl
  · exact .lnil _ _ _ (fun _ => rfl)
  · exact .nilp
  · exact .nilf
  · exact .nilm
  · exact .nili
  · exact .und _

/-- The cells are just these. -/
def Whole (h : Gh) (ρ : Rn) (cs : Array Value) (ds : List D) : Prop := cs.size = ds.length ∧ Row h ρ cs 0 ds

theorem zcells_spec {t : TypeId} (hz : 0 < (zcells P t).length) : ∃ i v, P.info? t = some i ∧ i.zero = some v ∧ Whole h ρ v.cells (zcells P t) := by
  unfold zcells at *
  split at hz
  · rename_i i hi
    split at hz
    · rename_i v hv
      split at hz
      · rename_i hone
        refine ⟨i, v, hi, hv, ?_⟩
        simp only [hi, hv, if_pos hone]
        refine ⟨by simp, fun j d hj => ?_⟩
        rw [List.getElem?_map] at hj
        cases hc : v.cells.toList[j]? with
        | none => simp [hc] at hj
        | some u =>
          simp only [hc, Option.map_some, Option.some.injEq] at hj
          subst hj
          exact ⟨u, by simpa using hc, List.all_eq_true.1 hone u (List.mem_of_getElem? hc), ofV_rel u⟩
      · simp at hz
    · simp at hz
  · simp at hz

theorem run_zero {t : TypeId} {i : TypeInfo} {v : Value} (hi : P.info? t = some i) (hv : i.zero = some v) : (zeroValue t).run P w = .ok v w := by
  simp [zeroValue, run_typeInfo hi, hv]

theorem Whole.agg {cs : Array Value} {ds : List D} (r : Whole h ρ cs ds) : RelV h ρ (.agg ds) (.agg cs) := by
  have := r.2.agg
  rw [Nat.zero_add, ← r.1] at this
  simpa using this

theorem foldl_set {off : Nat} : ∀ (l : List Value) (k : Nat) (cs : Array Value) (j : Nat), off + k + l.length ≤ cs.size →
    ((l.zipIdx k).foldl (fun cs (x : Value × Nat) => cs.setIfInBounds (off + x.2) x.1) cs)[j]? = if off + k ≤ j ∧ j < off + k + l.length then l[j - (off + k)]? else cs[j]?
  | [], k, cs, j, hle => by simp; intros; omega
  | v :: l, k, cs, j, hle => by
    simp only [List.length_cons] at hle
    simp only [List.zipIdx_cons, List.foldl_cons]
    rw [foldl_set l (k + 1) _ j (by simp; omega)]
    by_cases h1 : off + (k + 1) ≤ j ∧ j < off + (k + 1) + l.length
    · rw [if_pos h1, if_pos (by simp; omega)]
      rw [show j - (off + k) = (j - (off + (k + 1))) + 1 from by omega]
      simp
    · rw [if_neg h1]
      by_cases h2 : j = off + k
      · subst h2
        rw [if_pos (by simp), Array.getElem?_setIfInBounds_self_of_lt (by omega)]
        simp
      · rw [if_neg (by simp; omega), Array.getElem?_setIfInBounds_ne (by omega)]
theorem foldl_size {off : Nat} : ∀ (l : List (Value × Nat)) (cs : Array Value), (l.foldl (fun cs (x : Value × Nat) => cs.setIfInBounds (off + x.2) x.1) cs).size = cs.size
  | [], cs => rfl
  | x :: l, cs => by simp only [List.foldl_cons]; rw [foldl_size l]; simp

theorem splice_get {cs new : List D} {off : Nat} (hle : off + new.length ≤ cs.length) (j : Nat) : (splice cs off new)[j]? = if off ≤ j ∧ j < off + new.length then new[j - off]? else cs[j]? := by
  unfold splice
  rw [List.getElem?_append]
  simp only [List.length_append, List.length_take]
  split
  · rename_i h1
    rw [List.getElem?_append]
    simp only [List.length_take]
    split
    · rw [if_neg (by omega), List.getElem?_take, if_pos (by omega)]
    · rw [if_pos (by omega)]
      congr 1
      omega
  · rw [if_neg (by omega), List.getElem?_drop]
    congr 1
    omega
theorem splice_len {cs new : List D} {off : Nat} (hle : off + new.length ≤ cs.length) : (splice cs off new).length = cs.length := by
  simp [splice]
  omega

/-- A part laid into cells. -/
theorem Whole.put {cs new : Array Value} {ds dn : List D} {off : Nat} (r : Whole h ρ cs ds) (hn : new.size = dn.length) (rn : ∀ (j : Nat) (d : D), dn[j]? = some d → ∃ u, new[j]? = some u ∧ u.oneCell' = true ∧ RelV h ρ d u)
    (hle : off + dn.length ≤ ds.length) : Whole h ρ (new.zipIdx.foldl (fun cs (x : Value × Nat) => cs.setIfInBounds (off + x.2) x.1) cs) (splice ds off dn) := by
  rw [← Array.foldl_toList, Array.toList_zipIdx]
  refine ⟨by rw [foldl_size, splice_len hle]; exact r.1, fun j d hj => ?_⟩
  rw [splice_get hle] at hj
  rw [Nat.zero_add, foldl_set _ _ _ _ (by rw [r.1]; simp; omega)]
  simp only [Nat.add_zero, Array.length_toList, hn]
  split at hj
  · rename_i h1
    rw [if_pos h1]
    obtain ⟨u, a, b⟩ := rn _ _ hj
    exact ⟨u, by simpa using a, b⟩
  · rename_i h1
    rw [if_neg h1]
    have := r.2 j d hj
    simpa using this

theorem run_fill {placeD : Nat → Option (Nat × Nat)} {placeV : Nat → Option (Nat × Nat)} (hpl : ∀ i x, placeD i = some x → placeV i = some x) :
    ∀ (pd : List (Nat × D)) (pv : List (Nat × Value)) (ds : List D) (cs : Array Value) (out : List D), pd.map (·.1) = pv.map (·.1) → (∀ (j : Nat) (x : Nat × D) (y : Nat × Value), pd[j]? = some x → pv[j]? = some y → RelV h ρ x.2 y.2) → Whole h ρ cs ds → dFill placeD ds pd = some out →
      ∃ cs', Instr.fill placeV cs pv = some cs' ∧ Whole h ρ cs' out
  | [], pv, ds, cs, out, hm, hr, r, e => by
    cases pv with
    | nil => simp only [dFill, Option.some.injEq] at e; subst e; exact ⟨cs, rfl, r⟩
    | cons y pv => simp at hm
  | (i, d) :: pd, pv, ds, cs, out, hm, hr, r, e => by
    cases pv with
    | nil => simp at hm
    | cons y pv =>
      obtain ⟨i', v⟩ := y
      simp only [List.map_cons, List.cons.injEq] at hm
      obtain ⟨rfl, hm⟩ := hm
      simp only [dFill] at e
      split at e
      · rename_i off sz new hpi hnew
        split at e
        · rename_i hh
          obtain ⟨hl, hle⟩ := hh
          have hrel : RelV h ρ d v := hr 0 _ _ rfl rfl
          obtain ⟨_, hs, hc⟩ := hrel.cells hnew
          have r' := r.put (off := off) hs hc (by omega)
          obtain ⟨cs', h1, h2⟩ := run_fill hpl pd pv _ _ out hm (fun j x y hx hy => hr (j + 1) x y (by simpa using hx) (by simpa using hy)) r' e
          refine ⟨cs', ?_, h2⟩
          simp only [Instr.fill, hpl _ _ hpi]
          have k1 : v.cells.size = sz := by omega
          have k2 : off + v.cells.size ≤ cs.size := by have := r.1; omega
          rw [if_neg (by simp [k1]; omega)]
          exact h1
        · cases e
      · cases e

theorem mapM_places : ∀ (l : List Field), (∀ f ∈ l, 0 < szOf P f.type) → ((l.mapM fun f => do pure (f.offset, ← sizeOf f.type) : Sem (List (Nat × Nat)))).run P w = .ok (l.map fun f => (f.offset, szOf P f.type)) w
  | [], _ => rfl
  | f :: l, hl => by
    simp only [List.mapM_cons, Sem.run_bind, run_sizeOf' (hl f (by simp)), Result.andThen_ok, Sem.run_pure, mapM_places l (fun f hf => hl f (by simp [hf])), List.map_cons]

theorem run_build {t : TypeId} {pd : List (Nat × D)} {pv : Array (Nat × Value)} {d : D} (hm : pd.map (·.1) = pv.toList.map (·.1)) (hr : ∀ (j : Nat) (x : Nat × D) (y : Nat × Value), pd[j]? = some x → pv.toList[j]? = some y → RelV h ρ x.2 y.2)
    (e : dBuild (ty P t) (szOf P t) (zcells P t) pd = some d) : ∃ v, (Instr.build t pv).run P w = .ok v w ∧ RelV h ρ d v := by
  unfold dBuild at e
  split at e
  · rename_i hz
    obtain ⟨i, zv, hi, hzv, rz⟩ := zcells_spec (h := h) (ρ := ρ) (P := P) (t := t) (by omega)
    split at e
    · rename_i fs ht
      obtain ⟨fa, hu, rfl⟩ := ty_struct ht
      split at e
      · rename_i hall
        obtain ⟨out, hf, rfl⟩ := Option.map_eq_some_iff.1 e
        · obtain ⟨cs', h1, h2⟩ := run_fill (placeV := ((fa.toList.map fun f => (f.offset, szOf P f.type)).toArray[·]?)) (fun i x hx => by simpa [List.getElem?_map, Function.comp_def] using hx) pd pv.toList _ _ out hm hr rz hf
          refine ⟨.agg cs', ?_, h2.agg⟩
          have hpos : ∀ f ∈ fa.toList, 0 < szOf P f.type := by
            intro f hf
            have := List.all_eq_true.1 hall _ (List.mem_map.2 ⟨f, hf, rfl⟩)
            simpa using this
          have hmap : ((fa.mapM fun f => do pure (f.offset, ← sizeOf f.type) : Sem (Array (Nat × Nat)))).run P w = .ok (fa.toList.map fun f => (f.offset, szOf P f.type)).toArray w := by
            rw [Array.mapM_eq_mapM_toList]
            simp only [Sem.run_map, mapM_places _ hpos, Result.andThen_ok]
          simp only [Instr.build, Sem.run_bind, run_zero hi hzv, Result.andThen_ok, run_underlying hu, hmap, h1, Sem.run_pure]
      · cases e
    · rename_i n s ag ht
      obtain ⟨el, hu, rfl, _⟩ := ty_arr ht
      split at e
      · rename_i hp
        obtain ⟨out, hf, rfl⟩ := Option.map_eq_some_iff.1 e
        · obtain ⟨cs', h1, h2⟩ := run_fill (placeV := fun i => some (i * szOf P el, szOf P el)) (fun i x hx => hx) pd pv.toList _ _ out hm hr rz hf
          refine ⟨.agg cs', ?_, h2.agg⟩
          simp only [Instr.build, Sem.run_bind, run_zero hi hzv, Result.andThen_ok, run_underlying hu, run_sizeOf' hp, h1, Sem.run_pure]
      · cases e
    · cases e
  · cases e
end
end Go.Lv
