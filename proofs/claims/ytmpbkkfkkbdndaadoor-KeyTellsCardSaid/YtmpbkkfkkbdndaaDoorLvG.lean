/- LvG: slices, calls of builtins that read, composites. -/
import Derived.Test.YtmpbkkfkkbdndaaDoorLvF
namespace Go.Lv
open Go
set_option linter.unusedVariables false
set_option linter.unusedSimpArgs false
section
variable {P : Program} {w0 : World} {M0 : Nat → Prop} {hI h : Gh} {ρ : Rn} {H : Hp} {w : World}

def ORel (h : Gh) (ρ : Rn) (x : Option D) (v : Option Value) : Prop :=
  match x, v with
  | none, none => True
  | some d, some u => RelV h ρ d u
  | _, _ => False

theorem run_bnd {x : Option D} {v : Option Value} {y dflt l : Nat} {code : BoundsCode} (hx : ORel h ρ x v) (e : dBnd x dflt = some l) (hl : x.isSome → l ≤ y) :
    ((match v with | some v => Instr.sliceBound v y code | none => pure dflt : Sem Nat)).run P w = .ok l w := by
  unfold dBnd at e
  split at e
  · cases v with
    | none => cases e; rfl
    | some u => exact hx.elim
  · cases v with
    | none => exact hx.elim
    | some u =>
      cases hx
      split at e
      · rename_i h0
        cases e
        have := hl rfl
        simp only [Instr.sliceBound, asIntOf, Sem.run_bind, Sem.run_pure, Result.andThen_ok, Sem.run_ite]
        rw [if_pos (by omega)]
      · cases e
  · cases e

theorem run_bnds {lo hi : Option D} {vlo vhi : Option Value} {isS : Bool} {len cap l hh : Nat} (hlo : ORel h ρ lo vlo) (hhi : ORel h ρ hi vhi) (e1 : dBnd lo 0 = some l) (e2 : dBnd hi len = some hh) (h1 : l ≤ hh) (h2 : hi.isSome → hh ≤ cap) :
    (Instr.sliceBounds isS len cap vlo vhi none).run P w = .ok (l, hh, cap) w := by
  have k2 := run_bnd (P := P) (w := w) (code := if isS then .sliceAcap else .sliceAlen) hhi e2 h2
  have k1 := run_bnd (P := P) (w := w) (code := .sliceB) hlo e1 (fun _ => h1)
  cases vhi <;> cases vlo <;> simp only [Sem.run_pure, Result.ok.injEq, and_true] at k1 k2 <;>
    simp only [Instr.sliceBounds, Sem.run_bind, Sem.run_pure, Result.andThen_ok, k1, k2, Option.isSome_none, Bool.false_eq_true, if_false]

theorem run_bnds3 {lo hi mx : Option D} {vlo vhi vmx : Option Value} {isS : Bool} {len cap l hh m : Nat} (hlo : ORel h ρ lo vlo) (hhi : ORel h ρ hi vhi) (hmx : ORel h ρ mx vmx) (e1 : dBnd lo 0 = some l) (e2 : dBnd hi len = some hh) (e3 : dBnd mx 0 = some m)
    (hs : hi.isSome = true) (hs' : mx.isSome = true) (h1 : l ≤ hh) (h2 : hh ≤ m) (h3 : m ≤ cap) :
    (Instr.sliceBounds isS len cap vlo vhi vmx).run P w = .ok (l, hh, m) w := by
  cases hi with
  | none => cases hs
  | some hi =>
  cases mx with
  | none => cases hs'
  | some mx =>
  cases vhi with
  | none => exact hhi.elim
  | some vhi =>
  cases vmx with
  | none => exact hmx.elim
  | some vmx =>
  have k3 := run_bnd (P := P) (w := w) (code := if isS then .slice3Acap else .slice3Alen) hmx e3 (fun _ => h3)
  have k2 := run_bnd (P := P) (w := w) (code := .slice3B) hhi e2 (fun _ => h2)
  have k1 := run_bnd (P := P) (w := w) (code := .slice3C) hlo e1 (fun _ => h1)
  cases vlo <;> simp only [Sem.run_pure, Result.ok.injEq, and_true] at k1 k2 k3 <;>
    simp only [Instr.sliceBounds, Sem.run_bind, Sem.run_pure, Result.andThen_ok, k1, k2, k3, Option.isSome_some, if_true]

theorem flatMap_take {sz : Nat} {xs : List D} (hsz : ∀ x ∈ xs, x.cells.length = sz) (k : Nat) : (xs.take k).flatMap D.cells = (xs.flatMap D.cells).take (k * sz) := by
  induction xs generalizing k with
  | nil => simp
  | cons a l ih =>
    cases k with
    | zero => simp
    | succ k =>
      have ha := hsz a (by simp)
      simp only [List.take_succ_cons, List.flatMap_cons]
      rw [ih (fun x hx => hsz x (by simp [hx])), List.take_append, ha, Nat.succ_mul]
      rw [List.take_of_length_le (l := a.cells) (by omega), show k * sz + sz - sz = k * sz from by omega]
theorem flatMap_drop {sz : Nat} {xs : List D} (hsz : ∀ x ∈ xs, x.cells.length = sz) (k : Nat) : (xs.drop k).flatMap D.cells = (xs.flatMap D.cells).drop (k * sz) := by
  induction xs generalizing k with
  | nil => simp
  | cons a l ih =>
    cases k with
    | zero => simp
    | succ k =>
      have ha := hsz a (by simp)
      simp only [List.drop_succ_cons, List.flatMap_cons]
      rw [ih (fun x hx => hsz x (by simp [hx])), List.drop_append, ha, Nat.succ_mul]
      rw [List.drop_of_length_le (l := a.cells) (by omega), show k * sz + sz - sz = k * sz from by omega]
      simp

theorem RelV.list_inv {t : Bool} {xs : List D} {v : Value} (r : RelV h ρ (.list t xs) v) : ∃ a n c, v = .slice a n c ∧ n = xs.length ∧ n ≤ c ∧ (t = true → c = n) := by
  cases r with
  | lnil t a c ht => exact ⟨a, 0, c, rfl, rfl, by omega, ht⟩
  | list t _ b off n c sz cs e fz us hx hn hlen ht hsz hcl hcc hb hc ho hr => exact ⟨_, n, c, rfl, hn, hlen, ht⟩

/-- A window of a slice that isn't written. -/
theorem RelV.window {t : Bool} {xs : List D} {a : Option Addr} {n c l hh m sz' : Nat} {t' : Bool} (r : RelV h ρ (.list t xs) (.slice a n c)) (h1 : l ≤ hh) (h2 : hh ≤ xs.length) (hm : hh ≤ m) (ht' : t' = true → m = hh)
    (hsz' : ∀ x ∈ xs, x.cells.length = sz') : RelV h ρ (.list t' ((xs.take hh).drop l)) (.slice (if m = l then a else a.map (·.add (l * sz'))) (hh - l) (m - l)) := by
  cases r with
  | lnil t a c ht =>
    simp only [List.length_nil] at h2
    have : hh = 0 := by omega
    have : l = 0 := by omega
    subst hh l
    simp only [List.take_nil, List.drop_nil, Nat.sub_zero]
    exact .lnil _ _ _ (fun h => by have := ht' h; omega)
  | list t _ b off n c sz cs e fz us hx hn hlen ht hsz hcl hcc hb hc ho hr =>
    have hsame : sz = sz' := by
      cases xs with
      | nil => exact absurd rfl hx
      | cons x xs => rw [← hsz x (by simp), ← hsz' x (by simp)]
    subst hsame
    by_cases hz : hh = l
    · subst hz
      have : (xs.take hh).drop hh = [] := by simp
      rw [this, Nat.sub_self]
      exact .lnil _ _ _ (fun h => by have := ht' h; omega)
    · have hml : m ≠ l := by omega
      rw [if_neg hml]
      have hsub : ∀ x ∈ (xs.take hh).drop l, x ∈ xs := fun x hx => List.mem_of_mem_take (List.mem_of_mem_drop hx)
      have hfl : ((xs.take hh).drop l).flatMap D.cells = ((xs.flatMap D.cells).take (hh * sz)).drop (l * sz) := by
        rw [flatMap_drop (sz := sz) (fun x hx => hsz x (List.mem_of_mem_take hx)), flatMap_take hsz]
      have hget : ∀ j d, (((xs.take hh).drop l).flatMap D.cells)[j]? = some d → (xs.flatMap D.cells)[l * sz + j]? = some d := by
        intro j d hj
        rw [hfl, List.getElem?_drop, List.getElem?_take] at hj
        split at hj
        · exact hj
        · cases hj
      have hlt : ∀ j, j < (((xs.take hh).drop l).flatMap D.cells).length → l * sz + j < (xs.flatMap D.cells).length := by
        intro j hj
        exact (List.getElem?_eq_some_iff.1 (hget j _ (List.getElem?_eq_getElem hj))).1
      simp only [Option.map_some, Addr.add_lit]
      have hlen' : ((xs.take hh).drop l).length = hh - l := by simp; omega
      refine .list t' _ b (off + l * sz) (hh - l) (m - l) sz cs e fz (fun j => us (l * sz + j)) ?_ hlen'.symm (by omega) (fun h => by have := ht' h; omega) (fun x hx => hsz x (hsub x hx)) (fun x hx => hcl x (hsub x hx)) (fun x hx => hcc x (hsub x hx)) hb ?_ ?_ ?_
      · intro hnil
        rw [hnil] at hlen'
        simp at hlen'
        omega
      · intro j hj
        rw [Nat.add_assoc]
        exact hc _ (hlt j hj)
      · intro j hj
        exact ho _ (hlt j hj)
      · intro j d hj
        exact hr _ _ (hget j d hj)

theorem allSz_spec {sz : Nat} {xs : List D} (e : allSz sz xs = true) : ∀ x ∈ xs, x.cells.length = sz := by
  intro x hx
  have := List.all_eq_true.1 e x hx
  simpa using this

theorem run_sliceS {t el : TypeId} (hu : P.underlying t = some (.slice el)) (hp : 0 < szOf P el) {a : Option Addr} {len cap l hh m : Nat} {vlo vhi vmx : Option Value} (hb : (Instr.sliceBounds true len cap vlo vhi vmx).run P w = .ok (l, hh, m) w) :
    (Instr.sliceAt t (.slice a len cap) vlo vhi vmx).run P w = .ok (.slice (if m = l then a else a.map (·.add (l * szOf P el))) (hh - l) (m - l)) w := by
  simp only [Instr.sliceAt, Instr.slice, Sem.run_bind, run_underlying hu, Result.andThen_ok, hb, run_sizeOf' hp, Sem.run_pure]
theorem run_sliceArr {t el : TypeId} {n : Nat} (hu : P.underlying t = some (.array n el)) (hp : 0 < szOf P el) {b off l hh m : Nat} {vlo vhi vmx : Option Value} (hb : (Instr.sliceBounds false n n vlo vhi vmx).run P w = .ok (l, hh, m) w) :
    (Instr.sliceAt t (.pointer (some ⟨b, off, none⟩)) vlo vhi vmx).run P w = .ok (.slice (some (if m = l then ⟨b, off, none⟩ else ⟨b, off + l * szOf P el, none⟩)) (hh - l) (m - l)) w := by
  simp only [Instr.sliceAt, Instr.sureAddr, Sem.run_bind, run_underlying hu, Result.andThen_ok, hb, run_sizeOf' hp, Sem.run_pure, Addr.add_lit]

theorem run_slice {t : TypeId} {x : D} {vx : Value} {lo hi mx : Option D} {vlo vhi vmx : Option Value} {d : D} (hx : RelV h ρ x vx) (hlo : ORel h ρ lo vlo) (hhi : ORel h ρ hi vhi) (hmx : ORel h ρ mx vmx) (e : dSlice (ty P t) x lo hi mx = some d) :
    ∃ v, (Instr.sliceAt t vx vlo vhi vmx).run P w = .ok v w ∧ RelV h ρ d v := by
  have nomx : mx = none → vmx = none := by rintro rfl; cases vmx with | none => rfl | some u => exact hmx.elim
  unfold dSlice at e
  split at e
  · rename_i s ht
    have hu := ty_str ht
    split at e
    · rename_i l hh hl hh'
      split at e
      · rename_i hle
        cases e
        cases nomx rfl
        cases hx with | str _ s1 e1 =>
        subst e1
        have hb := run_bnds (P := P) (w := w) (isS := false) (len := s1.size) (cap := s1.size) hlo hhi hl (by simpa using hh') hle.1 (fun _ => by simpa using hle.2)
        refine ⟨.string (s1.extract l hh), ?_, .str _ _ ?_⟩
        · simp only [Instr.sliceAt, Instr.slice, Sem.run_bind, run_underlying hu, Result.andThen_ok, Option.isSome_none, Bool.false_eq_true, if_false, Sem.run_pure, hb]
        · simp [List.drop_take]
      · cases e
    · cases e
  · rename_i el sz bytes ag tt xs ht
    obtain ⟨hu, rfl, _, _⟩ := ty_slice ht
    split at e
    · rename_i hall
      obtain ⟨hp, hall⟩ := hall
      have hsz := allSz_spec hall
      split at e
      · rename_i l hh hl hh'
        split at e
        · rename_i hle
          cases e
          cases nomx rfl
          obtain ⟨a, n, c, rfl, hn, hnc, htt⟩ := hx.list_inv
          subst hn
          have hb := run_bnds (P := P) (w := w) (isS := true) (len := xs.length) (cap := c) hlo hhi hl hh' hle.1 (fun _ => by omega)
          exact ⟨_, run_sliceS hu hp hb, hx.window hle.1 hle.2 (by omega) (fun h => by simp at h; have := htt h.1; omega) hsz⟩
        · cases e
      · rename_i l hh mx hl hh'
        split at e
        · rename_i m hm
          split at e
          · rename_i hle
            cases e
            obtain ⟨a, n, c, rfl, hn, hnc, htt⟩ := hx.list_inv
            subst hn
            have hb := run_bnds3 (P := P) (w := w) (isS := true) (len := xs.length) (cap := c) hlo hhi hmx hl hh' hm hle.1 rfl hle.2.1 hle.2.2.1 (by omega)
            exact ⟨_, run_sliceS hu hp hb, hx.window hle.2.1 (by omega) (by omega) (fun h => by simp at h; omega) hsz⟩
          · cases e
        · cases e
      · cases e
    · cases e
  · rename_i el sz bytes ag i len N ht
    obtain ⟨hu, rfl, _, _⟩ := ty_slice ht
    split at e
    · rename_i hp
      split at e
      · rename_i l hh hl hh'
        split at e
        · rename_i hle
          cases e
          cases nomx rfl
          cases hx with | own _ _ _ b c cs sz hb hc hlc =>
          have hbd := run_bnds (P := P) (w := w) (isS := true) (len := len) (cap := c) hlo hhi hl hh' hle.1 (fun _ => by omega)
          refine ⟨_, run_sliceS hu hp hbd, ?_⟩
          by_cases h0 : l = 0
          · subst h0
            simp only [if_true, Nat.zero_mul, Option.map_some, Addr.add_lit, Nat.add_zero, Nat.sub_zero, ite_self]
            exact .own _ _ _ b c cs sz hb hc (by omega)
          · rw [if_neg h0]
            by_cases hcl : c = l
            · rw [if_pos hcl]
              exact .asl _ _ _ _ b 0 _ cs sz hb (by omega) (fun h => by omega)
            · rw [if_neg hcl]
              simp only [Option.map_some, Addr.add_lit, Nat.zero_add]
              exact .asl _ _ _ _ b _ _ cs sz hb (by omega) (fun h => rfl)
        · cases e
      · cases e
    · cases e
  · rename_i el sz bytes ag i off len N ht
    obtain ⟨hu, rfl, _, _⟩ := ty_slice ht
    split at e
    · rename_i hp
      split at e
      · rename_i l hh hl hh'
        split at e
        · rename_i hle
          cases e
          cases nomx rfl
          cases hx with | asl _ _ _ _ b o c cs sz hb hlc ho =>
          have hbd := run_bnds (P := P) (w := w) (isS := true) (len := len) (cap := c) hlo hhi hl hh' hle.1 (fun _ => by omega)
          refine ⟨_, run_sliceS hu hp hbd, ?_⟩
          by_cases hcl : c = l
          · rw [if_pos hcl]
            exact .asl _ _ _ _ b _ _ cs sz hb (by omega) (fun h => by omega)
          · rw [if_neg hcl]
            simp only [Option.map_some, Addr.add_lit]
            exact .asl _ _ _ _ b _ _ cs sz hb (by omega) (fun h => by rw [ho (by omega)])
        · cases e
      · cases e
    · cases e
  · rename_i n sz ag i off N ht
    obtain ⟨el, hu, rfl, _⟩ := ty_arr ht
    split at e
    · rename_i hp
      split at e
      · rename_i l hh hl hh'
        split at e
        · rename_i hle
          cases e
          cases nomx rfl
          cases hx with | ptr _ _ _ b c s hb =>
          have hbd := run_bnds (P := P) (w := w) (isS := false) (len := n) (cap := n) hlo hhi hl hh' hle.1 (fun _ => by omega)
          refine ⟨_, run_sliceArr hu hp hbd, ?_⟩
          by_cases hcl : n = l
          · rw [if_pos hcl]
            exact .asl _ _ _ _ b _ _ c s hb (by omega) (fun h => by omega)
          · rw [if_neg hcl]
            exact .asl _ _ _ _ b _ _ c s hb (by omega) (fun h => rfl)
        · cases e
      · rename_i l hh mx hl hh'
        split at e
        · rename_i m hm
          split at e
          · rename_i hle
            cases e
            cases hx with | ptr _ _ _ b c s hb =>
            have hbd := run_bnds3 (P := P) (w := w) (isS := false) (len := n) (cap := n) hlo hhi hmx hl hh' hm hle.1 rfl hle.2.1 hle.2.2.1 (by omega)
            refine ⟨_, run_sliceArr hu hp hbd, ?_⟩
            by_cases hcl : m = l
            · rw [if_pos hcl]
              exact .asl _ _ _ _ b _ _ c s hb (by omega) (fun h => by omega)
            · rw [if_neg hcl]
              exact .asl _ _ _ _ b _ _ c s hb (by omega) (fun h => rfl)
          · cases e
        · cases e
      · cases e
    · cases e
  · cases e
end
end Go.Lv
