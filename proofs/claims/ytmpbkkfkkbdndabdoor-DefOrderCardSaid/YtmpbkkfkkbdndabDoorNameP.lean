/- NameP: names, plainly: a text's runes, counted and found valid, out of its units. -/
import Derived.Test.YtmpbkkfkkbdndabDoorNameA
namespace Go.Lv
open Go
set_option linter.unusedVariables false
set_option linter.unusedSimpArgs false
theorem nmR_lt {r : Nat} (h : nmR r = true) : r ≤ 255 := by
  simp only [nmR, decide_eq_true_eq] at h
  omega
theorem unit1_cons {l : List UInt8} {c w : Nat} (h : unit1 l = some (c, w)) : l ≠ [] := by
  rintro rfl
  simp [unit1] at h
/-- More fuel, the same. -/
theorem unitsF_le : ∀ {n m : Nat} {l : List UInt8}, l.length ≤ n → n ≤ m → unitsF m l = unitsF n l
  | n, m, [], _, _ => by cases n <;> cases m <;> rfl
  | 0, m, b :: l, h, _ => by simp at h
  | n + 1, 0, b :: l, h, h2 => by omega
  | n + 1, m + 1, b :: l, h, h2 => by
    simp only [unitsF]
    cases hu : unit1 (b :: l) with
    | none => rfl
    | some x =>
      obtain ⟨c, w⟩ := x
      have hw := unit1_spec hu
      simp only
      rw [unitsF_le (n := n) (m := m) (l := (b :: l).drop w) (by simp at h ⊢; omega) (by omega)]
theorem units_none {l : List UInt8} (hl : l ≠ []) (h : unit1 l = none) : units l = none := by
  cases l with
  | nil => exact (hl rfl).elim
  | cons b t => simp only [units, List.length_cons, unitsF, h]
theorem units_some {l : List UInt8} {c w : Nat} (h : unit1 l = some (c, w)) : units l = (units (l.drop w)).map (c :: ·) := by
  have hw := unit1_spec h
  cases l with
  | nil => simp [unit1] at h
  | cons b t =>
    simp only [units, List.length_cons, unitsF, h]
    rw [unitsF_le (n := ((b :: t).drop w).length) (m := t.length) (l := (b :: t).drop w) (Nat.le_refl _) (by simp; omega)]
    cases unitsF ((b :: t).drop w).length ((b :: t).drop w) <;> rfl
theorem units_nil : units [] = some [] := rfl
theorem drop_drop' (s : List UInt8) (p w : Nat) : (s.drop p).drop w = s.drop (p + w) := by rw [List.drop_drop]

/-- All runes good: so many are counted. -/
theorem count_units (s : List UInt8) : ∀ (fuel pos : Nat) (r : List Nat), s.length ≤ pos + fuel → units (s.drop pos) = some r → Lib.runeCountFrom ⟨s.toArray⟩ fuel pos = r.length
  | 0, pos, r, hf, h => by
    rw [List.drop_eq_nil_of_le (by omega), units_nil] at h
    cases h
    rfl
  | fuel + 1, pos, r, hf, h => by
    have hsz : (⟨s.toArray⟩ : ByteArray).size = s.length := by simp [ByteArray.size]
    simp only [Lib.runeCountFrom, hsz]
    by_cases hp : pos < s.length
    · rw [if_pos hp]
      obtain ⟨b, t, hbt⟩ : ∃ b t, s.drop pos = b :: t := ⟨_, _, List.drop_eq_getElem_cons hp⟩
      have hda := dec_at s pos b t hbt
      generalize Utf8.decode ⟨s.toArray⟩ pos = cw at *
      obtain ⟨c, w⟩ := cw
      rcases hda with hu | ⟨hu, _⟩
      · have hs := unit1_spec hu
        rw [units_some hu, drop_drop'] at h
        cases hr : units (s.drop (pos + w)) with
        | none => rw [hr] at h; cases h
        | some q =>
          rw [hr] at h
          cases h
          rw [count_units s fuel _ q (by omega) hr]
          simp only [List.length_cons]
          omega
      · rw [units_none (by rw [hbt]; simp) hu] at h
        cases h
    · rw [if_neg hp]
      rw [List.drop_eq_nil_of_le (by omega), units_nil] at h
      cases h
      rfl
/-- All runes good: a valid text. -/
theorem valid_units : ∀ (fuel : Nat) (l : List UInt8) (r : List Nat), l.length ≤ fuel → units l = some r → Lib.validGoD fuel l = true
  | 0, l, r, hf, h => rfl
  | fuel + 1, l, r, hf, h => by
    simp only [Lib.validGoD]
    by_cases hl : l = []
    · rw [if_pos hl]
    · rw [if_neg hl]
      obtain ⟨b, t, rfl⟩ : ∃ b t, l = b :: t := by
        cases l with
        | nil => exact (hl rfl).elim
        | cons b t => exact ⟨b, t, rfl⟩
      have hda := dec_at (b :: t) 0 b t rfl
      have hd : Lib.decodeL (b :: t) = Utf8.decode ⟨(b :: t).toArray⟩ 0 := rfl
      rw [← hd, List.drop_zero] at hda
      generalize Lib.decodeL (b :: t) = cw at *
      obtain ⟨c, w⟩ := cw
      rcases hda with hu | ⟨hu, _⟩
      · have hs := unit1_spec hu
        have hc := nmR_lt hs.1
        rw [if_neg (by simp only; omega)]
        rw [units_some hu] at h
        cases hr : units ((b :: t).drop w) with
        | none => rw [hr] at h; cases h
        | some q => exact valid_units fuel _ q (by simp at hf ⊢; omega) hr
      · rw [units_none hl hu] at h
        cases h
theorem count_ok {s : List UInt8} {r : List Nat} (h : units s = some r) : Lib.runeCount ⟨s.toArray⟩ = r.length := by
  have hsz : (⟨s.toArray⟩ : ByteArray).size = s.length := by simp [ByteArray.size]
  unfold Lib.runeCount
  exact count_units s _ 0 r (by omega) (by simpa using h)
theorem valid_ok {s : List UInt8} {r : List Nat} (h : units s = some r) : Lib.validD s = true := valid_units _ s r (Nat.le_refl _) h
end Go.Lv
