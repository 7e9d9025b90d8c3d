/- NameA: names, plainly: which texts are names. -/
import Derived.Test.YtmpbkkfkkbdndabDoorNvY
import Derived.Lib.ValidU
import Derived.Lib.RuneCount
namespace Go.Lv
open Go
set_option linter.unusedVariables false
set_option linter.unusedSimpArgs false
/-- May a rune stand in a name? -/
def nmR (r : Nat) : Bool := decide (97 ≤ r ∧ r ≤ 122 ∨ 48 ≤ r ∧ r ≤ 57 ∨ r = 45 ∨ 223 ≤ r ∧ r ≤ 255 ∧ r ≠ 247)
/-- The first rune, if it may stand in a name, and how many octets it has. -/
def unit1 : List UInt8 → Option (Nat × Nat)
  | [] => none
  | b :: t => if b.toNat < 128 then (if nmR b.toNat = true then some (b.toNat, 1) else none)
    else match t with
      | x :: _ => if b.toNat = 195 ∧ 159 ≤ x.toNat ∧ x.toNat ≤ 191 ∧ x.toNat ≠ 183 then some (64 + x.toNat, 2) else none
      | [] => none
/-- The runes of a text that may all stand in a name. -/
def unitsF : Nat → List UInt8 → Option (List Nat)
  | _, [] => some []
  | 0, _ => none
  | n + 1, l => match unit1 l with
    | some (c, w) => match unitsF n (l.drop w) with
      | some r => some (c :: r)
      | none => none
    | none => none
def units (l : List UInt8) : Option (List Nat) := unitsF l.length l
def nameS (l : List UInt8) : Bool := match units l with
  | some r => decide (1 ≤ r.length ∧ r.length ≤ 12 ∧ r.head? ≠ some 45)
  | none => false

theorem unit1_spec {l : List UInt8} {c w : Nat} (h : unit1 l = some (c, w)) : nmR c = true ∧ 1 ≤ w ∧ w ≤ 2 ∧ w ≤ l.length := by
  unfold unit1 at h
  split at h
  · cases h
  · rename_i b t
    split at h
    · split at h
      · cases h
        rename_i hb hn
        exact ⟨hn, by omega, by omega, by simp⟩
      · cases h
    · split at h
      · rename_i x t'
        split at h
        · cases h
          rename_i hx
          refine ⟨?_, by omega, by omega, by simp⟩
          simp only [nmR, decide_eq_true_eq]
          omega
        · cases h
      · cases h

/-- The machine's own reading of the rune at a place. -/
theorem dec_at (s : List UInt8) (pos : Nat) (b : UInt8) (t : List UInt8) (h : s.drop pos = b :: t) :
    (unit1 (s.drop pos) = some (Utf8.decode ⟨s.toArray⟩ pos)) ∨ (unit1 (s.drop pos) = none ∧ nmR (Utf8.decode ⟨s.toArray⟩ pos).1 = false) := by
  have hlen : pos < s.length := by
    rcases Nat.lt_or_ge pos s.length with h1 | h1
    · exact h1
    · rw [List.drop_eq_nil_of_le h1] at h; cases h
  have hg : ∀ k, s[pos + k]? = (b :: t)[k]? := fun k => by rw [← h, List.getElem?_drop]
  have hget : ∀ k (x : UInt8), s[pos + k]? = some x → (ByteArray.get! ⟨s.toArray⟩ (pos + k)) = x := fun k x hx => by
    simp [ByteArray.get!, Array.getD_eq_getD_getElem?, getElem!_def, hx]
  have h0 : ByteArray.get! ⟨s.toArray⟩ (pos + 0) = b := hget 0 b (by rw [hg]; rfl)
  have hsz : (⟨s.toArray⟩ : ByteArray).size = s.length := by simp [ByteArray.size]
  have hts : s.length = pos + 1 + t.length := by
    have := congrArg List.length h
    simp only [List.length_drop, List.length_cons] at this
    omega
  rw [h]
  have hb := b.toNat_lt
  cases t with
  | nil =>
    have e1 : decide (pos + 1 < s.length) = false := by simp [hts]
    have e2 : decide (pos + 2 < s.length) = false := by simp [hts]
    have e3 : decide (pos + 3 < s.length) = false := by simp [hts]
    simp only [Utf8.decode, h0, hsz, e1, e2, e3, Bool.false_and, Bool.and_false]
    by_cases hb1 : b.toNat < 128
    · simp only [unit1, hb1, if_true]
      by_cases hn : nmR b.toNat = true
      · exact .inl (by simp [hn])
      · exact .inr ⟨by simp [hn], by simpa using hn⟩
    · right
      simp only [unit1, hb1, if_false]
      refine ⟨trivial, ?_⟩
      simp only [Bool.false_eq_true, if_false]
      decide
  | cons x t =>
    have h1 : ByteArray.get! ⟨s.toArray⟩ (pos + 1) = x := hget 1 x (by rw [hg]; rfl)
    have hx := x.toNat_lt
    have e1 : decide (pos + 1 < s.length) = true := by simp [hts]
    by_cases hb1 : b.toNat < 128
    · simp only [Utf8.decode, h0, hb1, if_true, unit1]
      by_cases hn : nmR b.toNat = true
      · exact .inl (by simp [hn])
      · exact .inr ⟨by simp [hn], by simpa using hn⟩
    · by_cases hu : b.toNat = 195 ∧ 159 ≤ x.toNat ∧ x.toNat ≤ 191 ∧ x.toNat ≠ 183
      · left
        obtain ⟨u1, u2, u3, u4⟩ := hu
        have q1 : (b.toNat / 32 == 6) = true := by simp [u1]
        have q2 : (x.toNat / 64 == 2) = true := by
          have : x.toNat / 64 = 2 := by omega
          simp [this]
        have q3 : b.toNat % 32 * 64 + x.toNat % 64 = 64 + x.toNat := by omega
        simp only [Utf8.decode, h0, h1, hb1, if_false, hsz, e1, q1, q2, q3, Bool.and_self, if_true, unit1]
        rw [if_pos ⟨u1, u2, u3, u4⟩, if_pos (by omega)]
      · right
        refine ⟨by simp only [unit1, hb1, if_false]; rw [if_neg hu], ?_⟩
        have err : nmR 65533 = false := by decide
        simp only [Utf8.decode, h0, h1, hb1, if_false, hsz, e1, Bool.true_and]
        split
        · rename_i hc
          simp only [Bool.and_eq_true, beq_iff_eq] at hc
          split
          · rename_i hge
            simp only [nmR, decide_eq_false_iff_not]
            omega
          · exact err
        · split
          · split
            · rename_i hge
              simp only [Bool.and_eq_true, decide_eq_true_eq] at hge
              simp only [nmR, decide_eq_false_iff_not]
              omega
            · exact err
          · split
            · split
              · rename_i hge
                simp only [Bool.and_eq_true, decide_eq_true_eq] at hge
                simp only [nmR, decide_eq_false_iff_not]
                omega
              · exact err
            · exact err
end Go.Lv
