/- DefP: definitions, plainly: places, rules. -/
import Derived.Test.YtmpbkkfkkbdndabDoorNvY
namespace Go.Lv
open Go
set_option linter.unusedVariables false
set_option linter.unusedSimpArgs false
/-- Where the first one of which something is so stands; -1: nowhere. -/
def ixP {α : Type} (p : α → Bool) : List α → Int
  | [] => -1
  | x :: l => if p x = true then 0 else if ixP p l < 0 then -1 else ixP p l + 1
theorem ixP_ge {α : Type} (p : α → Bool) : ∀ l : List α, -1 ≤ ixP p l ∧ ixP p l < (l.length : Int)
  | [] => by simp [ixP]
  | x :: l => by
    have := ixP_ge p l
    simp only [ixP, List.length_cons]
    split
    · omega
    · split <;> omega
theorem ixP_hit {α : Type} {p : α → Bool} : ∀ {l : List α} {i : Nat} {x : α}, (∀ j y, j < i → l[j]? = some y → p y = false) → l[i]? = some x → p x = true → ixP p l = i
  | [], i, x, _, h, _ => by simp at h
  | y :: l, 0, x, _, h, hp => by
    simp at h
    subst h
    simp [ixP, hp]
  | y :: l, i + 1, x, hno, h, hp => by
    have h0 : p y = false := hno 0 y (by omega) rfl
    have ih := ixP_hit (p := p) (l := l) (i := i) (x := x) (fun j z hj hz => hno (j + 1) z (by omega) (by simpa using hz)) (by simpa using h) hp
    simp only [ixP, h0, Bool.false_eq_true, if_false, ih]
    split <;> omega
theorem ixP_none {α : Type} {p : α → Bool} : ∀ {l : List α}, (∀ (j : Nat) (y : α), l[j]? = some y → p y = false) → ixP p l = -1
  | [], _ => rfl
  | y :: l, hno => by
    have h0 : p y = false := hno 0 y rfl
    have ih := ixP_none (p := p) (l := l) fun j z hz => hno (j + 1) z (by simpa using hz)
    simp [ixP, h0, ih]
theorem ixP_at {α : Type} {p : α → Bool} : ∀ {l : List α} {i : Nat}, ixP p l = i → ∃ x, l[i]? = some x ∧ p x = true ∧ ∀ j y, j < i → l[j]? = some y → p y = false
  | [], i, h => by simp only [ixP] at h; omega
  | y :: l, i, h => by
    simp only [ixP] at h
    split at h
    · rename_i hp
      have hi : i = 0 := by omega
      subst hi
      exact ⟨y, rfl, hp, fun j z hj => by omega⟩
    · rename_i hp
      split at h
      · omega
      · cases i with
        | zero => omega
        | succ i =>
          obtain ⟨x, h1, h2, h3⟩ := ixP_at (p := p) (l := l) (i := i) (by omega)
          refine ⟨x, by simpa using h1, h2, fun j z hj hz => ?_⟩
          cases j with
          | zero => simp at hz; subst hz; simpa using hp
          | succ j => exact h3 j z (by omega) (by simpa using hz)
theorem ixP_neg {α : Type} {p : α → Bool} : ∀ {l : List α}, ixP p l < 0 → ∀ x ∈ l, p x = false
  | [], _, x, hx => by simp at hx
  | y :: l, h, x, hx => by
    simp only [ixP] at h
    split at h
    · omega
    · rename_i hp
      split at h
      · rename_i hl
        rcases List.mem_cons.1 hx with rfl | hx
        · simpa using hp
        · exact ixP_neg hl x hx
      · rename_i hl
        omega
theorem ixP_any {α : Type} (p : α → Bool) (l : List α) : l.any p = decide (0 ≤ ixP p l) := by
  by_cases h : ixP p l < 0
  · rw [decide_eq_false (by omega)]
    rw [List.any_eq_false]
    intro x hx
    simp [ixP_neg h x hx]
  · rw [decide_eq_true (by omega : 0 ≤ ixP p l)]
    obtain ⟨x, h1, h2, _⟩ := ixP_at (p := p) (l := l) (i := (ixP p l).toNat) (by omega)
    exact List.any_eq_true.2 ⟨x, List.mem_of_getElem? h1, h2⟩
/-- All, with their places. -/
def allF {α : Type} (f : Nat → α → Bool) : Nat → List α → Bool
  | _, [] => true
  | i, x :: l => f i x && allF f (i + 1) l
theorem allF_iff {α : Type} {f : Nat → α → Bool} : ∀ {l : List α} {i : Nat}, allF f i l = true ↔ ∀ j x, l[j]? = some x → f (i + j) x = true
  | [], i => by simp [allF]
  | y :: l, i => by
    simp only [allF, Bool.and_eq_true]
    rw [allF_iff]
    constructor
    · rintro ⟨h1, h2⟩ j x hj
      cases j with
      | zero => simp at hj; subst hj; exact h1
      | succ j =>
        have := h2 j x (by simpa using hj)
        rwa [Nat.add_assoc, Nat.add_comm 1 j] at this
    · intro h
      refine ⟨h 0 y rfl, fun j x hj => ?_⟩
      have := h (j + 1) x (by simpa using hj)
      rwa [Nat.add_assoc, Nat.add_comm 1 j]
theorem allF_no {α : Type} {f : Nat → α → Bool} {l : List α} {j : Nat} {x : α} (hj : l[j]? = some x) (h : f j x = false) : allF f 0 l = false := by
  cases hh : allF f 0 l with
  | false => rfl
  | true =>
    have := allF_iff.1 hh j x hj
    rw [Nat.zero_add, h] at this
    cases this
end Go.Lv
