/- Num: there and back: digits and numbers, in plain words. -/
import Derived.Test.YtmpbkkfkkbdndabDoorNumH
namespace Go.Lv
open Go Go.Proofs
set_option linter.unusedSimpArgs false
theorem numG_app : ∀ (a b : List UInt8) (n : Int), numG n (a ++ b) = (numG n a).bind fun m => numG m b
  | [], b, n => rfl
  | x :: a, b, n => by
    simp only [List.cons_append, numG]
    split
    · rfl
    · exact numG_app a b _
theorem numG_one {d : Nat} (hd : d < 10) (n : Int) (h : n * 10 + d ≤ 4611686018427387904) : numG n [UInt8.ofNat (48 + d)] = some (n * 10 + d) := by
  have e : (((UInt8.ofNat (48 + d)).toNat : Int) - 48) = d := by
    rw [UInt8.toNat_ofNat']
    omega
  simp only [numG, e]
  rw [if_neg (by omega)]
theorem numG_bounds : ∀ (l : List UInt8) (n r : Int), l.all isD = true → 0 ≤ n → n ≤ 4611686018427387904 → numG n l = some r → 0 ≤ r ∧ r ≤ 4611686018427387904
  | [], n, r, _, h0, h1, h => by cases h; exact ⟨h0, h1⟩
  | x :: l, n, r, ha, h0, h1, h => by
    rw [List.all_cons, Bool.and_eq_true] at ha
    have hx := isD_iff.1 ha.1
    simp only [numG] at h
    split at h
    · cases h
    · exact numG_bounds l _ r ha.2 (by omega) (by omega) h
theorem dec_step (u : Nat) (h : ¬ u < 10) : Lib.decDigits u = Lib.decDigits (u / 10) ++ [UInt8.ofNat (48 + u % 10)] := by
  rw [Lib.decDigits, dif_neg h]
theorem isD_dig {d : Nat} (hd : d < 10) : isD (UInt8.ofNat (48 + d)) = true := by
  rw [isD_iff, UInt8.toNat_ofNat']
  omega
theorem dec_all (u : Nat) : (Lib.decDigits u).all isD = true := by
  induction u using Nat.strongRecOn with
  | _ u ih =>
    by_cases h : u < 10
    · rw [dec_small h]
      simp only [List.all_cons, List.all_nil, Bool.and_true]
      exact isD_dig h
    · rw [dec_step u h, List.all_append, ih _ (by omega)]
      simp only [List.all_cons, List.all_nil, Bool.and_true, Bool.true_and]
      exact isD_dig (Nat.mod_lt u (by omega : 0 < 10))
theorem dec_head (u : Nat) (hu : 1 ≤ u) : ∃ c t, Lib.decDigits u = c :: t ∧ c ≠ 48 ∧ c ≠ 45 := by
  induction u using Nat.strongRecOn with
  | _ u ih =>
    by_cases h : u < 10
    · rw [dec_small h]
      refine ⟨_, _, rfl, ?_, ?_⟩ <;> intro e <;> have := congrArg UInt8.toNat e <;> rw [UInt8.toNat_ofNat'] at this <;> simp at this <;> omega
    · obtain ⟨c, t, e, h1⟩ := ih (u / 10) (by omega) (by omega)
      rw [dec_step u h, e]
      exact ⟨c, _, rfl, h1⟩
theorem dec_numG (u : Nat) (hu : u ≤ 4611686018427387904) : numG 0 (Lib.decDigits u) = some (u : Int) := by
  induction u using Nat.strongRecOn with
  | _ u ih =>
    by_cases h : u < 10
    · rw [dec_small h, numG_one h 0 (by omega)]
      simp
    · rw [dec_step u h, numG_app, ih _ (by omega) (by omega), Option.bind_some, numG_one (Nat.mod_lt u (by omega : 0 < 10)) _ (by omega)]
      congr 1
      omega
theorem num_itoa (n : Int) (h0 : -4611686018427387904 ≤ n) (h1 : n ≤ 4611686018427387904) : numS (itoaD n) = (n, 0) := by
  rw [itoaD_eq (by omega) (by omega)]
  unfold Lib.itoa
  by_cases hn : n < 0
  · rw [if_pos hn]
    obtain ⟨c, t, e, hc, _⟩ := dec_head n.natAbs (by omega)
    have ha := dec_all n.natAbs
    have hg := dec_numG n.natAbs (by omega)
    unfold numS
    rw [e] at ha hg ⊢
    rw [if_pos (show (45 :: c :: t)[0]? = some 45 from rfl), if_neg (by simpa using hc)]
    show numT finN (c :: t) = _
    unfold numT
    rw [if_pos ha, hg]
    simp only [finN]
    congr 1
    omega
  · rw [if_neg hn]
    by_cases hz : n = 0
    · subst hz
      have e : Lib.decDigits (0 : Int).toNat = [48] := by rw [dec_small (by decide)]; rfl
      rw [e]
      decide
    · obtain ⟨c, t, e, hc, hc'⟩ := dec_head n.toNat (by omega)
      have ha := dec_all n.toNat
      have hg := dec_numG n.toNat (by omega)
      unfold numS
      rw [e] at ha hg ⊢
      rw [if_neg (by simpa using hc'), if_neg (by simp [hc])]
      show numT finP (c :: t) = _
      unfold numT
      rw [if_pos ha, hg]
      simp only [finP]
      congr 1
      omega
theorem dec_back (l : List UInt8) (ha : l.all isD = true) (h : ∃ c t, l = c :: t ∧ c ≠ 48) : ∀ r, numG 0 l = some r → 1 ≤ r ∧ Lib.decDigits r.toNat = l := by
  induction hk : l.length generalizing l with
  | zero =>
    obtain ⟨c, t, rfl, _⟩ := h
    cases hk
  | succ k ih =>
    intro r hr
    have hne : l ≠ [] := by rintro rfl; cases hk
    obtain ⟨i, b, rfl⟩ : ∃ i b, l = i ++ [b] := ⟨l.dropLast, l.getLast hne, (List.dropLast_concat_getLast hne).symm⟩
    rw [List.all_append, Bool.and_eq_true] at ha
    have hb := isD_iff.1 (by simpa using ha.2 : isD b = true)
    obtain ⟨d, hd, hbd⟩ : ∃ d, d < 10 ∧ b = UInt8.ofNat (48 + d) := ⟨b.toNat - 48, by omega, by
      rw [← UInt8.toNat_inj, UInt8.toNat_ofNat']
      omega⟩
    have hbn : (b.toNat : Int) - 48 = d := by rw [hbd, UInt8.toNat_ofNat']; omega
    rw [numG_app] at hr
    cases hi : numG 0 i with
    | none => rw [hi] at hr; cases hr
    | some m =>
      rw [hi, Option.bind_some] at hr
      simp only [numG, hbn] at hr
      split at hr
      · cases hr
      · rename_i hlt
        cases hr
        cases i with
        | nil =>
          cases hi
          obtain ⟨c, t, e, hc⟩ := h
          cases e
          have hd0 : d ≠ 0 := by
            rintro rfl
            exact hc hbd
          refine ⟨by omega, ?_⟩
          have : ((0 : Int) * 10 + d).toNat = d := by omega
          rw [this, dec_small hd, hbd]
          rfl
        | cons c t =>
          obtain ⟨c', t', e, hc⟩ := h
          cases e
          obtain ⟨hm, hdm⟩ := ih (c :: t) ha.1 ⟨c, t, rfl, hc⟩ (by simpa using hk) m hi
          refine ⟨by omega, ?_⟩
          have : (m * 10 + (d : Int)).toNat = 10 * m.toNat + d := by omega
          rw [this, dec_big hd (by omega), hdm, hbd]
theorem itoa_num (l : List UInt8) (k : Int) (h : numS l = (k, 0)) : itoaD k = l ∧ -4611686018427387904 ≤ k ∧ k ≤ 4611686018427387904 := by
  have key : ∀ (fin : Option Int → Int × Int) (ds : List UInt8), (∀ x, (fin x).2 = 0 → ∃ n, x = some n) → numT fin ds = (k, 0) → ds.all isD = true ∧ ∃ n, numG 0 ds = some n ∧ fin (some n) = (k, 0) := by
    intro fin ds hf e
    unfold numT at e
    split at e
    · rename_i ha
      obtain ⟨n, hn⟩ := hf _ (by rw [e])
      exact ⟨ha, n, hn, by rw [← hn, e]⟩
    · cases e
  unfold numS at h
  split at h
  · rename_i h45
    split at h
    · cases h
    · rename_i h1
      obtain ⟨ha, n, hn, hk⟩ := key finN _ (fun x hx => by cases x with | none => simp [finN] at hx | some n => exact ⟨n, rfl⟩) h
      simp only [finN, Prod.mk.injEq, and_true] at hk
      cases l with
      | nil => cases h45
      | cons a t =>
        obtain rfl : a = 45 := Option.some.inj h45
        simp only [List.drop_one, List.tail_cons] at ha hn
        have hb := numG_bounds t 0 n ha (by omega) (by omega) hn
        cases t with
        | nil => exact absurd (.inl rfl) h1
        | cons c t =>
          obtain ⟨h2, h3⟩ := dec_back (c :: t) ha ⟨c, t, rfl, fun e => h1 (.inr (by rw [e]; rfl))⟩ n hn
          refine ⟨?_, by omega, by omega⟩
          rw [itoaD_eq (by omega) (by omega)]
          unfold Lib.itoa
          rw [if_pos (by omega), ← h3]
          congr 2
          omega
  · rename_i h45
    split at h
    · cases h
    · rename_i h1
      obtain ⟨ha, n, hn, hk⟩ := key finP _ (fun x hx => by cases x with | none => simp [finP] at hx | some n => exact ⟨n, rfl⟩) h
      simp only [finP, Prod.mk.injEq, and_true] at hk
      subst hk
      rw [List.drop_zero] at ha hn
      have hb := numG_bounds l 0 n ha (by omega) (by omega) hn
      refine ⟨?_, by omega, by omega⟩
      rw [itoaD_eq (by omega) (by omega)]
      unfold Lib.itoa
      rw [if_neg (by omega)]
      cases l with
      | nil => exact absurd (.inl rfl) h1
      | cons c t =>
        by_cases hc : c = 48
        · subst hc
          cases t with
          | nil =>
            have : numG 0 [48] = some 0 := by decide
            rw [this] at hn
            cases hn
            rw [dec_small (by decide)]
            rfl
          | cons d t => exact absurd (.inr ⟨rfl, by simp⟩) h1
        · exact (dec_back (c :: t) ha ⟨c, t, rfl, hc⟩ n hn).2
theorem num_zero (l : List UInt8) (h : (numS l).2 ≠ 0) : (numS l).1 = 0 := by
  have key : ∀ (fin : Option Int → Int × Int) (ds : List UInt8), (∀ x, (fin x).2 ≠ 0 → (fin x).1 = 0) → (numT fin ds).2 ≠ 0 → (numT fin ds).1 = 0 := by
    intro fin ds hf e
    unfold numT at e ⊢
    split at e
    · rename_i ha
      rw [if_pos ha]
      exact hf _ e
    · rename_i ha
      rw [if_neg ha]
  unfold numS at h ⊢
  split at h
  · rename_i h45
    rw [if_pos h45]
    split at h
    · rename_i h1; rw [if_pos h1]
    · rename_i h1
      rw [if_neg h1]
      exact key _ _ (fun x hx => by cases x <;> simp_all [finN]) h
  · rename_i h45
    rw [if_neg h45]
    split at h
    · rename_i h1; rw [if_pos h1]
    · rename_i h1
      rw [if_neg h1]
      exact key _ _ (fun x hx => by cases x <;> simp_all [finP]) h
end Go.Lv
