/- Keys: the plain laws of their texts. -/
import Derived.Test.YtmpbkkfkkbdndaaDoorKeyF
import Derived.Test.YtmpbkkfkkbdndaaDoorNumJ
namespace Go.Lv
open Go Go.Proofs Go.IntWalk
set_option maxRecDepth 100000
set_option linter.unusedSimpArgs false
set_option linter.unusedVariables false
variable {E : Env}
theorem splitGo_none {c : UInt8} : ∀ {l cur : List UInt8}, cutG c l = none → splitGo c cur l = [cur ++ l]
  | [], cur, h => by simp [splitGo]
  | x :: l, cur, h => by
    simp only [cutG] at h
    split at h
    · cases h
    · rename_i hx
      split at h
      · cases h
      · rename_i h'
        simp only [splitGo]
        rw [if_neg (by simpa using hx), splitGo_none h']
        simp
theorem splitGo_some {c : UInt8} : ∀ {l cur a b : List UInt8}, cutG c l = some (a, b) → splitGo c cur l = (cur ++ a) :: splitGo c [] b
  | [], cur, a, b, h => by cases h
  | x :: l, cur, a, b, h => by
    simp only [cutG] at h
    split at h
    · rename_i hx
      cases h
      simp only [splitGo]
      rw [if_pos (by simpa using hx)]
      simp
    · rename_i hx
      split at h
      · rename_i a' b' h'
        cases h
        simp only [splitGo]
        rw [if_neg (by simpa using hx), splitGo_some h']
        simp
      · cases h
theorem splitGo_ne {c : UInt8} : ∀ (l cur : List UInt8), splitGo c cur l ≠ []
  | [], cur => by simp [splitGo]
  | x :: l, cur => by
    simp only [splitGo]
    split
    · simp
    · exact splitGo_ne l _
theorem cutG_mk {c : UInt8} : ∀ (a b : List UInt8), c ∉ a → cutG c (a ++ c :: b) = some (a, b)
  | [], b, _ => by simp [cutG]
  | x :: a, b, h => by
    have hx : x ≠ c := fun e => h (by simp [e])
    simp only [List.cons_append, cutG]
    rw [if_neg (by simpa using hx), cutG_mk a b (fun e => h (by simp [e]))]
theorem cut_unique {c : UInt8} {a b a' b' : List UInt8} (h : a ++ c :: b = a' ++ c :: b') (h1 : c ∉ a) (h2 : c ∉ a') : a = a' ∧ b = b' := by
  have e := cutG_mk a b h1
  rw [h, cutG_mk a' b' h2] at e
  cases e
  exact ⟨rfl, rfl⟩
theorem dec_isD {u : Nat} {x : UInt8} (h : x ∈ Lib.decDigits u) : 48 ≤ x.toNat := by
  have := List.all_eq_true.1 (dec_all u) x h
  exact (isD_iff.1 this).1
theorem itoa_no46 {n : Int} (h0 : -9223372036854775808 ≤ n) (h1 : n ≤ 9223372036854775807) : (46 : UInt8) ∉ itoaD n := by
  rw [itoaD_eq h0 h1]
  unfold Lib.itoa
  split
  · intro h
    rcases List.mem_cons.1 h with h | h
    · exact absurd h (by decide)
    · have := dec_isD h
      exact absurd this (by decide)
  · intro h
    have := dec_isD h
    exact absurd this (by decide)
theorem cutS_sfx (s : List UInt8) : s = cutS s ++ sfx (lastIs s) := by
  rcases concat_cases s with rfl | ⟨t, x, rfl⟩
  · rfl
  · rw [cutS_app, lastIs_app]
    by_cases h : x = 45
    · subst h
      rfl
    · have hx : (x == 45) = false := by simpa using h
      rw [hx]
      simp [sfx]
theorem num_ok {l : List UInt8} {a : Int} (h : numS l = (a, 0)) : itoaD a = l := (itoa_num l a h).1
theorem num_dot {y : List UInt8} {b f : Int} (hy : numS y = (b, f)) (hd : (46 : UInt8) ∈ y) : (f == 0) = false := by
  rw [beq_eq_false_iff_ne]
  intro h
  subst h
  obtain ⟨h1, h2, h3⟩ := itoa_num y b hy
  exact itoa_no46 (by omega) (by omega) (h1 ▸ hd)
theorem kText_iff {s t x y : List UInt8} {a e b f : Int} (ht : cutS s = t) (hc : cutG 46 t = some (x, y)) (hx : numS x = (a, e)) (hy : numS y = (b, f)) :
    (kText a b (lastIs s) == s) = (true && (e == 0) && (f == 0) && kFit a b) := by
  obtain ⟨h1, h2, _⟩ := cutG_some hc
  have hs := cutS_sfx s
  rw [ht, h1] at hs
  rw [Bool.eq_iff_iff]
  simp only [beq_iff_eq, Bool.and_eq_true, Bool.true_and]
  constructor
  · intro h
    have hf : kFit a b = true := by
      cases hk : kFit a b
      · exfalso
        simp only [kText, hk, Bool.false_eq_true, if_false] at h
        rw [← h] at hs
        simp at hs
      · rfl
    have hb := kFit_iff.1 hf
    simp only [kText, hf, if_true, kTextT] at h
    have e2 : itoaD a ++ 46 :: itoaD b = x ++ 46 :: y := by
      generalize sfx (lastIs s) = w at hs h
      have : (itoaD a ++ 46 :: itoaD b) ++ w = (x ++ 46 :: y) ++ w := by rw [← hs, ← h]; simp
      exact List.append_cancel_right this
    obtain ⟨r1, r2⟩ := cut_unique e2 (itoa_no46 (by omega) (by omega)) h2
    have n1 := num_itoa a (by omega) (by omega)
    have n2 := num_itoa b (by omega) (by omega)
    rw [r1, hx] at n1
    rw [r2, hy] at n2
    cases n1
    cases n2
    exact ⟨⟨rfl, rfl⟩, hf⟩
  · rintro ⟨⟨he, hf⟩, hk⟩
    subst he hf
    simp only [kText, hk, if_true, kTextT]
    rw [num_ok hx, num_ok hy]
    conv => rhs; rw [hs]
    simp
/-- Both read the same. -/
theorem readBoth (s : List UInt8) (hs : s.length ≤ 1099511627776) : ∃ (a b : Int) (c : Bool) (e : Int), PDen Tryd.prog E 42 [.str s] (.tup [.agg [.int .i64 a, .int .i64 b, .bool c], .int .i64 e]) ∧
    PDen Tryd.prog E 43 [.str s] (.tup [.agg [.int .i64 a, .int .i64 b, .bool c], .int .i64 e]) ∧ ((e == 0) = true → kText a b c = s) := by
  have bad : ∀ a b c, kRes false a b c = .tup [.agg [.int .i64 0, .int .i64 0, .bool false], .int .i64 7] := fun _ _ _ => rfl
  have l1 := cutS_len s
  cases hc : cutG 46 (cutS s) with
  | none =>
    have hp : cutP (cutS s) = (cutS s, [], false) := by simp [cutP, hc]
    have r1 := read42 (E := E) s hs (cutS s) (cutS s) [] (lastIs s) false _ _ _ _ rfl rfl hp rfl rfl
    have r2 := read43n (E := E) s hs (cutS s) _ rfl rfl (by unfold split46; rw [splitGo_none hc]; simp)
    simp only [Bool.false_and] at r1
    rw [bad] at r1 r2
    exact ⟨_, _, _, _, r1, r2, fun h => absurd h (by decide)⟩
  | some p =>
    obtain ⟨x, y⟩ := p
    have hp : cutP (cutS s) = (x, y, true) := by simp [cutP, hc]
    obtain ⟨h1, h2, _⟩ := cutG_some hc
    have hlx : x.length ≤ s.length := by rw [h1] at l1; simp at l1; omega
    have hly : y.length ≤ s.length := by rw [h1] at l1; simp at l1; omega
    rcases hx : numS x with ⟨a, e⟩
    rcases hy : numS y with ⟨b, f⟩
    have r1 := read42 (E := E) s hs (cutS s) x y (lastIs s) true a e b f rfl rfl hp hx hy
    cases hc2 : cutG 46 y with
    | none =>
      have hL : split46 (cutS s) = [x, y] := by
        unfold split46
        rw [splitGo_some hc, splitGo_none hc2]
        simp
      have r2 := read43y (E := E) s hs (cutS s) x y a e b f rfl hL hlx hly hx hy
      have hk := kText_iff (s := s) rfl hc hx hy
      rw [← hk] at r1
      cases hr : (kText a b (lastIs s) == s)
      · rw [hr, bad] at r1 r2
        exact ⟨_, _, _, _, r1, r2, fun h => absurd h (by decide)⟩
      · rw [hr] at r1 r2
        exact ⟨_, _, _, _, r1, r2, fun _ => by simpa using hr⟩
    | some q =>
      obtain ⟨y1, y2⟩ := q
      obtain ⟨g1, _, _⟩ := cutG_some hc2
      have hf := num_dot hy (by rw [g1]; simp)
      rw [hf, Bool.and_false, Bool.false_and, bad] at r1
      have r2 := read43n (E := E) s hs (cutS s) _ rfl rfl (by
        unfold split46
        rw [splitGo_some hc, splitGo_some hc2]
        have := splitGo_ne (c := 46) y2 []
        cases h : splitGo 46 [] y2 with
        | nil => exact absurd h this
        | cons z l => simp)
      rw [bad] at r2
      exact ⟨_, _, _, _, r1, r2, fun h => absurd h (by decide)⟩
theorem itoa_small {b : Int} (h0 : 0 ≤ b) (h1 : b < 6) : itoaD b = [UInt8.ofNat (48 + b.toNat)] ∧ (UInt8.ofNat (48 + b.toNat) == 45) = false := by
  have : b = 0 ∨ b = 1 ∨ b = 2 ∨ b = 3 ∨ b = 4 ∨ b = 5 := by omega
  rcases this with rfl | rfl | rfl | rfl | rfl | rfl <;> exact ⟨by decide, by decide⟩
theorem read_text (a b : Int) (c : Bool) (hf : kFit a b = true) : PDen Tryd.prog E 42 [.str (kText a b c)] (.tup [.agg [.int .i64 a, .int .i64 b, .bool c], .int .i64 0]) := by
  have hb := kFit_iff.1 hf
  obtain ⟨i1, i2⟩ := itoa_small hb.2.2.1 hb.2.2.2
  have hT : kText a b c = itoaD a ++ [46] ++ itoaD b ++ sfx c := by simp [kText, hf, kTextT]
  have hla := itoaD_len20 a (by omega) (by omega)
  have hlen : (kText a b c).length ≤ 1099511627776 := by
    rw [hT, i1]
    simp only [List.length_append, List.length_cons, List.length_nil, sfx]
    split <;> simp <;> omega
  have hcut : cutS (kText a b c) = itoaD a ++ 46 :: itoaD b ∧ lastIs (kText a b c) = c := by
    rw [hT]
    cases c
    · simp only [sfx, Bool.false_eq_true, if_false, List.append_nil]
      rw [i1, cutS_app, lastIs_app, i2]
      simp
    · simp only [sfx, if_true]
      rw [cutS_app, lastIs_app]
      simp
  have hno : (46 : UInt8) ∉ itoaD a := itoa_no46 (by omega) (by omega)
  have hp : cutP (itoaD a ++ 46 :: itoaD b) = (itoaD a, itoaD b, true) := by simp only [cutP, cutG_mk _ _ hno]
  have r := read42 (E := E) (kText a b c) hlen _ _ _ _ _ _ _ _ _ hcut.1 hcut.2 hp (num_itoa a (by omega) (by omega)) (num_itoa b (by omega) (by omega))
  rw [hf] at r
  exact r
/- Their order. -/
theorem below_tri (a b : Int) (c : Bool) (a' b' : Int) (c' : Bool) :
    (kBelow a b c a' b' c' = true ∧ kBelow a' b' c' a b c = false ∧ ¬ (a = a' ∧ b = b' ∧ c = c')) ∨
    (kBelow a b c a' b' c' = false ∧ kBelow a' b' c' a b c = true ∧ ¬ (a = a' ∧ b = b' ∧ c = c')) ∨
    (kBelow a b c a' b' c' = false ∧ kBelow a' b' c' a b c = false ∧ a = a' ∧ b = b' ∧ c = c') := by
  unfold kBelow
  rcases Int.lt_trichotomy a a' with h | h | h
  · left
    have : ¬ a' < a := by omega
    have : ¬ a' = a := by omega
    have : ¬ a = a' := by omega
    simp_all
  · subst h
    rcases Int.lt_trichotomy b b' with h | h | h
    · left
      have : ¬ b' < b := by omega
      have : ¬ b' = b := by omega
      have : ¬ b = b' := by omega
      simp_all
    · subst h
      cases c <;> cases c' <;> simp
    · right; left
      have : ¬ b < b' := by omega
      have : ¬ b' = b := by omega
      have : ¬ b = b' := by omega
      simp_all
  · right; left
    have : ¬ a < a' := by omega
    have : ¬ a' = a := by omega
    have : ¬ a = a' := by omega
    simp_all
theorem below_trans {a b : Int} {c : Bool} {a' b' : Int} {c' : Bool} {d e : Int} {f : Bool} (h1 : kBelow a b c a' b' c' = true) (h2 : kBelow a' b' c' d e f = true) : kBelow a b c d e f = true := by
  unfold kBelow at *
  simp only [Bool.or_eq_true, Bool.and_eq_true, decide_eq_true_eq, Bool.not_eq_true'] at *
  rcases h1 with h1 | ⟨rfl, h1 | ⟨rfl, h1, h1'⟩⟩ <;> rcases h2 with h2 | ⟨rfl, h2 | ⟨rfl, h2, h2'⟩⟩
  · left; omega
  · left; omega
  · left; omega
  · left; omega
  · right; exact ⟨rfl, .inl (by omega)⟩
  · right; exact ⟨rfl, .inl (by omega)⟩
  · left; omega
  · right; exact ⟨rfl, .inl (by omega)⟩
  · simp_all
end Go.Lv
