/- Letters: the plain laws. -/
import Derived.Test.YtmpbkkfkkbdndaaDoorLetH
import Derived.Test.YtmpbkkfkkbdndaaDoorLetK
import Derived.Test.YtmpbkkfkkbdndaaDoorKeyT
namespace Go.Lv
open Go Go.Proofs Go.IntWalk
set_option linter.unusedVariables false
theorem ins_cons {x y : Lt} {l : List Lt} (h : y.g < x.g) : ins x (y :: l) = y :: ins x l := by
  simp [ins, pos, h]
theorem ins_stop {x y : Lt} {l : List Lt} (h : ¬ y.g < x.g) : ins x (y :: l) = x :: y :: l := by
  simp [ins, pos, h]
theorem ins_nil (x : Lt) : ins x [] = [x] := rfl
theorem ins_len (x : Lt) : ∀ l : List Lt, (ins x l).length = l.length + 1
  | [] => rfl
  | y :: l => by
    by_cases h : y.g < x.g
    · rw [ins_cons h, List.length_cons, ins_len x l]; rfl
    · rw [ins_stop h]; rfl
theorem fit_ins {x : Lt} (ho : oneS x = true) : ∀ {l : List Lt} {last : Int}, fitG last l = true → last < x.g → plc x.g l = none → fitG last (ins x l) = true
  | [], last, h, hl, hp => by
    rw [ins_nil]
    simp [fitG, ho, hl]
  | y :: l, last, h, hl, hp => by
    have hne := plc_none hp y (by simp)
    simp only [fitG, Bool.and_eq_true, decide_eq_true_eq] at h
    by_cases hy : y.g < x.g
    · rw [ins_cons hy]
      simp only [fitG, h.1, Bool.true_and, Bool.and_eq_true, decide_eq_true_eq]
      refine ⟨h.2.1, fit_ins ho h.2.2 hy ?_⟩
      simp only [plc] at hp
      rw [if_neg hne] at hp
      split at hp
      · cases hp
      · assumption
    · rw [ins_stop hy]
      simp only [fitG, ho, h.1, Bool.true_and, Bool.and_eq_true, decide_eq_true_eq]
      exact ⟨hl, by omega, h.2.2⟩
theorem plc_ins {x : Lt} : ∀ {l : List Lt}, plc x.g l = none → plc x.g (ins x l) = some (pos x.g l)
  | [], _ => by simp [ins_nil, plc, pos]
  | y :: l, hp => by
    have hne := plc_none hp y (by simp)
    have hp' : plc x.g l = none := by
      simp only [plc] at hp
      rw [if_neg hne] at hp
      split at hp
      · cases hp
      · assumption
    by_cases hy : y.g < x.g
    · rw [ins_cons hy]
      simp only [plc, pos]
      rw [if_neg hne, if_pos hy, plc_ins hp']
    · rw [ins_stop hy]
      simp only [plc, pos]
      rw [if_pos trivial, if_neg hy]
theorem ins_at (x : Lt) (l : List Lt) : (ins x l).getD (pos x.g l) Lt.zero = x ∧ (ins x l).take (pos x.g l) ++ (ins x l).drop (pos x.g l + 1) = l := by
  have hle := pos_le x.g l
  have h1 : (l.take (pos x.g l)).length = pos x.g l := by rw [List.length_take]; omega
  unfold ins
  refine ⟨?_, ?_⟩
  · rw [List.getD_eq_getElem?_getD, List.append_assoc, List.getElem?_append_right (by omega), h1, Nat.sub_self]
    rfl
  · rw [List.append_assoc, List.take_append_of_le_length (by omega), List.take_of_length_le (by omega)]
    rw [show l.take (pos x.g l) ++ ([x] ++ l.drop (pos x.g l)) = (l.take (pos x.g l) ++ [x]) ++ l.drop (pos x.g l) from by simp]
    rw [List.drop_append_of_le_length (by simp [h1]), List.drop_eq_nil_of_le (by simp [h1])]
    simp
/- Unlike letters have unlike texts. -/
theorem splitGo_word {c : UInt8} : ∀ (w cur rest : List UInt8), c ∉ w → splitGo c cur (w ++ c :: rest) = (cur ++ w) :: splitGo c [] rest
  | [], cur, rest, _ => by simp [splitGo]
  | x :: w, cur, rest, h => by
    have hx : x ≠ c := fun e => h (by simp [e])
    simp only [List.cons_append, splitGo]
    rw [if_neg hx, splitGo_word w _ rest (fun e => h (by simp [e]))]
    simp
theorem splitGo_last {c : UInt8} : ∀ (w cur : List UInt8), c ∉ w → splitGo c cur w = [cur ++ w]
  | [], cur, _ => by simp [splitGo]
  | x :: w, cur, h => by
    have hx : x ≠ c := fun e => h (by simp [e])
    simp only [splitGo]
    rw [if_neg hx, splitGo_last w _ (fun e => h (by simp [e]))]
    simp
theorem split_join : ∀ (ws : List (List UInt8)), ws ≠ [] → (∀ w ∈ ws, (32 : UInt8) ∉ w) → splitGo 32 [] (Lib.join ws [32]) = ws
  | [], h, _ => absurd rfl h
  | [w], _, hw => by
    rw [Lib.join_one, splitGo_last w [] (hw w (by simp))]
    rfl
  | w :: v :: r, _, hw => by
    have e : Lib.join (w :: v :: r) [32] = w ++ 32 :: Lib.join (v :: r) [32] := by
      rw [Lib.join_cons, Lib.join_cons]
      simp [Lib.joinTail]
    rw [e, splitGo_word w [] _ (hw w (by simp)), split_join (v :: r) (by simp) fun z hz => hw z (by simp [hz])]
    rfl
theorem itoa_no32 {n : Int} (h0 : -9223372036854775808 ≤ n) (h1 : n ≤ 9223372036854775807) : (32 : UInt8) ∉ itoaD n := by
  rw [itoaD_eq h0 h1]
  unfold Lib.itoa
  split
  · intro h
    rcases List.mem_cons.1 h with h | h
    · exact absurd h (by decide)
    · have := dec_isD h
      exact absurd this (by decide)
  · intro h
    have := dec_isD h
    exact absurd this (by decide)
theorem itoa_inj {a b : Int} (h0 : -4611686018427387904 ≤ a) (h1 : a ≤ 4611686018427387904) (h2 : -4611686018427387904 ≤ b) (h3 : b ≤ 4611686018427387904) (h : itoaD a = itoaD b) : a = b := by
  have e1 := num_itoa a h0 h1
  rw [h, num_itoa b h2 h3] at e1
  cases e1
  rfl
theorem words_ok {x : Lt} (ho : oneS x = true) : ∀ w ∈ wordsS x, (32 : UInt8) ∉ w := by
  have h := oneS_iff.1 ho
  have hF := F_iff.1 h.2.2.2.2.2
  have h1 := itoa_no32 (n := x.g) (by omega) (by omega)
  have h2 := itoa_no32 (n := x.s) (by omega) (by omega)
  have h3 := itoa_no32 (n := x.a) (by omega) (by omega)
  have c1 : (32 : UInt8) ∉ sagaB := by decide
  have c2 : (32 : UInt8) ∉ stepB := by decide
  have c3 : (32 : UInt8) ∉ backB := by decide
  have c4 : (32 : UInt8) ∉ triesB := by decide
  have c5 : (32 : UInt8) ∉ parkedB := by decide
  have c6 : (32 : UInt8) ∉ atB := by decide
  intro w hw
  unfold wordsS at hw
  simp only [List.mem_append, List.mem_cons, List.not_mem_nil, or_false] at hw
  rcases hw with ((hw | hw) | hw) | hw
  · rcases hw with rfl | rfl | rfl | rfl <;> assumption
  · split at hw
    · simp only [List.mem_cons, List.not_mem_nil, or_false] at hw
      subst hw
      exact c3
    · cases hw
  · subst hw
    split <;> assumption
  · rcases hw with rfl | rfl <;> assumption
theorem text_inj {x y : Lt} (hx : oneS x = true) (hy : oneS y = true) (h : textS x = textS y) : x = y := by
  simp only [textS, hx, hy, if_true] at h
  have e1 := split_join (wordsS x) (by simp [wordsS]) (words_ok hx)
  rw [h, split_join (wordsS y) (by simp [wordsS]) (words_ok hy)] at e1
  have a1 := oneS_iff.1 hx
  have a2 := oneS_iff.1 hy
  have f1 := F_iff.1 a1.2.2.2.2.2
  have f2 := F_iff.1 a2.2.2.2.2.2
  have inj : ∀ {a b : Int}, 0 ≤ a → a ≤ 1099511627776 → 0 ≤ b → b ≤ 1099511627776 → itoaD b = itoaD a → a = b := fun p q r s e => itoa_inj (by omega) (by omega) (by omega) (by omega) e.symm
  have tp : triesB ≠ parkedB := by decide
  have y1 : ∀ {a b : Int}, (a = 7 ∨ a = 8) → (b = 7 ∨ b = 8) → (if b == 7 then triesB else parkedB) = (if a == 7 then triesB else parkedB) → a = b := by
    intro a b ha hb e
    rcases ha with rfl | rfl <;> rcases hb with rfl | rfl
    · rfl
    · exact absurd e.symm tp
    · exact absurd e tp
    · rfl
  obtain ⟨xg, xs, xk, xy, xa⟩ := x
  obtain ⟨yg, ys, yk, yy, ya⟩ := y
  simp only at a1 a2 f1 f2
  cases xk <;> cases yk <;> simp only [wordsS, Bool.false_eq_true, if_false, if_true, List.append_nil, List.cons_append, List.nil_append, List.cons.injEq, and_true, true_and] at e1
  · obtain ⟨g1, s1, w1, t1⟩ := e1
    obtain rfl := inj (by omega) (by omega) (by omega) (by omega) g1
    obtain rfl := inj (by omega) (by omega) (by omega) (by omega) s1
    obtain rfl := inj (by omega) (by omega) (by omega) (by omega) t1
    obtain rfl := y1 a1.2.2.2.2.1 a2.2.2.2.2.1 w1
    rfl
  · simp at e1
  · simp at e1
  · obtain ⟨g1, s1, w1, t1⟩ := e1
    obtain rfl := inj (by omega) (by omega) (by omega) (by omega) g1
    obtain rfl := inj (by omega) (by omega) (by omega) (by omega) s1
    obtain rfl := inj (by omega) (by omega) (by omega) (by omega) t1
    obtain rfl := y1 a1.2.2.2.2.1 a2.2.2.2.2.1 w1
    rfl
theorem text_ne {x : Lt} (ho : oneS x = true) : textS x ≠ [] := by
  simp [textS, ho, wordsS, Lib.join_cons, sagaB]
theorem findD_form (g : Int) (l : List Lt) : ∃ (z : Lt) (b : Bool), findD g l = .tup [z.d, .bool b] := by
  unfold findD
  split
  · exact ⟨_, _, rfl⟩
  · exact ⟨_, _, rfl⟩
theorem putD_form (l : List Lt) (x : Lt) (hn : l.length ≤ 1000000) : ∃ (t : Bool) (m : List Lt) (e : Int), putD l x = .tup [lts t m, .int .i64 e] ∧ m.length ≤ 1000001 := by
  unfold putD
  split
  · exact ⟨true, [], _, rfl, by simp⟩
  · split
    · exact ⟨true, [], _, rfl, by simp⟩
    · split
      · exact ⟨true, [], _, rfl, by simp⟩
      · split
        · exact ⟨true, [], _, rfl, by simp⟩
        · exact ⟨false, ins x l, _, rfl, by rw [ins_len]; omega⟩
theorem dropD_form (l : List Lt) (g : Int) (hn : l.length ≤ 1000000) : ∃ (t : Bool) (m : List Lt) (e : Int), dropD l g = .tup [lts t m, .int .i64 e] ∧ m.length ≤ 1000001 := by
  unfold dropD
  split
  · exact ⟨true, [], _, rfl, by simp⟩
  · split
    · exact ⟨true, [], _, rfl, by simp⟩
    · rename_i n hn'
      refine ⟨_, dropL g l, _, rfl, ?_⟩
      simp only [dropL, hn']
      rw [List.length_append, List.length_take, List.length_drop]
      omega
end Go.Lv
