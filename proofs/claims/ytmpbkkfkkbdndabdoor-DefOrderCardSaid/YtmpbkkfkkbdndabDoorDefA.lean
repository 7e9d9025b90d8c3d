/- Definitions: places, rules (walks). -/
import Derived.Test.YtmpbkkfkkbdndabDoorBaseD
import Derived.Test.YtmpbkkfkkbdndabDoorDefP
import Derived.Test.YtmpbkkfkkbdndabDoorNameA
namespace Go.Lv
open Go Go.Proofs Go.IntWalk
set_option maxRecDepth 100000
set_option linter.unusedSimpArgs false
set_option linter.unusedVariables false
variable {E : Env}
theorem get_map {α : Type} {f : α → D} {l : List α} {i : Nat} {x : α} (h : l[i]? = some x) : (l.map f)[i]? = some (f x) := by simp [h]
theorem bt {P : Prop} [Decidable P] (h : P) : D.bool true = D.bool (decide P) := by rw [decide_eq_true h]
theorem bf {P : Prop} [Decidable P] (h : ¬ P) : D.bool false = D.bool (decide P) := by rw [decide_eq_false h]
set_option maxHeartbeats 8000000 in
theorem few (nm : List UInt8) (l : List Sp) : PDen Tryd.prog E 8 [.agg [.str nm, .list false (l.map Sp.d)]] (.bool (decide (nm.length ≤ 60 ∧ l.length ≤ 10))) := by
  refine kden (fn := Tryd.f8) mixed Tryd.func8 rfl (rfl) (rfl) ?_
  repeat' (conv => whnf
           first
    | refine KSeq.cons ?_
    | refine KSeq.nil ?_
    | refine KWp.seq ?_
    | refine KWp.region ?_
    | refine KWp.cond ?_
    | refine KWp.block ?_
    | refine KWp.ret ?_
    | refine KWp.exit ?_
    | refine KWp.skip ?_
    | refine KWp.loop ?_
    | refine KWp.scope ?_
    | refine KWp.label ?_
    | (refine KIf.yes (by first | assumption | omega) ?_)
    | (refine KIf.no (by first | assumption | omega) ?_)
    | (refine KB.yes (by assumption) ?_)
    | (refine KB.no (by assumption) ?_)
    | (refine KIf.split (fun _ => ?_) (fun _ => ?_))
    | (refine KB.split (fun _ => ?_) (fun _ => ?_))
    | (refine Exists.intro _ (And.intro (i64_in _ (by omega)) ?_))
    | (refine Exists.intro _ (And.intro (List.length_map ..) ?_))
    | (refine And.intro (by first | assumption | omega | rfl | decide) ?_)
    | (refine reif_to ⟨_, rfl⟩ ?_; first | exact bt (by omega) | exact bf (by omega) | (exfalso; omega))
    | (refine Exists.intro _ (And.intro rfl ?_))
    | rfl)
set_option maxHeartbeats 8000000 in
theorem ixf (H : Hp) (g : FuncId) (cap : List D) (p : Sp → Bool) (l : List Sp) (hl : l.length ≤ 1000000) (hb : hasBody Tryd.prog g = true) (hg : ∀ x ∈ l, Fun Tryd.prog E g ([x.d] ++ cap) H fun d H' => d = .bool (p x) ∧ H' = H) : Fun Tryd.prog E 37 [.list false (l.map Sp.d), .fn (.func g) [] cap] (H) fun d H' => d = .int .i64 (ixP p l) ∧ H' = H := by
  refine kkeep (fn := Tryd.f37) mixed Tryd.func37 rfl (rfl) ?_
  repeat' (conv => whnf
           first
    | refine KSeq.cons ?_
    | refine KSeq.nil ?_
    | refine KWp.seq ?_
    | refine KWp.region ?_
    | refine KWp.cond ?_
    | refine KWp.block ?_
    | refine KWp.ret ?_
    | refine KWp.exit ?_
    | refine KWp.skip ?_
    | refine KWp.loop ?_
    | refine KWp.scope ?_
    | refine KWp.label ?_
    | (refine KIf.yes (by first | assumption | omega) ?_)
    | (refine KIf.no (by first | assumption | omega) ?_)
    | (refine KB.yes (by assumption) ?_)
    | (refine KB.no (by assumption) ?_)
    | (refine KIf.split (fun _ => ?_) (fun _ => ?_))
    | (refine KB.split (fun _ => ?_) (fun _ => ?_))
    | (refine Exists.intro _ (And.intro (i64_in _ (by omega)) ?_))
    | (refine Exists.intro _ (And.intro (List.length_map ..) ?_))
    | (refine And.intro (by first | assumption | omega | rfl | decide) ?_)
    | (refine Exists.intro _ (And.intro rfl ?_))
    | rfl)
  refine kloop_h [0, 1, 7] (fun i : Nat => [(8, .int .i64 (i : Int))]) (fun i => l.length - i) (fun i => i ≤ l.length ∧ ∀ j y, j < i → l[j]? = some y → p y = false) 0 (norm_ts [0, 1, 7, 8] rfl rfl) ⟨by omega, fun j y h => by omega⟩ ?_
  rintro i ⟨hi, hno⟩
  by_cases hlt : i < l.length
  · obtain ⟨x, hx⟩ : ∃ x, l[i]? = some x := ⟨l[i], by simp [hlt]⟩
    have hx' := get_map (f := Sp.d) hx
    have hgx := hg x (List.mem_of_getElem? hx)
    cases hp : p x <;> rw [hp] at hgx
    · have hno' : ∀ j y, j < i + 1 → l[j]? = some y → p y = false := fun j y hj hy => by
        rcases Nat.lt_or_ge j i with h | h
        · exact hno j y h hy
        · have hj' : j = i := by omega
          subst hj'
          rw [hx] at hy
          cases hy
          exact hp
      repeat' (conv => whnf
               first
        | refine KSeq.cons ?_
        | (refine Exists.intro _ (And.intro rfl (Exists.intro _ (And.intro hx' (And.intro rfl ?_)))))
        | (refine Does.body hb (Fun.at hgx ?_))
        | refine KSeq.nil ?_
        | refine KWp.seq ?_
        | refine KWp.region ?_
        | refine KWp.cond ?_
        | refine KWp.block ?_
        | refine KWp.ret ?_
        | refine KWp.exit ?_
        | refine KWp.skip ?_
        | refine KWp.loop ?_
        | refine KWp.scope ?_
        | refine KWp.label ?_
        | (refine KIf.yes (by first | assumption | omega) ?_)
        | (refine KIf.no (by first | assumption | omega) ?_)
        | (refine KB.yes (by assumption) ?_)
        | (refine KB.no (by assumption) ?_)
        | (refine KIf.split (fun _ => ?_) (fun _ => ?_))
        | (refine KB.split (fun _ => ?_) (fun _ => ?_))
        | (refine Exists.intro _ (And.intro (i64_in _ (by omega)) ?_))
        | (refine Exists.intro _ (And.intro (List.length_map ..) ?_))
        | (refine And.intro (by first | assumption | omega | rfl | decide) ?_)
        | (exact less (i + 1) (by omega) ⟨by omega, hno'⟩ (norm_ts [0, 1, 7, 8] rfl rfl))
        | (refine Exists.intro _ (And.intro rfl ?_))
        | rfl)
    · skip
      repeat' (conv => whnf
               first
        | refine KSeq.cons ?_
        | (refine Exists.intro _ (And.intro rfl (Exists.intro _ (And.intro hx' (And.intro rfl ?_)))))
        | (refine Does.body hb (Fun.at hgx ?_))
        | refine KSeq.nil ?_
        | refine KWp.seq ?_
        | refine KWp.region ?_
        | refine KWp.cond ?_
        | refine KWp.block ?_
        | refine KWp.ret ?_
        | refine KWp.exit ?_
        | refine KWp.skip ?_
        | refine KWp.loop ?_
        | refine KWp.scope ?_
        | refine KWp.label ?_
        | (refine KIf.yes (by first | assumption | omega) ?_)
        | (refine KIf.no (by first | assumption | omega) ?_)
        | (refine KB.yes (by assumption) ?_)
        | (refine KB.no (by assumption) ?_)
        | (refine KIf.split (fun _ => ?_) (fun _ => ?_))
        | (refine KB.split (fun _ => ?_) (fun _ => ?_))
        | (refine Exists.intro _ (And.intro (i64_in _ (by omega)) ?_))
        | (refine Exists.intro _ (And.intro (List.length_map ..) ?_))
        | (refine And.intro (by first | assumption | omega | rfl | decide) ?_)
        | (exact ⟨by rw [ixP_hit hno hx hp], by simp⟩)
        | (refine Exists.intro _ (And.intro rfl ?_))
        | rfl)
  · have hall : ∀ j y, l[j]? = some y → p y = false := fun j y hj => hno j y (by have := (List.getElem?_eq_some_iff.1 hj).1; omega) hj
    repeat' (conv => whnf
             first
      | refine KSeq.cons ?_
      | refine KSeq.nil ?_
      | refine KWp.seq ?_
      | refine KWp.region ?_
      | refine KWp.cond ?_
      | refine KWp.block ?_
      | refine KWp.ret ?_
      | refine KWp.exit ?_
      | refine KWp.skip ?_
      | refine KWp.loop ?_
      | refine KWp.scope ?_
      | refine KWp.label ?_
      | (refine KIf.yes (by first | assumption | omega) ?_)
      | (refine KIf.no (by first | assumption | omega) ?_)
      | (refine KB.yes (by assumption) ?_)
      | (refine KB.no (by assumption) ?_)
      | (refine KIf.split (fun _ => ?_) (fun _ => ?_))
      | (refine KB.split (fun _ => ?_) (fun _ => ?_))
      | (refine Exists.intro _ (And.intro (i64_in _ (by omega)) ?_))
      | (refine Exists.intro _ (And.intro (List.length_map ..) ?_))
      | (refine And.intro (by first | assumption | omega | rfl | decide) ?_)
      | (exact ⟨by rw [ixP_none hall], by simp⟩)
      | (refine Exists.intro _ (And.intro rfl ?_))
      | rfl)
set_option maxHeartbeats 8000000 in
theorem cnf (H : Hp) (g : FuncId) (cap : List D) (p : Sp → Bool) (l : List Sp) (hl : l.length ≤ 1000000) (hb : hasBody Tryd.prog g = true) (hg : ∀ x ∈ l, Fun Tryd.prog E g ([x.d] ++ cap) H fun d H' => d = .bool (p x) ∧ H' = H) : Fun Tryd.prog E 69 [.list false (l.map Sp.d), .fn (.func g) [] cap] (H) fun d H' => d = .bool (l.any p) ∧ H' = H := by
  refine kkeep (fn := Tryd.f69) mixed Tryd.func69 rfl (rfl) ?_
  have hix := ixf H g cap p l hl hb hg
  have hge := ixP_ge p l
  rw [ixP_any]
  generalize ixP p l = k at *
  repeat' (conv => whnf
           first
    | refine KSeq.cons ?_
    | refine KSeq.nil ?_
    | refine KWp.seq ?_
    | refine KWp.region ?_
    | refine KWp.cond ?_
    | refine KWp.block ?_
    | refine KWp.ret ?_
    | refine KWp.exit ?_
    | refine KWp.skip ?_
    | refine KWp.loop ?_
    | refine KWp.scope ?_
    | refine KWp.label ?_
    | (refine KIf.yes (by first | assumption | omega) ?_)
    | (refine KIf.no (by first | assumption | omega) ?_)
    | (refine Does.body (by kernel_rfl) (Fun.at (hix) ?_))
    | (refine PCall.mem (by kernel_rfl) (hix) ?_)
    | (refine KB.yes (by assumption) ?_)
    | (refine KB.no (by assumption) ?_)
    | (refine KIf.split (fun _ => ?_) (fun _ => ?_))
    | (refine KB.split (fun _ => ?_) (fun _ => ?_))
    | (refine Exists.intro _ (And.intro (i64_in _ (by omega)) ?_))
    | (refine Exists.intro _ (And.intro (List.length_map ..) ?_))
    | (refine And.intro (by first | assumption | omega | rfl | decide) ?_)
    | (simp_all)
    | (refine Exists.intro _ (And.intro rfl ?_))
    | rfl)
abbrev fitA (t b p : Int) : Prop := 0 ≤ t ∧ t ≤ 5 ∧ 1 ≤ b ∧ b ≤ p ∧ p ≤ 32
abbrev sFitA (x : Sp) : Prop := fitA x.t x.b x.p ∧ 0 ≤ x.w ∧ x.w ≤ 100 ∧ 1 ≤ x.c ∧ x.c ≤ 3 ∧ ¬ (x.c = 3 ∧ 0 < x.w) ∧ (x.o = 1 ∧ x.c = 1 ∨ x.o = 3 ∧ x.c = 1 ∨ x.o = 5 ∧ ¬ x.c = 1 ∨ x.o = 2 ∨ x.o = 6 ∨ x.o = 4)
theorem fitB_A (t b p : Int) : fitB t b p = decide (fitA t b p) := by
  by_cases h : fitA t b p
  · rw [decide_eq_true h]; exact fitB_iff.2 h
  · rw [decide_eq_false h]
    cases hh : fitB t b p with
    | false => rfl
    | true => exact (h (fitB_iff.1 hh)).elim
theorem sFit_A (x : Sp) : sFit x = decide (sFitA x) := by
  have key : sFit x = true ↔ sFitA x := by
    unfold sFit sFitA
    rw [fitB_A]
    simp only [opOk, srv, Bool.and_eq_true, decide_eq_true_eq, Bool.not_eq_true', Bool.and_eq_false_iff, decide_eq_false_iff_not, beq_eq_false_iff_ne, ne_eq]
    generalize fitA x.t x.b x.p = A
    by_cases h1 : x.o = 1
    · simp [h1]; omega
    · by_cases h3 : x.o = 3
      · simp [h3]; omega
      · by_cases h5 : x.o = 5
        · simp [h5]; omega
        · by_cases h2 : x.o = 2
          · simp [h2]; omega
          · by_cases h6 : x.o = 6
            · simp [h6]; omega
            · by_cases h4 : x.o = 4
              · simp [h4]; omega
              · simp [h1, h2, h3, h4, h5, h6]
  by_cases h : sFitA x
  · rw [decide_eq_true h]; exact key.2 h
  · rw [decide_eq_false h]
    cases hh : sFit x with
    | false => rfl
    | true => exact (h (key.1 hh)).elim
set_option maxHeartbeats 8000000 in
theorem fitB48 (t b p : Int) : PDen Tryd.prog E 48 [.int .i64 t, .int .i64 b, .int .i64 p] (.bool (decide (fitA t b p))) := by
  refine kden (fn := Tryd.f48) mixed Tryd.func48 rfl (rfl) (rfl) ?_
  repeat' (conv => whnf
           first
    | refine KSeq.cons ?_
    | refine KSeq.nil ?_
    | refine KWp.seq ?_
    | refine KWp.region ?_
    | refine KWp.cond ?_
    | refine KWp.block ?_
    | refine KWp.ret ?_
    | refine KWp.exit ?_
    | refine KWp.skip ?_
    | refine KWp.loop ?_
    | refine KWp.scope ?_
    | refine KWp.label ?_
    | (refine KIf.yes (by first | assumption | omega) ?_)
    | (refine KIf.no (by first | assumption | omega) ?_)
    | (refine KB.yes (by assumption) ?_)
    | (refine KB.no (by assumption) ?_)
    | (refine KIf.split (fun _ => ?_) (fun _ => ?_))
    | (refine KB.split (fun _ => ?_) (fun _ => ?_))
    | (refine Exists.intro _ (And.intro (i64_in _ (by omega)) ?_))
    | (refine Exists.intro _ (And.intro (List.length_map ..) ?_))
    | (refine And.intro (by first | assumption | omega | rfl | decide) ?_)
    | (refine reif_to ⟨_, rfl⟩ ?_; first | exact bt (by omega) | exact bf (by omega) | (exfalso; omega))
    | (refine Exists.intro _ (And.intro rfl ?_))
    | rfl)
set_option maxHeartbeats 8000000 in
theorem srv52 (k : Int) : PDen Tryd.prog E 52 [.int .i64 k] (.int .i64 (srv k)) := by
  refine kden (fn := Tryd.f52) mixed Tryd.func52 rfl (rfl) (rfl) ?_
  repeat' (conv => whnf
           first
    | refine KSeq.cons ?_
    | refine KSeq.nil ?_
    | refine KWp.seq ?_
    | refine KWp.region ?_
    | refine KWp.cond ?_
    | refine KWp.block ?_
    | refine KWp.ret ?_
    | refine KWp.exit ?_
    | refine KWp.skip ?_
    | refine KWp.loop ?_
    | refine KWp.scope ?_
    | refine KWp.label ?_
    | (refine KIf.yes (by first | assumption | omega) ?_)
    | (refine KIf.no (by first | assumption | omega) ?_)
    | (refine KB.yes (by assumption) ?_)
    | (refine KB.no (by assumption) ?_)
    | (refine KIf.split (fun _ => ?_) (fun _ => ?_))
    | (refine KB.split (fun _ => ?_) (fun _ => ?_))
    | (refine Exists.intro _ (And.intro (i64_in _ (by omega)) ?_))
    | (refine Exists.intro _ (And.intro (List.length_map ..) ?_))
    | (refine And.intro (by first | assumption | omega | rfl | decide) ?_)
    | (exact reif_to ⟨_, rfl⟩ (by simp [srv, *]))
    | (refine Exists.intro _ (And.intro rfl ?_))
    | rfl)
theorem srv_0 (k : Int) : srv k = 0 ↔ ¬ (k = 2 ∨ k = 6 ∨ k = 4) := by
  unfold srv
  split
  · omega
  · split
    · omega
    · split <;> omega
set_option maxHeartbeats 8000000 in
theorem out18 (x : Sp) : PDen Tryd.prog E 18 [x.d] (.bool (decide (x.o = 2 ∨ x.o = 6 ∨ x.o = 4))) := by
  refine kden (fn := Tryd.f18) mixed Tryd.func18 rfl (rfl) (rfl) ?_
  have hs := srv52 (E := E) x.o
  have hw := srv_0 x.o
  generalize srv x.o = s at *
  repeat' (conv => whnf
           first
    | refine KSeq.cons ?_
    | refine KSeq.nil ?_
    | refine KWp.seq ?_
    | refine KWp.region ?_
    | refine KWp.cond ?_
    | refine KWp.block ?_
    | refine KWp.ret ?_
    | refine KWp.exit ?_
    | refine KWp.skip ?_
    | refine KWp.loop ?_
    | refine KWp.scope ?_
    | refine KWp.label ?_
    | (refine KIf.yes (by first | assumption | omega) ?_)
    | (refine KIf.no (by first | assumption | omega) ?_)
    | (refine Does.body (by kernel_rfl) (PDen.to (hs) ?_))
    | (refine PCall.to (by kernel_rfl) (hs) ?_)
    | (refine KB.yes (by assumption) ?_)
    | (refine KB.no (by assumption) ?_)
    | (refine KIf.split (fun _ => ?_) (fun _ => ?_))
    | (refine KB.split (fun _ => ?_) (fun _ => ?_))
    | (refine Exists.intro _ (And.intro (i64_in _ (by omega)) ?_))
    | (refine Exists.intro _ (And.intro (List.length_map ..) ?_))
    | (refine And.intro (by first | assumption | omega | rfl | decide) ?_)
    | (refine reif_to ⟨_, rfl⟩ ?_; first | exact bt (by omega) | exact bf (by omega) | (exfalso; omega))
    | (refine Exists.intro _ (And.intro rfl ?_))
    | rfl)
set_option maxHeartbeats 8000000 in
theorem fitS (x : Sp) : PDen Tryd.prog E 15 [x.d] (.bool (sFit x)) := by
  refine kden (fn := Tryd.f15) mixed Tryd.func15 rfl (rfl) (rfl) ?_
  have hb := fitB48 (E := E) x.t x.b x.p
  have ho := out18 (E := E) x
  rw [sFit_A]
  by_cases hA : fitA x.t x.b x.p
  · rw [decide_eq_true hA] at hb
    by_cases hO : x.o = 2 ∨ x.o = 6 ∨ x.o = 4
    · rw [decide_eq_true hO] at ho
      repeat' (conv => whnf
               first
        | refine KSeq.cons ?_
        | refine KSeq.nil ?_
        | refine KWp.seq ?_
        | refine KWp.region ?_
        | refine KWp.cond ?_
        | refine KWp.block ?_
        | refine KWp.ret ?_
        | refine KWp.exit ?_
        | refine KWp.skip ?_
        | refine KWp.loop ?_
        | refine KWp.scope ?_
        | refine KWp.label ?_
        | (refine KIf.yes (by first | assumption | omega) ?_)
        | (refine KIf.no (by first | assumption | omega) ?_)
        | (refine Does.body (by kernel_rfl) (PDen.to (hb) ?_))
        | (refine PCall.to (by kernel_rfl) (hb) ?_)
        | (refine Does.body (by kernel_rfl) (PDen.to (ho) ?_))
        | (refine PCall.to (by kernel_rfl) (ho) ?_)
        | (refine KB.yes (by assumption) ?_)
        | (refine KB.no (by assumption) ?_)
        | (refine KIf.split (fun _ => ?_) (fun _ => ?_))
        | (refine KB.split (fun _ => ?_) (fun _ => ?_))
        | (refine Exists.intro _ (And.intro (i64_in _ (by omega)) ?_))
        | (refine Exists.intro _ (And.intro (List.length_map ..) ?_))
        | (refine And.intro (by first | assumption | omega | rfl | decide) ?_)
        | (refine reif_to ⟨_, rfl⟩ ?_; first | exact bt (by omega) | exact bf (by omega) | (exfalso; omega))
        | (refine Exists.intro _ (And.intro rfl ?_))
        | rfl)
    · rw [decide_eq_false hO] at ho
      repeat' (conv => whnf
               first
        | refine KSeq.cons ?_
        | refine KSeq.nil ?_
        | refine KWp.seq ?_
        | refine KWp.region ?_
        | refine KWp.cond ?_
        | refine KWp.block ?_
        | refine KWp.ret ?_
        | refine KWp.exit ?_
        | refine KWp.skip ?_
        | refine KWp.loop ?_
        | refine KWp.scope ?_
        | refine KWp.label ?_
        | (refine KIf.yes (by first | assumption | omega) ?_)
        | (refine KIf.no (by first | assumption | omega) ?_)
        | (refine Does.body (by kernel_rfl) (PDen.to (hb) ?_))
        | (refine PCall.to (by kernel_rfl) (hb) ?_)
        | (refine Does.body (by kernel_rfl) (PDen.to (ho) ?_))
        | (refine PCall.to (by kernel_rfl) (ho) ?_)
        | (refine KB.yes (by assumption) ?_)
        | (refine KB.no (by assumption) ?_)
        | (refine KIf.split (fun _ => ?_) (fun _ => ?_))
        | (refine KB.split (fun _ => ?_) (fun _ => ?_))
        | (refine Exists.intro _ (And.intro (i64_in _ (by omega)) ?_))
        | (refine Exists.intro _ (And.intro (List.length_map ..) ?_))
        | (refine And.intro (by first | assumption | omega | rfl | decide) ?_)
        | (refine reif_to ⟨_, rfl⟩ ?_; first | exact bt (by omega) | exact bf (by omega) | (exfalso; omega))
        | (refine Exists.intro _ (And.intro rfl ?_))
        | rfl)
  · rw [decide_eq_false hA] at hb
    have hno : ¬ sFitA x := fun h => hA h.1
    repeat' (conv => whnf
             first
      | refine KSeq.cons ?_
      | refine KSeq.nil ?_
      | refine KWp.seq ?_
      | refine KWp.region ?_
      | refine KWp.cond ?_
      | refine KWp.block ?_
      | refine KWp.ret ?_
      | refine KWp.exit ?_
      | refine KWp.skip ?_
      | refine KWp.loop ?_
      | refine KWp.scope ?_
      | refine KWp.label ?_
      | (refine KIf.yes (by first | assumption | omega) ?_)
      | (refine KIf.no (by first | assumption | omega) ?_)
      | (refine Does.body (by kernel_rfl) (PDen.to (hb) ?_))
      | (refine PCall.to (by kernel_rfl) (hb) ?_)
      | (refine Does.body (by kernel_rfl) (PDen.to (ho) ?_))
      | (refine PCall.to (by kernel_rfl) (ho) ?_)
      | (refine KB.yes (by assumption) ?_)
      | (refine KB.no (by assumption) ?_)
      | (refine KIf.split (fun _ => ?_) (fun _ => ?_))
      | (refine KB.split (fun _ => ?_) (fun _ => ?_))
      | (refine Exists.intro _ (And.intro (i64_in _ (by omega)) ?_))
      | (refine Exists.intro _ (And.intro (List.length_map ..) ?_))
      | (refine And.intro (by first | assumption | omega | rfl | decide) ?_)
      | (exact reif_to ⟨_, rfl⟩ (bf hno))
      | (refine Exists.intro _ (And.intro rfl ?_))
      | rfl)
set_option maxHeartbeats 8000000 in
theorem place1 (nm : List UInt8) (l : List Sp) (op : Int) (x : Sp) : Fun Tryd.prog E 78 [x.d, .ptr 1 0 1] ([Blk.var [.str nm, .list false (l.map Sp.d)], Blk.var [.int .i64 op]]) fun d H' => d = .bool (decide (x.o = op)) ∧ H' = [Blk.var [.str nm, .list false (l.map Sp.d)], Blk.var [.int .i64 op]] := by
  refine kkeep (fn := Tryd.f78) mixed Tryd.func78 rfl (rfl) ?_
  repeat' (conv => whnf
           first
    | refine KSeq.cons ?_
    | refine KSeq.nil ?_
    | refine KWp.seq ?_
    | refine KWp.region ?_
    | refine KWp.cond ?_
    | refine KWp.block ?_
    | refine KWp.ret ?_
    | refine KWp.exit ?_
    | refine KWp.skip ?_
    | refine KWp.loop ?_
    | refine KWp.scope ?_
    | refine KWp.label ?_
    | (refine KIf.yes (by first | assumption | omega) ?_)
    | (refine KIf.no (by first | assumption | omega) ?_)
    | (refine KB.yes (by assumption) ?_)
    | (refine KB.no (by assumption) ?_)
    | (refine KIf.split (fun _ => ?_) (fun _ => ?_))
    | (refine KB.split (fun _ => ?_) (fun _ => ?_))
    | (refine Exists.intro _ (And.intro (i64_in _ (by omega)) ?_))
    | (refine Exists.intro _ (And.intro (List.length_map ..) ?_))
    | (refine And.intro (by first | assumption | omega | rfl | decide) ?_)
    | (exact ⟨by simp [*], rfl⟩)
    | (refine Exists.intro _ (And.intro rfl ?_))
    | rfl)
def opI (op : Int) : Sp → Bool := fun x => decide (x.o = op)
def plc (op : Int) (l : List Sp) : Int := ixP (opI op) l
set_option maxHeartbeats 8000000 in
theorem place (nm : List UInt8) (l : List Sp) (hl : l.length ≤ 1000000) (op : Int) : PDen Tryd.prog E 36 [.agg [.str nm, .list false (l.map Sp.d)], .int .i64 op] (.int .i64 (plc op l)) := by
  refine kden (fn := Tryd.f36) mixed Tryd.func36 rfl (rfl) (rfl) ?_
  have hix := ixf (E := E) [Blk.var [.str nm, .list false (l.map Sp.d)], Blk.var [.int .i64 op]] 78 [.ptr 1 0 1] (opI op) l hl (by kernel_rfl) fun x _ => place1 nm l op x
  repeat' (conv => whnf
           first
    | refine KSeq.cons ?_
    | refine KSeq.nil ?_
    | refine KWp.seq ?_
    | refine KWp.region ?_
    | refine KWp.cond ?_
    | refine KWp.block ?_
    | refine KWp.ret ?_
    | refine KWp.exit ?_
    | refine KWp.skip ?_
    | refine KWp.loop ?_
    | refine KWp.scope ?_
    | refine KWp.label ?_
    | (refine KIf.yes (by first | assumption | omega) ?_)
    | (refine KIf.no (by first | assumption | omega) ?_)
    | (refine Does.body (by kernel_rfl) (Fun.at (hix) ?_))
    | (refine PCall.mem (by kernel_rfl) (hix) ?_)
    | (refine KB.yes (by assumption) ?_)
    | (refine KB.no (by assumption) ?_)
    | (refine KIf.split (fun _ => ?_) (fun _ => ?_))
    | (refine KB.split (fun _ => ?_) (fun _ => ?_))
    | (refine Exists.intro _ (And.intro (i64_in _ (by omega)) ?_))
    | (refine Exists.intro _ (And.intro (List.length_map ..) ?_))
    | (refine And.intro (by first | assumption | omega | rfl | decide) ?_)
    | (exact ⟨⟨_, rfl⟩⟩)
    | (refine Exists.intro _ (And.intro rfl ?_))
    | rfl)
set_option maxHeartbeats 8000000 in
theorem pivot1 (nm : List UInt8) (l : List Sp) (x : Sp) : Fun Tryd.prog E 38 [x.d] ([Blk.var [.str nm, .list false (l.map Sp.d)]]) fun d H' => d = .bool (decide (x.c = 2)) ∧ H' = [Blk.var [.str nm, .list false (l.map Sp.d)]] := by
  refine kkeep (fn := Tryd.f38) mixed Tryd.func38 rfl (rfl) ?_
  repeat' (conv => whnf
           first
    | refine KSeq.cons ?_
    | refine KSeq.nil ?_
    | refine KWp.seq ?_
    | refine KWp.region ?_
    | refine KWp.cond ?_
    | refine KWp.block ?_
    | refine KWp.ret ?_
    | refine KWp.exit ?_
    | refine KWp.skip ?_
    | refine KWp.loop ?_
    | refine KWp.scope ?_
    | refine KWp.label ?_
    | (refine KIf.yes (by first | assumption | omega) ?_)
    | (refine KIf.no (by first | assumption | omega) ?_)
    | (refine KB.yes (by assumption) ?_)
    | (refine KB.no (by assumption) ?_)
    | (refine KIf.split (fun _ => ?_) (fun _ => ?_))
    | (refine KB.split (fun _ => ?_) (fun _ => ?_))
    | (refine Exists.intro _ (And.intro (i64_in _ (by omega)) ?_))
    | (refine Exists.intro _ (And.intro (List.length_map ..) ?_))
    | (refine And.intro (by first | assumption | omega | rfl | decide) ?_)
    | (exact ⟨by simp [*], rfl⟩)
    | (refine Exists.intro _ (And.intro rfl ?_))
    | rfl)
def isP : Sp → Bool := fun x => decide (x.c = 2)
def pvt (l : List Sp) : Int := ixP isP l
set_option maxHeartbeats 8000000 in
theorem pivot (nm : List UInt8) (l : List Sp) (hl : l.length ≤ 1000000) : PDen Tryd.prog E 11 [.agg [.str nm, .list false (l.map Sp.d)]] (.int .i64 (pvt l)) := by
  refine kden (fn := Tryd.f11) mixed Tryd.func11 rfl (rfl) (rfl) ?_
  have hix := ixf (E := E) [Blk.var [.str nm, .list false (l.map Sp.d)]] 38 [] isP l hl (by kernel_rfl) fun x _ => pivot1 nm l x
  repeat' (conv => whnf
           first
    | refine KSeq.cons ?_
    | refine KSeq.nil ?_
    | refine KWp.seq ?_
    | refine KWp.region ?_
    | refine KWp.cond ?_
    | refine KWp.block ?_
    | refine KWp.ret ?_
    | refine KWp.exit ?_
    | refine KWp.skip ?_
    | refine KWp.loop ?_
    | refine KWp.scope ?_
    | refine KWp.label ?_
    | (refine KIf.yes (by first | assumption | omega) ?_)
    | (refine KIf.no (by first | assumption | omega) ?_)
    | (refine Does.body (by kernel_rfl) (Fun.at (hix) ?_))
    | (refine PCall.mem (by kernel_rfl) (hix) ?_)
    | (refine KB.yes (by assumption) ?_)
    | (refine KB.no (by assumption) ?_)
    | (refine KIf.split (fun _ => ?_) (fun _ => ?_))
    | (refine KB.split (fun _ => ?_) (fun _ => ?_))
    | (refine Exists.intro _ (And.intro (i64_in _ (by omega)) ?_))
    | (refine Exists.intro _ (And.intro (List.length_map ..) ?_))
    | (refine And.intro (by first | assumption | omega | rfl | decide) ?_)
    | (exact ⟨⟨_, rfl⟩⟩)
    | (refine Exists.intro _ (And.intro rfl ?_))
    | rfl)
set_option maxHeartbeats 8000000 in
theorem rule1 (nm : List UInt8) (l : List Sp) (hl : l.length ≤ 1000000) (b : Bool) (hn : PDen Tryd.prog E 67 [.str nm] (.bool b)) : PDen Tryd.prog E 66 [.agg [.str nm, .list false (l.map Sp.d)]] (.bool (b && decide (1 ≤ l.length ∧ l.length ≤ 6))) := by
  refine kden (fn := Tryd.f66) mixed Tryd.func66 rfl (rfl) (rfl) ?_
  cases b
  · rw [Bool.false_and]
    repeat' (conv => whnf
             first
      | refine KSeq.cons ?_
      | refine KSeq.nil ?_
      | refine KWp.seq ?_
      | refine KWp.region ?_
      | refine KWp.cond ?_
      | refine KWp.block ?_
      | refine KWp.ret ?_
      | refine KWp.exit ?_
      | refine KWp.skip ?_
      | refine KWp.loop ?_
      | refine KWp.scope ?_
      | refine KWp.label ?_
      | (refine KIf.yes (by first | assumption | omega) ?_)
      | (refine KIf.no (by first | assumption | omega) ?_)
      | (refine Does.body (by kernel_rfl) (PDen.to (hn) ?_))
      | (refine PCall.to (by kernel_rfl) (hn) ?_)
      | (refine KB.yes (by assumption) ?_)
      | (refine KB.no (by assumption) ?_)
      | (refine KIf.split (fun _ => ?_) (fun _ => ?_))
      | (refine KB.split (fun _ => ?_) (fun _ => ?_))
      | (refine Exists.intro _ (And.intro (i64_in _ (by omega)) ?_))
      | (refine Exists.intro _ (And.intro (List.length_map ..) ?_))
      | (refine And.intro (by first | assumption | omega | rfl | decide) ?_)
      | (exact ⟨⟨_, rfl⟩⟩)
      | (refine Exists.intro _ (And.intro rfl ?_))
      | rfl)
  · rw [Bool.true_and]
    repeat' (conv => whnf
             first
      | refine KSeq.cons ?_
      | refine KSeq.nil ?_
      | refine KWp.seq ?_
      | refine KWp.region ?_
      | refine KWp.cond ?_
      | refine KWp.block ?_
      | refine KWp.ret ?_
      | refine KWp.exit ?_
      | refine KWp.skip ?_
      | refine KWp.loop ?_
      | refine KWp.scope ?_
      | refine KWp.label ?_
      | (refine KIf.yes (by first | assumption | omega) ?_)
      | (refine KIf.no (by first | assumption | omega) ?_)
      | (refine Does.body (by kernel_rfl) (PDen.to (hn) ?_))
      | (refine PCall.to (by kernel_rfl) (hn) ?_)
      | (refine KB.yes (by assumption) ?_)
      | (refine KB.no (by assumption) ?_)
      | (refine KIf.split (fun _ => ?_) (fun _ => ?_))
      | (refine KB.split (fun _ => ?_) (fun _ => ?_))
      | (refine Exists.intro _ (And.intro (i64_in _ (by omega)) ?_))
      | (refine Exists.intro _ (And.intro (List.length_map ..) ?_))
      | (refine And.intro (by first | assumption | omega | rfl | decide) ?_)
      | (refine reif_to ⟨_, rfl⟩ ?_; first | exact bt (by omega) | exact bf (by omega) | (exfalso; omega))
      | (refine Exists.intro _ (And.intro rfl ?_))
      | rfl)
set_option maxHeartbeats 8000000 in
theorem rule21 (nm : List UInt8) (l : List Sp) (x : Sp) : Fun Tryd.prog E 70 [x.d] ([Blk.var [.str nm, .list false (l.map Sp.d)]]) fun d H' => d = .bool (!(sFit x)) ∧ H' = [Blk.var [.str nm, .list false (l.map Sp.d)]] := by
  refine kkeep (fn := Tryd.f70) mixed Tryd.func70 rfl (rfl) ?_
  have hf := fitS (E := E) x
  repeat' (conv => whnf
           first
    | refine KSeq.cons ?_
    | refine KSeq.nil ?_
    | refine KWp.seq ?_
    | refine KWp.region ?_
    | refine KWp.cond ?_
    | refine KWp.block ?_
    | refine KWp.ret ?_
    | refine KWp.exit ?_
    | refine KWp.skip ?_
    | refine KWp.loop ?_
    | refine KWp.scope ?_
    | refine KWp.label ?_
    | (refine KIf.yes (by first | assumption | omega) ?_)
    | (refine KIf.no (by first | assumption | omega) ?_)
    | (refine Does.body (by kernel_rfl) (PDen.to (hf) ?_))
    | (refine PCall.to (by kernel_rfl) (hf) ?_)
    | (refine KB.yes (by assumption) ?_)
    | (refine KB.no (by assumption) ?_)
    | (refine KIf.split (fun _ => ?_) (fun _ => ?_))
    | (refine KB.split (fun _ => ?_) (fun _ => ?_))
    | (refine Exists.intro _ (And.intro (i64_in _ (by omega)) ?_))
    | (refine Exists.intro _ (And.intro (List.length_map ..) ?_))
    | (refine And.intro (by first | assumption | omega | rfl | decide) ?_)
    | (exact ⟨by simp [*], rfl⟩)
    | (refine Exists.intro _ (And.intro rfl ?_))
    | rfl)
set_option maxHeartbeats 8000000 in
theorem rule2 (nm : List UInt8) (l : List Sp) (hl : l.length ≤ 1000000) : PDen Tryd.prog E 68 [.agg [.str nm, .list false (l.map Sp.d)]] (.bool (!(l.any fun x => !(sFit x)))) := by
  refine kden (fn := Tryd.f68) mixed Tryd.func68 rfl (rfl) (rfl) ?_
  have hcf := cnf (E := E) [Blk.var [.str nm, .list false (l.map Sp.d)]] 70 [] (fun x => !(sFit x)) l hl (by kernel_rfl) fun x _ => rule21 nm l x
  repeat' (conv => whnf
           first
    | refine KSeq.cons ?_
    | refine KSeq.nil ?_
    | refine KWp.seq ?_
    | refine KWp.region ?_
    | refine KWp.cond ?_
    | refine KWp.block ?_
    | refine KWp.ret ?_
    | refine KWp.exit ?_
    | refine KWp.skip ?_
    | refine KWp.loop ?_
    | refine KWp.scope ?_
    | refine KWp.label ?_
    | (refine KIf.yes (by first | assumption | omega) ?_)
    | (refine KIf.no (by first | assumption | omega) ?_)
    | (refine Does.body (by kernel_rfl) (Fun.at (hcf) ?_))
    | (refine PCall.mem (by kernel_rfl) (hcf) ?_)
    | (refine KB.yes (by assumption) ?_)
    | (refine KB.no (by assumption) ?_)
    | (refine KIf.split (fun _ => ?_) (fun _ => ?_))
    | (refine KB.split (fun _ => ?_) (fun _ => ?_))
    | (refine Exists.intro _ (And.intro (i64_in _ (by omega)) ?_))
    | (refine Exists.intro _ (And.intro (List.length_map ..) ?_))
    | (refine And.intro (by first | assumption | omega | rfl | decide) ?_)
    | (exact ⟨⟨_, rfl⟩⟩)
    | (refine Exists.intro _ (And.intro rfl ?_))
    | rfl)
def r3f (l : List Sp) : Nat → Sp → Bool := fun i x => decide (plc x.o l = i)
set_option maxHeartbeats 8000000 in
theorem rule3 (nm : List UInt8) (l : List Sp) (hl : l.length ≤ 1000000) : PDen Tryd.prog E 71 [.agg [.str nm, .list false (l.map Sp.d)]] (.bool (allF (r3f l) 0 l)) := by
  refine kden (fn := Tryd.f71) mixed Tryd.func71 rfl (rfl) (rfl) ?_
  repeat' (conv => whnf
           first
    | refine KSeq.cons ?_
    | refine KSeq.nil ?_
    | refine KWp.seq ?_
    | refine KWp.region ?_
    | refine KWp.cond ?_
    | refine KWp.block ?_
    | refine KWp.ret ?_
    | refine KWp.exit ?_
    | refine KWp.skip ?_
    | refine KWp.loop ?_
    | refine KWp.scope ?_
    | refine KWp.label ?_
    | (refine KIf.yes (by first | assumption | omega) ?_)
    | (refine KIf.no (by first | assumption | omega) ?_)
    | (refine Does.body (by kernel_rfl) (PDen.to (place nm l hl x.o) ?_))
    | (refine PCall.to (by kernel_rfl) (place nm l hl x.o) ?_)
    | (refine KB.yes (by assumption) ?_)
    | (refine KB.no (by assumption) ?_)
    | (refine KIf.split (fun _ => ?_) (fun _ => ?_))
    | (refine KB.split (fun _ => ?_) (fun _ => ?_))
    | (refine Exists.intro _ (And.intro (i64_in _ (by omega)) ?_))
    | (refine Exists.intro _ (And.intro (List.length_map ..) ?_))
    | (refine And.intro (by first | assumption | omega | rfl | decide) ?_)
    | (refine Exists.intro _ (And.intro rfl ?_))
    | rfl)
  refine kloop_at [1, 6, 7] 1 (fun i : Nat => [(8, .int .i64 (i : Int))]) (fun _ => []) (fun i => l.length - i) (fun i => i ≤ l.length ∧ ∀ j y, j < i → l[j]? = some y → r3f l j y = true) 0 (norm_to [1, 6, 7, 8] 1 (by decide) rfl rfl rfl rfl) ⟨by omega, fun j y h => by omega⟩ ?_
  rintro i ⟨hi, hno⟩
  by_cases hlt : i < l.length
  · obtain ⟨x, hx⟩ : ∃ x, l[i]? = some x := ⟨l[i], by simp [hlt]⟩
    have hx' := get_map (f := Sp.d) hx
    cases hp : r3f l i x
    · have hres := allF_no hx hp
      simp only [r3f, decide_eq_false_iff_not] at hp
      repeat' (conv => whnf
               first
        | refine KSeq.cons ?_
        | (refine Exists.intro _ (And.intro rfl (Exists.intro _ (And.intro hx' (And.intro rfl ?_)))))
        | refine KSeq.nil ?_
        | refine KWp.seq ?_
        | refine KWp.region ?_
        | refine KWp.cond ?_
        | refine KWp.block ?_
        | refine KWp.ret ?_
        | refine KWp.exit ?_
        | refine KWp.skip ?_
        | refine KWp.loop ?_
        | refine KWp.scope ?_
        | refine KWp.label ?_
        | (refine KIf.yes (by first | assumption | omega) ?_)
        | (refine KIf.no (by first | assumption | omega) ?_)
        | (refine Does.body (by kernel_rfl) (PDen.to (place nm l hl x.o) ?_))
        | (refine PCall.to (by kernel_rfl) (place nm l hl x.o) ?_)
        | (refine KB.yes (by assumption) ?_)
        | (refine KB.no (by assumption) ?_)
        | (refine KIf.split (fun _ => ?_) (fun _ => ?_))
        | (refine KB.split (fun _ => ?_) (fun _ => ?_))
        | (refine Exists.intro _ (And.intro (i64_in _ (by omega)) ?_))
        | (refine Exists.intro _ (And.intro (List.length_map ..) ?_))
        | (refine And.intro (by first | assumption | omega | rfl | decide) ?_)
        | (exact reif_to ⟨_, rfl⟩ (by rw [hres]))
        | (refine Exists.intro _ (And.intro rfl ?_))
        | rfl)
    · have hno' : ∀ j y, j < i + 1 → l[j]? = some y → r3f l j y = true := fun j y hj hy => by
        rcases Nat.lt_or_ge j i with h | h
        · exact hno j y h hy
        · have hj' : j = i := by omega
          subst hj'
          rw [hx] at hy
          cases hy
          exact hp
      have hp' := hp
      simp only [r3f, decide_eq_true_eq] at hp'
      repeat' (conv => whnf
               first
        | refine KSeq.cons ?_
        | (refine Exists.intro _ (And.intro rfl (Exists.intro _ (And.intro hx' (And.intro rfl ?_)))))
        | refine KSeq.nil ?_
        | refine KWp.seq ?_
        | refine KWp.region ?_
        | refine KWp.cond ?_
        | refine KWp.block ?_
        | refine KWp.ret ?_
        | refine KWp.exit ?_
        | refine KWp.skip ?_
        | refine KWp.loop ?_
        | refine KWp.scope ?_
        | refine KWp.label ?_
        | (refine KIf.yes (by first | assumption | omega) ?_)
        | (refine KIf.no (by first | assumption | omega) ?_)
        | (refine Does.body (by kernel_rfl) (PDen.to (place nm l hl x.o) ?_))
        | (refine PCall.to (by kernel_rfl) (place nm l hl x.o) ?_)
        | (refine KB.yes (by assumption) ?_)
        | (refine KB.no (by assumption) ?_)
        | (refine KIf.split (fun _ => ?_) (fun _ => ?_))
        | (refine KB.split (fun _ => ?_) (fun _ => ?_))
        | (refine Exists.intro _ (And.intro (i64_in _ (by omega)) ?_))
        | (refine Exists.intro _ (And.intro (List.length_map ..) ?_))
        | (refine And.intro (by first | assumption | omega | rfl | decide) ?_)
        | (exact less (i + 1) (by omega) ⟨by omega, hno'⟩ (norm_to [1, 6, 7, 8] 1 (by decide) rfl rfl rfl rfl))
        | (refine Exists.intro _ (And.intro rfl ?_))
        | rfl)
  · have hall : allF (r3f l) 0 l = true := allF_iff.2 fun j y hj => by rw [Nat.zero_add]; exact hno j y (by have := (List.getElem?_eq_some_iff.1 hj).1; omega) hj
    repeat' (conv => whnf
             first
      | refine KSeq.cons ?_
      | refine KSeq.nil ?_
      | refine KWp.seq ?_
      | refine KWp.region ?_
      | refine KWp.cond ?_
      | refine KWp.block ?_
      | refine KWp.ret ?_
      | refine KWp.exit ?_
      | refine KWp.skip ?_
      | refine KWp.loop ?_
      | refine KWp.scope ?_
      | refine KWp.label ?_
      | (refine KIf.yes (by first | assumption | omega) ?_)
      | (refine KIf.no (by first | assumption | omega) ?_)
      | (refine Does.body (by kernel_rfl) (PDen.to (place nm l hl x.o) ?_))
      | (refine PCall.to (by kernel_rfl) (place nm l hl x.o) ?_)
      | (refine KB.yes (by assumption) ?_)
      | (refine KB.no (by assumption) ?_)
      | (refine KIf.split (fun _ => ?_) (fun _ => ?_))
      | (refine KB.split (fun _ => ?_) (fun _ => ?_))
      | (refine Exists.intro _ (And.intro (i64_in _ (by omega)) ?_))
      | (refine Exists.intro _ (And.intro (List.length_map ..) ?_))
      | (refine And.intro (by first | assumption | omega | rfl | decide) ?_)
      | (exact reif_to ⟨_, rfl⟩ (by rw [hall]))
      | (refine Exists.intro _ (And.intro rfl ?_))
      | rfl)
def r4w (p : Int) (i : Nat) : Int := if 0 ≤ p ∧ p < i then 3 else 1
theorem r4w_a {p : Int} {i : Nat} (h0 : 0 ≤ p) (h1 : p < i) : r4w p i = 3 := by simp [r4w, h0, h1]
theorem r4w_b {p : Int} {i : Nat} (h : ¬ (0 ≤ p ∧ p < i)) : r4w p i = 1 := by simp [r4w, h]
def r4f (l : List Sp) : Nat → Sp → Bool := fun i x => decide ((i : Int) = pvt l ∨ x.c = r4w (pvt l) i)
set_option maxHeartbeats 8000000 in
theorem rule4 (nm : List UInt8) (l : List Sp) (hl : l.length ≤ 1000000) : PDen Tryd.prog E 72 [.agg [.str nm, .list false (l.map Sp.d)]] (.bool (allF (r4f l) 0 l)) := by
  refine kden (fn := Tryd.f72) mixed Tryd.func72 rfl (rfl) (rfl) ?_
  have hpg := ixP_ge isP l
  have hpv : ixP isP l = pvt l := rfl
  rw [hpv] at hpg
  repeat' (conv => whnf
           first
    | refine KSeq.cons ?_
    | refine KSeq.nil ?_
    | refine KWp.seq ?_
    | refine KWp.region ?_
    | refine KWp.cond ?_
    | refine KWp.block ?_
    | refine KWp.ret ?_
    | refine KWp.exit ?_
    | refine KWp.skip ?_
    | refine KWp.loop ?_
    | refine KWp.scope ?_
    | refine KWp.label ?_
    | (refine KIf.yes (by first | assumption | omega) ?_)
    | (refine KIf.no (by first | assumption | omega) ?_)
    | (refine Does.body (by kernel_rfl) (PDen.to (pivot nm l hl) ?_))
    | (refine PCall.to (by kernel_rfl) (pivot nm l hl) ?_)
    | (refine KB.yes (by assumption) ?_)
    | (refine KB.no (by assumption) ?_)
    | (refine KIf.split (fun _ => ?_) (fun _ => ?_))
    | (refine KB.split (fun _ => ?_) (fun _ => ?_))
    | (refine Exists.intro _ (And.intro (i64_in _ (by omega)) ?_))
    | (refine Exists.intro _ (And.intro (List.length_map ..) ?_))
    | (refine And.intro (by first | assumption | omega | rfl | decide) ?_)
    | (refine Exists.intro _ (And.intro rfl ?_))
    | rfl)
  refine kloop_at [1, 3, 10, 11] 1 (fun i : Nat => [(12, .int .i64 (i : Int))]) (fun _ => []) (fun i => l.length - i) (fun i => i ≤ l.length ∧ ∀ j y, j < i → l[j]? = some y → r4f l j y = true) 0 (norm_to [1, 3, 10, 11, 12] 1 (by decide) rfl rfl rfl rfl) ⟨by omega, fun j y h => by omega⟩ ?_
  rintro i ⟨hi, hno⟩
  by_cases hlt : i < l.length
  · obtain ⟨x, hx⟩ : ∃ x, l[i]? = some x := ⟨l[i], by simp [hlt]⟩
    have hx' := get_map (f := Sp.d) hx
    cases hp : r4f l i x
    · have hres := allF_no hx hp
      simp only [r4f, decide_eq_false_iff_not, not_or] at hp
      rw [hres]
      clear hres hno
      generalize hpq : pvt l = p at *
      rcases Int.lt_or_le p 0 with hp0 | hp0
      · have hw : r4w p i = 1 := r4w_b (by omega)
        rw [hw] at hp
        repeat' (conv => whnf
                 first
          | refine KSeq.cons ?_
          | (refine Exists.intro _ (And.intro rfl (Exists.intro _ (And.intro hx' (And.intro rfl ?_)))))
          | refine KSeq.nil ?_
          | refine KWp.seq ?_
          | refine KWp.region ?_
          | refine KWp.cond ?_
          | refine KWp.block ?_
          | refine KWp.ret ?_
          | refine KWp.exit ?_
          | refine KWp.skip ?_
          | refine KWp.loop ?_
          | refine KWp.scope ?_
          | refine KWp.label ?_
          | (refine KIf.yes (by first | assumption | omega) ?_)
          | (refine KIf.no (by first | assumption | omega) ?_)
          | (refine Does.body (by kernel_rfl) (PDen.to (pivot nm l hl) ?_))
          | (refine PCall.to (by kernel_rfl) (pivot nm l hl) ?_)
          | (refine KB.yes (by assumption) ?_)
          | (refine KB.no (by assumption) ?_)
          | (refine KIf.split (fun _ => ?_) (fun _ => ?_))
          | (refine KB.split (fun _ => ?_) (fun _ => ?_))
          | (refine Exists.intro _ (And.intro (i64_in _ (by omega)) ?_))
          | (refine Exists.intro _ (And.intro (List.length_map ..) ?_))
          | (refine And.intro (by first | assumption | omega | rfl | decide) ?_)
          | (exact reif_to ⟨_, rfl⟩ rfl)
          | (refine Exists.intro _ (And.intro rfl ?_))
          | rfl)
      · rcases Int.lt_or_le p i with hpi | hpi
        · have hw : r4w p i = 3 := r4w_a hp0 hpi
          rw [hw] at hp
          repeat' (conv => whnf
                   first
            | refine KSeq.cons ?_
            | (refine Exists.intro _ (And.intro rfl (Exists.intro _ (And.intro hx' (And.intro rfl ?_)))))
            | refine KSeq.nil ?_
            | refine KWp.seq ?_
            | refine KWp.region ?_
            | refine KWp.cond ?_
            | refine KWp.block ?_
            | refine KWp.ret ?_
            | refine KWp.exit ?_
            | refine KWp.skip ?_
            | refine KWp.loop ?_
            | refine KWp.scope ?_
            | refine KWp.label ?_
            | (refine KIf.yes (by first | assumption | omega) ?_)
            | (refine KIf.no (by first | assumption | omega) ?_)
            | (refine Does.body (by kernel_rfl) (PDen.to (pivot nm l hl) ?_))
            | (refine PCall.to (by kernel_rfl) (pivot nm l hl) ?_)
            | (refine KB.yes (by assumption) ?_)
            | (refine KB.no (by assumption) ?_)
            | (refine KIf.split (fun _ => ?_) (fun _ => ?_))
            | (refine KB.split (fun _ => ?_) (fun _ => ?_))
            | (refine Exists.intro _ (And.intro (i64_in _ (by omega)) ?_))
            | (refine Exists.intro _ (And.intro (List.length_map ..) ?_))
            | (refine And.intro (by first | assumption | omega | rfl | decide) ?_)
            | (exact reif_to ⟨_, rfl⟩ rfl)
            | (refine Exists.intro _ (And.intro rfl ?_))
            | rfl)
        · have hw : r4w p i = 1 := r4w_b (by omega)
          rw [hw] at hp
          repeat' (conv => whnf
                   first
            | refine KSeq.cons ?_
            | (refine Exists.intro _ (And.intro rfl (Exists.intro _ (And.intro hx' (And.intro rfl ?_)))))
            | refine KSeq.nil ?_
            | refine KWp.seq ?_
            | refine KWp.region ?_
            | refine KWp.cond ?_
            | refine KWp.block ?_
            | refine KWp.ret ?_
            | refine KWp.exit ?_
            | refine KWp.skip ?_
            | refine KWp.loop ?_
            | refine KWp.scope ?_
            | refine KWp.label ?_
            | (refine KIf.yes (by first | assumption | omega) ?_)
            | (refine KIf.no (by first | assumption | omega) ?_)
            | (refine Does.body (by kernel_rfl) (PDen.to (pivot nm l hl) ?_))
            | (refine PCall.to (by kernel_rfl) (pivot nm l hl) ?_)
            | (refine KB.yes (by assumption) ?_)
            | (refine KB.no (by assumption) ?_)
            | (refine KIf.split (fun _ => ?_) (fun _ => ?_))
            | (refine KB.split (fun _ => ?_) (fun _ => ?_))
            | (refine Exists.intro _ (And.intro (i64_in _ (by omega)) ?_))
            | (refine Exists.intro _ (And.intro (List.length_map ..) ?_))
            | (refine And.intro (by first | assumption | omega | rfl | decide) ?_)
            | (exact reif_to ⟨_, rfl⟩ rfl)
            | (refine Exists.intro _ (And.intro rfl ?_))
            | rfl)
    · have hno' : ∀ j y, j < i + 1 → l[j]? = some y → r4f l j y = true := fun j y hj hy => by
        rcases Nat.lt_or_ge j i with h | h
        · exact hno j y h hy
        · have hj' : j = i := by omega
          subst hj'
          rw [hx] at hy
          cases hy
          exact hp
      have hp' := hp
      simp only [r4f, decide_eq_true_eq] at hp'
      clear hp hno
      generalize hpq : pvt l = p at *
      rcases Int.lt_or_le p 0 with hp0 | hp0
      · have hw : r4w p i = 1 := r4w_b (by omega)
        rw [hw] at hp'
        repeat' (conv => whnf
                 first
          | refine KSeq.cons ?_
          | (refine Exists.intro _ (And.intro rfl (Exists.intro _ (And.intro hx' (And.intro rfl ?_)))))
          | refine KSeq.nil ?_
          | refine KWp.seq ?_
          | refine KWp.region ?_
          | refine KWp.cond ?_
          | refine KWp.block ?_
          | refine KWp.ret ?_
          | refine KWp.exit ?_
          | refine KWp.skip ?_
          | refine KWp.loop ?_
          | refine KWp.scope ?_
          | refine KWp.label ?_
          | (refine KIf.yes (by first | assumption | omega) ?_)
          | (refine KIf.no (by first | assumption | omega) ?_)
          | (refine Does.body (by kernel_rfl) (PDen.to (pivot nm l hl) ?_))
          | (refine PCall.to (by kernel_rfl) (pivot nm l hl) ?_)
          | (refine KB.yes (by assumption) ?_)
          | (refine KB.no (by assumption) ?_)
          | (refine KIf.split (fun _ => ?_) (fun _ => ?_))
          | (refine KB.split (fun _ => ?_) (fun _ => ?_))
          | (refine Exists.intro _ (And.intro (i64_in _ (by omega)) ?_))
          | (refine Exists.intro _ (And.intro (List.length_map ..) ?_))
          | (refine And.intro (by first | assumption | omega | rfl | decide) ?_)
          | (exact less (i + 1) (by omega) ⟨by omega, hno'⟩ (norm_to [1, 3, 10, 11, 12] 1 (by decide) rfl rfl rfl rfl))
          | (refine Exists.intro _ (And.intro rfl ?_))
          | rfl)
      · rcases Int.lt_or_le p i with hpi | hpi
        · have hw : r4w p i = 3 := r4w_a hp0 hpi
          rw [hw] at hp'
          repeat' (conv => whnf
                   first
            | refine KSeq.cons ?_
            | (refine Exists.intro _ (And.intro rfl (Exists.intro _ (And.intro hx' (And.intro rfl ?_)))))
            | refine KSeq.nil ?_
            | refine KWp.seq ?_
            | refine KWp.region ?_
            | refine KWp.cond ?_
            | refine KWp.block ?_
            | refine KWp.ret ?_
            | refine KWp.exit ?_
            | refine KWp.skip ?_
            | refine KWp.loop ?_
            | refine KWp.scope ?_
            | refine KWp.label ?_
            | (refine KIf.yes (by first | assumption | omega) ?_)
            | (refine KIf.no (by first | assumption | omega) ?_)
            | (refine Does.body (by kernel_rfl) (PDen.to (pivot nm l hl) ?_))
            | (refine PCall.to (by kernel_rfl) (pivot nm l hl) ?_)
            | (refine KB.yes (by assumption) ?_)
            | (refine KB.no (by assumption) ?_)
            | (refine KIf.split (fun _ => ?_) (fun _ => ?_))
            | (refine KB.split (fun _ => ?_) (fun _ => ?_))
            | (refine Exists.intro _ (And.intro (i64_in _ (by omega)) ?_))
            | (refine Exists.intro _ (And.intro (List.length_map ..) ?_))
            | (refine And.intro (by first | assumption | omega | rfl | decide) ?_)
            | (exact less (i + 1) (by omega) ⟨by omega, hno'⟩ (norm_to [1, 3, 10, 11, 12] 1 (by decide) rfl rfl rfl rfl))
            | (refine Exists.intro _ (And.intro rfl ?_))
            | rfl)
        · have hw : r4w p i = 1 := r4w_b (by omega)
          rw [hw] at hp'
          repeat' (conv => whnf
                   first
            | refine KSeq.cons ?_
            | (refine Exists.intro _ (And.intro rfl (Exists.intro _ (And.intro hx' (And.intro rfl ?_)))))
            | refine KSeq.nil ?_
            | refine KWp.seq ?_
            | refine KWp.region ?_
            | refine KWp.cond ?_
            | refine KWp.block ?_
            | refine KWp.ret ?_
            | refine KWp.exit ?_
            | refine KWp.skip ?_
            | refine KWp.loop ?_
            | refine KWp.scope ?_
            | refine KWp.label ?_
            | (refine KIf.yes (by first | assumption | omega) ?_)
            | (refine KIf.no (by first | assumption | omega) ?_)
            | (refine Does.body (by kernel_rfl) (PDen.to (pivot nm l hl) ?_))
            | (refine PCall.to (by kernel_rfl) (pivot nm l hl) ?_)
            | (refine KB.yes (by assumption) ?_)
            | (refine KB.no (by assumption) ?_)
            | (refine KIf.split (fun _ => ?_) (fun _ => ?_))
            | (refine KB.split (fun _ => ?_) (fun _ => ?_))
            | (refine Exists.intro _ (And.intro (i64_in _ (by omega)) ?_))
            | (refine Exists.intro _ (And.intro (List.length_map ..) ?_))
            | (refine And.intro (by first | assumption | omega | rfl | decide) ?_)
            | (exact less (i + 1) (by omega) ⟨by omega, hno'⟩ (norm_to [1, 3, 10, 11, 12] 1 (by decide) rfl rfl rfl rfl))
            | (refine Exists.intro _ (And.intro rfl ?_))
            | rfl)
  · have hall : allF (r4f l) 0 l = true := allF_iff.2 fun j y hj => by rw [Nat.zero_add]; exact hno j y (by have := (List.getElem?_eq_some_iff.1 hj).1; omega) hj
    rw [hall]
    repeat' (conv => whnf
             first
      | refine KSeq.cons ?_
      | refine KSeq.nil ?_
      | refine KWp.seq ?_
      | refine KWp.region ?_
      | refine KWp.cond ?_
      | refine KWp.block ?_
      | refine KWp.ret ?_
      | refine KWp.exit ?_
      | refine KWp.skip ?_
      | refine KWp.loop ?_
      | refine KWp.scope ?_
      | refine KWp.label ?_
      | (refine KIf.yes (by first | assumption | omega) ?_)
      | (refine KIf.no (by first | assumption | omega) ?_)
      | (refine Does.body (by kernel_rfl) (PDen.to (pivot nm l hl) ?_))
      | (refine PCall.to (by kernel_rfl) (pivot nm l hl) ?_)
      | (refine KB.yes (by assumption) ?_)
      | (refine KB.no (by assumption) ?_)
      | (refine KIf.split (fun _ => ?_) (fun _ => ?_))
      | (refine KB.split (fun _ => ?_) (fun _ => ?_))
      | (refine Exists.intro _ (And.intro (i64_in _ (by omega)) ?_))
      | (refine Exists.intro _ (And.intro (List.length_map ..) ?_))
      | (refine And.intro (by first | assumption | omega | rfl | decide) ?_)
      | (exact reif_to ⟨_, rfl⟩ rfl)
      | (refine Exists.intro _ (And.intro rfl ?_))
      | rfl)
set_option maxHeartbeats 8000000 in
theorem rule5 (nm : List UInt8) (l : List Sp) (hl : l.length ≤ 1000000) : PDen Tryd.prog E 73 [.agg [.str nm, .list false (l.map Sp.d)]] (.bool (decide (plc 1 l < 0 ∧ plc 3 l < 0 ∧ plc 5 l < 0 ∨ 0 ≤ plc 1 l ∧ plc 1 l < plc 3 l ∧ plc 3 l < plc 5 l))) := by
  refine kden (fn := Tryd.f73) mixed Tryd.func73 rfl (rfl) (rfl) ?_
  have h1 := ixP_ge (opI 1) l
  have e1 : ixP (opI 1) l = plc 1 l := rfl
  rw [e1] at h1
  have h3 := ixP_ge (opI 3) l
  have e3 : ixP (opI 3) l = plc 3 l := rfl
  rw [e3] at h3
  have h5 := ixP_ge (opI 5) l
  have e5 : ixP (opI 5) l = plc 5 l := rfl
  rw [e5] at h5
  have c1 := place (E := E) nm l hl 1
  generalize plc 1 l = p1 at *
  have c3 := place (E := E) nm l hl 3
  generalize plc 3 l = p3 at *
  have c5 := place (E := E) nm l hl 5
  generalize plc 5 l = p5 at *
  repeat' (conv => whnf
           first
    | refine KSeq.cons ?_
    | refine KSeq.nil ?_
    | refine KWp.seq ?_
    | refine KWp.region ?_
    | refine KWp.cond ?_
    | refine KWp.block ?_
    | refine KWp.ret ?_
    | refine KWp.exit ?_
    | refine KWp.skip ?_
    | refine KWp.loop ?_
    | refine KWp.scope ?_
    | refine KWp.label ?_
    | refine KAq.cons ?_
    | refine KAq.nil ?_
    | refine KAq.zero ?_
    | (refine KIf.yes (by first | assumption | omega) ?_)
    | (refine KIf.no (by first | assumption | omega) ?_)
    | (refine Does.body (by kernel_rfl) (PDen.to (c1) ?_))
    | (refine PCall.to (by kernel_rfl) (c1) ?_)
    | (refine Does.body (by kernel_rfl) (PDen.to (c3) ?_))
    | (refine PCall.to (by kernel_rfl) (c3) ?_)
    | (refine Does.body (by kernel_rfl) (PDen.to (c5) ?_))
    | (refine PCall.to (by kernel_rfl) (c5) ?_)
    | refine KWp.drawn 5 (by decide +kernel) ?_
    | refine KWp.drawn 8 (by decide +kernel) ?_
    | refine KWp.drawn 9 (by decide +kernel) ?_
    | (refine KB.yes (by assumption) ?_)
    | (refine KB.no (by assumption) ?_)
    | (refine KIf.split (fun _ => ?_) (fun _ => ?_))
    | (refine KB.split (fun _ => ?_) (fun _ => ?_))
    | (refine Exists.intro _ (And.intro (i64_in _ (by omega)) ?_))
    | (refine Exists.intro _ (And.intro (List.length_map ..) ?_))
    | (refine And.intro (by first | assumption | omega | rfl | decide) ?_)
    | (refine reif_to ⟨_, rfl⟩ ?_; first | exact bt (by omega) | exact bf (by omega) | (exfalso; omega))
    | (refine Exists.intro _ (And.intro rfl ?_))
    | rfl)
set_option maxHeartbeats 8000000 in
theorem rule6 (nm : List UInt8) (l : List Sp) (hl : l.length ≤ 1000000) : PDen Tryd.prog E 74 [.agg [.str nm, .list false (l.map Sp.d)]] (.bool (decide (plc 6 l < 0 ∨ 0 ≤ plc 2 l ∧ plc 2 l < plc 6 l))) := by
  refine kden (fn := Tryd.f74) mixed Tryd.func74 rfl (rfl) (rfl) ?_
  have h2 := ixP_ge (opI 2) l
  have e2 : ixP (opI 2) l = plc 2 l := rfl
  rw [e2] at h2
  have h6 := ixP_ge (opI 6) l
  have e6 : ixP (opI 6) l = plc 6 l := rfl
  rw [e6] at h6
  have c2 := place (E := E) nm l hl 2
  generalize plc 2 l = p2 at *
  have c6 := place (E := E) nm l hl 6
  generalize plc 6 l = p6 at *
  repeat' (conv => whnf
           first
    | refine KSeq.cons ?_
    | refine KSeq.nil ?_
    | refine KWp.seq ?_
    | refine KWp.region ?_
    | refine KWp.cond ?_
    | refine KWp.block ?_
    | refine KWp.ret ?_
    | refine KWp.exit ?_
    | refine KWp.skip ?_
    | refine KWp.loop ?_
    | refine KWp.scope ?_
    | refine KWp.label ?_
    | refine KAq.cons ?_
    | refine KAq.nil ?_
    | refine KAq.zero ?_
    | (refine KIf.yes (by first | assumption | omega) ?_)
    | (refine KIf.no (by first | assumption | omega) ?_)
    | (refine Does.body (by kernel_rfl) (PDen.to (c2) ?_))
    | (refine PCall.to (by kernel_rfl) (c2) ?_)
    | (refine Does.body (by kernel_rfl) (PDen.to (c6) ?_))
    | (refine PCall.to (by kernel_rfl) (c6) ?_)
    | refine KWp.drawn 3 (by decide +kernel) ?_
    | refine KWp.drawn 5 (by decide +kernel) ?_
    | refine KWp.drawn 6 (by decide +kernel) ?_
    | (refine KB.yes (by assumption) ?_)
    | (refine KB.no (by assumption) ?_)
    | (refine KIf.split (fun _ => ?_) (fun _ => ?_))
    | (refine KB.split (fun _ => ?_) (fun _ => ?_))
    | (refine Exists.intro _ (And.intro (i64_in _ (by omega)) ?_))
    | (refine Exists.intro _ (And.intro (List.length_map ..) ?_))
    | (refine And.intro (by first | assumption | omega | rfl | decide) ?_)
    | (refine reif_to ⟨_, rfl⟩ ?_; first | exact bt (by omega) | exact bf (by omega) | (exfalso; omega))
    | (refine Exists.intro _ (And.intro rfl ?_))
    | rfl)
def dFit (nm : List UInt8) (l : List Sp) : Bool := (nameS nm && decide (1 ≤ l.length ∧ l.length ≤ 6)) && ((!(l.any fun x => !(sFit x))) && (allF (r3f l) 0 l && (allF (r4f l) 0 l && (decide (plc 1 l < 0 ∧ plc 3 l < 0 ∧ plc 5 l < 0 ∨ 0 ≤ plc 1 l ∧ plc 1 l < plc 3 l ∧ plc 3 l < plc 5 l) && decide (plc 6 l < 0 ∨ 0 ≤ plc 2 l ∧ plc 2 l < plc 6 l)))))
set_option maxHeartbeats 8000000 in
theorem rules  : PDen Tryd.prog E 34 [] (.list true [.fn (.func 66) [] [], .fn (.func 68) [] [], .fn (.func 71) [] [], .fn (.func 72) [] [], .fn (.func 73) [] [], .fn (.func 74) [] []]) := by
  refine kden (fn := Tryd.f34) mixed Tryd.func34 rfl (rfl) (rfl) ?_
  repeat' (conv => whnf
           first
    | refine KSeq.cons ?_
    | refine KSeq.nil ?_
    | refine KWp.seq ?_
    | refine KWp.region ?_
    | refine KWp.cond ?_
    | refine KWp.block ?_
    | refine KWp.ret ?_
    | refine KWp.exit ?_
    | refine KWp.skip ?_
    | refine KWp.loop ?_
    | refine KWp.scope ?_
    | refine KWp.label ?_
    | (refine KIf.yes (by first | assumption | omega) ?_)
    | (refine KIf.no (by first | assumption | omega) ?_)
    | (refine KB.yes (by assumption) ?_)
    | (refine KB.no (by assumption) ?_)
    | (refine KIf.split (fun _ => ?_) (fun _ => ?_))
    | (refine KB.split (fun _ => ?_) (fun _ => ?_))
    | (refine Exists.intro _ (And.intro (i64_in _ (by omega)) ?_))
    | (refine Exists.intro _ (And.intro (List.length_map ..) ?_))
    | (refine And.intro (by first | assumption | omega | rfl | decide) ?_)
    | (exact ⟨⟨_, rfl⟩⟩)
    | (refine Exists.intro _ (And.intro rfl ?_))
    | rfl)
set_option maxHeartbeats 8000000 in
theorem fit (nm : List UInt8) (l : List Sp) (hl : l.length ≤ 1000000) (hn : PDen Tryd.prog E 67 [.str nm] (.bool (nameS nm))) : PDen Tryd.prog E 9 [.agg [.str nm, .list false (l.map Sp.d)]] (.bool (dFit nm l)) := by
  refine kden (fn := Tryd.f9) mixed Tryd.func9 rfl (rfl) (rfl) ?_
  have c1 := rule1 (E := E) nm l hl _ hn
  have c2 := rule2 (E := E) nm l hl
  have c3 := rule3 (E := E) nm l hl
  have c4 := rule4 (E := E) nm l hl
  have c5 := rule5 (E := E) nm l hl
  have c6 := rule6 (E := E) nm l hl
  unfold dFit
  generalize (nameS nm && decide (1 ≤ l.length ∧ l.length ≤ 6)) = b1 at *
  generalize (!(l.any fun x => !(sFit x))) = b2 at *
  generalize allF (r3f l) 0 l = b3 at *
  generalize allF (r4f l) 0 l = b4 at *
  generalize decide (plc 1 l < 0 ∧ plc 3 l < 0 ∧ plc 5 l < 0 ∨ 0 ≤ plc 1 l ∧ plc 1 l < plc 3 l ∧ plc 3 l < plc 5 l) = b5 at *
  generalize decide (plc 6 l < 0 ∨ 0 ≤ plc 2 l ∧ plc 2 l < plc 6 l) = b6 at *
  repeat' (conv => whnf
           first
    | refine KSeq.cons ?_
    | (refine kloopM_start 7 ?_)
    | (refine kloopM_step ?_)
    | (refine Exists.intro _ (And.intro rfl (Exists.intro _ (And.intro rfl (And.intro rfl ?_)))))
    | refine KSeq.nil ?_
    | refine KWp.seq ?_
    | refine KWp.region ?_
    | refine KWp.cond ?_
    | refine KWp.block ?_
    | refine KWp.ret ?_
    | refine KWp.exit ?_
    | refine KWp.skip ?_
    | refine KWp.loop ?_
    | refine KWp.scope ?_
    | refine KWp.label ?_
    | (refine KIf.yes (by first | assumption | omega) ?_)
    | (refine KIf.no (by first | assumption | omega) ?_)
    | (refine Does.body (by kernel_rfl) (PDen.to (rules) ?_))
    | (refine PCall.to (by kernel_rfl) (rules) ?_)
    | (refine Does.body (by kernel_rfl) (PDen.to (c1) ?_))
    | (refine PCall.to (by kernel_rfl) (c1) ?_)
    | (refine Does.body (by kernel_rfl) (PDen.to (c2) ?_))
    | (refine PCall.to (by kernel_rfl) (c2) ?_)
    | (refine Does.body (by kernel_rfl) (PDen.to (c3) ?_))
    | (refine PCall.to (by kernel_rfl) (c3) ?_)
    | (refine Does.body (by kernel_rfl) (PDen.to (c4) ?_))
    | (refine PCall.to (by kernel_rfl) (c4) ?_)
    | (refine Does.body (by kernel_rfl) (PDen.to (c5) ?_))
    | (refine PCall.to (by kernel_rfl) (c5) ?_)
    | (refine Does.body (by kernel_rfl) (PDen.to (c6) ?_))
    | (refine PCall.to (by kernel_rfl) (c6) ?_)
    | (refine KB.yes (by assumption) ?_)
    | (refine KB.no (by assumption) ?_)
    | (refine KIf.split (fun _ => ?_) (fun _ => ?_))
    | (refine KB.split (fun _ => ?_) (fun _ => ?_))
    | (refine Exists.intro _ (And.intro (i64_in _ (by omega)) ?_))
    | (refine Exists.intro _ (And.intro (List.length_map ..) ?_))
    | (refine And.intro (by first | assumption | omega | rfl | decide) ?_)
    | (refine reif_to ⟨_, rfl⟩ ?_; rw [D.bool.injEq]; simp_all)
    | (refine Exists.intro _ (And.intro rfl ?_))
    | rfl)
end Go.Lv
