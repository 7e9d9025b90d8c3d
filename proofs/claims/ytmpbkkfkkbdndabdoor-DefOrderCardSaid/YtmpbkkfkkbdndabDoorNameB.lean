/- Names: the program's (walks). -/
import Derived.Test.YtmpbkkfkkbdndabDoorBaseD
import Derived.Test.YtmpbkkfkkbdndabDoorNameP
import Derived.Test.YtmpbkkfkkbdndabDoorLayV
import Derived.Test.YtmpbkkfkkbdndabDoorDefA
namespace Go.Lv
open Go Go.Proofs Go.IntWalk
set_option maxRecDepth 100000
set_option linter.unusedSimpArgs false
set_option linter.unusedVariables false
variable {E : Env}
/-- The two tables of unicode/utf8 lie where the program has them. -/
def UT (E : Env) : Prop := ∀ w : World, GLe E.h0 (fun b => w.heap[b]?) → Lib.Utf8Tabs (Tryd.lays196_ren.g 3) (Tryd.lays196_ren.g 4) w
theorem valid109 (hU : UT E) (s : List UInt8) (hs : s.length ≤ 4611686018427387904) : PDen Tryd.prog E 109 [.str s] (.bool (Lib.validD s)) := by
  refine pden_below rfl rfl fun h w vs hb hi hsz hrel => ?_
  obtain ⟨v, hv, rv⟩ := hrel 0 _ rfl
  cases rv with | str _ b e =>
  subst e
  obtain rfl : vs = #[.string b] := by
    cases vs with | mk l =>
    match l, hsz with
    | [x], _ => exact congrArg (fun v => #[v]) (Option.some.inj (show some x = some _ from hv))
  have hbs : b.size = b.data.toList.length := Array.length_toList.symm
  refine (Tryd.utf8_ValidString b w (by omega) (hU w (hb.trans hi))).mono fun e w' hh => ?_
  obtain ⟨rfl, hB⟩ := hh
  exact ⟨_, rfl, hB, .bool _⟩
set_option maxHeartbeats 8000000 in
theorem rune (c : Nat) : PDen Tryd.prog E 95 [.int .i32 (c : Int)] (.bool (nmR c)) := by
  refine kden (fn := Tryd.f95) mixed Tryd.func95 rfl (rfl) (rfl) ?_
  unfold nmR
  repeat' (conv => whnf
           first
    | refine KSeq.cons ?_
    | refine KSeq.nil ?_
    | refine KWp.seq ?_
    | refine KWp.region ?_
    | refine KWp.cond ?_
    | refine KWp.block ?_
    | refine KWp.ret ?_
    | refine KWp.exit ?_
    | refine KWp.skip ?_
    | refine KWp.loop ?_
    | refine KWp.scope ?_
    | refine KWp.label ?_
    | (refine KIf.yes (by first | assumption | omega) ?_)
    | (refine KIf.no (by first | assumption | omega) ?_)
    | (refine KB.yes (by assumption) ?_)
    | (refine KB.no (by assumption) ?_)
    | (refine KIf.split (fun _ => ?_) (fun _ => ?_))
    | (refine KB.split (fun _ => ?_) (fun _ => ?_))
    | (refine Exists.intro _ (And.intro (i64_in _ (by omega)) ?_))
    | (refine Exists.intro _ (And.intro (List.length_map ..) ?_))
    | (refine And.intro (by first | assumption | omega | rfl | decide) ?_)
    | (refine reif_to ⟨_, rfl⟩ ?_; first | exact bt (by omega) | exact bf (by omega) | (exfalso; omega))
    | (refine Exists.intro _ (And.intro rfl ?_))
    | rfl)
set_option maxHeartbeats 8000000 in
theorem rcount (s : List UInt8) (hs : s.length ≤ 1000000) : PDen Tryd.prog E 110 [.str s] (.int .i64 (Lib.runeCount ⟨s.toArray⟩ : Int)) := by
  refine kden (fn := Tryd.f110) mixed Tryd.func110 rfl (rfl) (rfl) ?_
  repeat' (conv => whnf
           first
    | refine KSeq.cons ?_
    | refine KSeq.nil ?_
    | refine KWp.seq ?_
    | refine KWp.region ?_
    | refine KWp.cond ?_
    | refine KWp.block ?_
    | refine KWp.ret ?_
    | refine KWp.exit ?_
    | refine KWp.skip ?_
    | refine KWp.loop ?_
    | refine KWp.scope ?_
    | refine KWp.label ?_
    | (refine KIf.yes (by first | assumption | omega) ?_)
    | (refine KIf.no (by first | assumption | omega) ?_)
    | (refine KB.yes (by assumption) ?_)
    | (refine KB.no (by assumption) ?_)
    | (refine KIf.split (fun _ => ?_) (fun _ => ?_))
    | (refine KB.split (fun _ => ?_) (fun _ => ?_))
    | (refine Exists.intro _ (And.intro (i64_in _ (by omega)) ?_))
    | (refine Exists.intro _ (And.intro (List.length_map ..) ?_))
    | (refine And.intro (by first | assumption | omega | rfl | decide) ?_)
    | (refine Exists.intro _ (And.intro rfl ?_))
    | rfl)
  have hsz : (⟨s.toArray⟩ : ByteArray).size = s.length := by simp [ByteArray.size]
  refine kloop_at (ι := Nat × Nat) [0, 4] 1 (fun x => [(2, .int .i64 (x.2 : Int))]) (fun x => [(0, .iter s x.1)]) (fun x => s.length - x.1) (fun x => x.2 ≤ x.1 ∧ x.2 ≤ s.length ∧ ∃ b : Nat, x.2 + Lib.runeCountFrom ⟨s.toArray⟩ b x.1 = Lib.runeCount ⟨s.toArray⟩ ∧ s.length ≤ x.1 + b) (0, 0) (norm_to [0, 2, 4] 1 (by decide) rfl rfl rfl rfl) ⟨Nat.le_refl _, Nat.zero_le _, s.length, by simp [Lib.runeCount, hsz], by show s.length ≤ 0 + s.length; omega⟩ ?_
  rintro ⟨pos, k⟩ ⟨h1, h2, b, h3, h4⟩
  dsimp only at h1 h2 h3 h4
  by_cases hp : pos < s.length
  · have hw := Lib.decode_width_pos ⟨s.toArray⟩ pos (by rw [hsz]; exact hp)
    obtain ⟨b, rfl⟩ : ∃ b', b = b' + 1 := ⟨b - 1, by omega⟩
    have h5 : k + 1 + Lib.runeCountFrom ⟨s.toArray⟩ b (pos + (Utf8.decode ⟨s.toArray⟩ pos).2) = Lib.runeCount ⟨s.toArray⟩ := by
      rw [← h3]
      simp only [Lib.runeCountFrom, hsz, if_pos hp]
      omega
    repeat' (conv => whnf
             first
      | refine KSeq.cons ?_
      | refine KSeq.nil ?_
      | refine KWp.seq ?_
      | refine KWp.region ?_
      | refine KWp.cond ?_
      | refine KWp.block ?_
      | refine KWp.ret ?_
      | refine KWp.exit ?_
      | refine KWp.skip ?_
      | refine KWp.loop ?_
      | refine KWp.scope ?_
      | refine KWp.label ?_
      | (refine KIf.yes (by first | assumption | omega) ?_)
      | (refine KIf.no (by first | assumption | omega) ?_)
      | (refine KB.yes (by assumption) ?_)
      | (refine KB.no (by assumption) ?_)
      | (refine KIf.split (fun _ => ?_) (fun _ => ?_))
      | (refine KB.split (fun _ => ?_) (fun _ => ?_))
      | (refine Exists.intro _ (And.intro (i64_in _ (by omega)) ?_))
      | (refine Exists.intro _ (And.intro (List.length_map ..) ?_))
      | (refine And.intro (by first | assumption | omega | rfl | decide) ?_)
      | (exact less (pos + (Utf8.decode ⟨s.toArray⟩ pos).2, k + 1) (by show s.length - (pos + (Utf8.decode ⟨s.toArray⟩ pos).2) < s.length - pos; omega) ⟨(by show k + 1 ≤ pos + (Utf8.decode ⟨s.toArray⟩ pos).2; omega), (by show k + 1 ≤ s.length; omega), b, h5, (by show s.length ≤ pos + (Utf8.decode ⟨s.toArray⟩ pos).2 + b; omega)⟩ (norm_to [0, 2, 4] 1 (by decide) rfl rfl rfl rfl))
      | (refine Exists.intro _ (And.intro rfl ?_))
      | rfl)
  · have h5 : k = Lib.runeCount ⟨s.toArray⟩ := by
      rw [← h3]
      cases b <;> simp [Lib.runeCountFrom, hsz, hp]
    subst h5
    repeat' (conv => whnf
             first
      | refine KSeq.cons ?_
      | refine KSeq.nil ?_
      | refine KWp.seq ?_
      | refine KWp.region ?_
      | refine KWp.cond ?_
      | refine KWp.block ?_
      | refine KWp.ret ?_
      | refine KWp.exit ?_
      | refine KWp.skip ?_
      | refine KWp.loop ?_
      | refine KWp.scope ?_
      | refine KWp.label ?_
      | (refine KIf.yes (by first | assumption | omega) ?_)
      | (refine KIf.no (by first | assumption | omega) ?_)
      | (refine KB.yes (by assumption) ?_)
      | (refine KB.no (by assumption) ?_)
      | (refine KIf.split (fun _ => ?_) (fun _ => ?_))
      | (refine KB.split (fun _ => ?_) (fun _ => ?_))
      | (refine Exists.intro _ (And.intro (i64_in _ (by omega)) ?_))
      | (refine Exists.intro _ (And.intro (List.length_map ..) ?_))
      | (refine And.intro (by first | assumption | omega | rfl | decide) ?_)
      | (exact ⟨⟨_, rfl⟩⟩)
      | (refine Exists.intro _ (And.intro rfl ?_))
      | rfl)
set_option maxHeartbeats 8000000 in
theorem count (hU : UT E) (s : List UInt8) (hs : s.length ≤ 1000000) : PDen Tryd.prog E 94 [.str s] (.int .i64 (if Lib.validD s = true then (Lib.runeCount ⟨s.toArray⟩ : Int) else -1)) := by
  refine kden (fn := Tryd.f94) mixed Tryd.func94 rfl (rfl) (rfl) ?_
  have hv := valid109 hU s (by omega)
  have hr := rcount (E := E) s hs
  cases hb : Lib.validD s <;> rw [hb] at hv
  · rw [if_neg (by decide)]
    repeat' (conv => whnf
             first
      | refine KSeq.cons ?_
      | refine KSeq.nil ?_
      | refine KWp.seq ?_
      | refine KWp.region ?_
      | refine KWp.cond ?_
      | refine KWp.block ?_
      | refine KWp.ret ?_
      | refine KWp.exit ?_
      | refine KWp.skip ?_
      | refine KWp.loop ?_
      | refine KWp.scope ?_
      | refine KWp.label ?_
      | (refine KIf.yes (by first | assumption | omega) ?_)
      | (refine KIf.no (by first | assumption | omega) ?_)
      | (refine Does.body (by kernel_rfl) (PDen.to (hv) ?_))
      | (refine PCall.to (by kernel_rfl) (hv) ?_)
      | (refine Does.body (by kernel_rfl) (PDen.to (hr) ?_))
      | (refine PCall.to (by kernel_rfl) (hr) ?_)
      | (refine KB.yes (by assumption) ?_)
      | (refine KB.no (by assumption) ?_)
      | (refine KIf.split (fun _ => ?_) (fun _ => ?_))
      | (refine KB.split (fun _ => ?_) (fun _ => ?_))
      | (refine Exists.intro _ (And.intro (i64_in _ (by omega)) ?_))
      | (refine Exists.intro _ (And.intro (List.length_map ..) ?_))
      | (refine And.intro (by first | assumption | omega | rfl | decide) ?_)
      | (exact ⟨⟨_, rfl⟩⟩)
      | (refine Exists.intro _ (And.intro rfl ?_))
      | rfl)
  · rw [if_pos rfl]
    repeat' (conv => whnf
             first
      | refine KSeq.cons ?_
      | refine KSeq.nil ?_
      | refine KWp.seq ?_
      | refine KWp.region ?_
      | refine KWp.cond ?_
      | refine KWp.block ?_
      | refine KWp.ret ?_
      | refine KWp.exit ?_
      | refine KWp.skip ?_
      | refine KWp.loop ?_
      | refine KWp.scope ?_
      | refine KWp.label ?_
      | (refine KIf.yes (by first | assumption | omega) ?_)
      | (refine KIf.no (by first | assumption | omega) ?_)
      | (refine Does.body (by kernel_rfl) (PDen.to (hv) ?_))
      | (refine PCall.to (by kernel_rfl) (hv) ?_)
      | (refine Does.body (by kernel_rfl) (PDen.to (hr) ?_))
      | (refine PCall.to (by kernel_rfl) (hr) ?_)
      | (refine KB.yes (by assumption) ?_)
      | (refine KB.no (by assumption) ?_)
      | (refine KIf.split (fun _ => ?_) (fun _ => ?_))
      | (refine KB.split (fun _ => ?_) (fun _ => ?_))
      | (refine Exists.intro _ (And.intro (i64_in _ (by omega)) ?_))
      | (refine Exists.intro _ (And.intro (List.length_map ..) ?_))
      | (refine And.intro (by first | assumption | omega | rfl | decide) ?_)
      | (exact ⟨⟨_, rfl⟩⟩)
      | (refine Exists.intro _ (And.intro rfl ?_))
      | rfl)
theorem pos_cases {s : List UInt8} {pos : Nat} (hp : pos < s.length) : ∃ b t, s.drop pos = b :: t := ⟨_, _, List.drop_eq_getElem_cons hp⟩
theorem nameS_none {s : List UInt8} (h : units s = none) : nameS s = false := by simp [nameS, h]
theorem nameS_some {s : List UInt8} {r : List Nat} (h : units s = some r) : nameS s = decide (1 ≤ r.length ∧ r.length ≤ 12 ∧ r.head? ≠ some 45) := by simp [nameS, h]
set_option maxHeartbeats 8000000 in
theorem nfit (hU : UT E) (s : List UInt8) (hs : s.length ≤ 1000000) : PDen Tryd.prog E 67 [.str s] (.bool (nameS s)) := by
  refine kden (fn := Tryd.f67) mixed Tryd.func67 rfl (rfl) (rfl) ?_
  have hsz : (⟨s.toArray⟩ : ByteArray).size = s.length := by simp [ByteArray.size]
  have hc := count hU s hs
  cases hu : units s with
  | none =>
    rw [nameS_none hu]
    generalize (if Lib.validD s = true then (Lib.runeCount ⟨s.toArray⟩ : Int) else -1) = nn at hc
    repeat' (conv => whnf
             first
      | refine KSeq.cons ?_
      | refine KSeq.nil ?_
      | refine KWp.seq ?_
      | refine KWp.region ?_
      | refine KWp.cond ?_
      | refine KWp.block ?_
      | refine KWp.ret ?_
      | refine KWp.exit ?_
      | refine KWp.skip ?_
      | refine KWp.loop ?_
      | refine KWp.scope ?_
      | refine KWp.label ?_
      | (refine KIf.yes (by first | assumption | omega) ?_)
      | (refine KIf.no (by first | assumption | omega) ?_)
      | (refine Does.body (by kernel_rfl) (PDen.to (hc) ?_))
      | (refine PCall.to (by kernel_rfl) (hc) ?_)
      | (refine KB.yes (by assumption) ?_)
      | (refine KB.no (by assumption) ?_)
      | (refine KIf.split (fun _ => ?_) (fun _ => ?_))
      | (refine KB.split (fun _ => ?_) (fun _ => ?_))
      | (refine Exists.intro _ (And.intro (i64_in _ (by omega)) ?_))
      | (refine Exists.intro _ (And.intro (List.length_map ..) ?_))
      | (refine And.intro (by first | assumption | omega | rfl | decide) ?_)
      | (exact ⟨⟨_, rfl⟩⟩)
      | (refine Exists.intro _ (And.intro rfl ?_))
      | rfl)
    refine kloop_at (ι := Nat) [15] 1 (fun _ => []) (fun pos => [(0, .iter s pos)]) (fun pos => s.length - pos) (fun pos => units (s.drop pos) = none) 0 (norm_to [15] 1 (by decide) rfl rfl rfl rfl) hu ?_
    intro pos hn
    have hp : pos < s.length := by
      rcases Nat.lt_or_ge pos s.length with h | h
      · exact h
      · rw [List.drop_eq_nil_of_le h, units_nil] at hn
        cases hn
    have hw := Lib.decode_width_pos ⟨s.toArray⟩ pos (by rw [hsz]; exact hp)
    obtain ⟨b, t, hbt⟩ := pos_cases hp
    have hr := rune (E := E) (Utf8.decode ⟨s.toArray⟩ pos).1
    rcases dec_at s pos b t hbt with hu1 | ⟨_, hu2⟩
    · have hu1' : unit1 (s.drop pos) = some ((Utf8.decode ⟨s.toArray⟩ pos).1, (Utf8.decode ⟨s.toArray⟩ pos).2) := hu1
      have hs1 := unit1_spec hu1'
      rw [hs1.1] at hr
      have hn' : units (s.drop (pos + (Utf8.decode ⟨s.toArray⟩ pos).2)) = none := by
        rw [units_some hu1', drop_drop'] at hn
        cases hq : units (s.drop (pos + (Utf8.decode ⟨s.toArray⟩ pos).2)) with
        | none => rfl
        | some q => rw [hq] at hn; cases hn
      repeat' (conv => whnf
               first
        | refine KSeq.cons ?_
        | refine KSeq.nil ?_
        | refine KWp.seq ?_
        | refine KWp.region ?_
        | refine KWp.cond ?_
        | refine KWp.block ?_
        | refine KWp.ret ?_
        | refine KWp.exit ?_
        | refine KWp.skip ?_
        | refine KWp.loop ?_
        | refine KWp.scope ?_
        | refine KWp.label ?_
        | (refine KIf.yes (by first | assumption | omega) ?_)
        | (refine KIf.no (by first | assumption | omega) ?_)
        | (refine Does.body (by kernel_rfl) (PDen.to (hr) ?_))
        | (refine PCall.to (by kernel_rfl) (hr) ?_)
        | (refine KB.yes (by assumption) ?_)
        | (refine KB.no (by assumption) ?_)
        | (refine KIf.split (fun _ => ?_) (fun _ => ?_))
        | (refine KB.split (fun _ => ?_) (fun _ => ?_))
        | (refine Exists.intro _ (And.intro (i64_in _ (by omega)) ?_))
        | (refine Exists.intro _ (And.intro (List.length_map ..) ?_))
        | (refine And.intro (by first | assumption | omega | rfl | decide) ?_)
        | (first | exact ⟨⟨_, rfl⟩⟩ | (exact less (pos + (Utf8.decode ⟨s.toArray⟩ pos).2) (by show s.length - (pos + (Utf8.decode ⟨s.toArray⟩ pos).2) < s.length - pos; omega) hn' (norm_to [15] 1 (by decide) rfl rfl rfl rfl)))
        | (refine Exists.intro _ (And.intro rfl ?_))
        | rfl)
    · rw [hu2] at hr
      repeat' (conv => whnf
               first
        | refine KSeq.cons ?_
        | refine KSeq.nil ?_
        | refine KWp.seq ?_
        | refine KWp.region ?_
        | refine KWp.cond ?_
        | refine KWp.block ?_
        | refine KWp.ret ?_
        | refine KWp.exit ?_
        | refine KWp.skip ?_
        | refine KWp.loop ?_
        | refine KWp.scope ?_
        | refine KWp.label ?_
        | (refine KIf.yes (by first | assumption | omega) ?_)
        | (refine KIf.no (by first | assumption | omega) ?_)
        | (refine Does.body (by kernel_rfl) (PDen.to (hr) ?_))
        | (refine PCall.to (by kernel_rfl) (hr) ?_)
        | (refine KB.yes (by assumption) ?_)
        | (refine KB.no (by assumption) ?_)
        | (refine KIf.split (fun _ => ?_) (fun _ => ?_))
        | (refine KB.split (fun _ => ?_) (fun _ => ?_))
        | (refine Exists.intro _ (And.intro (i64_in _ (by omega)) ?_))
        | (refine Exists.intro _ (And.intro (List.length_map ..) ?_))
        | (refine And.intro (by first | assumption | omega | rfl | decide) ?_)
        | (exact ⟨⟨_, rfl⟩⟩)
        | (refine Exists.intro _ (And.intro rfl ?_))
        | rfl)
  | some r =>
    rw [if_pos (valid_ok hu), count_ok hu] at hc
    rw [nameS_some hu]
    by_cases hlen : 1 ≤ r.length ∧ r.length ≤ 12
    · obtain ⟨hl1, hl2⟩ := hlen
      repeat' (conv => whnf
               first
        | refine KSeq.cons ?_
        | refine KSeq.nil ?_
        | refine KWp.seq ?_
        | refine KWp.region ?_
        | refine KWp.cond ?_
        | refine KWp.block ?_
        | refine KWp.ret ?_
        | refine KWp.exit ?_
        | refine KWp.skip ?_
        | refine KWp.loop ?_
        | refine KWp.scope ?_
        | refine KWp.label ?_
        | (refine KIf.yes (by first | assumption | omega) ?_)
        | (refine KIf.no (by first | assumption | omega) ?_)
        | (refine Does.body (by kernel_rfl) (PDen.to (hc) ?_))
        | (refine PCall.to (by kernel_rfl) (hc) ?_)
        | (refine KB.yes (by assumption) ?_)
        | (refine KB.no (by assumption) ?_)
        | (refine KIf.split (fun _ => ?_) (fun _ => ?_))
        | (refine KB.split (fun _ => ?_) (fun _ => ?_))
        | (refine Exists.intro _ (And.intro (i64_in _ (by omega)) ?_))
        | (refine Exists.intro _ (And.intro (List.length_map ..) ?_))
        | (refine And.intro (by first | assumption | omega | rfl | decide) ?_)
        | (refine Exists.intro _ (And.intro rfl ?_))
        | rfl)
      · skip
        refine kloop_at (ι := Nat) [15] 1 (fun _ => []) (fun pos => [(0, .iter s pos)]) (fun pos => s.length - pos) (fun pos => ∃ q, units (s.drop pos) = some q ∧ (pos = 0 → q = r) ∧ (0 < pos → r.head? ≠ some 45)) 0 (norm_to [15] 1 (by decide) rfl rfl rfl rfl) ⟨r, hu, fun _ => rfl, fun h => absurd h (Nat.lt_irrefl 0)⟩ ?_
        rintro pos ⟨q, hq, hq0, hqp⟩
        by_cases hp : pos < s.length
        · have hw := Lib.decode_width_pos ⟨s.toArray⟩ pos (by rw [hsz]; exact hp)
          obtain ⟨b, t, hbt⟩ := pos_cases hp
          have hr := rune (E := E) (Utf8.decode ⟨s.toArray⟩ pos).1
          rcases dec_at s pos b t hbt with hu1 | ⟨hu1, _⟩
          · have hu1' : unit1 (s.drop pos) = some ((Utf8.decode ⟨s.toArray⟩ pos).1, (Utf8.decode ⟨s.toArray⟩ pos).2) := hu1
            have hs1 := unit1_spec hu1'
            rw [hs1.1] at hr
            have hq' := hq
            rw [units_some hu1', drop_drop'] at hq'
            cases hq2 : units (s.drop (pos + (Utf8.decode ⟨s.toArray⟩ pos).2)) with
            | none => rw [hq2] at hq'; cases hq'
            | some q2 =>
              rw [hq2] at hq'
              simp only [Option.map_some, Option.some.injEq] at hq'
              by_cases hp0 : pos = 0
              · have hrq := hq0 hp0
                by_cases h45 : (Utf8.decode ⟨s.toArray⟩ pos).1 = 45
                · have hres : ¬ (1 ≤ r.length ∧ r.length ≤ 12 ∧ r.head? ≠ some 45) := fun h => h.2.2 (by rw [← hrq, ← hq', h45]; rfl)
                  rw [decide_eq_false hres]
                  have hpi : (pos : Int) = 0 := by omega
                  have h45i : (((Utf8.decode ⟨s.toArray⟩ pos).1 : Nat) : Int) = 45 := by omega
                  clear hq hq0 hqp hq2 hq' hu1 hu1' hs1 hres hbt
                  repeat' (conv => whnf
                           first
                    | refine KSeq.cons ?_
                    | refine KSeq.nil ?_
                    | refine KWp.seq ?_
                    | refine KWp.region ?_
                    | refine KWp.cond ?_
                    | refine KWp.block ?_
                    | refine KWp.ret ?_
                    | refine KWp.exit ?_
                    | refine KWp.skip ?_
                    | refine KWp.loop ?_
                    | refine KWp.scope ?_
                    | refine KWp.label ?_
                    | (refine KIf.yes (by first | assumption | omega) ?_)
                    | (refine KIf.no (by first | assumption | omega) ?_)
                    | (refine Does.body (by kernel_rfl) (PDen.to (hr) ?_))
                    | (refine PCall.to (by kernel_rfl) (hr) ?_)
                    | (refine KB.yes (by assumption) ?_)
                    | (refine KB.no (by assumption) ?_)
                    | (refine KIf.split (fun _ => ?_) (fun _ => ?_))
                    | (refine KB.split (fun _ => ?_) (fun _ => ?_))
                    | (refine Exists.intro _ (And.intro (i64_in _ (by omega)) ?_))
                    | (refine Exists.intro _ (And.intro (List.length_map ..) ?_))
                    | (refine And.intro (by first | assumption | omega | rfl | decide) ?_)
                    | (exact ⟨⟨_, rfl⟩⟩)
                    | (refine Exists.intro _ (And.intro rfl ?_))
                    | rfl)
                · have hne : r.head? ≠ some 45 := by
                    rw [← hrq, ← hq']
                    intro h
                    simp only [List.head?_cons, Option.some.injEq] at h
                    exact h45 h
                  have hpi : (pos : Int) = 0 := by omega
                  have h45i : ¬ (((Utf8.decode ⟨s.toArray⟩ pos).1 : Nat) : Int) = 45 := by omega
                  repeat' (conv => whnf
                           first
                    | refine KSeq.cons ?_
                    | refine KSeq.nil ?_
                    | refine KWp.seq ?_
                    | refine KWp.region ?_
                    | refine KWp.cond ?_
                    | refine KWp.block ?_
                    | refine KWp.ret ?_
                    | refine KWp.exit ?_
                    | refine KWp.skip ?_
                    | refine KWp.loop ?_
                    | refine KWp.scope ?_
                    | refine KWp.label ?_
                    | (refine KIf.yes (by first | assumption | omega) ?_)
                    | (refine KIf.no (by first | assumption | omega) ?_)
                    | (refine Does.body (by kernel_rfl) (PDen.to (hr) ?_))
                    | (refine PCall.to (by kernel_rfl) (hr) ?_)
                    | (refine KB.yes (by assumption) ?_)
                    | (refine KB.no (by assumption) ?_)
                    | (refine KIf.split (fun _ => ?_) (fun _ => ?_))
                    | (refine KB.split (fun _ => ?_) (fun _ => ?_))
                    | (refine Exists.intro _ (And.intro (i64_in _ (by omega)) ?_))
                    | (refine Exists.intro _ (And.intro (List.length_map ..) ?_))
                    | (refine And.intro (by first | assumption | omega | rfl | decide) ?_)
                    | (exact less (pos + (Utf8.decode ⟨s.toArray⟩ pos).2) (by show s.length - (pos + (Utf8.decode ⟨s.toArray⟩ pos).2) < s.length - pos; omega) ⟨q2, hq2, fun h => absurd h (by omega), fun _ => hne⟩ (norm_to [15] 1 (by decide) rfl rfl rfl rfl))
                    | (refine Exists.intro _ (And.intro rfl ?_))
                    | rfl)
              · have hne := hqp (by omega)
                have hpi : ¬ (pos : Int) = 0 := by omega
                repeat' (conv => whnf
                         first
                  | refine KSeq.cons ?_
                  | refine KSeq.nil ?_
                  | refine KWp.seq ?_
                  | refine KWp.region ?_
                  | refine KWp.cond ?_
                  | refine KWp.block ?_
                  | refine KWp.ret ?_
                  | refine KWp.exit ?_
                  | refine KWp.skip ?_
                  | refine KWp.loop ?_
                  | refine KWp.scope ?_
                  | refine KWp.label ?_
                  | (refine KIf.yes (by first | assumption | omega) ?_)
                  | (refine KIf.no (by first | assumption | omega) ?_)
                  | (refine Does.body (by kernel_rfl) (PDen.to (hr) ?_))
                  | (refine PCall.to (by kernel_rfl) (hr) ?_)
                  | (refine KB.yes (by assumption) ?_)
                  | (refine KB.no (by assumption) ?_)
                  | (refine KIf.split (fun _ => ?_) (fun _ => ?_))
                  | (refine KB.split (fun _ => ?_) (fun _ => ?_))
                  | (refine Exists.intro _ (And.intro (i64_in _ (by omega)) ?_))
                  | (refine Exists.intro _ (And.intro (List.length_map ..) ?_))
                  | (refine And.intro (by first | assumption | omega | rfl | decide) ?_)
                  | (exact less (pos + (Utf8.decode ⟨s.toArray⟩ pos).2) (by show s.length - (pos + (Utf8.decode ⟨s.toArray⟩ pos).2) < s.length - pos; omega) ⟨q2, hq2, fun h => absurd h (by omega), fun _ => hne⟩ (norm_to [15] 1 (by decide) rfl rfl rfl rfl))
                  | (refine Exists.intro _ (And.intro rfl ?_))
                  | rfl)
          · rw [units_none (by rw [hbt]; simp) hu1] at hq
            cases hq
        · have hne : r.head? ≠ some 45 := by
            by_cases hp0 : 0 < pos
            · exact hqp hp0
            · have h0 : pos = 0 := by omega
              subst h0
              rw [List.drop_eq_nil_of_le (by omega), units_nil] at hq
              cases hq
              rw [← hq0 rfl]
              simp
          rw [decide_eq_true (show _ ∧ _ ∧ _ from ⟨by omega, by omega, hne⟩)]
          repeat' (conv => whnf
                   first
            | refine KSeq.cons ?_
            | refine KSeq.nil ?_
            | refine KWp.seq ?_
            | refine KWp.region ?_
            | refine KWp.cond ?_
            | refine KWp.block ?_
            | refine KWp.ret ?_
            | refine KWp.exit ?_
            | refine KWp.skip ?_
            | refine KWp.loop ?_
            | refine KWp.scope ?_
            | refine KWp.label ?_
            | (refine KIf.yes (by first | assumption | omega) ?_)
            | (refine KIf.no (by first | assumption | omega) ?_)
            | (refine Does.body (by kernel_rfl) (PDen.to (hr) ?_))
            | (refine PCall.to (by kernel_rfl) (hr) ?_)
            | (refine KB.yes (by assumption) ?_)
            | (refine KB.no (by assumption) ?_)
            | (refine KIf.split (fun _ => ?_) (fun _ => ?_))
            | (refine KB.split (fun _ => ?_) (fun _ => ?_))
            | (refine Exists.intro _ (And.intro (i64_in _ (by omega)) ?_))
            | (refine Exists.intro _ (And.intro (List.length_map ..) ?_))
            | (refine And.intro (by first | assumption | omega | rfl | decide) ?_)
            | (exact ⟨⟨_, rfl⟩⟩)
            | (refine Exists.intro _ (And.intro rfl ?_))
            | rfl)
    · have hres : ¬ (1 ≤ r.length ∧ r.length ≤ 12 ∧ r.head? ≠ some 45) := fun h => hlen ⟨h.1, h.2.1⟩
      rw [decide_eq_false hres]
      repeat' (conv => whnf
               first
        | refine KSeq.cons ?_
        | refine KSeq.nil ?_
        | refine KWp.seq ?_
        | refine KWp.region ?_
        | refine KWp.cond ?_
        | refine KWp.block ?_
        | refine KWp.ret ?_
        | refine KWp.exit ?_
        | refine KWp.skip ?_
        | refine KWp.loop ?_
        | refine KWp.scope ?_
        | refine KWp.label ?_
        | (refine KIf.yes (by first | assumption | omega) ?_)
        | (refine KIf.no (by first | assumption | omega) ?_)
        | (refine Does.body (by kernel_rfl) (PDen.to (hc) ?_))
        | (refine PCall.to (by kernel_rfl) (hc) ?_)
        | (refine KB.yes (by assumption) ?_)
        | (refine KB.no (by assumption) ?_)
        | (refine KIf.split (fun _ => ?_) (fun _ => ?_))
        | (refine KB.split (fun _ => ?_) (fun _ => ?_))
        | (refine Exists.intro _ (And.intro (i64_in _ (by omega)) ?_))
        | (refine Exists.intro _ (And.intro (List.length_map ..) ?_))
        | (refine And.intro (by first | assumption | omega | rfl | decide) ?_)
        | (first | exact ⟨⟨_, rfl⟩⟩ | (exfalso; omega))
        | (refine Exists.intro _ (And.intro rfl ?_))
        | rfl)
end Go.Lv
