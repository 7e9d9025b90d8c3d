/- LvZ: code over data, as a text whose head can be worked out. -/
import Derived.Test.YtmpbkkfkkbdndabDoorNvY
namespace Go.Lv
open Go
set_option linter.unusedVariables false
set_option linter.unusedSimpArgs false

/-- A number, worked out. -/
def natK : Nat → (Nat → Prop) → Prop
  | 0, K => K 0
  | n + 1, K => natK n fun m => K (m + 1)
theorem natK_eq : ∀ (n : Nat) (K : Nat → Prop), natK n K = K n
  | 0, K => rfl
  | n + 1, K => natK_eq n _
/-- A datum, its head worked out. -/
def D.force (d : D) (K : D → Prop) : Prop :=
  match d with
  | .und => K .und
  | .bool b => K (.bool b)
  | .int k n => K (.int k n)
  | .str s => K (.str s)
  | .list t xs => K (.list t xs)
  | .at cs off => K (.at cs off)
  | .ptr i off n => natK i fun i => natK n fun n => K (.ptr i off n)
  | .nilp => K .nilp
  | .own i l n => natK i fun i => K (.own i l n)
  | .asl i o l n => natK i fun i => K (.asl i o l n)
  | .agg cs => K (.agg cs)
  | .tup cs => K (.tup cs)
  | .fn f a b => K (.fn f a b)
  | .nilf => K .nilf
  | .iface t d => K (.iface t d)
  | .nili => K .nili
  | .yld i => natK i fun i => K (.yld i)
  | .mp i => natK i fun i => K (.mp i)
  | .nilm => K .nilm
theorem force_eq (d : D) (K : D → Prop) : d.force K = K d := by cases d <;> simp [D.force, natK_eq]
def forceL : List D → (List D → Prop) → Prop
  | [], K => K []
  | d :: l, K => d.force fun d' => forceL l fun l' => K (d' :: l')
theorem forceL_eq : ∀ (l : List D) (K : List D → Prop), forceL l K = K l
  | [], K => rfl
  | d :: l, K => by simp only [forceL, force_eq, forceL_eq l]
/-- As 'force', aggregates to the bottom of their own cells. -/
def D.forceA (d : D) (K : D → Prop) : Prop :=
  match d with
  | .agg cs => forceL cs fun cs' => K (.agg cs')
  | .tup cs => forceL cs fun cs' => K (.tup cs')
  | d => d.force K
theorem forceA_eq (d : D) (K : D → Prop) : d.forceA K = K d := by cases d <;> simp [D.forceA, forceL_eq, force_eq]
def putK : List D → Nat → D → (List D → Prop) → Prop
  | [], _, _, K => K []
  | _ :: l, 0, d, K => K (d :: l)
  | a :: l, n + 1, d, K => putK l n d fun l' => K (a :: l')
theorem putK_eq : ∀ (l : List D) (n : Nat) (d : D) (K : List D → Prop), putK l n d K = K (put l n d)
  | [], _, _, K => rfl
  | _ :: l, 0, d, K => rfl
  | a :: l, n + 1, d, K => by simp only [putK, putK_eq l, put]
def putOK (ts : List D) (o : Option Nat) (d : D) (K : List D → Prop) : Prop :=
  match o with
  | some t => putK ts t d K
  | none => K ts
theorem putOK_eq (ts : List D) (o : Option Nat) (d : D) (K : List D → Prop) : putOK ts o d K = K (putO ts o d) := by cases o <;> simp [putOK, putO, putK_eq]
def Blk.force (b : Blk) (K : Blk → Prop) : Prop :=
  match b with
  | .var cs => forceL cs fun cs' => K (.var cs')
  | .row sz ag cs => K (.row sz ag cs)
  | .frz sz ag cs => K (.frz sz ag cs)
  | .iter s p => K (.iter s p)
  | .rng ts ps a b st => K (.rng ts ps a b st)
  | .map es => K (.map es)
  | .dead => K .dead
theorem Blk.force_eq (b : Blk) (K : Blk → Prop) : b.force K = K b := by cases b <;> simp [Blk.force, forceL_eq]
def forceH : Hp → (Hp → Prop) → Prop
  | [], K => K []
  | b :: H, K => b.force fun b' => forceH H fun H' => K (b' :: H')
theorem forceH_eq : ∀ (H : Hp) (K : Hp → Prop), forceH H K = K H
  | [], K => rfl
  | b :: H, K => by simp only [forceH, Blk.force_eq, forceH_eq H]

/- ### Operations -/
/-- A fork. -/
def KB (b : Bool) (A B : Prop) : Prop :=
  match b with
  | true => A
  | false => B
theorem KB.split {b : Bool} {A B : Prop} (h1 : b = true → A) (h2 : b = false → B) : KB b A B := by
  cases b
  · exact h2 rfl
  · exact h1 rfl
theorem KB.yes {b : Bool} {A B : Prop} (h : b = true) (a : A) : KB b A B := by subst h; exact a
theorem KB.no {b : Bool} {A B : Prop} (h : b = false) (a : B) : KB b A B := by subst h; exact a
theorem KB.ite {b : Bool} {A B : Prop} (h : KB b A B) : if b = true then A else B := by
  cases b
  · simpa [KB] using h
  · simpa [KB] using h
abbrev KIf (c : Prop) [Decidable c] (A B : Prop) : Prop := KB (decide c) A B
theorem KIf.yes {c A B : Prop} [Decidable c] (h : c) (a : A) : KB (decide c) A B := .yes (decide_eq_true h) a
theorem KIf.no {c A B : Prop} [Decidable c] (h : ¬ c) (b : B) : KB (decide c) A B := .no (decide_eq_false h) b
theorem KIf.split {c A B : Prop} [Decidable c] (h1 : c → A) (h2 : ¬ c → B) : KB (decide c) A B := by
  by_cases h : c
  · exact KIf.yes h (h1 h)
  · exact KIf.no h (h2 h)
theorem KIf.ite {c A B : Prop} [Decidable c] (h : KIf c A B) : if c then A else B := by
  have := KB.ite h
  simpa using this
def kIf (c : Prop) [Decidable c] (K : D → Prop) : Prop := KB (decide c) (K (.bool true)) (K (.bool false))
theorem kIf_eq (c : Prop) [Decidable c] {K : D → Prop} (h : kIf c K) : K (.bool (decide c)) := by
  have := KIf.ite h
  split at this <;> simp [*]
def kIfN (c : Prop) [Decidable c] (K : D → Prop) : Prop := KB (decide c) (K (.bool false)) (K (.bool true))
theorem kIfN_eq (c : Prop) [Decidable c] {K : D → Prop} (h : kIfN c K) : K (.bool (!decide c)) := by
  have := KIf.ite h
  split at this <;> simp [*]
theorem bd {α : Type} [BEq α] [LawfulBEq α] [DecidableEq α] (a b : α) : (a == b) = decide (a = b) := by
  by_cases h : a = b
  · subst h
    simp
  · rw [decide_eq_false h]
    exact beq_eq_false_iff_ne.2 h
/-- Are plain cells one? -/
def eqB : List D → List D → Option Bool
  | [], [] => some true
  | .int k a :: x, .int k' b :: y => if k = k' then (eqB x y).map fun r => decide (a = b) && r else none
  | .str a :: x, .str b :: y => (eqB x y).map fun r => decide (a = b) && r
  | .bool a :: x, .bool b :: y => (eqB x y).map fun r => decide (a = b) && r
  | _, _ => none
theorem eqB_ok : ∀ {x y : List D} {r : Bool}, eqB x y = some r → dEqL x y = some r := by
  intro x
  induction x with
  | nil => intro y r h; cases y <;> simp_all [eqB, dEqL]
  | cons a x ih =>
    intro y r h
    cases y with
    | nil => cases a <;> simp [eqB] at h
    | cons b y =>
      cases a <;> cases b <;> simp only [eqB] at h <;> first | (cases h; done) | skip
      · rename_i a b
        cases hr : eqB x y with
        | none => simp [hr] at h
        | some q =>
          simp only [hr, Option.map_some, Option.some.injEq] at h
          subst h
          have := ih hr
          simp only [dEqL, dEq, bd]; by_cases hab : a = b <;> simp_all
      · rename_i k a k' b
        split at h
        · rename_i hk
          cases hr : eqB x y with
          | none => simp [hr] at h
          | some q =>
            simp only [hr, Option.map_some, Option.some.injEq] at h
            subst h
            have := ih hr
            simp only [dEqL, dEq, bd, hk, if_true]; by_cases hab : a = b <;> simp_all
        · cases h
      · rename_i a b
        cases hr : eqB x y with
        | none => simp [hr] at h
        | some q =>
          simp only [hr, Option.map_some, Option.some.injEq] at h
          subst h
          have := ih hr
          simp only [dEqL, dEq, bd]; by_cases hab : a = b <;> simp_all
def kbin (P : Program) (op : BinOp) (t : TypeId) (x y : D) (K : D → Prop) : Prop :=
  match x, y with
  | .int k a, .int k' b => if k = k' then
      match op with
      | .eql => kIf (a = b) K
      | .neq => kIfN (a = b) K
      | .lss => kIf (a < b) K
      | .leq => kIf (a ≤ b) K
      | .gtr => kIf (b < a) K
      | .geq => kIf (b ≤ a) K
      | .add => ∃ m, k.wrap (a + b) = m ∧ K (.int k m)
      | .sub => ∃ m, k.wrap (a - b) = m ∧ K (.int k m)
      | .mul => ∃ m, k.wrap (a * b) = m ∧ K (.int k m)
      | .quo => b ≠ 0 ∧ ∃ m, k.wrap (a.tdiv b) = m ∧ K (.int k m)
      | .rem => b ≠ 0 ∧ K (.int k (a.tmod b))
      | op => match dBin op (.int k a) (.int k' b) with
        | some d => K d
        | none => False
    else match dBin op (.int k a) (.int k' b) with
      | some d => K d
      | none => False
  | .str a, .str b =>
    match op with
    | .eql => kIf (a = b) K
    | .neq => kIfN (a = b) K
    | .lss => kIf (Op.bytesLess a b = true) K
    | .geq => kIfN (Op.bytesLess a b = true) K
    | .leq => kIf (Op.bytesLess a b = true ∨ a = b) K
    | .gtr => kIfN (Op.bytesLess a b = true ∨ a = b) K
    | .add => a.length + b.length ≤ 2 ^ 62 ∧ K (.str (a ++ b))
    | _ => False
  | .agg xs, .agg ys => match kindsA P t with
    | some ks => okK ks xs = true ∧ okK ks ys = true ∧ match eqB xs ys with
      | some r => match op with
        | .eql => kIf (r = true) K
        | .neq => kIfN (r = true) K
        | _ => False
      | none => False
    | none => False
  | x, y => match dBinT P op t x y with
    | some d => K d
    | none => False
theorem kbin_ok {P : Program} {op : BinOp} {t : TypeId} {x y : D} {K : D → Prop} (h : kbin P op t x y K) : ∃ d, dBinT P op t x y = some d ∧ K d := by
  have dflt : ∀ {x y : D}, (match dBinT P op t x y with | some d => K d | none => False) → ∃ d, dBinT P op t x y = some d ∧ K d := by
    intro x y h
    split at h
    · exact ⟨_, by assumption, h⟩
    · exact h.elim
  unfold kbin at h
  split at h
  · rename_i k a k' b
    split at h
    · rename_i hk
      subst hk
      cases op <;> simp only [dBinT, dBin, if_true] at h ⊢ <;> first
        | (obtain ⟨m, rfl, h⟩ := h; exact ⟨_, rfl, h⟩)
        | (obtain ⟨hb, m, rfl, h⟩ := h; exact ⟨_, by rw [if_neg hb], h⟩)
        | (obtain ⟨hb, h⟩ := h; exact ⟨_, by rw [if_neg hb], h⟩)
        | (have h2 := kIf_eq _ h; exact ⟨_, rfl, by simpa [bd, bne] using h2⟩)
        | (have h2 := kIfN_eq _ h; exact ⟨_, rfl, by simpa [bd, bne] using h2⟩)
        | exact ⟨_, rfl, h⟩
        | (split at h
           · exact ⟨_, rfl, h⟩
           · exact h.elim)
        | (split at h
           · rename_i hd
             exact ⟨_, hd, h⟩
           · exact h.elim)
    · simp only [dBinT]
      split at h
      · rename_i hd
        exact ⟨_, hd, h⟩
      · exact h.elim
  · rename_i a b
    cases op <;> simp only [dBinT, dBin] at h ⊢ <;> first
      | exact h.elim
      | (obtain ⟨hl, h⟩ := h; exact ⟨_, by rw [if_pos hl], h⟩)
      | (have h2 := kIf_eq _ h; exact ⟨_, rfl, by simpa [bd, bne] using h2⟩)
      | (have h2 := kIfN_eq _ h; exact ⟨_, rfl, by simpa [bd, bne] using h2⟩)
  · rename_i xs ys
    split at h
    · rename_i ks hks
      obtain ⟨h1, h2, h3⟩ := h
      split at h3
      · rename_i r hr
        have := eqB_ok hr
        split at h3
        · have h4 := kIf_eq _ h3
          exact ⟨.bool r, by simp [dBinT, hks, h1, h2, this, dEqO], by simpa using h4⟩
        · have h4 := kIfN_eq _ h3
          exact ⟨.bool (!r), by simp [dBinT, hks, h1, h2, this, dEqO], by simpa using h4⟩
        · exact h3.elim
      · exact h3.elim
    · exact h.elim
  · exact dflt h

/-- An element's address. -/
def kidxA (t : Ty) (x i : D) (K : D → Prop) : Prop :=
  match t, x, i with
  | .slice _ sz _ _, .list _ xs, .int _ n => ∃ m : Nat, n = (m : Int) ∧ ∃ d, xs[m]? = some d ∧ d.cells.length = sz ∧ if 0 < sz then forceL d.cells fun cs => K (.at cs 0) else False
  | .slice _ sz _ _, .own b len N, .int _ n => (0 ≤ n ∧ n < len) ∧ if 0 < sz then K (.ptr b (n.toNat * sz) N) else False
  | .slice _ sz _ _, .asl b off len N, .int _ n => (0 ≤ n ∧ n < len) ∧ if 0 < sz then K (.ptr b (off + n.toNat * sz) N) else False
  | t, x, i => match dIdxA t x i with
    | some d => K d
    | none => False
theorem kidxA_ok {t : Ty} {x i : D} {K : D → Prop} (h : kidxA t x i K) : ∃ d, dIdxA t x i = some d ∧ K d := by
  unfold kidxA at h
  split at h
  · obtain ⟨m, rfl, d, hd, hs, h⟩ := h
    split at h
    · rename_i hp
      rw [forceL_eq] at h
      exact ⟨_, by simp only [dIdxA, Int.toNat_natCast, hd, hs, if_true, hp, Int.natCast_nonneg, and_self], h⟩
    · exact h.elim
  · obtain ⟨⟨h1, h2⟩, h⟩ := h
    split at h
    · rename_i hp
      exact ⟨_, by simp only [dIdxA, h1, h2, hp, and_self, if_true], h⟩
    · exact h.elim
  · obtain ⟨⟨h1, h2⟩, h⟩ := h
    split at h
    · rename_i hp
      exact ⟨_, by simp only [dIdxA, h1, h2, hp, and_self, if_true], h⟩
    · exact h.elim
  · split at h
    · exact ⟨_, by assumption, h⟩
    · exact h.elim
/-- A text's octet. -/
def kidx (t : Ty) (x i : D) (K : D → Prop) : Prop :=
  match t, x, i with
  | .str, .str s, .int _ n => ∃ m : Nat, n = (m : Int) ∧ ∃ b, s[m]? = some b ∧ K (.int .u8 b.toNat)
  | t, x, i => match dIdx t x i with
    | some d => K d
    | none => False
theorem kidx_ok {t : Ty} {x i : D} {K : D → Prop} (h : kidx t x i K) : ∃ d, dIdx t x i = some d ∧ K d := by
  unfold kidx at h
  split at h
  · obtain ⟨m, rfl, b, hb, h⟩ := h
    exact ⟨_, by simp only [dIdx, Int.natCast_nonneg, if_true, Int.toNat_natCast, hb], h⟩
  · split at h
    · exact ⟨_, by assumption, h⟩
    · exact h.elim
def klen (t : Ty) (x : D) (K : D → Prop) : Prop :=
  match t, x with
  | .slice .., .list _ xs => ∃ n : Nat, xs.length = n ∧ K (.int .i64 n)
  | t, x => match dLen t x with
    | some d => K d
    | none => False
theorem klen_ok {t : Ty} {x : D} {K : D → Prop} (h : klen t x K) : ∃ d, dLen t x = some d ∧ K d := by
  unfold klen at h
  split at h
  · obtain ⟨n, rfl, h⟩ := h
    exact ⟨_, rfl, h⟩
  · split at h
    · exact ⟨_, by assumption, h⟩
    · exact h.elim
/-- An operation that leaves the memory as it is: by what it tells; any other: by what it is. -/
def kop (P : Program) (op : Op) (α : Operand → D) (H : Hp) (R : D → Hp → Prop) : Prop :=
  match op with
  | .move x | .assign x => R (α x) H
  | .pick c a b => match α c with
    | .bool t => KB t (R (α a) H) (R (α b) H)
    | _ => False
  | .binOp op t x y _ => kbin P op t (α x) (α y) fun d => R d H
  | .indexAddr t x i => kidxA (ty P t) (α x) (α i) fun d => R d H
  | .index t x i => kidx (ty P t) (α x) (α i) fun d => R d H
  | .load t a => match dLoad (ty P t) (szOf P t) H (α a) with
    | some d => d.forceA fun d' => R d' H
    | none => False
  | .slice t x lo hi mx => ∃ d, dSlice (ty P t) (α x) (lo.map α) (hi.map α) (mx.map α) = some d ∧ R d H
  | .build t parts => match dBuild (ty P t) (szOf P t) (zcells P t) (parts.toList.map fun (x : Nat × Operand) => (x.1, α x.2)) with
    | some d => d.forceA fun d' => R d' H
    | none => False
  | .convert s d x => ∃ r, dConvH P s d H (α x) = some r ∧ R r H
  | .call { callee := .builtin .len, args, argTypes } => match args.toList, argTypes.toList with
    | [x], [t] => match ty P t with
      | .map .. => match dMlen H (α x) with
        | some d => R d H
        | none => False
      | _ => klen (ty P t) (α x) fun d => R d H
    | _, _ => False
  | .call { callee := .builtin .append, args, argTypes } => ∃ d H', aop P (.call { callee := .builtin .append, args, argTypes }) α H = some (d, H') ∧ R d H'
  | .call { callee := .builtin .max, args, argTypes } => match args.toList with
    | [x, y] => match α x, α y with
      | .int k a, .int k' b => if k = k' then KIf (a < b) (R (.int k b) H) (R (.int k a) H) else False
      | _, _ => False
    | [x, y, z] => match α x, α y, α z with
      | .int k a, .int k' b, .int k'' c => if k = k' ∧ k = k'' then KIf (a < b) (KIf (b < c) (R (.int k c) H) (R (.int k b) H)) (KIf (a < c) (R (.int k c) H) (R (.int k a) H)) else False
      | _, _, _ => False
    | _ => False
  | .call { callee := .builtin .min, args, argTypes } => match args.toList with
    | [x, y] => match α x, α y with
      | .int k a, .int k' b => if k = k' then KIf (b < a) (R (.int k b) H) (R (.int k a) H) else False
      | _, _ => False
    | _ => False
  | .next it true => match α it with
    | .ptr i 0 0 => match hget H i with
      | .iter s pos => KIf (pos < s.length) (forceH (hset H i (.iter s (pos + (Utf8.decode ⟨s.toArray⟩ pos).2))) fun H' => R (.tup [.bool true, .int .i64 pos, .int .i32 (Utf8.decode ⟨s.toArray⟩ pos).1]) H') (R (.tup [.bool false]) H)
      | _ => False
    | _ => False
  | op => match aop P op α H with
    | some (d, H') => forceH H' fun H' => R d H'
    | none => False
theorem kop_ok {P : Program} {op : Op} {α : Operand → D} {H : Hp} {R : D → Hp → Prop} (h : kop P op α H R) : ∃ d H', aop P op α H = some (d, H') ∧ R d H' := by
  unfold kop at h
  split at h
  · exact ⟨_, _, rfl, h⟩
  · exact ⟨_, _, rfl, h⟩
  · split at h
    · rename_i t ht
      simp only [aop, ht]
      have h := KB.ite h
      cases t
      · exact ⟨_, _, rfl, by simpa using h⟩
      · exact ⟨_, _, rfl, by simpa using h⟩
    · exact h.elim
  · obtain ⟨d, hd, hr⟩ := kbin_ok h
    exact ⟨d, H, by simp only [aop, hd, Option.map_some], hr⟩
  · obtain ⟨d, hd, hr⟩ := kidxA_ok h
    exact ⟨d, H, by simp only [aop, hd, Option.map_some], hr⟩
  · obtain ⟨d, hd, hr⟩ := kidx_ok h
    exact ⟨d, H, by simp only [aop, hd, Option.map_some], hr⟩
  · split at h
    · rename_i d hd
      rw [forceA_eq] at h
      exact ⟨d, H, by simp only [aop, hd, Option.map_some], h⟩
    · exact h.elim
  · obtain ⟨d, hd, hr⟩ := h
    exact ⟨d, H, by simp only [aop, hd, Option.map_some], hr⟩
  · split at h
    · rename_i d hd
      rw [forceA_eq] at h
      exact ⟨d, H, by simp only [aop, hd, Option.map_some], h⟩
    · exact h.elim
  · obtain ⟨d, hd, hr⟩ := h
    exact ⟨d, H, by simp only [aop, hd, Option.map_some], hr⟩
  · split at h
    · rename_i x t ha ht
      split at h
      · rename_i k e htt
        split at h
        · rename_i d hd
          exact ⟨d, H, by simp only [aop, ha, ht, htt, hd, Option.map_some], h⟩
        · exact h.elim
      · rename_i hn
        obtain ⟨d, hd, hr⟩ := klen_ok h
        refine ⟨d, H, ?_, hr⟩
        simp only [aop, ha, ht, hd, Option.map_some]
    · exact h.elim
  · exact h
  · split at h
    · rename_i x y ha
      split at h
      · rename_i k a k' b hx hy
        split at h
        · rename_i hk
          simp only [aop, ha, hx, hy, hk, if_true]
          refine ⟨_, _, rfl, ?_⟩
          have h := KIf.ite h
          split at h
          · rename_i hlt
            rw [if_pos hlt, ← hk]; exact h
          · rename_i hlt
            rw [if_neg hlt, ← hk]; exact h
        · exact h.elim
      · exact h.elim
    · rename_i x y z ha
      split at h
      · rename_i k a k' b k'' c hx hy hz
        split at h
        · rename_i hk
          obtain ⟨rfl, rfl⟩ := hk
          simp only [aop, ha, hx, hy, hz, and_self, if_true]
          refine ⟨_, _, rfl, ?_⟩
          have h := KIf.ite h
          split at h
          · rename_i hlt
            simp only [gt_iff_lt, if_pos hlt]
            have h := KIf.ite h
            split at h
            · rename_i hlt2
              rw [if_pos hlt2]; exact h
            · rename_i hlt2
              rw [if_neg hlt2]; exact h
          · rename_i hlt
            simp only [gt_iff_lt, if_neg hlt]
            have h := KIf.ite h
            split at h
            · rename_i hlt2
              rw [if_pos hlt2]; exact h
            · rename_i hlt2
              rw [if_neg hlt2]; exact h
        · exact h.elim
      · exact h.elim
    · exact h.elim
  · split at h
    · rename_i x y ha
      split at h
      · rename_i k a k' b hx hy
        split at h
        · rename_i hk
          simp only [aop, ha, hx, hy, hk, if_true]
          refine ⟨_, _, rfl, ?_⟩
          have h := KIf.ite h
          split at h
          · rename_i hlt
            rw [if_pos hlt, ← hk]; exact h
          · rename_i hlt
            rw [if_neg hlt, ← hk]; exact h
        · exact h.elim
      · exact h.elim
    · exact h.elim
  · split at h
    · rename_i i ha
      split at h
      · rename_i s pos hg
        have h := KIf.ite h
        simp only [aop, ha, hg]
        split at h
        · rename_i hlt
          rw [forceH_eq] at h
          exact ⟨_, _, if_pos hlt, h⟩
        · rename_i hlt
          exact ⟨_, _, if_neg hlt, h⟩
      · exact h.elim
    · exact h.elim
  · split at h
    · rename_i d H' hd
      rw [forceH_eq] at h
      exact ⟨d, H', hd, h⟩
    · exact h.elim

section
variable {P : Program} {E : Env}
/-- An operation behind which R holds. -/
def kStep (P : Program) (E : Env) (op : Op) (α : Operand → D) (H : Hp) (R : D → Hp → Prop) : Prop :=
  match callee P op α with
  | some (g, args) => Does P E g args H R
  | none => match yieldOf op α with
    | some (i, args) => YDoes P E i args H R
    | none => kop P op α H R
theorem kStep_ok {op : Op} {α : Operand → D} {H : Hp} {R : D → Hp → Prop} (h : kStep P E op α H R) : cStep P E op α H R := by
  unfold kStep at h
  unfold cStep
  split at h
  · rename_i hc
    simp only [hc]
    exact h
  · rename_i hc
    split at h
    · rename_i hy
      simp only [hc, hy]
      exact h
    · rename_i hy
      obtain ⟨d, H', ha, hr⟩ := kop_ok h
      simp only [hc, hy, ha]
      exact hr
def kPure (P : Program) (E : Env) (op : Op) (α : Operand → D) (H : Hp) (R : D → Prop) : Prop :=
  match callee P op α with
  | some (g, args) => PCall P E g args H R
  | none => if keeps op = true then kop P op α H fun d _ => R d
    else match aop P op α H with
      | some (d, H') => H' = H ∧ R d
      | none => False
theorem kPure_ok {op : Op} {α : Operand → D} {H : Hp} {R : D → Prop} (h : kPure P E op α H R) : cPure P E op α H R := by
  rw [cPure_call]
  unfold kPure at h
  split at h
  · rename_i hc
    simp only [hc]
    exact h
  · rename_i hc
    simp only [hc]
    split at h
    · rename_i hk
      obtain ⟨d, H', ha, hr⟩ := kop_ok h
      simp only [hk, if_true, ha]
      exact hr
    · rename_i hk
      rw [if_neg hk]
      exact h
/-- Is an operation wanted? -/
def kwant (ops : Array Oper) (ts : List D) (o : Oper) (yes no : Prop) : Prop :=
  match o.guard with
  | none => yes
  | some (j, want) => match (ops[j]?).bind (·.dst) with
    | some t => match nth ts t with
      | .bool b => match want with
        | true => KB b yes no
        | false => KB b no yes
      | .tup [] => no
      | _ => False
    | none => False
theorem kwant_ok {ops : Array Oper} {ts : List D} {o : Oper} {yes no : Prop} (h : kwant ops ts o yes no) : match wantD ops ts o with
    | some b => if b = true then yes else no
    | none => False := by
  unfold kwant at h
  unfold wantD
  split at h
  · rename_i hg
    simp only [hg]
    exact h
  · rename_i j want hg
    simp only [hg]
    split at h
    · rename_i t ht
      simp only [ht]
      split at h
      · rename_i b hb
        simp only [hb]
        cases want <;> (have h := KB.ite h; cases b <;> simpa using h)
      · rename_i hb
        simp only [hb]
        exact h
      · exact h.elim
    · exact h.elim
theorem Does.mono {g : FuncId} {args : List D} {H : Hp} {R R' : D → Hp → Prop} (h : Does P E g args H R) (hr : ∀ d H', R d H' → R' d H') : Does P E g args H R' := by
  cases h with
  | body hb hf => exact .body hb (hf.mono hr)
  | ext x d hx hd hh => exact .ext x d hx hd (hr _ _ hh)
theorem roundP_mono {i : Nat} {R R' : D → Hp → Prop} (hr : ∀ d H', R d H' → R' d H') {e : Exit} {ts : List D} {H : Hp} (h : roundP i R e ts H) : roundP i R' e ts H := by
  cases e <;> simp only [roundP] at h ⊢ <;> first
    | exact h
    | (split at h
       · rename_i hg
         try simp only [hg]
         exact hr _ _ h
       · exact h.elim)
theorem YDoes.mono {i : Nat} {args : List D} {H : Hp} {R R' : D → Hp → Prop} (h : YDoes P E i args H R) (hr : ∀ d H', R d H' → R' d H') : YDoes P E i args H R' := by
  obtain ⟨ts, ps, a, b, h1, h2, h3⟩ := h.go
  refine ⟨ts, ps, a, b, h1, h2, awp_mono a (fun e ts H he => ?_) _ _ h3⟩
  cases e <;> simp only [assignP] at he ⊢ <;> first
    | exact he
    | (split at he
       · rename_i hg
         try simp only [hg]
         exact awp_mono b (fun e ts H hh => roundP_mono hr hh) _ _ he
       · exact he.elim)
theorem cStep_mono {op : Op} {α : Operand → D} {H : Hp} {R R' : D → Hp → Prop} (h : cStep P E op α H R) (hr : ∀ d H', R d H' → R' d H') : cStep P E op α H R' := by
  unfold cStep at *
  split at h
  · rename_i hc
    try simp only [hc]
    exact h.mono hr
  · rename_i hc
    try simp only [hc]
    split at h
    · rename_i hy
      try simp only [hy]
      exact h.mono hr
    · rename_i hy
      try simp only [hy]
      split at h
      · rename_i ha
        try simp only [ha]
        exact hr _ _ h
      · exact h.elim
/-- Operations, one behind the other. -/
structure KSeq (P : Program) (E : Env) (ops : Array Oper) (l : List Oper) (ts : List D) (H : Hp) (K : List D → Hp → Prop) : Prop where
  go : cseq P E ops l ts H K
theorem KSeq.nil {ops : Array Oper} {ts : List D} {H : Hp} {K : List D → Hp → Prop} (h : K ts H) : KSeq P E ops [] ts H K := ⟨h⟩
theorem KSeq.cons {ops : Array Oper} {o : Oper} {rest : List Oper} {ts : List D} {H : Hp} {K : List D → Hp → Prop}
    (h : kwant ops ts o (kStep P E o.op (ev E.g ts) H fun d H' => d.force fun d => putOK ts o.dst d fun ts' => KSeq P E ops rest ts' H' K) (putOK ts o.dst (.tup []) fun ts' => KSeq P E ops rest ts' H K)) : KSeq P E ops (o :: rest) ts H K := by
  refine ⟨?_⟩
  have h := kwant_ok h
  simp only [cseq]
  split at h
  · rename_i b hw
    simp only [putOK_eq, force_eq] at h
    split at h
    · rename_i hb
      simp only [hw, hb, if_true]
      exact cStep_mono (kStep_ok h) fun d H' hh => hh.go
    · rename_i hb
      simp only [hw]
      rw [if_neg hb]
      exact h.go
  · exact h.elim
def kAny (P : Program) (E : Env) (ops : Array Oper) (k : Nat) (op : Op) (dst : Option Nat) (α : Operand → D) (H : Hp) (pd : Pend) (K : D → Pend → Prop) : Prop :=
  match op with
  | .alloc ty' => match dst with
    | some t => if soleAt ops k t = true ∧ 0 < (zcells P ty').length then K .und (pd ++ [(k, t, zcells P ty')]) else False
    | none => False
  | op => kPure P E op α H fun d => K d pd
theorem cPure_mono {op : Op} {α : Operand → D} {H : Hp} {R R' : D → Prop} (h : cPure P E op α H R) (hr : ∀ d, R d → R' d) : cPure P E op α H R' := by
  unfold cPure at *
  split at h
  · rename_i hc
    obtain ⟨r, h1, h2⟩ := h
    try simp only [hc]
    exact ⟨r, h1, hr _ h2⟩
  · rename_i hc
    try simp only [hc]
    split at h
    · rename_i hk
      simp only [hk, if_true]
      split at h
      · rename_i ha
        try simp only [ha]
        exact hr _ h
      · exact h.elim
    · rename_i hk
      rw [if_neg hk]
      split at h
      · rename_i ha
        try simp only [ha]
        exact ⟨h.1, hr _ h.2⟩
      · exact h.elim
theorem kAny_ok {ops : Array Oper} {k : Nat} {op : Op} {dst : Option Nat} {α : Operand → D} {H : Hp} {pd : Pend} {K K' : D → Pend → Prop} (h : kAny P E ops k op dst α H pd K) (hk : ∀ d p, K d p → K' d p) : cAny P E ops k op dst α H pd K' := by
  have dflt : ∀ {op : Op}, (∀ t, op ≠ .alloc t) → kPure P E op α H (fun d => K d pd) → cAny P E ops k op dst α H pd K' := by
    intro op hne hh
    have := cPure_mono (kPure_ok hh) fun d hd => hk d pd hd
    cases op <;> first
      | exact (hne _ rfl).elim
      | exact this
  cases op <;> first
    | exact dflt (fun t ht => by cases ht) h
    | skip
  simp only [kAny] at h
  simp only [cAny]
  split at h
  · split at h
    · rename_i hc
      exact ⟨hc.1, hc.2, hk _ _ h⟩
    · exact h.elim
  · exact h.elim
/-- Operations of a region that draws. -/
structure KAq (P : Program) (E : Env) (ops : Array Oper) (m k : Nat) (l : List Oper) (ts : List D) (H : Hp) (pd : Pend) (K : List D → Hp → Prop) : Prop where
  go : caq P E ops m k l ts H pd K
theorem KAq.zero {ops : Array Oper} {k : Nat} {l : List Oper} {ts : List D} {H : Hp} {pd : Pend} {K : List D → Hp → Prop} (h : forceL (fillT ts H.length pd) fun ts' => forceH (H ++ fillH pd) fun H' => KSeq P E ops l ts' H' K) : KAq P E ops 0 k l ts H pd K := by
  rw [forceL_eq, forceH_eq] at h
  exact ⟨by rw [caq_zero]; exact h.go⟩
theorem KAq.nil {ops : Array Oper} {m k : Nat} {ts : List D} {H : Hp} {pd : Pend} {K : List D → Hp → Prop} (h : forceL (fillT ts H.length pd) fun ts' => forceH (H ++ fillH pd) fun H' => K ts' H') : KAq P E ops m k [] ts H pd K := by
  rw [forceL_eq, forceH_eq] at h
  exact ⟨by cases m <;> exact h⟩
theorem KAq.cons {ops : Array Oper} {m k : Nat} {o : Oper} {rest : List Oper} {ts : List D} {H : Hp} {pd : Pend} {K : List D → Hp → Prop}
    (h : kwant ops ts o (kAny P E ops k o.op o.dst (ev E.g ts) H pd fun d pd' => d.force fun d => putOK ts o.dst d fun ts' => KAq P E ops m (k + 1) rest ts' H pd' K) (putOK ts o.dst (.tup []) fun ts' => KAq P E ops m (k + 1) rest ts' H pd K)) : KAq P E ops (m + 1) k (o :: rest) ts H pd K := by
  refine ⟨?_⟩
  have h := kwant_ok h
  simp only [caq]
  split at h
  · rename_i b hw
    simp only [putOK_eq, force_eq] at h
    simp only [hw]
    split at h
    · rename_i hb
      simp only [hb, if_true]
      exact kAny_ok h fun d p hh => hh.go
    · rename_i hb
      rw [if_neg hb]
      exact h.go
  · exact h.elim
/-- Code. -/
structure KWp (P : Program) (E : Env) (cx : Cx) (c : Code) (Q : Post) (ts : List D) (H : Hp) : Prop where
  go : P.follows .mixedOrders = true → awp P E cx c Q ts H
section
variable {cx : Cx} {Q : Post} {ts : List D} {H : Hp}
theorem KWp.skip (h : Q .normal ts H) : KWp P E cx .skip Q ts H := ⟨fun _ => h⟩
theorem KWp.label {l : Nat} (h : Q .normal ts H) : KWp P E cx (.label l) Q ts H := ⟨fun _ => h⟩
theorem KWp.exit {i : Nat} (h : Q (.exit i) ts H) : KWp P E cx (.exit i) Q ts H := ⟨fun _ => h⟩
theorem KWp.ret (h : Q .ret ts H) : KWp P E cx .ret Q ts H := ⟨fun _ => h⟩
theorem KWp.region {id : Nat} {ops : Array Oper} (h : KSeq P E ops ops.toList ts H (Q .normal)) : KWp P E cx (.region id ops false) Q ts H := ⟨fun hm => cseq_sound hm _ _ _ h.go⟩
theorem KWp.drawn {id : Nat} {ops : Array Oper} (m : Nat) (hr : regOk ops m = true) (h : KAq P E ops m 0 ops.toList ts H [] (Q .normal)) : KWp P E cx (.region id ops true) Q ts H := ⟨fun hm => ⟨m, hr, caq_sound hm _ _ _ _ _ _ h.go⟩⟩
theorem KWp.seq {a b : Code} (h : KWp P E cx a (Post.then (fun ts H => KWp P E cx b Q ts H) Q) ts H) : KWp P E cx (.seq a b) Q ts H := ⟨fun hm => awp_mono a (fun e ts H he => by
  cases e <;> first | exact he.go hm | exact he) ts H (h.go hm)⟩
theorem KWp.cond {c : Operand} {x y : Code} (h : match ev E.g ts c with
    | .bool b => KB b (KWp P E cx x Q ts H) (KWp P E cx y Q ts H)
    | _ => False) : KWp P E cx (.cond c x y) Q ts H := ⟨fun hm => by
  split at h
  · rename_i b hb
    refine ⟨b, hb, ?_⟩
    have h := KB.ite h
    cases b
    · exact KWp.go (by simpa using h) hm
    · exact KWp.go (by simpa using h) hm
  · exact h.elim⟩
theorem KWp.block {id : Nat} {c : Code} (h : KWp P E cx c (Post.block id Q) ts H) : KWp P E cx (.block id c) Q ts H := ⟨fun hm => h.go hm⟩
theorem KWp.scope {c : Code} (h : KWp P E cx c (Post.scope Q) ts H) : KWp P E cx (.scope c) Q ts H := ⟨fun hm => h.go hm⟩
/-- A loop. -/
structure KLoop (P : Program) (E : Env) (cx : Cx) (c : Code) (Q : Post) (ts : List D) (H : Hp) : Prop where
  go : P.follows .mixedOrders = true → ∃ n, loopN cx.m0 (awp P E cx c) Q n ts H
theorem KWp.loop {c : Code} (h : KLoop P E cx c Q ts H) : KWp P E cx (.loop c) Q ts H := ⟨fun hm => h.go hm⟩
structure KRange (P : Program) (E : Env) (cx : Cx) (g : Operand) (ps : Array Nat) (asg body : Code) (Q : Post) (ts : List D) (H : Hp) : Prop where
  go : RngOk P E cx.rd g ps.toList asg body Q ts H
theorem KWp.range {g : Operand} {ps : Array Nat} {asg body : Code} (h : KRange P E cx g ps asg body Q ts H) : KWp P E cx (.rangeFunc g ps asg body) Q ts H := ⟨fun _ => h.go⟩
end
/-- The end of a body. -/
def FinK (P : Program) (rs : List ResultVar) (R : D → Hp → Prop) : Post
  | .normal, ts, H | .ret, ts, H => match resD P ts H rs with
    | some d => d.forceA fun d => R d H
    | none => False
  | _, _, _ => False
theorem finK_ok {rs : List ResultVar} {R : D → Hp → Prop} {e : Exit} {ts : List D} {H : Hp} (h : FinK P rs R e ts H) : FinF P rs R e ts H := by
  cases e <;> simp only [FinK, FinF] at h ⊢ <;> first
    | exact h
    | (split at h
       · rename_i d hd
         rw [forceA_eq] at h
         exact ⟨d, hd, h⟩
       · exact h.elim)
/-- A contract out of the body, on the memory of the caller. -/
theorem kfun {f : FuncId} {fn : Func} {c : Code} {args : List D} {H : Hp} {R : D → Hp → Prop} (hm : P.follows .mixedOrders = true) (hf : P.funcs[f]? = some fn) (hc : fn.body = some c)
    (h : forceL (args ++ undL (fn.ntmps - args.length)) fun ts => KWp P E ⟨none, H.length⟩ c (FinK P fn.results.toList R) ts H) : Fun P E f args H R := fun_of hm hf hc (awp_mono c (fun e ts H he => finK_ok he) _ _ (by rw [forceL_eq] at h; exact h.go hm))
/-- A contract of closed data, out of the body. -/
theorem kden {f : FuncId} {fn : Func} {c : Code} {args : List D} {r : D} (hm : P.follows .mixedOrders = true) (hf : P.funcs[f]? = some fn) (hc : fn.body = some c) (ha : D.closedL args = true) (hr : r.closed = true)
    (h : forceL (args ++ undL (fn.ntmps - args.length)) fun ts => KWp P E ⟨none, 0⟩ c (FinK P fn.results.toList fun d H => Reif H d r) ts []) : PDen P E f args r := by
  rw [forceL_eq] at h
  refine pden_of hm hf hc ha hr (awp_mono c (fun e ts H he => ?_) _ _ (h.go hm))
  have he := finK_ok he
  cases e <;> simp only [FinF, Fin] at he ⊢ <;> first
    | exact he
    | (obtain ⟨d, hd, ⟨H', hH⟩⟩ := he; exact ⟨d, hd, r, H', hH, rfl⟩)
/-- A loop, by what holds ahead of each round, behind what is forgotten: the number falls. -/
theorem kloop {cx : Cx} {c : Code} {Q : Post} (I : Nat → List D → Hp → Prop) (step : ∀ m ts H, I m ts H → KWp P E cx c (Post.then (fun ts' H' => ∃ m', m' < m ∧ ∃ ts2 H2, Norm cx.m0 ts' H' ts2 H2 ∧ I m' ts2 H2) Q) ts H) {ts ts2 : List D} {H H2 : Hp} (m : Nat) (hn : Norm cx.m0 ts H ts2 H2) (hI : I m ts2 H2) : KLoop P E cx c Q ts H := by
  refine ⟨fun hm => ⟨m + 1, ?_⟩⟩
  induction m using Nat.strongRecOn generalizing ts H ts2 H2 with
  | _ m ih =>
    refine ⟨ts2, H2, hn, awp_mono c (fun e ts H he => ?_) ts2 H2 ((step m ts2 H2 hI).go hm)⟩
    cases e <;> first
      | (obtain ⟨m', hlt, ts3, H3, hn', hI'⟩ := he
         exact loopN_le (by omega) (ih m' hlt hn' hI'))
      | exact he
end
end Go.Lv

namespace Go.Lv
open Go
set_option linter.unusedVariables false
set_option linter.unusedSimpArgs false

/-- A frame of which some data are kept. -/
def liveG (live : List Nat) : Nat → List D → List D
  | _, [] => []
  | k, d :: l => (if live.contains k then d else .und) :: liveG live (k + 1) l
def liveT (live : List Nat) (ts : List D) : List D := liveG live 0 ts
theorem liveG_len (live : List Nat) : ∀ (k : Nat) (ts : List D), (liveG live k ts).length = ts.length
  | k, [] => rfl
  | k, d :: l => by simp [liveG, liveG_len live (k + 1) l]
theorem liveG_nth (live : List Nat) : ∀ (k : Nat) (ts : List D) (t : Nat), nth (liveG live k ts) t = nth ts t ∨ nth (liveG live k ts) t = .und
  | k, [], t => .inl rfl
  | k, d :: l, 0 => by
    simp only [liveG, nth]
    split
    · exact .inl rfl
    · exact .inr rfl
  | k, d :: l, t + 1 => by simpa [liveG, nth] using liveG_nth live (k + 1) l t
theorem norm_to {m0 : Nat} {ts ts' : List D} {H H' : Hp} (live : List Nat) (m : Nat) (h0 : m0 ≤ m) (e1 : liveT live ts = ts') (e2 : H.take m = H') (u1 : D.underL m ts' = true) (u2 : underH m H' = true) : Norm m0 ts H ts' H' := by
  subst e1 e2
  exact ⟨liveG_len live 0 ts, liveG_nth live 0 ts, .inr ⟨m, h0, rfl, u1, u2⟩⟩
theorem norm_ts {m0 : Nat} {ts ts' : List D} {H H' : Hp} (live : List Nat) (e1 : liveT live ts = ts') (e2 : H = H') : Norm m0 ts H ts' H' := by
  subst e1 e2
  exact ⟨liveG_len live 0 ts, liveG_nth live 0 ts, .inl rfl⟩
def putAll : List D → List (Nat × D) → List D
  | ts, [] => ts
  | ts, x :: l => putAll (put ts x.1 x.2) l
def setAll : Hp → List (Nat × Blk) → Hp
  | H, [] => H
  | H, x :: l => setAll (hset H x.1 x.2) l
section
variable {P : Program} {E : Env}
theorem Fun.at {f : FuncId} {args : List D} {H : Hp} {r : D} {R : D → Hp → Prop} (h : Fun P E f args H fun d H' => d = r ∧ H' = H) (hr : R r H) : Fun P E f args H R := h.mono fun d H' hh => by obtain ⟨rfl, rfl⟩ := hh; exact hr
theorem reif_to {H : Hp} {d r r' : D} (h : ∃ H', reify 6 H d = some (r', H')) (e : r' = r) : Reif H d r := by subst e; exact ⟨h⟩
/-- A loop, round by round. -/
structure KLoopM (P : Program) (E : Env) (cx : Cx) (c : Code) (Q : Post) (n : Nat) (ts : List D) (H : Hp) : Prop where
  go : P.follows .mixedOrders = true → loopN cx.m0 (awp P E cx c) Q n ts H
theorem kloopM_step {cx : Cx} {c : Code} {Q : Post} {n : Nat} {ts : List D} {H : Hp} (h : KWp P E cx c (Post.then (KLoopM P E cx c Q n) Q) ts H) : KLoopM P E cx c Q (n + 1) ts H :=
  ⟨fun hm => ⟨ts, H, .refl _ _ _, awp_mono c (fun e ts H he => by cases e <;> first | exact he.go hm | exact he) ts H (h.go hm)⟩⟩
theorem kloopM_start {cx : Cx} {c : Code} {Q : Post} (n : Nat) {ts : List D} {H : Hp} (h : KLoopM P E cx c Q n ts H) : KLoop P E cx c Q ts H := ⟨fun hm => ⟨n, h.go hm⟩⟩
theorem KWp.mono {cx : Cx} {c : Code} {Q Q' : Post} {ts : List D} {H : Hp} (h : KWp P E cx c Q ts H) (hq : ∀ e ts H, Q e ts H → Q' e ts H) : KWp P E cx c Q' ts H := ⟨fun hm => awp_mono c hq _ _ (h.go hm)⟩
/-- Behind a round: a state that is less. -/
structure Less {ι : Type} (m0 : Nat) (S : ι → List D) (T : ι → Hp) (μ : ι → Nat) (good : ι → Prop) (n : Nat) (ts' : List D) (H' : Hp) : Prop where
  go : ∃ m', m' < n ∧ ∃ ts2 H2, Norm m0 ts' H' ts2 H2 ∧ ∃ x, m' = μ x ∧ good x ∧ ts2 = S x ∧ H2 = T x
theorem less {ι : Type} {m0 : Nat} {S : ι → List D} {T : ι → Hp} {μ : ι → Nat} {good : ι → Prop} {n : Nat} {ts' : List D} {H' : Hp} (x : ι) (h1 : μ x < n) (h2 : good x) (h3 : Norm m0 ts' H' (S x) (T x)) : Less m0 S T μ good n ts' H' := ⟨_, h1, _, _, h3, x, rfl, h2, rfl, rfl⟩
/-- A loop: which data are kept; how many blocks are; what turns, by the state x: in the frame, in memory. -/
theorem kloop_at {ι : Type} {cx : Cx} {c : Code} {Q : Post} {ts0 : List D} {H0 : Hp} (live : List Nat) (m : Nat) (upd : ι → List (Nat × D)) (updH : ι → List (Nat × Blk)) (μ : ι → Nat) (good : ι → Prop) (x0 : ι)
    (hn : Norm cx.m0 ts0 H0 (putAll (liveT live ts0) (upd x0)) (setAll (H0.take m) (updH x0))) (hg : good x0)
    (step : ∀ x, good x → forceL (putAll (liveT live ts0) (upd x)) fun ts => forceH (setAll (H0.take m) (updH x)) fun H =>
      KWp P E cx c (Post.then (Less cx.m0 (fun x => putAll (liveT live ts0) (upd x)) (fun x => setAll (H0.take m) (updH x)) μ good (μ x)) Q) ts H) : KLoop P E cx c Q ts0 H0 := by
  refine kloop (fun n ts H => ∃ x, n = μ x ∧ good x ∧ ts = putAll (liveT live ts0) (upd x) ∧ H = setAll (H0.take m) (updH x)) (fun n ts H => ?_) (μ x0) hn ⟨x0, rfl, hg, rfl, rfl⟩
  rintro ⟨x, rfl, hgx, rfl, rfl⟩
  have hs := step x hgx
  rw [forceL_eq, forceH_eq] at hs
  exact hs.mono fun e ts H he => by cases e <;> first | exact he.go | exact he
/-- One that leaves the memory as it is. -/
theorem kloop_h {ι : Type} {cx : Cx} {c : Code} {Q : Post} {ts0 : List D} {H0 : Hp} (live : List Nat) (upd : ι → List (Nat × D)) (μ : ι → Nat) (good : ι → Prop) (x0 : ι)
    (hn : Norm cx.m0 ts0 H0 (putAll (liveT live ts0) (upd x0)) H0) (hg : good x0)
    (step : ∀ x, good x → forceL (putAll (liveT live ts0) (upd x)) fun ts =>
      KWp P E cx c (Post.then (Less cx.m0 (fun x => putAll (liveT live ts0) (upd x)) (fun _ => H0) μ good (μ x)) Q) ts H0) : KLoop P E cx c Q ts0 H0 := by
  refine kloop (fun n ts H => ∃ x, n = μ x ∧ good x ∧ ts = putAll (liveT live ts0) (upd x) ∧ H = H0) (fun n ts H => ?_) (μ x0) hn ⟨x0, rfl, hg, rfl, rfl⟩
  rintro ⟨x, rfl, hgx, rfl, rfl⟩
  have hs := step x hgx
  rw [forceL_eq] at hs
  exact hs.mono fun e ts H he => by cases e <;> first | exact he.go | exact he
end
section
variable {P : Program} {E : Env}
/-- A library function of closed data, by the shelf's word that what was there is as it was. -/
theorem pden_below {f : FuncId} {args : List D} {r : D} (ha : D.closedL args = true) (hr : r.closed = true)
    (hc : ∀ (h : Gh) (w : World) (vs : Array Value), GLe E.h0 h → GLe h (fun b => w.heap[b]?) → vs.size = args.length → AllRel h (fun _ _ => none) args vs → Calls P f vs w fun e w' => ∃ v, e = .returned v ∧ RowKit.Below w.heap.size w w' ∧ RelV h (fun _ _ => none) r v) : PDen P E f args r := by
  refine ⟨ha, hr, fun h ρ w vs M hb hS hsz hrel => ?_⟩
  refine (hc h w vs hb hS.imm hsz (fun j d hj => by
    obtain ⟨v, h1, h2⟩ := hrel j d hj
    exact ⟨v, h1, h2.closed (closedL_get ha hj)⟩)).mono fun e w' hh => ?_
  obtain ⟨v, rfl, hB, rv⟩ := hh
  refine ⟨v, r, [], h, ρ, rfl, rfl, .refl _, .refl _, ?_, rv.mono (.refl _) (fun i n x e => by cases e)⟩
  exact {
    os := hB.os.trans hS.os
    tape := hB.tape.trans hS.tape
    output := hB.output.trans hS.output
    size := Nat.le_trans hS.size hB.size
    imm := fun b o hb => by
      show w'.heap[b]? = some o
      rw [hB.block b (hS.lt hb)]
      exact hS.imm b o hb
    blk := fun i => by simp [hget, RelB]
    own := fun i b x hl => by simp [hget, Blk.live] at hl
    inj := fun i j b x y _ hl => by simp [hget, Blk.live] at hl
    dom := hS.dom
    ver := fun i sz ag ds hd => by simp [hget] at hd
    keep := hS.keep
    frame := fun b hb hm => by rw [hB.block b hb] }
theorem take_app {α : Type} (l m : List α) : (l ++ m).take l.length = l := by simp
/-- A contract out of the body, of a function that leaves the caller's memory as it was. -/
theorem kkeep {f : FuncId} {fn : Func} {c : Code} {args : List D} {H : Hp} {r : D} (hm : P.follows .mixedOrders = true) (hf : P.funcs[f]? = some fn) (hc : fn.body = some c) (hr : r.under H.length = true)
    (h : forceL (args ++ undL (fn.ntmps - args.length)) fun ts => KWp P E ⟨none, H.length⟩ c (FinK P fn.results.toList fun d H' => d = r ∧ H'.take H.length = H) ts H) : Fun P E f args H fun d H' => d = r ∧ H' = H := (kfun hm hf hc h).keep hr
end
end Go.Lv
