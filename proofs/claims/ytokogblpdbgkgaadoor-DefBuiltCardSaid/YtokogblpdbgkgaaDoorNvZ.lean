/- LvZ: code over data, as a text whose head can be worked out. -/
import Derived.Test.YtokogblpdbgkgaaDoorNvY
namespace Go.Lv
open Go
set_option linter.unusedVariables false
set_option linter.unusedSimpArgs false

/-- A number, worked out. -/
def natK : Nat → (Nat → Prop) → Prop
  | 0, K => K 0
  | n + 1, K => natK n fun m => K (m + 1)
theorem natK_eq : ∀ (n : Nat) (K : Nat → Prop), natK n K = K n
  | 0, K => rfl
  | n + 1, K => natK_eq n _
/-- A datum, its head worked out. -/
def D.force (d : D) (K : D → Prop) : Prop :=
  match d with
  | .und => K .und
  | .bool b => K (.bool b)
  | .int k n => K (.int k n)
  | .str s => K (.str s)
  | .list t xs => K (.list t xs)
  | .at cs off => K (.at cs off)
  | .ptr i off n => natK i fun i => natK n fun n => K (.ptr i off n)
  | .nilp => K .nilp
  | .own i l n => natK i fun i => K (.own i l n)
  | .asl i o l n => natK i fun i => K (.asl i o l n)
  | .agg cs => K (.agg cs)
  | .tup cs => K (.tup cs)
  | .fn f a b => K (.fn f a b)
  | .nilf => K .nilf
  | .iface t d => K (.iface t d)
  | .nili => K .nili
  | .yld i => natK i fun i => K (.yld i)
  | .mp i => natK i fun i => K (.mp i)
  | .nilm => K .nilm
theorem force_eq (d : D) (K : D → Prop) : d.force K = K d := by cases d <;> simp [D.force, natK_eq]
def forceL : List D → (List D → Prop) → Prop
  | [], K => K []
  | d :: l, K => d.force fun d' => forceL l fun l' => K (d' :: l')
theorem forceL_eq : ∀ (l : List D) (K : List D → Prop), forceL l K = K l
  | [], K => rfl
  | d :: l, K => by simp only [forceL, force_eq, forceL_eq l]
/-- As 'force', aggregates to the bottom of their own cells. -/
def D.forceA (d : D) (K : D → Prop) : Prop :=
  match d with
  | .agg cs => forceL cs fun cs' => K (.agg cs')
  | .tup cs => forceL cs fun cs' => K (.tup cs')
  | d => d.force K
theorem forceA_eq (d : D) (K : D → Prop) : d.forceA K = K d := by cases d <;> simp [D.forceA, forceL_eq, force_eq]
def putK : List D → Nat → D → (List D → Prop) → Prop
  | [], _, _, K => K []
  | _ :: l, 0, d, K => K (d :: l)
  | a :: l, n + 1, d, K => putK l n d fun l' => K (a :: l')
theorem putK_eq : ∀ (l : List D) (n : Nat) (d : D) (K : List D → Prop), putK l n d K = K (put l n d)
  | [], _, _, K => rfl
  | _ :: l, 0, d, K => rfl
  | a :: l, n + 1, d, K => by simp only [putK, putK_eq l, put]
def putOK (ts : List D) (o : Option Nat) (d : D) (K : List D → Prop) : Prop :=
  match o with
  | some t => putK ts t d K
  | none => K ts
theorem putOK_eq (ts : List D) (o : Option Nat) (d : D) (K : List D → Prop) : putOK ts o d K = K (putO ts o d) := by cases o <;> simp [putOK, putO, putK_eq]
def Blk.force (b : Blk) (K : Blk → Prop) : Prop :=
  match b with
  | .var cs => forceL cs fun cs' => K (.var cs')
  | .row sz ag cs => K (.row sz ag cs)
  | .frz sz ag cs => K (.frz sz ag cs)
  | .iter s p => K (.iter s p)
  | .rng ts ps a b st => K (.rng ts ps a b st)
  | .map es => K (.map es)
  | .dead => K .dead
theorem Blk.force_eq (b : Blk) (K : Blk → Prop) : b.force K = K b := by cases b <;> simp [Blk.force, forceL_eq]
def forceH : Hp → (Hp → Prop) → Prop
  | [], K => K []
  | b :: H, K => b.force fun b' => forceH H fun H' => K (b' :: H')
theorem forceH_eq : ∀ (H : Hp) (K : Hp → Prop), forceH H K = K H
  | [], K => rfl
  | b :: H, K => by simp only [forceH, Blk.force_eq, forceH_eq H]

/- ### Operations -/
/-- A fork. -/
def KB (b : Bool) (A B : Prop) : Prop :=
  match b with
  | true => A
  | false => B
theorem KB.split {b : Bool} {A B : Prop} (h1 : b = true → A) (h2 : b = false → B) : KB b A B := by
  cases b
  · exact h2 rfl
  · exact h1 rfl
theorem KB.yes {b : Bool} {A B : Prop} (h : b = true) (a : A) : KB b A B := by subst h; exact a
theorem KB.no {b : Bool} {A B : Prop} (h : b = false) (a : B) : KB b A B := by subst h; exact a
theorem KB.ite {b : Bool} {A B : Prop} (h : KB b A B) : if b = true then A else B := by
  cases b
  · simpa [KB] using h
  · simpa [KB] using h
abbrev KIf (c : Prop) [Decidable c] (A B : Prop) : Prop := KB (decide c) A B
theorem KIf.yes {c A B : Prop} [Decidable c] (h : c) (a : A) : KB (decide c) A B := .yes (decide_eq_true h) a
theorem KIf.no {c A B : Prop} [Decidable c] (h : ¬ c) (b : B) : KB (decide c) A B := .no (decide_eq_false h) b
theorem KIf.split {c A B : Prop} [Decidable c] (h1 : c → A) (h2 : ¬ c → B) : KB (decide c) A B := by
  by_cases h : c
  · exact KIf.yes h (h1 h)
  · exact KIf.no h (h2 h)
theorem KIf.ite {c A B : Prop} [Decidable c] (h : KIf c A B) : if c then A else B := by
  have := KB.ite h
  simpa using this
def kIf (c : Prop) [Decidable c] (K : D → Prop) : Prop := KB (decide c) (K (.bool true)) (K (.bool false))
theorem kIf_eq (c : Prop) [Decidable c] {K : D → Prop} (h : kIf c K) : K (.bool (decide c)) := by
  have := KIf.ite h
  split at this <;> simp [*]
def kIfN (c : Prop) [Decidable c] (K : D → Prop) : Prop := KB (decide c) (K (.bool false)) (K (.bool true))
theorem kIfN_eq (c : Prop) [Decidable c] {K : D → Prop} (h : kIfN c K) : K (.bool (!decide c)) := by
  have := KIf.ite h
  split at this <;> simp [*]
theorem bd {α : Type} [BEq α] [LawfulBEq α] [DecidableEq α] (a b : α) : (a == b) = decide (a = b) := by
  by_cases h : a = b
  · subst h
    simp
  · rw [decide_eq_false h]
    exact beq_eq_false_iff_ne.2 h
/-- Are plain cells one? -/
def eqB : List D → List D → Option Bool
  | [], [] => some true
  | .int k a :: x, .int k' b :: y => if k = k' then (eqB x y).map fun r => decide (a = b) && r else none
  | .str a :: x, .str b :: y => (eqB x y).map fun r => decide (a = b) && r
  | .bool a :: x, .bool b :: y => (eqB x y).map fun r => decide (a = b) && r
  | _, _ => none
theorem eqB_ok : ∀ {x y : List D} {r : Bool}, eqB x y = some r → dEqL x y = some r := by
  intro x
  induction x with
  | nil => intro y r h; cases y <;> simp_all [eqB, dEqL]
  | cons a x ih =>
    intro y r h
    cases y with
    | nil => cases a <;> simp [eqB] at h
    | cons b y =>
      cases a <;> cases b <;> simp only [eqB] at h <;> first | (cases h; done) | skip
      · rename_i a b
        cases hr : eqB x y with
        | none => simp [hr] at h
        | some q =>
          simp only [hr, Option.map_some, Option.some.injEq] at h
          subst h
          have := ih hr
          simp only [dEqL, dEq, bd]; by_cases hab : a = b <;> simp_all
      · rename_i k a k' b
        split at h
        · rename_i hk
          cases hr : eqB x y with
          | none => simp [hr] at h
          | some q =>
            simp only [hr, Option.map_some, Option.some.injEq] at h
            subst h
            have := ih hr
            simp only [dEqL, dEq, bd, hk, if_true]; by_cases hab : a = b <;> simp_all
        · cases h
      · rename_i a b
        cases hr : eqB x y with
        | none => simp [hr] at h
        | some q =>
          simp only [hr, Option.map_some, Option.some.injEq] at h
          subst h
          have := ih hr
          simp only [dEqL, dEq, bd]; by_cases hab : a = b <;> simp_all
def kbin (P : Program) (op : BinOp) (t : TypeId) (x y : D) (K : D → Prop) : Prop :=
  match x, y with
  | .int k a, .int k' b => if k = k' then
      match op with
      | .eql => kIf (a = b) K
      | .neq => kIfN (a = b) K
      | .lss => kIf (a < b) K
      | .leq => kIf (a ≤ b) K
      | .gtr => kIf (b < a) K
      | .geq => kIf (b ≤ a) K
      | .add => ∃ m, k.wrap (a + b) = m ∧ K (.int k m)
      | .sub => ∃ m, k.wrap (a - b) = m ∧ K (.int k m)
      | .mul => ∃ m, k.wrap (a * b) = m ∧ K (.int k m)
      | .quo => b ≠ 0 ∧ ∃ m, k.wrap (a.tdiv b) = m ∧ K (.int k m)
      | .rem => b ≠ 0 ∧ K (.int k (a.tmod b))
      | op => match dBin op (.int k a) (.int k' b) with
        | some d => K d
        | none => False
    else match dBin op (.int k a) (.int k' b) with
      | some d => K d
      | none => False
  | .str a, .str b =>
    match op with
    | .eql => kIf (a = b) K
    | .neq => kIfN (a = b) K
    | .lss => kIf (Op.bytesLess a b = true) K
    | .geq => kIfN (Op.bytesLess a b = true) K
    | .leq => kIf (Op.bytesLess a b = true ∨ a = b) K
    | .gtr => kIfN (Op.bytesLess a b = true ∨ a = b) K
    | .add => a.length + b.length ≤ 2 ^ 62 ∧ K (.str (a ++ b))
    | _ => False
  | .agg xs, .agg ys => match kindsA P t with
    | some ks => okK ks xs = true ∧ okK ks ys = true ∧ match eqB xs ys with
      | some r => match op with
        | .eql => kIf (r = true) K
        | .neq => kIfN (r = true) K
        | _ => False
      | none => False
    | none => False
  | x, y => match dBinT P op t x y with
    | some d => K d
    | none => False
theorem kbin_ok {P : Program} {op : BinOp} {t : TypeId} {x y : D} {K : D → Prop} (h : kbin P op t x y K) : ∃ d, dBinT P op t x y = some d ∧ K d := by
  have dflt : ∀ {x y : D}, (match dBinT P op t x y with | some d => K d | none => False) → ∃ d, dBinT P op t x y = some d ∧ K d := by
    intro x y h
    split at h
    · exact ⟨_, by assumption, h⟩
    · exact h.elim
  unfold kbin at h
  split at h
  · rename_i k a k' b
    split at h
    · rename_i hk
      subst hk
      cases op <;> simp only [dBinT, dBin, if_true] at h ⊢ <;> first
        | (obtain ⟨m, rfl, h⟩ := h; exact ⟨_, rfl, h⟩)
        | (obtain ⟨hb, m, rfl, h⟩ := h; exact ⟨_, by rw [if_neg hb], h⟩)
        | (obtain ⟨hb, h⟩ := h; exact ⟨_, by rw [if_neg hb], h⟩)
        | (have h2 := kIf_eq _ h; exact ⟨_, rfl, by simpa [bd, bne] using h2⟩)
        | (have h2 := kIfN_eq _ h; exact ⟨_, rfl, by simpa [bd, bne] using h2⟩)
        | exact ⟨_, rfl, h⟩
        | (split at h
           · exact ⟨_, rfl, h⟩
           · exact h.elim)
        | (split at h
           · rename_i hd
             exact ⟨_, hd, h⟩
           · exact h.elim)
    · simp only [dBinT]
      split at h
      · rename_i hd
        exact ⟨_, hd, h⟩
      · exact h.elim
  · rename_i a b
    cases op <;> simp only [dBinT, dBin] at h ⊢ <;> first
      | exact h.elim
      | (obtain ⟨hl, h⟩ := h; exact ⟨_, by rw [if_pos hl], h⟩)
      | (have h2 := kIf_eq _ h; exact ⟨_, rfl, by simpa [bd, bne] using h2⟩)
      | (have h2 := kIfN_eq _ h; exact ⟨_, rfl, by simpa [bd, bne] using h2⟩)
  · rename_i xs ys
    split at h
    · rename_i ks hks
      obtain ⟨h1, h2, h3⟩ := h
      split at h3
      · rename_i r hr
        have := eqB_ok hr
        split at h3
        · have h4 := kIf_eq _ h3
          exact ⟨.bool r, by simp [dBinT, hks, h1, h2, this, dEqO], by simpa using h4⟩
        · have h4 := kIfN_eq _ h3
          exact ⟨.bool (!r), by simp [dBinT, hks, h1, h2, this, dEqO], by simpa using h4⟩
        · exact h3.elim
      · exact h3.elim
    · exact h.elim
  · exact dflt h

/-- An element's address. -/
def kidxA (t : Ty) (x i : D) (K : D → Prop) : Prop :=
  match t, x, i with
  | .slice _ sz _ _, .list _ xs, .int _ n => ∃ m : Nat, n = (m : Int) ∧ ∃ d, xs[m]? = some d ∧ d.cells.length = sz ∧ if 0 < sz then forceL d.cells fun cs => K (.at cs 0) else False
  | .slice _ sz _ _, .own b len N, .int _ n => (0 ≤ n ∧ n < len) ∧ if 0 < sz then K (.ptr b (n.toNat * sz) N) else False
  | .slice _ sz _ _, .asl b off len N, .int _ n => (0 ≤ n ∧ n < len) ∧ if 0 < sz then K (.ptr b (off + n.toNat * sz) N) else False
  | t, x, i => match dIdxA t x i with
    | some d => K d
    | none => False
theorem kidxA_ok {t : Ty} {x i : D} {K : D → Prop} (h : kidxA t x i K) : ∃ d, dIdxA t x i = some d ∧ K d := by
  unfold kidxA at h
  split at h
  · obtain ⟨m, rfl, d, hd, hs, h⟩ := h
    split at h
    · rename_i hp
      rw [forceL_eq] at h
      exact ⟨_, by simp only [dIdxA, Int.toNat_natCast, hd, hs, if_true, hp, Int.natCast_nonneg, and_self], h⟩
    · exact h.elim
  · obtain ⟨⟨h1, h2⟩, h⟩ := h
    split at h
    · rename_i hp
      exact ⟨_, by simp only [dIdxA, h1, h2, hp, and_self, if_true], h⟩
    · exact h.elim
  · obtain ⟨⟨h1, h2⟩, h⟩ := h
    split at h
    · rename_i hp
      exact ⟨_, by simp only [dIdxA, h1, h2, hp, and_self, if_true], h⟩
    · exact h.elim
  · split at h
    · exact ⟨_, by assumption, h⟩
    · exact h.elim
/-- A text's octet. -/
def kidx (t : Ty) (x i : D) (K : D → Prop) : Prop :=
  match t, x, i with
  | .str, .str s, .int _ n => ∃ m : Nat, n = (m : Int) ∧ ∃ b, s[m]? = some b ∧ K (.int .u8 b.toNat)
  | t, x, i => match dIdx t x i with
    | some d => K d
    | none => False
theorem kidx_ok {t : Ty} {x i : D} {K : D → Prop} (h : kidx t x i K) : ∃ d, dIdx t x i = some d ∧ K d := by
  unfold kidx at h
  split at h
  · obtain ⟨m, rfl, b, hb, h⟩ := h
    exact ⟨_, by simp only [dIdx, Int.natCast_nonneg, if_true, Int.toNat_natCast, hb], h⟩
  · split at h
    · exact ⟨_, by assumption, h⟩
    · exact h.elim
def klen (t : Ty) (x : D) (K : D → Prop) : Prop :=
  match t, x with
  | .slice .., .list _ xs => ∃ n : Nat, xs.length = n ∧ K (.int .i64 n)
  | t, x => match dLen t x with
    | some d => K d
    | none => False
theorem klen_ok {t : Ty} {x : D} {K : D → Prop} (h : klen t x K) : ∃ d, dLen t x = some d ∧ K d := by
  unfold klen at h
  split at h
  · obtain ⟨n, rfl, h⟩ := h
    exact ⟨_, rfl, h⟩
  · split at h
    · exact ⟨_, by assumption, h⟩
    · exact h.elim
/-- An operation that leaves the memory as it is: by what it tells; any other: by what it is. -/
def kop (P : Program) (op : Op) (α : Operand → D) (H : Hp) (R : D → Hp → Prop) : Prop :=
  match op with
  | .move x | .assign x => R (α x) H
  | .pick c a b => match α c with
    | .bool t => KB t (R (α a) H) (R (α b) H)
    | _ => False
  | .binOp op t x y _ => kbin P op t (α x) (α y) fun d => R d H
  | .indexAddr t x i => kidxA (ty P t) (α x) (α i) fun d => R d H
  | .index t x i => kidx (ty P t) (α x) (α i) fun d => R d H
  | .load t a => match dLoad (ty P t) (szOf P t) H (α a) with
    | some d => d.forceA fun d' => R d' H
    | none => False
  | .slice t x lo hi mx => ∃ d, dSlice (ty P t) (α x) (lo.map α) (hi.map α) (mx.map α) = some d ∧ R d H
  | .build t parts => match dBuild (ty P t) (szOf P t) (zcells P t) (parts.toList.map fun (x : Nat × Operand) => (x.1, α x.2)) with
    | some d => d.forceA fun d' => R d' H
    | none => False
  | .convert s d x => ∃ r, dConvH P s d H (α x) = some r ∧ R r H
  | .call { callee := .builtin .len, args, argTypes } => match args.toList, argTypes.toList with
    | [x], [t] => match ty P t with
      | .map .. => match dMlen H (α x) with
        | some d => R d H
        | none => False
      | _ => klen (ty P t) (α x) fun d => R d H
    | _, _ => False
  | .call { callee := .builtin .append, args, argTypes } => ∃ d H', aop P (.call { callee := .builtin .append, args, argTypes }) α H = some (d, H') ∧ R d H'
  | .call { callee := .builtin .max, args, argTypes } => match args.toList with
    | [x, y] => match α x, α y with
      | .int k a, .int k' b => if k = k' then KIf (a < b) (R (.int k b) H) (R (.int k a) H) else False
      | _, _ => False
    | [x, y, z] => match α x, α y, α z with
      | .int k a, .int k' b, .int k'' c => if k = k' ∧ k = k'' then KIf (a < b) (KIf (b < c) (R (.int k c) H) (R (.int k b) H)) (KIf (a < c) (R (.int k c) H) (R (.int k a) H)) else False
      | _, _, _ => False
    | _ => False
  | .call { callee := .builtin .min, args, argTypes } => match args.toList with
    | [x, y] => match α x, α y with
      | .int k a, .int k' b => if k = k' then KIf (b < a) (R (.int k b) H) (R (.int k a) H) else False
      | _, _ => False
    | _ => False
  | .next it true => match α it with
    | .ptr i 0 0 => match hget H i with
      | .iter s pos => KIf (pos < s.length) (forceH (hset H i (.iter s (pos + (Utf8.decode ⟨s.toArray⟩ pos).2))) fun H' => R (.tup [.bool true, .int .i64 pos, .int .i32 (Utf8.decode ⟨s.toArray⟩ pos).1]) H') (R (.tup [.bool false]) H)
      | _ => False
    | _ => False
  | op => match aop P op α H with
    | some (d, H') => forceH H' fun H' => R d H'
    | none => False
theorem kop_ok {P : Program} {op : Op} {α : Operand → D} {H : Hp} {R : D → Hp → Prop} (h : kop P op α H R) : ∃ d H', aop P op α H = some (d, H') ∧ R d H' := by
  unfold kop at h
  split at h
  · exact ⟨_, _, rfl, h⟩
  · exact ⟨_, _, rfl, h⟩
  · split at h
    · rename_i t ht
      simp only [aop, ht]
      have h := KB.ite h
      cases t
      · exact ⟨_, _, rfl, by simpa using h⟩
      · exact ⟨_, _, rfl, by simpa using h⟩
    · exact h.elim
  · obtain ⟨d, hd, hr⟩ := kbin_ok h
    exact ⟨d, H, by simp only [aop, hd, Option.map_some], hr⟩
  · obtain ⟨d, hd, hr⟩ := kidxA_ok h
    exact ⟨d, H, by simp only [aop, hd, Option.map_some], hr⟩
  · obtain ⟨d, hd, hr⟩ := kidx_ok h
    exact ⟨d, H, by simp only [aop, hd, Option.map_some], hr⟩
  · split at h
    · rename_i d hd
      rw [forceA_eq] at h
      exact ⟨d, H, by simp only [aop, hd, Option.map_some], h⟩
    · exact h.elim
  · obtain ⟨d, hd, hr⟩ := h
    exact ⟨d, H, by simp only [aop, hd, Option.map_some], hr⟩
  · split at h
    · rename_i d hd
      rw [forceA_eq] at h
      exact ⟨d, H, by simp only [aop, hd, Option.map_some], h⟩
    · exact h.elim
  · obtain ⟨d, hd, hr⟩ := h
    exact ⟨d, H, by simp only [aop, hd, Option.map_some], hr⟩
  · split at h
    · rename_i x t ha ht
      split at h
      · rename_i k e htt
        split at h
        · rename_i d hd
          exact ⟨d, H, by simp only [aop, ha, ht, htt, hd, Option.map_some], h⟩
        · exact h.elim
      · rename_i hn
        obtain ⟨d, hd, hr⟩ := klen_ok h
        refine ⟨d, H, ?_, hr⟩
        simp only [aop, ha, ht, hd, Option.map_some]
    · exact h.elim
  · exact h
  · split at h
    · rename_i x y ha
      split at h
      · rename_i k a k' b hx hy
        split at h
        · rename_i hk
          simp only [aop, ha, hx, hy, hk, if_true]
          refine ⟨_, _, rfl, ?_⟩
          have h := KIf.ite h
          split at h
          · rename_i hlt
            rw [if_pos hlt, ← hk]; exact h
          · rename_i hlt
            rw [if_neg hlt, ← hk]; exact h
        · exact h.elim
      · exact h.elim
    · rename_i x y z ha
      split at h
      · rename_i k a k' b k'' c hx hy hz
        split at h
        · rename_i hk
          obtain ⟨rfl, rfl⟩ := hk
          simp only [aop, ha, hx, hy, hz, and_self, if_true]
          refine ⟨_, _, rfl, ?_⟩
          have h := KIf.ite h
          split at h
          · rename_i hlt
            simp only [gt_iff_lt, if_pos hlt]
            have h := KIf.ite h
            split at h
            · rename_i hlt2
              rw [if_pos hlt2]; exact h
            · rename_i hlt2
              rw [if_neg hlt2]; exact h
          · rename_i hlt
            simp only [gt_iff_lt, if_neg hlt]
            have h := KIf.ite h
            split at h
            · rename_i hlt2
              rw [if_pos hlt2]; exact h
            · rename_i hlt2
              rw [if_neg hlt2]; exact h
        · exact h.elim
      · exact h.elim
    · exact h.elim
  · split at h
    · rename_i x y ha
      split at h
      · rename_i k a k' b hx hy
        split at h
        · rename_i hk
          simp only [aop, ha, hx, hy, hk, if_true]
          refine ⟨_, _, rfl, ?_⟩
          have h := KIf.ite h
          split at h
          · rename_i hlt
            rw [if_pos hlt, ← hk]; exact h
          · rename_i hlt
            rw [if_neg hlt, ← hk]; exact h
        · exact h.elim
      · exact h.elim
    · exact h.elim
  · split at h
    · rename_i i ha
      split at h
      · rename_i s pos hg
        have h := KIf.ite h
        simp only [aop, ha, hg]
        split at h
        · rename_i hlt
          rw [forceH_eq] at h
          exact ⟨_, _, if_pos hlt, h⟩
        · rename_i hlt
          exact ⟨_, _, if_neg hlt, h⟩
      · exact h.elim
    · exact h.elim
  · split at h
    · rename_i d H' hd
      rw [forceH_eq] at h
      exact ⟨d, H', hd, h⟩
    · exact h.elim

section
variable {P : Program} {E : Env}
/-- An operation behind which R holds. -/
def kStep (P : Program) (E : Env) (op : Op) (α : Operand → D) (H : Hp) (R : D → Hp → Prop) : Prop :=
  match callee P op α with
  | some (g, args) => Does P E g args H R
  | none => match yieldOf op α with
    | some (i, args) => YDoes P E i args H R
    | none => kop P op α H R
theorem kStep_ok {op : Op} {α : Operand → D} {H : Hp} {R : D → Hp → Prop} (h : kStep P E op α H R) : cStep P E op α H R := by
  unfold kStep at h
  unfold cStep
  split at h
  · rename_i hc
    simp only [hc]
    exact h
  · rename_i hc
    split at h
    · rename_i hy
      simp only [hc, hy]
      exact h
    · rename_i hy
      obtain ⟨d, H', ha, hr⟩ := kop_ok h
      simp only [hc, hy, ha]
      exact hr
def kPure (P : Program) (E : Env) (op : Op) (α : Operand → D) (H : Hp) (R : D → Prop) : Prop :=
  match callee P op α with
  | some (g, args) => PCall P E g args H R
  | none => if keeps op = true then kop P op α H fun d _ => R d
    else match aop P op α H with
      | some (d, H') => H' = H ∧ R d
      | none => False
theorem kPure_ok {op : Op} {α : Operand → D} {H : Hp} {R : D → Prop} (h : kPure P E op α H R) : cPure P E op α H R := by
  rw [cPure_call]
  unfold kPure at h
  split at h
  · rename_i hc
    simp only [hc]
    exact h
  · rename_i hc
    simp only [hc]
    split at h
    · rename_i hk
      obtain ⟨d, H', ha, hr⟩ := kop_ok h
      simp only [hk, if_true, ha]
      exact hr
    · rename_i hk
      rw [if_neg hk]
      exact h
/-- Is an operation wanted? -/
def kwant (ops : Array Oper) (ts : List D) (o : Oper) (yes no : Prop) : Prop :=
  match o.guard with
  | none => yes
  | some (j, want) => match (ops[j]?).bind (·.dst) with
    | some t => match nth ts t with
      | .bool b => match want with
        | true => KB b yes no
        | false => KB b no yes
      | .tup [] => no
      | _ => False
    | none => False
theorem kwant_ok {ops : Array Oper} {ts : List D} {o : Oper} {yes no : Prop} (h : kwant ops ts o yes no) : match wantD ops ts o with
    | some b => if b = true then yes else no
    | none => False := by
  unfold kwant at h
  unfold wantD
  split at h
  · rename_i hg
    simp only [hg]
    exact h
  · rename_i j want hg
    simp only [hg]
    split at h
    · rename_i t ht
      simp only [ht]
      split at h
      · rename_i b hb
        simp only [hb]
        cases want <;> (have h := KB.ite h; cases b <;> simpa using h)
      · rename_i hb
        simp only [hb]
        exact h
      · exact h.elim
    · exact h.elim
theorem Does.mono {g : FuncId} {args : List D} {H : Hp} {R R' : D → Hp → Prop} (h : Does P E g args H R) (hr : ∀ d H', R d H' → R' d H') : Does P E g args H R' := by
  cases h with
  | body hb hf => exact .body hb (hf.mono hr)
  | ext x d hx hd hh => exact .ext x d hx hd (hr _ _ hh)
theorem roundP_mono {i : Nat} {R R' : D → Hp → Prop} (hr : ∀ d H', R d H' → R' d H') {e : Exit} {ts : List D} {H : Hp} (h : roundP i R e ts H) : roundP i R' e ts H := by
  cases e <;> simp only [roundP] at h ⊢ <;> first
    | exact h
    | (split at h
       · rename_i hg
         try simp only [hg]
         exact hr _ _ h
       · exact h.elim)
theorem YDoes.mono {i : Nat} {args : List D} {H : Hp} {R R' : D → Hp → Prop} (h : YDoes P E i args H R) (hr : ∀ d H', R d H' → R' d H') : YDoes P E i args H R' := by
  obtain ⟨ts, ps, a, b, h1, h2, h3⟩ := h.go
  refine ⟨ts, ps, a, b, h1, h2, awp_mono a (fun e ts H he => ?_) _ _ h3⟩
  cases e <;> simp only [assignP] at he ⊢ <;> first
    | exact he
    | (split at he
       · rename_i hg
         try simp only [hg]
         exact awp_mono b (fun e ts H hh => roundP_mono hr hh) _ _ he
       · exact he.elim)
theorem cStep_mono {op : Op} {α : Operand → D} {H : Hp} {R R' : D → Hp → Prop} (h : cStep P E op α H R) (hr : ∀ d H', R d H' → R' d H') : cStep P E op α H R' := by
  unfold cStep at *
  split at h
  · rename_i hc
    try simp only [hc]
    exact h.mono hr
  · rename_i hc
    try simp only [hc]
    split at h
    · rename_i hy
      try simp only [hy]
      exact h.mono hr
    · rename_i hy
      try simp only [hy]
      split at h
      · rename_i ha
        try simp only [ha]
        exact hr _ _ h
      · exact h.elim
/-- Operations, one behind the other. -/
structure KSeq (P : Program) (E : Env) (ops : Array Oper) (l : List Oper) (ts : List D) (H : Hp) (K : List D → Hp → Prop) : Prop where
  go : cseq P E ops l ts H K
theorem KSeq.nil {ops : Array Oper} {ts : List D} {H : Hp} {K : List D → Hp → Prop} (h : K ts H) : KSeq P E ops [] ts H K := ⟨h⟩
theorem KSeq.cons {ops : Array Oper} {o : Oper} {rest : List Oper} {ts : List D} {H : Hp} {K : List D → Hp → Prop}
    (h : kwant ops ts o (kStep P E o.op (ev E.g ts) H fun d H' => d.force fun d => putOK ts o.dst d fun ts' => KSeq P E ops rest ts' H' K) (putOK ts o.dst (.tup []) fun ts' => KSeq P E ops rest ts' H K)) : KSeq P E ops (o :: rest) ts H K := by
  refine ⟨?_⟩
  have h := kwant_ok h
  simp only [cseq]
  split at h
  · rename_i b hw
    simp only [putOK_eq, force_eq] at h
    split at h
    · rename_i hb
      simp only [hw, hb, if_true]
      exact cStep_mono (kStep_ok h) fun d H' hh => hh.go
    · rename_i hb
      simp only [hw]
      rw [if_neg hb]
      exact h.go
  · exact h.elim
def kAny (P : Program) (E : Env) (ops : Array Oper) (k : Nat) (op : Op) (dst : Option Nat) (α : Operand → D) (H : Hp) (pd : Pend) (K : D → Pend → Prop) : Prop :=
  match op with
  | .alloc ty' => match dst with
    | some t => if soleAt ops k t = true ∧ 0 < (zcells P ty').length then K .und (pd ++ [(k, t, zcells P ty')]) else False
    | none => False
  | op => kPure P E op α H fun d => K d pd
theorem cPure_mono {op : Op} {α : Operand → D} {H : Hp} {R R' : D → Prop} (h : cPure P E op α H R) (hr : ∀ d, R d → R' d) : cPure P E op α H R' := by
  unfold cPure at *
  split at h
  · rename_i hc
    obtain ⟨r, h1, h2⟩ := h
    try simp only [hc]
    exact ⟨r, h1, hr _ h2⟩
  · rename_i hc
    try simp only [hc]
    split at h
    · rename_i hk
      simp only [hk, if_true]
      split at h
      · rename_i ha
        try simp only [ha]
        exact hr _ h
      · exact h.elim
    · rename_i hk
      rw [if_neg hk]
      split at h
      · rename_i ha
        try simp only [ha]
        exact ⟨h.1, hr _ h.2⟩
      · exact h.elim
theorem kAny_ok {ops : Array Oper} {k : Nat} {op : Op} {dst : Option Nat} {α : Operand → D} {H : Hp} {pd : Pend} {K K' : D → Pend → Prop} (h : kAny P E ops k op dst α H pd K) (hk : ∀ d p, K d p → K' d p) : cAny P E ops k op dst α H pd K' := by
  have dflt : ∀ {op : Op}, (∀ t, op ≠ .alloc t) → kPure P E op α H (fun d => K d pd) → cAny P E ops k op dst α H pd K' := by
    intro op hne hh
    have := cPure_mono (kPure_ok hh) fun d hd => hk d pd hd
    cases op <;> first
      | exact (hne _ rfl).elim
      | exact this
  cases op <;> first
    | exact dflt (fun t ht => by cases ht) h
    | skip
  simp only [kAny] at h
  simp only [cAny]
  split at h
  · split at h
    · rename_i hc
      exact ⟨hc.1, hc.2, hk _ _ h⟩
    · exact h.elim
  · exact h.elim
/-- Operations of a region that draws. -/
structure KAq (P : Program) (E : Env) (ops : Array Oper) (m k : Nat) (l : List Oper) (ts : List D) (H : Hp) (pd : Pend) (K : List D → Hp → Prop) : Prop where
  go : caq P E ops m k l ts H pd K
theorem KAq.zero {ops : Array Oper} {k : Nat} {l : List Oper} {ts : List D} {H : Hp} {pd : Pend} {K : List D → Hp → Prop} (h : forceL (fillT ts H.length pd) fun ts' => forceH (H ++ fillH pd) fun H' => KSeq P E ops l ts' H' K) : KAq P E ops 0 k l ts H pd K := by
  rw [forceL_eq, forceH_eq] at h
  exact ⟨by rw [caq_zero]; exact h.go⟩
theorem KAq.nil {ops : Array Oper} {m k : Nat} {ts : List D} {H : Hp} {pd : Pend} {K : List D → Hp → Prop} (h : forceL (fillT ts H.length pd) fun ts' => forceH (H ++ fillH pd) fun H' => K ts' H') : KAq P E ops m k [] ts H pd K := by
  rw [forceL_eq, forceH_eq] at h
  exact ⟨by cases m <;> exact h⟩
theorem KAq.cons {ops : Array Oper} {m k : Nat} {o : Oper} {rest : List Oper} {ts : List D} {H : Hp} {pd : Pend} {K : List D → Hp → Prop}
    (h : kwant ops ts o (kAny P E ops k o.op o.dst (ev E.g ts) H pd fun d pd' => d.force fun d => putOK ts o.dst d fun ts' => KAq P E ops m (k + 1) rest ts' H pd' K) (putOK ts o.dst (.tup []) fun ts' => KAq P E ops m (k + 1) rest ts' H pd K)) : KAq P E ops (m + 1) k (o :: rest) ts H pd K := by
  refine ⟨?_⟩
  have h := kwant_ok h
  simp only [caq]
  split at h
  · rename_i b hw
    simp only [putOK_eq, force_eq] at h
    simp only [hw]
    split at h
    · rename_i hb
      simp only [hb, if_true]
      exact kAny_ok h fun d p hh => hh.go
    · rename_i hb
      rw [if_neg hb]
      exact h.go
  · exact h.elim
/-- Code. -/
structure KWp (P : Program) (E : Env) (cx : Cx) (c : Code) (Q : Post) (ts : List D) (H : Hp) : Prop where
  go : P.follows .mixedOrders = true → awp P E cx c Q ts H
section
variable {cx : Cx} {Q : Post} {ts : List D} {H : Hp}
theorem KWp.skip (h : Q .normal ts H) : KWp P E cx .skip Q ts H := ⟨fun _ => h⟩
theorem KWp.label {l : Nat} (h : Q .normal ts H) : KWp P E cx (.label l) Q ts H := ⟨fun _ => h⟩
theorem KWp.exit {i : Nat} (h : Q (.exit i) ts H) : KWp P E cx (.exit i) Q ts H := ⟨fun _ => h⟩
theorem KWp.ret (h : Q .ret ts H) : KWp P E cx .ret Q ts H := ⟨fun _ => h⟩
theorem KWp.region {id : Nat} {ops : Array Oper} (h : KSeq P E ops ops.toList ts H (Q .normal)) : KWp P E cx (.region id ops false) Q ts H := ⟨fun hm => cseq_sound hm _ _ _ h.go⟩
theorem KWp.drawn {id : Nat} {ops : Array Oper} (m : Nat) (hr : regOk ops m = true) (h : KAq P E ops m 0 ops.toList ts H [] (Q .normal)) : KWp P E cx (.region id ops true) Q ts H := ⟨fun hm => ⟨m, hr, caq_sound hm _ _ _ _ _ _ h.go⟩⟩
theorem KWp.seq {a b : Code} (h : KWp P E cx a (Post.then (fun ts H => KWp P E cx b Q ts H) Q) ts H) : KWp P E cx (.seq a b) Q ts H := ⟨fun hm => awp_mono a (fun e ts H he => by
  cases e <;> first | exact he.go hm | exact he) ts H (h.go hm)⟩
theorem KWp.cond {c : Operand} {x y : Code} (h : match ev E.g ts c with
    | .bool b => KB b (KWp P E cx x Q ts H) (KWp P E cx y Q ts H)
    | _ => False) : KWp P E cx (.cond c x y) Q ts H := ⟨fun hm => by
  split at h
  · rename_i b hb
    refine ⟨b, hb, ?_⟩
    have h := KB.ite h
    cases b
    · exact KWp.go (by simpa using h) hm
    · exact KWp.go (by simpa using h) hm
  · exact h.elim⟩
theorem KWp.block {id : Nat} {c : Code} (h : KWp P E cx c (Post.block id Q) ts H) : KWp P E cx (.block id c) Q ts H := ⟨fun hm => h.go hm⟩
theorem KWp.scope {c : Code} (h : KWp P E cx c (Post.scope Q) ts H) : KWp P E cx (.scope c) Q ts H := ⟨fun hm => h.go hm⟩
/-- A loop. -/
structure KLoop (P : Program) (E : Env) (cx : Cx) (c : Code) (Q : Post) (ts : List D) (H : Hp) : Prop where
  go : P.follows .mixedOrders = true → ∃ n, loopN cx.m0 (awp P E cx c) Q n ts H
theorem KWp.loop {c : Code} (h : KLoop P E cx c Q ts H) : KWp P E cx (.loop c) Q ts H := ⟨fun hm => h.go hm⟩
structure KRange (P : Program) (E : Env) (cx : Cx) (g : Operand) (ps : Array Nat) (asg body : Code) (Q : Post) (ts : List D) (H : Hp) : Prop where
  go : RngOk P E cx.rd g ps.toList asg body Q ts H
theorem KWp.range {g : Operand} {ps : Array Nat} {asg body : Code} (h : KRange P E cx g ps asg body Q ts H) : KWp P E cx (.rangeFunc g ps asg body) Q ts H := ⟨fun _ => h.go⟩
end
/-- The end of a body. -/
def FinK (P : Program) (rs : List ResultVar) (R : D → Hp → Prop) : Post
  | .normal, ts, H | .ret, ts, H => match resD P ts H rs with
    | some d => d.forceA fun d => R d H
    | none => False
  | _, _, _ => False
theorem finK_ok {rs : List ResultVar} {R : D → Hp → Prop} {e : Exit} {ts : List D} {H : Hp} (h : FinK P rs R e ts H) : FinF P rs R e ts H := by
  cases e <;> simp only [FinK, FinF] at h ⊢ <;> first
    | exact h
    | (split at h
       · rename_i d hd
         rw [forceA_eq] at h
         exact ⟨d, hd, h⟩
       · exact h.elim)
/-- A contract out of the body, on the memory of the caller. -/
theorem kfun {f : FuncId} {fn : Func} {c : Code} {args : List D} {H : Hp} {R : D → Hp → Prop} (hm : P.follows .mixedOrders = true) (hf : P.funcs[f]? = some fn) (hc : fn.body = some c)
    (h : forceL (args ++ undL (fn.ntmps - args.length)) fun ts => KWp P E ⟨none, H.length⟩ c (FinK P fn.results.toList R) ts H) : Fun P E f args H R := fun_of hm hf hc (awp_mono c (fun e ts H he => finK_ok he) _ _ (by rw [forceL_eq] at h; exact h.go hm))
/-- A contract of closed data, out of the body. -/
theorem kden {f : FuncId} {fn : Func} {c : Code} {args : List D} {r : D} (hm : P.follows .mixedOrders = true) (hf : P.funcs[f]? = some fn) (hc : fn.body = some c) (ha : D.closedL args = true) (hr : r.closed = true)
    (h : forceL (args ++ undL (fn.ntmps - args.length)) fun ts => KWp P E ⟨none, 0⟩ c (FinK P fn.results.toList fun d H => Reif H d r) ts []) : PDen P E f args r := by
  rw [forceL_eq] at h
  refine pden_of hm hf hc ha hr (awp_mono c (fun e ts H he => ?_) _ _ (h.go hm))
  have he := finK_ok he
  cases e <;> simp only [FinF, Fin] at he ⊢ <;> first
    | exact he
    | (obtain ⟨d, hd, ⟨H', hH⟩⟩ := he; exact ⟨d, hd, r, H', hH, rfl⟩)
/-- A loop, by what holds ahead of each round, behind what is forgotten: the number falls. -/
theorem kloop {cx : Cx} {c : Code} {Q : Post} (I : Nat → List D → Hp → Prop) (step : ∀ m ts H, I m ts H → KWp P E cx c (Post.then (fun ts' H' => ∃ m', m' < m ∧ ∃ ts2 H2, Norm cx.m0 ts' H' ts2 H2 ∧ I m' ts2 H2) Q) ts H) {ts ts2 : List D} {H H2 : Hp} (m : Nat) (hn : Norm cx.m0 ts H ts2 H2) (hI : I m ts2 H2) : KLoop P E cx c Q ts H := by
  refine ⟨fun hm => ⟨m + 1, ?_⟩⟩
  induction m using Nat.strongRecOn generalizing ts H ts2 H2 with
  | _ m ih =>
    refine ⟨ts2, H2, hn, awp_mono c (fun e ts H he => ?_) ts2 H2 ((step m ts2 H2 hI).go hm)⟩
    cases e <;> first
      | (obtain ⟨m', hlt, ts3, H3, hn', hI'⟩ := he
         exact loopN_le (by omega) (ih m' hlt hn' hI'))
      | exact he
end
end Go.Lv

namespace Go.Lv
open Go
set_option linter.unusedVariables false
set_option linter.unusedSimpArgs false

/-- A frame of which some data are kept. -/
def liveG (live : List Nat) : Nat → List D → List D
  | _, [] => []
  | k, d :: l => (if live.contains k then d else .und) :: liveG live (k + 1) l
def liveT (live : List Nat) (ts : List D) : List D := liveG live 0 ts
theorem liveG_len (live : List Nat) : ∀ (k : Nat) (ts : List D), (liveG live k ts).length = ts.length
  | k, [] => rfl
  | k, d :: l => by simp [liveG, liveG_len live (k + 1) l]
theorem liveG_nth (live : List Nat) : ∀ (k : Nat) (ts : List D) (t : Nat), nth (liveG live k ts) t = nth ts t ∨ nth (liveG live k ts) t = .und
  | k, [], t => .inl rfl
  | k, d :: l, 0 => by
    simp only [liveG, nth]
    split
    · exact .inl rfl
    · exact .inr rfl
  | k, d :: l, t + 1 => by simpa [liveG, nth] using liveG_nth live (k + 1) l t
theorem norm_to {m0 : Nat} {ts ts' : List D} {H H' : Hp} (live : List Nat) (m : Nat) (h0 : m0 ≤ m) (e1 : liveT live ts = ts') (e2 : H.take m = H') (u1 : D.underL m ts' = true) (u2 : underH m H' = true) : Norm m0 ts H ts' H' := by
  subst e1 e2
  exact ⟨liveG_len live 0 ts, liveG_nth live 0 ts, .inr ⟨m, h0, rfl, u1, u2⟩⟩
theorem norm_ts {m0 : Nat} {ts ts' : List D} {H H' : Hp} (live : List Nat) (e1 : liveT live ts = ts') (e2 : H = H') : Norm m0 ts H ts' H' := by
  subst e1 e2
  exact ⟨liveG_len live 0 ts, liveG_nth live 0 ts, .inl rfl⟩
def putAll : List D → List (Nat × D) → List D
  | ts, [] => ts
  | ts, x :: l => putAll (put ts x.1 x.2) l
def setAll : Hp → List (Nat × Blk) → Hp
  | H, [] => H
  | H, x :: l => setAll (hset H x.1 x.2) l
section
variable {P : Program} {E : Env}
theorem Fun.at {f : FuncId} {args : List D} {H : Hp} {r : D} {R : D → Hp → Prop} (h : Fun P E f args H fun d H' => d = r ∧ H' = H) (hr : R r H) : Fun P E f args H R := h.mono fun d H' hh => by obtain ⟨rfl, rfl⟩ := hh; exact hr
theorem reif_to {H : Hp} {d r r' : D} (h : ∃ H', reify 6 H d = some (r', H')) (e : r' = r) : Reif H d r := by subst e; exact ⟨h⟩
/-- A loop, round by round. -/
structure KLoopM (P : Program) (E : Env) (cx : Cx) (c : Code) (Q : Post) (n : Nat) (ts : List D) (H : Hp) : Prop where
  go : P.follows .mixedOrders = true → loopN cx.m0 (awp P E cx c) Q n ts H
theorem kloopM_step {cx : Cx} {c : Code} {Q : Post} {n : Nat} {ts : List D} {H : Hp} (h : KWp P E cx c (Post.then (KLoopM P E cx c Q n) Q) ts H) : KLoopM P E cx c Q (n + 1) ts H :=
  ⟨fun hm => ⟨ts, H, .refl _ _ _, awp_mono c (fun e ts H he => by cases e <;> first | exact he.go hm | exact he) ts H (h.go hm)⟩⟩
theorem kloopM_start {cx : Cx} {c : Code} {Q : Post} (n : Nat) {ts : List D} {H : Hp} (h : KLoopM P E cx c Q n ts H) : KLoop P E cx c Q ts H := ⟨fun hm => ⟨n, h.go hm⟩⟩
theorem KWp.mono {cx : Cx} {c : Code} {Q Q' : Post} {ts : List D} {H : Hp} (h : KWp P E cx c Q ts H) (hq : ∀ e ts H, Q e ts H → Q' e ts H) : KWp P E cx c Q' ts H := ⟨fun hm => awp_mono c hq _ _ (h.go hm)⟩
/-- Behind a round: a state that is less. -/
structure Less {ι : Type} (m0 : Nat) (S : ι → List D) (T : ι → Hp) (μ : ι → Nat) (good : ι → Prop) (n : Nat) (ts' : List D) (H' : Hp) : Prop where
  go : ∃ m', m' < n ∧ ∃ ts2 H2, Norm m0 ts' H' ts2 H2 ∧ ∃ x, m' = μ x ∧ good x ∧ ts2 = S x ∧ H2 = T x
theorem less {ι : Type} {m0 : Nat} {S : ι → List D} {T : ι → Hp} {μ : ι → Nat} {good : ι → Prop} {n : Nat} {ts' : List D} {H' : Hp} (x : ι) (h1 : μ x < n) (h2 : good x) (h3 : Norm m0 ts' H' (S x) (T x)) : Less m0 S T μ good n ts' H' := ⟨_, h1, _, _, h3, x, rfl, h2, rfl, rfl⟩
/-- A loop: which data are kept; how many blocks are; what turns, by the state x: in the frame, in memory. -/
theorem kloop_at {ι : Type} {cx : Cx} {c : Code} {Q : Post} {ts0 : List D} {H0 : Hp} (live : List Nat) (m : Nat) (upd : ι → List (Nat × D)) (updH : ι → List (Nat × Blk)) (μ : ι → Nat) (good : ι → Prop) (x0 : ι)
    (hn : Norm cx.m0 ts0 H0 (putAll (liveT live ts0) (upd x0)) (setAll (H0.take m) (updH x0))) (hg : good x0)
    (step : ∀ x, good x → forceL (putAll (liveT live ts0) (upd x)) fun ts => forceH (setAll (H0.take m) (updH x)) fun H =>
      KWp P E cx c (Post.then (Less cx.m0 (fun x => putAll (liveT live ts0) (upd x)) (fun x => setAll (H0.take m) (updH x)) μ good (μ x)) Q) ts H) : KLoop P E cx c Q ts0 H0 := by
  refine kloop (fun n ts H => ∃ x, n = μ x ∧ good x ∧ ts = putAll (liveT live ts0) (upd x) ∧ H = setAll (H0.take m) (updH x)) (fun n ts H => ?_) (μ x0) hn ⟨x0, rfl, hg, rfl, rfl⟩
  rintro ⟨x, rfl, hgx, rfl, rfl⟩
  have hs := step x hgx
  rw [forceL_eq, forceH_eq] at hs
  exact hs.mono fun e ts H he => by cases e <;> first | exact he.go | exact he
/-- One that leaves the memory as it is. -/
theorem kloop_h {ι : Type} {cx : Cx} {c : Code} {Q : Post} {ts0 : List D} {H0 : Hp} (live : List Nat) (upd : ι → List (Nat × D)) (μ : ι → Nat) (good : ι → Prop) (x0 : ι)
    (hn : Norm cx.m0 ts0 H0 (putAll (liveT live ts0) (upd x0)) H0) (hg : good x0)
    (step : ∀ x, good x → forceL (putAll (liveT live ts0) (upd x)) fun ts =>
      KWp P E cx c (Post.then (Less cx.m0 (fun x => putAll (liveT live ts0) (upd x)) (fun _ => H0) μ good (μ x)) Q) ts H0) : KLoop P E cx c Q ts0 H0 := by
  refine kloop (fun n ts H => ∃ x, n = μ x ∧ good x ∧ ts = putAll (liveT live ts0) (upd x) ∧ H = H0) (fun n ts H => ?_) (μ x0) hn ⟨x0, rfl, hg, rfl, rfl⟩
  rintro ⟨x, rfl, hgx, rfl, rfl⟩
  have hs := step x hgx
  rw [forceL_eq] at hs
  exact hs.mono fun e ts H he => by cases e <;> first | exact he.go | exact he
end
section
variable {P : Program} {E : Env}
/-- A library function of closed data, by the shelf's word that what was there is as it was. -/
theorem pden_below {f : FuncId} {args : List D} {r : D} (ha : D.closedL args = true) (hr : r.closed = true)
    (hc : ∀ (h : Gh) (w : World) (vs : Array Value), GLe E.h0 h → GLe h (fun b => w.heap[b]?) → vs.size = args.length → AllRel h (fun _ _ => none) args vs → Calls P f vs w fun e w' => ∃ v, e = .returned v ∧ RowKit.Below w.heap.size w w' ∧ RelV h (fun _ _ => none) r v) : PDen P E f args r := by
  refine ⟨ha, hr, fun h ρ w vs M hb hS hsz hrel => ?_⟩
  refine (hc h w vs hb hS.imm hsz (fun j d hj => by
    obtain ⟨v, h1, h2⟩ := hrel j d hj
    exact ⟨v, h1, h2.closed (closedL_get ha hj)⟩)).mono fun e w' hh => ?_
  obtain ⟨v, rfl, hB, rv⟩ := hh
  refine ⟨v, r, [], h, ρ, rfl, rfl, .refl _, .refl _, ?_, rv.mono (.refl _) (fun i n x e => by cases e)⟩
  exact {
    os := hB.os.trans hS.os
    tape := hB.tape.trans hS.tape
    output := hB.output.trans hS.output
    size := Nat.le_trans hS.size hB.size
    imm := fun b o hb => by
      show w'.heap[b]? = some o
      rw [hB.block b (hS.lt hb)]
      exact hS.imm b o hb
    blk := fun i => by simp [hget, RelB]
    own := fun i b x hl => by simp [hget, Blk.live] at hl
    inj := fun i j b x y _ hl => by simp [hget, Blk.live] at hl
    dom := hS.dom
    ver := fun i sz ag ds hd => by simp [hget] at hd
    keep := hS.keep
    frame := fun b hb hm => by rw [hB.block b hb] }
theorem take_app {α : Type} (l m : List α) : (l ++ m).take l.length = l := by simp
/-- A contract out of the body, of a function that leaves the caller's memory as it was. -/
theorem kkeep {f : FuncId} {fn : Func} {c : Code} {args : List D} {H : Hp} {r : D} (hm : P.follows .mixedOrders = true) (hf : P.funcs[f]? = some fn) (hc : fn.body = some c) (hr : r.under H.length = true)
    (h : forceL (args ++ undL (fn.ntmps - args.length)) fun ts => KWp P E ⟨none, H.length⟩ c (FinK P fn.results.toList fun d H' => d = r ∧ H'.take H.length = H) ts H) : Fun P E f args H fun d H' => d = r ∧ H' = H := (kfun hm hf hc h).keep hr
end
section
variable {P : Program} {E : Env}
/-- A call that is told some blocks of the memory, by a contract on these alone. -/
theorem Fun.via {f : FuncId} {args args' : List D} {H S S1 : Hp} {r : D} {R : D → Hp → Prop} (σ : List Nat) (hf : Fun P E f args S fun d H' => d = r ∧ H' = S1) (hargs : args' = D.renL (tau σ H.length) args) (hσ : okS H.length σ = true)
    (hS : takeS H (tau σ H.length) σ S) (ha : D.underL S.length args = true) (hu : underH S.length S = true) (hl : S.length ≤ S1.length)
    (hR : (r.ren (tau σ H.length)).forceA fun d => forceH (layH (tau σ H.length) H σ S1) fun H2 => R d H2) : Fun P E f args' H R := by
  subst hargs
  rw [forceA_eq, forceH_eq] at hR
  exact (Fun.ren σ hσ hS ha hu hl hf).mono fun d H' hh => by obtain ⟨rfl, rfl⟩ := hh; exact hR
/-- A contract out of the body, on a memory; what is handed back is frozen, what was made is forgotten. -/
theorem krest {f : FuncId} {fn : Func} {c : Code} {args : List D} {H S1 : Hp} {r : D} (hm : P.follows .mixedOrders = true) (hf : P.funcs[f]? = some fn) (hc : fn.body = some c) (hl : H.length ≤ S1.length) (hr : r.under S1.length = true) (hu : underH S1.length S1 = true)
    (h : forceL (args ++ undL (fn.ntmps - args.length)) fun ts => KWp P E ⟨none, H.length⟩ c (FinK P fn.results.toList fun d H' => (d = r ∧ H'.take S1.length = S1) ∨ ∃ H'', reify 6 H' d = some (r, H'') ∧ H''.take S1.length = S1) ts H) : Fun P E f args H fun d H' => d = r ∧ H' = S1 := (kfun hm hf hc h).rest hl hr hu
theorem kloopM {cx : Cx} {c : Code} {Q : Post} (I : Nat → List D → Hp → Prop) (step : ∀ m ts H, I m ts H → KWp P E cx c (Post.then (fun ts' H' => ∃ m', m' < m ∧ ∃ ts2 H2, Norm cx.m0 ts' H' ts2 H2 ∧ I m' ts2 H2) Q) ts H) {ts ts2 : List D} {H H2 : Hp} (m n : Nat) (hmn : m < n) (hn : Norm cx.m0 ts H ts2 H2) (hI : I m ts2 H2) : KLoopM P E cx c Q n ts H := by
  refine ⟨fun hm => ?_⟩
  have key : ∀ m (ts ts2 : List D) (H H2 : Hp), Norm cx.m0 ts H ts2 H2 → I m ts2 H2 → loopN cx.m0 (awp P E cx c) Q (m + 1) ts H := by
    intro m
    induction m using Nat.strongRecOn with
    | _ m ih =>
      intro ts ts2 H H2 hn hI
      refine ⟨ts2, H2, hn, awp_mono c (fun e ts H he => ?_) ts2 H2 ((step m ts2 H2 hI).go hm)⟩
      cases e <;> first
        | (obtain ⟨m', hlt, ts3, H3, hn', hI'⟩ := he
           exact loopN_le (by omega) (ih m' hlt _ _ _ _ hn' hI'))
        | exact he
  exact loopN_le (by omega) (key m ts ts2 H H2 hn hI)
/-- As 'kloop_at', of a loop that has already gone some rounds. -/
theorem kloopM_at {ι : Type} {cx : Cx} {c : Code} {Q : Post} {n : Nat} {ts0 : List D} {H0 : Hp} (live : List Nat) (m : Nat) (upd : ι → List (Nat × D)) (updH : ι → List (Nat × Blk)) (μ : ι → Nat) (good : ι → Prop) (x0 : ι) (hx : μ x0 < n)
    (hn : Norm cx.m0 ts0 H0 (putAll (liveT live ts0) (upd x0)) (setAll (H0.take m) (updH x0))) (hg : good x0)
    (step : ∀ x, good x → forceL (putAll (liveT live ts0) (upd x)) fun ts => forceH (setAll (H0.take m) (updH x)) fun H =>
      KWp P E cx c (Post.then (Less cx.m0 (fun x => putAll (liveT live ts0) (upd x)) (fun x => setAll (H0.take m) (updH x)) μ good (μ x)) Q) ts H) : KLoopM P E cx c Q n ts0 H0 := by
  refine kloopM (fun n ts H => ∃ x, n = μ x ∧ good x ∧ ts = putAll (liveT live ts0) (upd x) ∧ H = setAll (H0.take m) (updH x)) (fun n ts H => ?_) (μ x0) n hx hn ⟨x0, rfl, hg, rfl, rfl⟩
  rintro ⟨x, rfl, hgx, rfl, rfl⟩
  have hs := step x hgx
  rw [forceL_eq, forceH_eq] at hs
  exact hs.mono fun e ts H he => by cases e <;> first | exact he.go | exact he
end
theorem takeS.nil {H : Hp} {τ : Nat → Nat} : takeS H τ [] [] := trivial
theorem takeS.cons {H : Hp} {τ : Nat → Nat} {i : Nat} {b : Blk} {σ : List Nat} {S : Hp} (h : hget H i = b.ren τ) (hs : takeS H τ σ S) : takeS H τ (i :: σ) (b :: S) := ⟨h, hs⟩
/- ### Operations of the walks -/
theorem conv_int {P : Program} {s d : TypeId} {H : Hp} {k0 k k' : IntKind} {n : Int} (hs : ty P s = .int k0) (hd : ty P d = .int k') (hw : k'.wrap n = n) : dConvH P s d H (.int k n) = some (.int k' n) := by
  simp only [dConvH, hs, hd, dConv, hw]
theorem conv_int' {P : Program} {s d : TypeId} {H : Hp} {k0 k k' : IntKind} {n m : Int} (hs : ty P s = .int k0) (hd : ty P d = .int k') (hw : k'.wrap n = m) : dConvH P s d H (.int k n) = some (.int k' m) := by
  simp only [dConvH, hs, hd, dConv, hw]
theorem sl_lo {t : Ty} {s : List UInt8} {k : IntKind} {n : Int} {m : Nat} (ht : t = .str) (hn : n = m) (hl : m ≤ s.length) : dSlice t (.str s) (some (.int k n)) none none = some (.str (s.drop m)) := by
  subst ht hn
  simp only [dSlice, dBnd, Int.natCast_nonneg, if_true, Int.toNat_natCast, hl, Nat.le_refl, and_self, List.take_length]
theorem sl_hi {t : Ty} {s : List UInt8} {k : IntKind} {n : Int} {m : Nat} (ht : t = .str) (hn : n = m) (hl : m ≤ s.length) : dSlice t (.str s) none (some (.int k n)) none = some (.str (s.take m)) := by
  subst ht hn
  simp only [dSlice, dBnd, Int.natCast_nonneg, if_true, Int.toNat_natCast, hl, Nat.zero_le, and_self, List.drop_zero]
theorem sl_lh {t : Ty} {s : List UInt8} {k k' : IntKind} {n n' : Int} {m m' : Nat} (ht : t = .str) (hn : n = m) (hn' : n' = m') (hle : m ≤ m') (hl : m' ≤ s.length) : dSlice t (.str s) (some (.int k n)) (some (.int k' n')) none = some (.str ((s.take m').drop m)) := by
  subst ht hn hn'
  simp only [dSlice, dBnd, Int.natCast_nonneg, if_true, Int.toNat_natCast, hl, hle, and_self]
end Go.Lv

namespace Go.Lv
open Go
set_option linter.unusedVariables false
set_option linter.unusedSimpArgs false

/-- b tells no more than a. -/
def Wk (a b : D) : Prop := ∀ (h : Gh) (ρ : Rn) (v : Value), RelV h ρ a v → RelV h ρ b v
theorem Wk.refl (a : D) : Wk a a := fun _ _ _ r => r
theorem Wk.list (t : Bool) (xs : List D) : Wk (.list t xs) (.list false xs) := fun h ρ v r => by
  cases r with
  | lnil _ a c ht => exact .lnil _ a c fun h => by cases h
  | list _ _ b off n c sz cs e fz us hx hn hlen ht hsz hcl hcc hb hc ho hr => exact .list _ _ b off n c sz cs e fz us hx hn hlen (fun h => by cases h) hsz hcl hcc hb hc ho hr
/-- One for one. -/
inductive WkL : List D → List D → Prop
  | nil : WkL [] []
  | cons {a b : D} {as bs : List D} (h : Wk a b) (hs : WkL as bs) : WkL (a :: as) (b :: bs)
theorem WkL.len {as bs : List D} (h : WkL as bs) : as.length = bs.length := by induction h <;> simp_all
theorem WkL.get {as bs : List D} (h : WkL as bs) : ∀ {j : Nat} {b : D}, bs[j]? = some b → ∃ a, as[j]? = some a ∧ Wk a b := by
  induction h with
  | nil => intro j b hj; simp at hj
  | cons hh hs ih =>
    intro j b hj
    cases j with
    | zero => simp at hj; subst hj; exact ⟨_, rfl, hh⟩
    | succ j => exact ih (by simpa using hj)
theorem WkL.refl : ∀ (l : List D), WkL l l
  | [] => .nil
  | a :: l => .cons (.refl a) (WkL.refl l)
theorem Wk.agg {as bs : List D} (hl : WkL as bs) : Wk (.agg as) (.agg bs) := fun h ρ v r => by
  cases r with
  | agg _ vs hs h1 us hu hr =>
    have e := hl.len
    refine .agg _ vs (by rw [hs, e]) h1 us (fun j hj => hu j (by omega)) fun j d hj => ?_
    obtain ⟨a, ha, hw⟩ := hl.get hj
    exact hw _ _ _ (hr j a ha)
theorem Wk.tup {as bs : List D} (hl : WkL as bs) : Wk (.tup as) (.tup bs) := fun h ρ v r => by
  cases r with
  | tup _ vs hs us hu hr =>
    have e := hl.len
    refine .tup _ vs (by rw [hs, e]) us (fun j hj => hu j (by omega)) fun j d hj => ?_
    obtain ⟨a, ha, hw⟩ := hl.get hj
    exact hw _ _ _ (hr j a ha)
section
variable {P : Program} {E : Env}
theorem Fun.wk {f : FuncId} {args : List D} {H S1 : Hp} {r0 r : D} (hw : Wk r0 r) (hf : Fun P E f args H fun d H' => d = r0 ∧ H' = S1) : Fun P E f args H fun d H' => d = r ∧ H' = S1 := by
  refine ⟨fun w0 M0 hI h ρ w vs hb hS hsz hrel => (hf.run w0 M0 hI h ρ w vs hb hS hsz hrel).mono fun e w' hh => ?_⟩
  obtain ⟨v, r', H', h', ρ', he, ⟨rfl, rfl⟩, h1, h2, hS', hv⟩ := hh
  exact ⟨v, r, _, h', ρ', he, ⟨rfl, rfl⟩, h1, h2, hS', hw _ _ _ hv⟩
/-- A call that is told more than the contract asks for. -/
theorem Fun.wkA {f : FuncId} {args args' : List D} {H : Hp} {R : D → Hp → Prop} (hl : WkL args' args) (hf : Fun P E f args H R) : Fun P E f args' H R := by
  refine ⟨fun w0 M0 hI h ρ w vs hb hS hsz hrel => hf.run w0 M0 hI h ρ w vs hb hS (by rw [hsz, hl.len]) fun j d hj => ?_⟩
  obtain ⟨a, ha, hw⟩ := hl.get hj
  obtain ⟨v, h1, h2⟩ := hrel j a ha
  exact ⟨v, h1, hw _ _ _ h2⟩
theorem PDen.wk {f : FuncId} {args : List D} {r0 r : D} (hr : r.closed = true) (hw : Wk r0 r) (hf : PDen P E f args r0) : PDen P E f args r := by
  refine ⟨hf.1, hr, fun h ρ w vs M hb hS hsz hrel => ((hf.3 h ρ w vs M hb hS hsz hrel).mono fun e w' hh => ?_)⟩
  obtain ⟨v, r', S', h', ρ', he, hr', h1, h2, hS', hv⟩ := hh
  subst hr'
  exact ⟨v, r, S', h', ρ', he, rfl, h1, h2, hS', hw _ _ _ hv⟩
/-- What a body hands back, in the end: as it is, or frozen; told with less. -/
structure Rest (m : Nat) (S1 : Hp) (r d : D) (H' : Hp) : Prop where
  go : ∃ r0, Wk r0 r ∧ ((d = r0 ∧ H'.take m = S1) ∨ ∃ H'', reify 6 H' d = some (r0, H'') ∧ H''.take m = S1)
theorem rest_as {m : Nat} {S1 : Hp} {r d : D} {H' : Hp} (h1 : d = r) (h2 : H'.take m = S1) : Rest m S1 r d H' := ⟨r, .refl r, .inl ⟨h1, h2⟩⟩
theorem rest_wk {m : Nat} {S1 : Hp} {r d : D} {H' : Hp} (h1 : Wk d r) (h2 : H'.take m = S1) : Rest m S1 r d H' := ⟨d, h1, .inl ⟨rfl, h2⟩⟩
theorem rest_re {m : Nat} {S1 : Hp} {r d r0 : D} {H' H'' : Hp} (h1 : reify 6 H' d = some (r0, H'')) (h2 : H''.take m = S1) (h3 : Wk r0 r) : Rest m S1 r d H' := ⟨r0, h3, .inr ⟨H'', h1, h2⟩⟩
theorem Fun.restW {f : FuncId} {args : List D} {r : D} {H S1 : Hp} (hl : H.length ≤ S1.length) (hr : r.under S1.length = true) (hu : underH S1.length S1 = true)
    (hf : Fun P E f args H (Rest S1.length S1 r)) : Fun P E f args H fun d H' => d = r ∧ H' = S1 := by
  refine ⟨fun w0 M0 hI h ρ w vs hb hS hsz hrel => (hf.run w0 M0 hI h ρ w vs hb hS hsz hrel).mono fun e w' hh => ?_⟩
  obtain ⟨v, r', H', h', ρ', he, hR, h1, h2, hS', hv⟩ := hh
  obtain ⟨r0, hw, hR⟩ := hR.go
  have fin : ∀ {h2' : Gh} {H2 : Hp}, GLe h h2' → Sim w0 M0 hI h2' ρ' H2 w' → RelV h2' ρ' r0 v → H2.take S1.length = S1 → ∃ v r'' H' h' ρ', e = .returned v ∧ (r'' = r ∧ H' = S1) ∧ GLe h h' ∧ RLe ρ ρ' ∧ Sim w0 M0 hI h' ρ' H' w' ∧ RelV h' ρ' r'' v := by
    intro h2' H2 hg hS2 hv2 hH
    have hS3 := hS2.drop (m := S1.length) (by rw [hH]; exact hu)
    rw [hH] at hS3
    exact ⟨v, r, S1, h2', _, he, ⟨rfl, rfl⟩, hg, fun i n x hx => by rw [Rn.cut_lt (Nat.lt_of_lt_of_le (hS.dom _ _ _ hx) hl)]; exact h2 _ _ _ hx, hS3, (hw _ _ _ hv2).under hr⟩
  rcases hR with ⟨rfl, hH⟩ | ⟨H'', hre, hH⟩
  · exact fin h1 hS' hv hH
  · obtain ⟨h3, g3, hS3, hv3, _⟩ := reify_sound 6 h' H' r' v r0 H'' hre hS' hv
    exact fin (h1.trans g3) hS3 hv3 hH
theorem krestW {f : FuncId} {fn : Func} {c : Code} {args : List D} {H S1 : Hp} {r : D} (hm : P.follows .mixedOrders = true) (hf : P.funcs[f]? = some fn) (hc : fn.body = some c) (hl : H.length ≤ S1.length) (hr : r.under S1.length = true) (hu : underH S1.length S1 = true)
    (h : forceL (args ++ undL (fn.ntmps - args.length)) fun ts => KWp P E ⟨none, H.length⟩ c (FinK P fn.results.toList (Rest S1.length S1 r)) ts H) : Fun P E f args H fun d H' => d = r ∧ H' = S1 := (kfun hm hf hc h).restW hl hr hu
/-- A contract on no memory, of closed data. -/
theorem Fun.pden {f : FuncId} {args : List D} {r : D} (ha : D.closedL args = true) (hr : r.closed = true) (hf : Fun P E f args [] fun d H' => d = r ∧ H' = []) : PDen P E f args r :=
  ⟨ha, hr, fun h ρ w vs M hb hS hsz hrel => (hf.den h ρ w vs M hb hS hsz hrel).mono fun e w' hh => by
    obtain ⟨v, r', S', h', ρ', h1, ⟨rfl, rfl⟩, h3, h4, h5, h6⟩ := hh
    exact ⟨v, _, _, h', ρ', h1, rfl, h3, h4, h5, h6⟩⟩
theorem kdenW {f : FuncId} {fn : Func} {c : Code} {args : List D} {r : D} (hm : P.follows .mixedOrders = true) (hf : P.funcs[f]? = some fn) (hc : fn.body = some c) (ha : D.closedL args = true) (hr : r.closed = true) (hr2 : r.under 0 = true)
    (h : forceL (args ++ undL (fn.ntmps - args.length)) fun ts => KWp P E ⟨none, 0⟩ c (FinK P fn.results.toList (Rest 0 [] r)) ts []) : PDen P E f args r :=
  Fun.pden ha hr (krestW hm hf hc (Nat.le_refl _) hr2 rfl h)
/- ### Rows that grow -/
theorem app_nil {α : Operand → D} {H : Hp} {args : Array Operand} {at_ : Array TypeId} {s x : Operand} {t u e sz bytes e' sz' b' : Nat} {ag ag' tt : Bool} {y : D} {R : D → Hp → Prop} (h1 : args.toList = [s, x]) (h2 : at_.toList = [t, u]) (ht : ty P t = .slice e sz bytes ag) (hu : ty P u = .slice e' sz' b' ag') (hz : (zcells P e).length = sz)
    (hs : α s = .list true []) (hx : α x = .list tt [y]) (hy : y.cells.length = sz) (hp : 0 < sz) (hb : 0 < bytes) (hle : bytes ≤ 2 ^ 46)
    (hR : forceH (H ++ [.row sz ag y.cells]) fun H' => R (.own H.length 1 sz) H') : ∃ d H', aop P (.call { callee := .builtin .append, args := args, argTypes := at_ }) α H = some (d, H') ∧ R d H' := by
  rw [forceH_eq] at hR
  refine ⟨_, _, ?_, hR⟩
  have hall : allSz sz [y] = true := by simp [allSz, hy]
  simp only [aop, h1, h2, ht, hu, hx, hs, hz, dLenN, srcCells, hall, if_true, List.length_singleton, List.flatMap_cons, List.flatMap_nil, List.append_nil, dAppend, hy, Nat.one_mul, hp, hb, decide_true, Bool.true_and, beq_self_eq_true, Bool.not_true, List.nil_append, List.length_nil, Nat.zero_add, hle]
  simp [allSz]
theorem app_own {α : Operand → D} {H : Hp} {args : Array Operand} {at_ : Array TypeId} {s x : Operand} {t u e sz bytes e' sz' b' i len N : Nat} {ag ag' ag2 tt : Bool} {y : D} {cs : List D} {R : D → Hp → Prop} (h1 : args.toList = [s, x]) (h2 : at_.toList = [t, u]) (ht : ty P t = .slice e sz bytes ag) (hu : ty P u = .slice e' sz' b' ag') (hz : (zcells P e).length = sz)
    (hs : α s = .own i len N) (hx : α x = .list tt [y]) (hg : hget H i = .row sz ag2 cs) (hy : y.cells.length = sz) (hp : 0 < sz) (hb : 0 < bytes) (hc : cs.length = N) (hN : len * sz = N) (hle : (len + 1) * bytes ≤ 2 ^ 46)
    (hR : forceH (hset H i (.row sz ag2 (cs ++ y.cells))) fun H' => R (.own i (len + 1) (N + sz)) H') : ∃ d H', aop P (.call { callee := .builtin .append, args := args, argTypes := at_ }) α H = some (d, H') ∧ R d H' := by
  rw [forceH_eq] at hR
  refine ⟨_, _, ?_, hR⟩
  have hall : allSz sz [y] = true := by simp [allSz, hy]
  simp only [aop, h1, h2, ht, hu, hx, hs, hz, hg, dLenN, srcCells, hall, if_true, List.length_singleton, List.flatMap_cons, List.flatMap_nil, List.append_nil, dAppend, hy, Nat.one_mul, hp, hb, decide_true, Bool.true_and, beq_self_eq_true, Bool.not_true, hc, hN, hle, and_self]
  simp
/-- An append of what may be there: the rows of a list told by its elements. -/
theorem chunk_rows {α : Type} (cells : α → List D) (sz : Nat) (hsz : ∀ x, (cells x).length = sz) : ∀ (l : List α), chunk sz l.length (l.flatMap cells) = l.map fun x => .agg (cells x)
  | [] => rfl
  | x :: l => by
    simp only [List.length_cons, chunk, List.flatMap_cons, List.map_cons]
    rw [List.take_left' (hsz x), List.drop_left' (hsz x), chunk_rows cells sz hsz l]
theorem rows_len {α : Type} (cells : α → List D) (sz : Nat) (hsz : ∀ x, (cells x).length = sz) : ∀ (l : List α), (l.flatMap cells).length = l.length * sz
  | [] => by simp
  | x :: l => by simp only [List.flatMap_cons, List.length_append, hsz, rows_len cells sz hsz l, List.length_cons]; rw [Nat.add_mul]; omega
theorem rows_closed {α : Type} (cells : α → List D) (hcl : ∀ x, D.closedL (cells x) = true) : ∀ (l : List α), D.closedL (l.flatMap cells) = true
  | [] => rfl
  | x :: l => by
    rw [List.flatMap_cons]
    exact closedL_iff.2 fun d hd => by
      rcases List.mem_append.1 hd with h | h
      · exact closedL_iff.1 (hcl x) d h
      · exact closedL_iff.1 (rows_closed cells hcl l) d h
/-- A row of structs, handed back. -/
theorem reify_rows {α : Type} (cells : α → List D) (sz : Nat) (hsz : ∀ x, (cells x).length = sz) (hcl : ∀ x, D.closedL (cells x) = true) (k : Nat) {H : Hp} {i len n : Nat} {l : List α} (hg : hget H i = .row sz true (l.flatMap cells)) (hl : len = l.length) (hn : n = len * sz) :
    reify (k + 1) H (.own i len n) = some (.list false (l.map fun x => .agg (cells x)), frz1 H i) := by
  have e := rows_len cells sz hsz l
  have ht : (l.flatMap cells).take (len * sz) = l.flatMap cells := List.take_of_length_le (by rw [e, hl]; exact Nat.le_refl _)
  have := reify_own k (len := len) (n := n) hg (by rw [e, hn, hl]) (by rw [hn]; exact Nat.le_refl _) (by rw [ht]; exact rows_closed cells hcl l) (.inl rfl)
  rw [this, ht, hl]
  simp only [els, if_true, chunk_rows cells sz hsz]
/-- A row of plain cells. -/
theorem reify_cells (k : Nat) {H : Hp} {i len n : Nat} {cs : List D} (hg : hget H i = .row 1 false cs) (hl : len = cs.length) (hn : n = len) (hcl : D.closedL cs = true) (hc : allCell cs = true) :
    reify (k + 1) H (.own i len n) = some (.list false cs, frz1 H i) := by
  have ht : cs.take (len * 1) = cs := List.take_of_length_le (by omega)
  have := reify_own k (len := len) (n := n) hg (by omega) (by omega) (by rw [ht]; exact hcl) (.inr ⟨rfl, by rw [ht]; exact hc⟩)
  rw [this, ht]
  simp [els]
theorem reifyL_at {k : Nat} {H H' H'' : Hp} {d d' : D} {l l' : List D} (h1 : reify k H d = some (d', H')) (h2 : reifyL (reify k) H' l = some (l', H'')) : reifyL (reify k) H (d :: l) = some (d' :: l', H'') := by simp only [reifyL, h1, h2]
theorem reify_id {k : Nat} {H : Hp} {d : D} (h : d.closed = true) : reify k H d = some (d, H) := by cases k <;> simp [reify, h]
theorem reify_agg {k : Nat} {H H' : Hp} {cs cs' : List D} (hn : D.closedL cs = false) (h : reifyL (reify k) H cs = some (cs', H')) : reify (k + 1) H (.agg cs) = some (.agg cs', H') := by
  simp only [reify, D.closed, hn, h]; rfl
theorem reify_tup {k : Nat} {H H' : Hp} {cs cs' : List D} (hn : D.closedL cs = false) (h : reifyL (reify k) H cs = some (cs', H')) : reify (k + 1) H (.tup cs) = some (.tup cs', H') := by
  simp only [reify, D.closed, hn, h]; rfl
end
theorem under_cons {m : Nat} {b : Blk} {H : Hp} (h1 : b.under m = true) (h2 : underH m H = true) : underH m (b :: H) = true := by simp only [underH, h1, h2, Bool.and_self]
mutual
theorem closed_under (m : Nat) : ∀ {d : D}, d.closed = true → d.under m = true
  | .at cs _, h => by simp only [D.closed] at h; simp only [D.under]; exact closedL_under m h
  | .agg cs, h => by simp only [D.closed] at h; simp only [D.under]; exact closedL_under m h
  | .tup cs, h => by simp only [D.closed] at h; simp only [D.under]; exact closedL_under m h
  | .fn _ a b, h => by simp only [D.closed, Bool.and_eq_true] at h; simp only [D.under, Bool.and_eq_true]; exact ⟨closedL_under m h.1, closedL_under m h.2⟩
  | .iface _ d, h => by simp only [D.closed] at h; simp only [D.under]; exact closed_under m h
  | .und, _ => rfl
  | .bool _, _ => rfl
  | .int _ _, _ => rfl
  | .str _, _ => rfl
  | .list .., _ => rfl
  | .nilp, _ => rfl
  | .nilf, _ => rfl
  | .nili, _ => rfl
  | .nilm, _ => rfl
  | .ptr .., h => by simp [D.closed] at h
  | .own .., h => by simp [D.closed] at h
  | .asl .., h => by simp [D.closed] at h
  | .yld _, h => by simp [D.closed] at h
  | .mp _, h => by simp [D.closed] at h
theorem closedL_under (m : Nat) : ∀ {l : List D}, D.closedL l = true → D.underL m l = true
  | [], _ => rfl
  | d :: l, h => by
    simp only [D.closedL, Bool.and_eq_true] at h
    simp only [D.underL, Bool.and_eq_true]
    exact ⟨closed_under m h.1, closedL_under m h.2⟩
end
theorem rows_under {α : Type} (cells : α → List D) (hcl : ∀ x, D.closedL (cells x) = true) (m : Nat) (l : List α) : D.underL m (l.flatMap cells) = true := closedL_under m (rows_closed cells hcl l)
end Go.Lv

namespace Go.Lv
open Go
set_option linter.unusedVariables false
set_option linter.unusedSimpArgs false
/-- A closed call and what it hands back. -/
structure Entry where
  f : FuncId
  args : List D
  r : D
def Entry.is (e : Entry) (f : FuncId) (args : List D) : Bool := e.f == f && D.sameL e.args args
def tabCall (call : FuncId → List D → Hp → Option (D × Hp)) (tab : List Entry) (f : FuncId) (args : List D) (H : Hp) : Option (D × Hp) :=
  match tab.find? (fun e => e.is f args) with
  | some e => some (e.r, H)
  | none => call f args H
section
variable {P : Program} {E : Env}
def EntryOk (P : Program) (E : Env) (e : Entry) : Prop := PDen P E e.f e.args e.r
def Known.tab (K : Known P E) (tab : List Entry) (h : ∀ e ∈ tab, EntryOk P E e) : Known P E where
  call := tabCall K.call tab
  ok := by
    intro g args H r H' hc
    unfold tabCall at hc
    split at hc
    · rename_i e he
      cases hc
      have hm := List.mem_of_find?_eq_some he
      have hp := List.find?_some he
      simp only [Entry.is, Bool.and_eq_true, beq_iff_eq] at hp
      obtain ⟨rfl, ha⟩ := hp
      have hs := D.sameL_eq _ _ ha
      subst hs
      exact PDen.fun (h e hm) H
    · exact K.ok g args H r H' hc
/-- It is run, and what it hands back is that. -/
def Entry.runs (P : Program) (G : Nat → D) (call : FuncId → List D → Hp → Option (D × Hp)) (n k : Nat) (e : Entry) : Bool :=
  D.closedL e.args && match run P G call n k e.f e.args [] with
    | some (r, H) => match reify 6 H r with
      | some (r', _) => r'.closed && D.same r' e.r
      | none => false
    | none => false
theorem Entry.ok (hm : P.follows .mixedOrders = true) (K : Known P E) {n k : Nat} {e : Entry} (h : e.runs P E.g K.call n k = true) : EntryOk P E e := by
  unfold Entry.runs at h
  rw [Bool.and_eq_true] at h
  obtain ⟨ha, h⟩ := h
  split at h
  · rename_i r H hr
    split at h
    · rename_i r' H' hre
      rw [Bool.and_eq_true] at h
      have hs := D.same_eq _ _ h.2
      have hf := run_fun hm K n k e.f e.args [] r H hr
      have hf2 : Fun P E e.f e.args [] (Rest 0 [] e.r) := hf.mono fun d H2 hh => by
        obtain ⟨rfl, rfl⟩ := hh
        exact rest_re hre (by simp) (by rw [hs]; exact .refl _)
      have hc : e.r.closed = true := by rw [← hs]; exact h.1
      exact Fun.pden ha hc (hf2.restW (H := []) (S1 := []) (Nat.le_refl _) (closed_under _ hc) rfl)
    · cases h
  · cases h
end
end Go.Lv
