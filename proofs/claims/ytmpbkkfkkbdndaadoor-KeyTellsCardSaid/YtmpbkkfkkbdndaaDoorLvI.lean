/- LvI: how a heap and memory go on together. -/
import Derived.Test.YtmpbkkfkkbdndaaDoorLvH
namespace Go.Lv
open Go
set_option linter.unusedVariables false
set_option linter.unusedSimpArgs false

def Rn.set (ρ : Rn) (i n : Nat) (x : Nat × Nat × Nat) : Rn := fun j m => if j = i ∧ m = n then some x else ρ j m
def Gh.set (h : Gh) (b : Nat) (o : Obj) : Gh := fun c => if c = b then some o else h c

theorem Rn.set_same (ρ : Rn) (i n : Nat) (x) : (ρ.set i n x) i n = some x := by simp [Rn.set]
theorem Rn.set_ne (ρ : Rn) {i n j m : Nat} (x) (hne : j ≠ i ∨ m ≠ n) : (ρ.set i n x) j m = ρ j m := by
  simp only [Rn.set]
  rw [if_neg (by omega)]
theorem Rn.le_set {ρ : Rn} {i n : Nat} {x} (hn : ρ i n = none ∨ ρ i n = some x) : RLe ρ (ρ.set i n x) := by
  intro j m y hy
  by_cases hc : j = i ∧ m = n
  · obtain ⟨rfl, rfl⟩ := hc
    rcases hn with hn | hn
    · rw [hn] at hy; cases hy
    · rw [hn] at hy; cases hy; exact Rn.set_same _ _ _ _
  · rw [Rn.set_ne _ _ (by omega)]; exact hy
theorem Gh.le_set {h : Gh} {b : Nat} {o : Obj} (hn : h b = none) : GLe h (h.set b o) := by
  intro c p hp
  simp only [Gh.set]
  split
  · rename_i e; subst e; rw [hn] at hp; cases hp
  · exact hp

theorem hget_app : ∀ (H : Hp) (b : Blk) (i : Nat), hget (H ++ [b]) i = if i < H.length then hget H i else if i = H.length then b else .dead
  | [], b, 0 => rfl
  | [], b, i + 1 => by simp [hget]
  | a :: H, b, 0 => by simp [hget]
  | a :: H, b, i + 1 => by
    simp only [List.cons_append, hget, List.length_cons]
    rw [hget_app H b i]
    simp only [Nat.add_lt_add_iff_right, Nat.add_right_cancel_iff]
theorem hget_ge : ∀ (H : Hp) (i : Nat), H.length ≤ i → hget H i = .dead
  | [], i, _ => by simp [hget]
  | a :: H, 0, hl => by simp at hl
  | a :: H, i + 1, hl => by simp only [hget]; exact hget_ge H i (by simpa using hl)
theorem hget_set : ∀ (H : Hp) (i j : Nat) (b : Blk), hget (hset H i b) j = if j = i ∧ i < H.length then b else hget H j
  | [], i, j, b => by simp [hset]
  | a :: H, 0, 0, b => by simp [hset, hget]
  | a :: H, 0, j + 1, b => by simp [hset, hget]
  | a :: H, i + 1, 0, b => by simp [hset, hget]
  | a :: H, i + 1, j + 1, b => by
    simp only [hset, hget, List.length_cons]
    rw [hget_set H i j b]
    simp only [Nat.add_lt_add_iff_right, Nat.add_right_cancel_iff]
theorem hset_len : ∀ (H : Hp) (i : Nat) (b : Blk), (hset H i b).length = H.length
  | [], i, b => rfl
  | a :: H, 0, b => rfl
  | a :: H, i + 1, b => by simp [hset, hset_len H i b]

theorem RelB.mono {h h' : Gh} {ρ ρ' : Rn} {i : Nat} {w w' : World} {bl : Blk} (r : RelB h ρ i w bl) (hh : GLe h h') (hρ : RLe ρ ρ')
    (hw : ∀ b x, bl.live = true → ρ i bl.n = some (b, x) → h b = none → w'.heap[b]? = w.heap[b]? ∧ h' b = none) : RelB h' ρ' i w' bl := by
  cases bl with
  | var ds =>
    obtain ⟨b, c, s, cs, e, fz, a1, a2, a3, a4, a5, a6, a7⟩ := r
    obtain ⟨k1, k2⟩ := hw b _ rfl a1 a2
    exact ⟨b, c, s, cs, e, fz, hρ _ _ _ a1, k2, by rw [k1]; exact a3, a4, a5, a6.mono hh hρ, a7⟩
  | row sz ag ds =>
    obtain ⟨b, c, cs, e, fz, a1, a2, a3, a4, a5, a6, a7⟩ := r
    obtain ⟨k1, k2⟩ := hw b _ rfl a1 a2
    exact ⟨b, c, cs, e, fz, hρ _ _ _ a1, k2, by rw [k1]; exact a3, a4, a5, a6.mono hh hρ, a7⟩
  | frz sz ag ds =>
    obtain ⟨b, c, s, cs, e, fz, a1, a2, a3⟩ := r
    exact ⟨b, c, s, cs, e, fz, hρ _ _ _ a1, hh _ _ a2, a3.mono hh hρ⟩
  | iter s pos =>
    obtain ⟨b, c, z, bs, a1, a2, a3, a4⟩ := r
    obtain ⟨k1, k2⟩ := hw b _ rfl a1 a2
    exact ⟨b, c, z, bs, hρ _ _ _ a1, k2, a3, by rw [k1]; exact a4⟩
  | dead => trivial

/-- Where a live block lies. -/
theorem RelB.lies {h : Gh} {ρ : Rn} {i : Nat} {w : World} {bl : Blk} (r : RelB h ρ i w bl) (hl : bl.live = true) : ∃ b x, ρ i bl.n = some (b, x) ∧ h b = none ∧ b < w.heap.size := by
  have lt : ∀ {b o}, w.heap[b]? = some o → b < w.heap.size := fun e => (Array.getElem?_eq_some_iff.1 e).1
  cases bl with
  | var ds => obtain ⟨b, c, s, cs, e, fz, a1, a2, a3, _⟩ := r; exact ⟨b, _, a1, a2, lt a3⟩
  | row sz ag ds => obtain ⟨b, c, cs, e, fz, a1, a2, a3, _⟩ := r; exact ⟨b, _, a1, a2, lt a3⟩
  | iter s pos => obtain ⟨b, c, z, bs, a1, a2, a3, a4⟩ := r; exact ⟨b, _, a1, a2, lt a4⟩
  | frz => cases hl
  | dead => cases hl

section
variable {w0 : World} {M0 : Nat → Prop} {hI h : Gh} {ρ : Rn} {H : Hp} {w : World}

theorem Sim.lt (hS : Sim w0 M0 hI h ρ H w) {b : Nat} {o : Obj} (hb : h b = some o) : b < w.heap.size := (Array.getElem?_eq_some_iff.1 (hS.imm b o hb)).1
theorem Sim.new_none (hS : Sim w0 M0 hI h ρ H w) : h w.heap.size = none := by
  cases hh : h w.heap.size with
  | none => rfl
  | some o => have := hS.lt hh; omega
theorem Sim.fresh (hS : Sim w0 M0 hI h ρ H w) {i n : Nat} (hi : H.length ≤ i) : ρ i n = none := by
  cases hh : ρ i n with
  | none => rfl
  | some x => have := hS.dom _ _ _ hh; omega
theorem Sim.live_lt (hS : Sim w0 M0 hI h ρ H w) {i : Nat} (hl : (hget H i).live = true) : i < H.length := by
  rcases Nat.lt_or_ge i H.length with h1 | h1
  · exact h1
  · rw [hget_ge _ _ h1] at hl; cases hl

theorem alloc_old (w : World) (o : Obj) {b : Nat} (hb : b < w.heap.size) : (w.alloc o).heap[b]? = w.heap[b]? := by
  show (w.heap.push o)[b]? = _
  rw [Array.getElem?_push, if_neg (by omega)]
theorem alloc_new (w : World) (o : Obj) : (w.alloc o).heap[w.heap.size]? = some o := by
  show (w.heap.push o)[w.heap.size]? = some o
  simp

/-- A draw. -/
theorem Sim.drew (hS : Sim w0 M0 hI h ρ H w) : Sim w0 M0 hI h ρ H w.drew where
  os := hS.os
  tape := hS.tape
  output := hS.output
  size := hS.size
  imm := hS.imm
  blk := fun i => (hS.blk i).mono (.refl _) (.refl _) fun b x _ _ hn => ⟨rfl, hn⟩
  own := hS.own
  inj := hS.inj
  dom := hS.dom
  ver := hS.ver
  keep := hS.keep
  frame := hS.frame

/-- A new block that is written no more. -/
theorem Sim.pushImm (hS : Sim w0 M0 hI h ρ H w) (o : Obj) : GLe h (h.set w.heap.size o) ∧ Sim w0 M0 hI (h.set w.heap.size o) ρ H (w.alloc o) := by
  have hn := hS.new_none
  refine ⟨Gh.le_set hn, ?_⟩
  have hlt : ∀ i b x, (hget H i).live = true → ρ i (hget H i).n = some (b, x) → b < w.heap.size := by
    intro i b x hl hb
    obtain ⟨b', x', h1, _, h3⟩ := (hS.blk i).lies hl
    rw [hb] at h1
    cases h1
    exact h3
  exact {
    os := hS.os
    tape := hS.tape
    output := hS.output
    size := by have := hS.size; simp; omega
    imm := by
      intro b p hp
      simp only [Gh.set] at hp
      split at hp
      · rename_i e; subst e; cases hp; exact alloc_new _ _
      · show (w.alloc o).heap[b]? = _
        rw [alloc_old _ _ (hS.lt hp)]; exact hS.imm _ _ hp
    blk := fun i => (hS.blk i).mono (Gh.le_set hn) (.refl _) fun b x hl hb hnone => by
      have := hlt i b x hl hb
      refine ⟨alloc_old _ _ this, ?_⟩
      simp only [Gh.set]
      rw [if_neg (by omega)]
      exact hnone
    own := hS.own
    inj := hS.inj
    dom := hS.dom
    ver := hS.ver
    keep := fun b hb hm => by
      simp only [Gh.set]
      rw [if_neg (by have := hS.size; omega)]
      exact hS.keep b hb hm
    frame := fun b hb hm => by rw [alloc_old _ _ (by have := hS.size; omega)]; exact hS.frame b hb hm }

/-- A new block of the call's own. -/
theorem Sim.push (hS : Sim w0 M0 hI h ρ H w) (o : Obj) (bl : Blk) (x : Nat × Nat) (hb : RelB h (ρ.set H.length bl.n (w.heap.size, x)) H.length (w.alloc o) bl) :
    RLe ρ (ρ.set H.length bl.n (w.heap.size, x)) ∧ Sim w0 M0 hI h (ρ.set H.length bl.n (w.heap.size, x)) (H ++ [bl]) (w.alloc o) := by
  have hf : ∀ n, ρ H.length n = none := fun n => hS.fresh (Nat.le_refl _)
  have hle : RLe ρ (ρ.set H.length bl.n (w.heap.size, x)) := Rn.le_set (.inl (hf _))
  refine ⟨hle, ?_⟩
  have hlt : ∀ i b x, (hget H i).live = true → ρ i (hget H i).n = some (b, x) → b < w.heap.size := by
    intro i b x hl hb
    obtain ⟨b', x', h1, _, h3⟩ := (hS.blk i).lies hl
    rw [hb] at h1
    cases h1
    exact h3
  have hold : ∀ i n, i < H.length → (ρ.set H.length bl.n (w.heap.size, x)) i n = ρ i n := fun i n hi => Rn.set_ne _ _ (by omega)
  have hcase : ∀ i, (hget (H ++ [bl]) i).live = true → (i < H.length ∧ hget (H ++ [bl]) i = hget H i) ∨ (i = H.length ∧ hget (H ++ [bl]) i = bl) := by
    intro i hl
    rw [hget_app] at hl ⊢
    split
    · exact .inl ⟨by assumption, rfl⟩
    · rename_i h1
      rw [if_neg h1] at hl
      split
      · exact .inr ⟨by assumption, rfl⟩
      · rename_i h2; rw [if_neg h2] at hl; cases hl
  exact {
    os := hS.os
    tape := hS.tape
    output := hS.output
    size := by have := hS.size; simp; omega
    imm := by
      intro b p hp
      show (w.alloc o).heap[b]? = _
      rw [alloc_old _ _ (hS.lt hp)]; exact hS.imm _ _ hp
    blk := by
      intro i
      rw [hget_app]
      split
      · exact (hS.blk i).mono (.refl _) hle fun b x hl hb hnone => ⟨alloc_old _ _ (hlt i b x hl hb), hnone⟩
      · split
        · rename_i h1 h2; subst h2; exact hb
        · trivial
    own := by
      intro i b y hl hy
      rcases hcase i hl with ⟨hi, he⟩ | ⟨hi, he⟩
      · rw [he] at hl hy
        rw [hold _ _ hi] at hy
        exact hS.own i b y hl hy
      · subst hi
        rw [he, Rn.set_same] at hy
        cases hy
        exact .inr hS.size
    inj := by
      intro i j b y z hij hi hj hy
      rcases hcase i hi with ⟨hi', he⟩ | ⟨hi', he⟩ <;> rcases hcase j hj with ⟨hj', he'⟩ | ⟨hj', he'⟩
      · rw [he] at hi hy
        rw [he'] at hj ⊢
        rw [hold _ _ hi'] at hy
        rw [hold _ _ hj']
        exact hS.inj i j b y z hij hi hj hy
      · rw [he] at hi hy
        rw [hold _ _ hi'] at hy
        have := hlt i b y hi hy
        subst hj'
        rw [he', Rn.set_same]
        intro e
        cases e
        omega
      · subst hi'
        rw [he, Rn.set_same] at hy
        cases hy
        rw [he'] at hj ⊢
        rw [hold _ _ hj']
        intro e
        have := hlt j _ z hj e
        omega
      · omega
    dom := by
      intro i n y hy
      simp only [List.length_append, List.length_cons, List.length_nil]
      by_cases hc : i = H.length ∧ n = bl.n
      · omega
      · rw [Rn.set_ne _ _ (by omega)] at hy
        have := hS.dom _ _ _ hy
        omega
    ver := by
      intro i sz ag ds hd n y hy
      rw [hget_app] at hd
      split at hd
      · rename_i hi
        rw [hold _ _ hi] at hy
        exact hS.ver i sz ag ds hd n y hy
      · split at hd
        · rename_i h1 h2
          subst h2
          subst hd
          by_cases hc : n = ds.length
          · omega
          · rw [Rn.set_ne _ _ (.inr (by simp [Blk.n]; exact hc))] at hy
            rw [hf] at hy
            cases hy
        · cases hd
    keep := hS.keep
    frame := fun b hb hm => by rw [alloc_old _ _ (by have := hS.size; omega)]; exact hS.frame b hb hm }

/-- Block i is written: its memory is w's block b (where it was), or a new one. -/
theorem Sim.write (hS : Sim w0 M0 hI h ρ H w) {i : Nat} {bl' : Blk} {w' : World} {b : Nat} {x x' : Nat × Nat} (hl : (hget H i).live = true) (hb : ρ i (hget H i).n = some (b, x)) (hl' : bl'.live = true) (hver : ∀ sz ag ds, bl' = .row sz ag ds → ∀ n x, ρ i n = some x → n ≤ ds.length)
    (hn : ρ i bl'.n = none ∨ ρ i bl'.n = some (b, x')) (hos : w'.os = w.os) (htape : w'.tape = w.tape) (hout : w'.output = w.output) (hsize : w'.heap.size = w.heap.size)
    (hother : ∀ c, c ≠ b → w'.heap[c]? = w.heap[c]?) (hrel : RelB h (ρ.set i bl'.n (b, x')) i w' bl') :
    RLe ρ (ρ.set i bl'.n (b, x')) ∧ Sim w0 M0 hI h (ρ.set i bl'.n (b, x')) (hset H i bl') w' := by
  have hle : RLe ρ (ρ.set i bl'.n (b, x')) := Rn.le_set hn
  refine ⟨hle, ?_⟩
  have hil := hS.live_lt hl
  obtain ⟨b1, x1, h1, hbn, hblt⟩ := (hS.blk i).lies hl
  rw [hb] at h1
  cases h1
  have hne : ∀ j, j ≠ i → hget (hset H i bl') j = hget H j := fun j hj => by rw [hget_set, if_neg (by omega)]
  have hsame : hget (hset H i bl') i = bl' := by rw [hget_set, if_pos ⟨rfl, hil⟩]
  have hold : ∀ j n, j ≠ i → (ρ.set i bl'.n (b, x')) j n = ρ j n := fun j n hj => Rn.set_ne _ _ (by omega)
  exact {
    os := hos.trans hS.os
    tape := htape.trans hS.tape
    output := hout.trans hS.output
    size := by rw [hsize]; exact hS.size
    imm := by
      intro c p hp
      show w'.heap[c]? = _
      rw [hother c (fun e => by subst e; rw [hbn] at hp; cases hp)]
      exact hS.imm _ _ hp
    blk := by
      intro j
      by_cases hj : j = i
      · subst hj; rw [hsame]; exact hrel
      · rw [hne j hj]
        refine (hS.blk j).mono (.refl _) hle fun c y hlj hc hnone => ⟨hother c (fun e => ?_), hnone⟩
        subst e
        exact hS.inj j i c y x hj hlj hl hc hb
    own := by
      intro j c y hlj hc
      by_cases hj : j = i
      · subst hj
        rw [hsame, Rn.set_same] at hc
        cases hc
        exact hS.own j b x hl hb
      · rw [hne j hj] at hlj hc
        rw [hold j _ hj] at hc
        exact hS.own j c y hlj hc
    inj := by
      intro j k c y z hjk hlj hlk hc
      by_cases hj : j = i
      · subst hj
        rw [hsame, Rn.set_same] at hc
        cases hc
        rw [hne k (Ne.symm hjk)] at hlk ⊢
        rw [hold k _ (Ne.symm hjk)]
        exact hS.inj j k b x z hjk hl hlk hb
      · rw [hne j hj] at hlj hc
        rw [hold j _ hj] at hc
        by_cases hk : k = i
        · subst hk
          rw [hsame, Rn.set_same]
          intro e
          cases e
          exact hS.inj j k b y x hjk hlj hl hc hb
        · rw [hne k hk] at hlk ⊢
          rw [hold k _ hk]
          exact hS.inj j k c y z hjk hlj hlk hc
    dom := by
      intro j n y hy
      rw [hset_len]
      by_cases hc : j = i ∧ n = bl'.n
      · omega
      · rw [Rn.set_ne _ _ (by omega)] at hy
        exact hS.dom _ _ _ hy
    ver := by
      intro j sz ag ds hd n y hy
      by_cases hj : j = i
      · subst hj
        rw [hsame] at hd
        subst hd
        by_cases hc : n = ds.length
        · omega
        · rw [Rn.set_ne _ _ (.inr (by simp [Blk.n]; exact hc))] at hy
          exact hver sz ag ds rfl n y hy
      · rw [hne j hj] at hd
        rw [hold j _ hj] at hy
        exact hS.ver j sz ag ds hd n y hy
    keep := hS.keep
    frame := by
      intro c hc hm
      rw [hother c ?_]
      · exact hS.frame c hc hm
      · intro e
        subst e
        rcases hS.own i c x hl hb with h1 | h1
        · exact hm h1
        · omega }

/-- Row i goes to a new block. -/
theorem Sim.move (hS : Sim w0 M0 hI h ρ H w) {i : Nat} {bl' : Blk} {o : Obj} {x' : Nat × Nat} (hl : (hget H i).live = true) (hl' : bl'.live = true) (hver : ∀ sz ag ds, bl' = .row sz ag ds → ∀ n x, ρ i n = some x → n ≤ ds.length) (hn : ρ i bl'.n = none)
    (hrel : RelB h (ρ.set i bl'.n (w.heap.size, x')) i (w.alloc o) bl') :
    RLe ρ (ρ.set i bl'.n (w.heap.size, x')) ∧ Sim w0 M0 hI h (ρ.set i bl'.n (w.heap.size, x')) (hset H i bl') (w.alloc o) := by
  have hle : RLe ρ (ρ.set i bl'.n (w.heap.size, x')) := Rn.le_set (.inl hn)
  refine ⟨hle, ?_⟩
  have hil := hS.live_lt hl
  have hlt : ∀ i b x, (hget H i).live = true → ρ i (hget H i).n = some (b, x) → b < w.heap.size := by
    intro i b x hl hb
    obtain ⟨b', x', h1, _, h3⟩ := (hS.blk i).lies hl
    rw [hb] at h1
    cases h1
    exact h3
  have hne : ∀ j, j ≠ i → hget (hset H i bl') j = hget H j := fun j hj => by rw [hget_set, if_neg (by omega)]
  have hsame : hget (hset H i bl') i = bl' := by rw [hget_set, if_pos ⟨rfl, hil⟩]
  have hold : ∀ j n, j ≠ i → (ρ.set i bl'.n (w.heap.size, x')) j n = ρ j n := fun j n hj => Rn.set_ne _ _ (by omega)
  exact {
    os := hS.os
    tape := hS.tape
    output := hS.output
    size := by have := hS.size; simp; omega
    imm := by
      intro b p hp
      show (w.alloc o).heap[b]? = _
      rw [alloc_old _ _ (hS.lt hp)]; exact hS.imm _ _ hp
    blk := by
      intro j
      by_cases hj : j = i
      · subst hj; rw [hsame]; exact hrel
      · rw [hne j hj]
        exact (hS.blk j).mono (.refl _) hle fun b x hl hb hnone => ⟨alloc_old _ _ (hlt j b x hl hb), hnone⟩
    own := by
      intro j c y hlj hc
      by_cases hj : j = i
      · subst hj
        rw [hsame, Rn.set_same] at hc
        cases hc
        exact .inr hS.size
      · rw [hne j hj] at hlj hc
        rw [hold j _ hj] at hc
        exact hS.own j c y hlj hc
    inj := by
      intro j k c y z hjk hlj hlk hc
      by_cases hj : j = i
      · subst hj
        rw [hsame, Rn.set_same] at hc
        cases hc
        rw [hne k (Ne.symm hjk)] at hlk ⊢
        rw [hold k _ (Ne.symm hjk)]
        intro e
        have := hlt k _ z hlk e
        omega
      · rw [hne j hj] at hlj hc
        rw [hold j _ hj] at hc
        by_cases hk : k = i
        · subst hk
          rw [hsame, Rn.set_same]
          intro e
          cases e
          have := hlt j _ y hlj hc
          omega
        · rw [hne k hk] at hlk ⊢
          rw [hold k _ hk]
          exact hS.inj j k c y z hjk hlj hlk hc
    dom := by
      intro j n y hy
      rw [hset_len]
      by_cases hc : j = i ∧ n = bl'.n
      · omega
      · rw [Rn.set_ne _ _ (by omega)] at hy
        exact hS.dom _ _ _ hy
    ver := by
      intro j sz ag ds hd n y hy
      by_cases hj : j = i
      · subst hj
        rw [hsame] at hd
        subst hd
        by_cases hc : n = ds.length
        · omega
        · rw [Rn.set_ne _ _ (.inr (by simp [Blk.n]; exact hc))] at hy
          exact hver sz ag ds rfl n y hy
      · rw [hne j hj] at hd
        rw [hold j _ hj] at hy
        exact hS.ver j sz ag ds hd n y hy
    keep := hS.keep
    frame := fun b hb hm => by rw [alloc_old _ _ (by have := hS.size; omega)]; exact hS.frame b hb hm }
end
end Go.Lv
