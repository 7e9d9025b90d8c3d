/- LvI: how a heap and memory go on together. -/
import Derived.Test.YtokogblpdbgkgaaDoorNv2
import Derived.Laws.Append
import Derived.Laws.MakeOwn
namespace Go.Lv
open Go
set_option linter.unusedVariables false
set_option linter.unusedSimpArgs false

def Rn.set (ρ : Rn) (i n : Nat) (x : Nat × Nat × Nat) : Rn := fun j m => if j = i ∧ m = n then some x else ρ j m
def Gh.set (h : Gh) (b : Nat) (o : Obj) : Gh := fun c => if c = b then some o else h c

theorem Rn.set_same (ρ : Rn) (i n : Nat) (x) : (ρ.set i n x) i n = some x := by simp [Rn.set]
theorem Rn.set_ne (ρ : Rn) {i n j m : Nat} (x) (hne : j ≠ i ∨ m ≠ n) : (ρ.set i n x) j m = ρ j m := by
  simp only [Rn.set]
  rw [if_neg (by omega)]
theorem Rn.le_set {ρ : Rn} {i n : Nat} {x} (hn : ρ i n = none ∨ ρ i n = some x) : RLe ρ (ρ.set i n x) := by
  intro j m y hy
  by_cases hc : j = i ∧ m = n
  · obtain ⟨rfl, rfl⟩ := hc
    rcases hn with hn | hn
    · rw [hn] at hy; cases hy
    · rw [hn] at hy; cases hy; exact Rn.set_same _ _ _ _
  · rw [Rn.set_ne _ _ (by omega)]; exact hy
theorem Gh.le_set {h : Gh} {b : Nat} {o : Obj} (hn : h b = none) : GLe h (h.set b o) := by
  intro c p hp
  simp only [Gh.set]
  split
  · rename_i e; subst e; rw [hn] at hp; cases hp
  · exact hp

theorem hget_app : ∀ (H : Hp) (b : Blk) (i : Nat), hget (H ++ [b]) i = if i < H.length then hget H i else if i = H.length then b else .dead
  | [], b, 0 => rfl
  | [], b, i + 1 => by simp [hget]
  | a :: H, b, 0 => by simp [hget]
  | a :: H, b, i + 1 => by
    simp only [List.cons_append, hget, List.length_cons]
    rw [hget_app H b i]
    simp only [Nat.add_lt_add_iff_right, Nat.add_right_cancel_iff]
theorem hget_ge : ∀ (H : Hp) (i : Nat), H.length ≤ i → hget H i = .dead
  | [], i, _ => by simp [hget]
  | a :: H, 0, hl => by simp at hl
  | a :: H, i + 1, hl => by simp only [hget]; exact hget_ge H i (by simpa using hl)
theorem hget_set : ∀ (H : Hp) (i j : Nat) (b : Blk), hget (hset H i b) j = if j = i ∧ i < H.length then b else hget H j
  | [], i, j, b => by simp [hset]
  | a :: H, 0, 0, b => by simp [hset, hget]
  | a :: H, 0, j + 1, b => by simp [hset, hget]
  | a :: H, i + 1, 0, b => by simp [hset, hget]
  | a :: H, i + 1, j + 1, b => by
    simp only [hset, hget, List.length_cons]
    rw [hget_set H i j b]
    simp only [Nat.add_lt_add_iff_right, Nat.add_right_cancel_iff]
theorem hset_len : ∀ (H : Hp) (i : Nat) (b : Blk), (hset H i b).length = H.length
  | [], i, b => rfl
  | a :: H, 0, b => rfl
  | a :: H, i + 1, b => by simp [hset, hset_len H i b]

theorem RelB.mono {h h' : Gh} {ρ ρ' : Rn} {i : Nat} {w w' : World} {bl : Blk} (r : RelB h ρ i w bl) (hh : GLe h h') (hρ : RLe ρ ρ')
    (hw : ∀ b x, bl.live = true → ρ i bl.n = some (b, x) → h b = none → w'.heap[b]? = w.heap[b]? ∧ h' b = none) : RelB h' ρ' i w' bl := by
  cases bl with
  | var ds =>
    obtain ⟨b, c, s, cs, e, fz, a1, a2, a3, a4, a5, a6, a7⟩ := r
    obtain ⟨k1, k2⟩ := hw b _ rfl a1 a2
    exact ⟨b, c, s, cs, e, fz, hρ _ _ _ a1, k2, by rw [k1]; exact a3, a4, a5, a6.mono hh hρ, a7⟩
  | row sz ag ds =>
    obtain ⟨b, c, cs, e, fz, a1, a2, a3, a4, a5, a6, a7⟩ := r
    obtain ⟨k1, k2⟩ := hw b _ rfl a1 a2
    exact ⟨b, c, cs, e, fz, hρ _ _ _ a1, k2, by rw [k1]; exact a3, a4, a5, a6.mono hh hρ, a7⟩
  | frz sz ag ds =>
    obtain ⟨b, c, s, cs, e, fz, a1, a2, a3⟩ := r
    exact ⟨b, c, s, cs, e, fz, hρ _ _ _ a1, hh _ _ a2, a3.mono hh hρ⟩
  | iter s pos =>
    obtain ⟨b, c, z, bs, a1, a2, a3, a4⟩ := r
    obtain ⟨k1, k2⟩ := hw b _ rfl a1 a2
    exact ⟨b, c, z, bs, hρ _ _ _ a1, k2, a3, by rw [k1]; exact a4⟩
  | rng ts ps asg body st =>
    obtain ⟨b, x, r', a1, a2, a3, a4, a5⟩ := r
    obtain ⟨k1, k2⟩ := hw b _ rfl a1 a2
    exact ⟨b, x, r', hρ _ _ _ a1, k2, by rw [k1]; exact a3, a4.mono hh hρ, a5⟩
  | map es =>
    obtain ⟨b, x, l, c, a1, a2, a3, a4⟩ := r
    obtain ⟨k1, k2⟩ := hw b _ rfl a1 a2
    exact ⟨b, x, l, c, hρ _ _ _ a1, k2, by rw [k1]; exact a3, a4.mono hh hρ⟩
  | dead => trivial

/-- Where a live block lies. -/
theorem RelB.lies {h : Gh} {ρ : Rn} {i : Nat} {w : World} {bl : Blk} (r : RelB h ρ i w bl) (hl : bl.live = true) : ∃ b x, ρ i bl.n = some (b, x) ∧ h b = none ∧ b < w.heap.size := by
  have lt : ∀ {b o}, w.heap[b]? = some o → b < w.heap.size := fun e => (Array.getElem?_eq_some_iff.1 e).1
  cases bl with
  | var ds => obtain ⟨b, c, s, cs, e, fz, a1, a2, a3, _⟩ := r; exact ⟨b, _, a1, a2, lt a3⟩
  | row sz ag ds => obtain ⟨b, c, cs, e, fz, a1, a2, a3, _⟩ := r; exact ⟨b, _, a1, a2, lt a3⟩
  | iter s pos => obtain ⟨b, c, z, bs, a1, a2, a3, a4⟩ := r; exact ⟨b, _, a1, a2, lt a4⟩
  | rng ts ps asg body st => obtain ⟨b, x, r', a1, a2, a3, _⟩ := r; exact ⟨b, _, a1, a2, lt a3⟩
  | map es => obtain ⟨b, x, l, c, a1, a2, a3, _⟩ := r; exact ⟨b, _, a1, a2, lt a3⟩
  | frz => cases hl
  | dead => cases hl

section
variable {w0 : World} {M0 : Nat → Prop} {hI h : Gh} {ρ : Rn} {H : Hp} {w : World}

theorem Sim.lt (hS : Sim w0 M0 hI h ρ H w) {b : Nat} {o : Obj} (hb : h b = some o) : b < w.heap.size := (Array.getElem?_eq_some_iff.1 (hS.imm b o hb)).1
theorem Sim.new_none (hS : Sim w0 M0 hI h ρ H w) : h w.heap.size = none := by
  cases hh : h w.heap.size with
  | none => rfl
  | some o => have := hS.lt hh; omega
theorem Sim.fresh (hS : Sim w0 M0 hI h ρ H w) {i n : Nat} (hi : H.length ≤ i) : ρ i n = none := by
  cases hh : ρ i n with
  | none => rfl
  | some x => have := hS.dom _ _ _ hh; omega
theorem Sim.live_lt (hS : Sim w0 M0 hI h ρ H w) {i : Nat} (hl : (hget H i).live = true) : i < H.length := by
  rcases Nat.lt_or_ge i H.length with h1 | h1
  · exact h1
  · rw [hget_ge _ _ h1] at hl; cases hl

theorem alloc_old (w : World) (o : Obj) {b : Nat} (hb : b < w.heap.size) : (w.alloc o).heap[b]? = w.heap[b]? := by
  show (w.heap.push o)[b]? = _
  rw [Array.getElem?_push, if_neg (by omega)]
theorem alloc_new (w : World) (o : Obj) : (w.alloc o).heap[w.heap.size]? = some o := by
  show (w.heap.push o)[w.heap.size]? = some o
  simp

/-- A draw. -/
theorem Sim.drew (hS : Sim w0 M0 hI h ρ H w) : Sim w0 M0 hI h ρ H w.drew where
  os := hS.os
  tape := hS.tape
  output := hS.output
  size := hS.size
  imm := hS.imm
  blk := fun i => (hS.blk i).mono (.refl _) (.refl _) fun b x _ _ hn => ⟨rfl, hn⟩
  own := hS.own
  inj := hS.inj
  dom := hS.dom
  ver := hS.ver
  keep := hS.keep
  frame := hS.frame

/-- A new block that is written no more. -/
theorem Sim.pushImm (hS : Sim w0 M0 hI h ρ H w) (o : Obj) : GLe h (h.set w.heap.size o) ∧ Sim w0 M0 hI (h.set w.heap.size o) ρ H (w.alloc o) := by
  have hn := hS.new_none
  refine ⟨Gh.le_set hn, ?_⟩
  have hlt : ∀ i b x, (hget H i).live = true → ρ i (hget H i).n = some (b, x) → b < w.heap.size := by
    intro i b x hl hb
    obtain ⟨b', x', h1, _, h3⟩ := (hS.blk i).lies hl
    rw [hb] at h1
    cases h1
    exact h3
  exact {
    os := hS.os
    tape := hS.tape
    output := hS.output
    size := by have := hS.size; simp; omega
    imm := by
      intro b p hp
      simp only [Gh.set] at hp
      split at hp
      · rename_i e; subst e; cases hp; exact alloc_new _ _
      · show (w.alloc o).heap[b]? = _
        rw [alloc_old _ _ (hS.lt hp)]; exact hS.imm _ _ hp
    blk := fun i => (hS.blk i).mono (Gh.le_set hn) (.refl _) fun b x hl hb hnone => by
      have := hlt i b x hl hb
      refine ⟨alloc_old _ _ this, ?_⟩
      simp only [Gh.set]
      rw [if_neg (by omega)]
      exact hnone
    own := hS.own
    inj := hS.inj
    dom := hS.dom
    ver := hS.ver
    keep := fun b hb hm => by
      simp only [Gh.set]
      rw [if_neg (by have := hS.size; omega)]
      exact hS.keep b hb hm
    frame := fun b hb hm => by rw [alloc_old _ _ (by have := hS.size; omega)]; exact hS.frame b hb hm }

/-- A new block of the call's own. -/
theorem Sim.push (hS : Sim w0 M0 hI h ρ H w) (o : Obj) (bl : Blk) (x : Nat × Nat) (hb : RelB h (ρ.set H.length bl.n (w.heap.size, x)) H.length (w.alloc o) bl) :
    RLe ρ (ρ.set H.length bl.n (w.heap.size, x)) ∧ Sim w0 M0 hI h (ρ.set H.length bl.n (w.heap.size, x)) (H ++ [bl]) (w.alloc o) := by
  have hf : ∀ n, ρ H.length n = none := fun n => hS.fresh (Nat.le_refl _)
  have hle : RLe ρ (ρ.set H.length bl.n (w.heap.size, x)) := Rn.le_set (.inl (hf _))
  refine ⟨hle, ?_⟩
  have hlt : ∀ i b x, (hget H i).live = true → ρ i (hget H i).n = some (b, x) → b < w.heap.size := by
    intro i b x hl hb
    obtain ⟨b', x', h1, _, h3⟩ := (hS.blk i).lies hl
    rw [hb] at h1
    cases h1
    exact h3
  have hold : ∀ i n, i < H.length → (ρ.set H.length bl.n (w.heap.size, x)) i n = ρ i n := fun i n hi => Rn.set_ne _ _ (by omega)
  have hcase : ∀ i, (hget (H ++ [bl]) i).live = true → (i < H.length ∧ hget (H ++ [bl]) i = hget H i) ∨ (i = H.length ∧ hget (H ++ [bl]) i = bl) := by
    intro i hl
    rw [hget_app] at hl ⊢
    split
    · exact .inl ⟨by assumption, rfl⟩
    · rename_i h1
      rw [if_neg h1] at hl
      split
      · exact .inr ⟨by assumption, rfl⟩
      · rename_i h2; rw [if_neg h2] at hl; cases hl
  exact {
    os := hS.os
    tape := hS.tape
    output := hS.output
    size := by have := hS.size; simp; omega
    imm := by
      intro b p hp
      show (w.alloc o).heap[b]? = _
      rw [alloc_old _ _ (hS.lt hp)]; exact hS.imm _ _ hp
    blk := by
      intro i
      rw [hget_app]
      split
      · exact (hS.blk i).mono (.refl _) hle fun b x hl hb hnone => ⟨alloc_old _ _ (hlt i b x hl hb), hnone⟩
      · split
        · rename_i h1 h2; subst h2; exact hb
        · trivial
    own := by
      intro i b y hl hy
      rcases hcase i hl with ⟨hi, he⟩ | ⟨hi, he⟩
      · rw [he] at hl hy
        rw [hold _ _ hi] at hy
        exact hS.own i b y hl hy
      · subst hi
        rw [he, Rn.set_same] at hy
        cases hy
        exact .inr hS.size
    inj := by
      intro i j b y z hij hi hj hy
      rcases hcase i hi with ⟨hi', he⟩ | ⟨hi', he⟩ <;> rcases hcase j hj with ⟨hj', he'⟩ | ⟨hj', he'⟩
      · rw [he] at hi hy
        rw [he'] at hj ⊢
        rw [hold _ _ hi'] at hy
        rw [hold _ _ hj']
        exact hS.inj i j b y z hij hi hj hy
      · rw [he] at hi hy
        rw [hold _ _ hi'] at hy
        have := hlt i b y hi hy
        subst hj'
        rw [he', Rn.set_same]
        intro e
        cases e
        omega
      · subst hi'
        rw [he, Rn.set_same] at hy
        cases hy
        rw [he'] at hj ⊢
        rw [hold _ _ hj']
        intro e
        have := hlt j _ z hj e
        omega
      · omega
    dom := by
      intro i n y hy
      simp only [List.length_append, List.length_cons, List.length_nil]
      by_cases hc : i = H.length ∧ n = bl.n
      · omega
      · rw [Rn.set_ne _ _ (by omega)] at hy
        have := hS.dom _ _ _ hy
        omega
    ver := by
      intro i sz ag ds hd n y hy
      rw [hget_app] at hd
      split at hd
      · rename_i hi
        rw [hold _ _ hi] at hy
        exact hS.ver i sz ag ds hd n y hy
      · split at hd
        · rename_i h1 h2
          subst h2
          subst hd
          by_cases hc : n = ds.length
          · omega
          · rw [Rn.set_ne _ _ (.inr (by simp [Blk.n]; exact hc))] at hy
            rw [hf] at hy
            cases hy
        · cases hd
    keep := hS.keep
    frame := fun b hb hm => by rw [alloc_old _ _ (by have := hS.size; omega)]; exact hS.frame b hb hm }

/-- Block i is written: its memory is w's block b (where it was), or a new one. -/
theorem Sim.write (hS : Sim w0 M0 hI h ρ H w) {i : Nat} {bl' : Blk} {w' : World} {b : Nat} {x x' : Nat × Nat} (hl : (hget H i).live = true) (hb : ρ i (hget H i).n = some (b, x)) (hl' : bl'.live = true) (hver : ∀ sz ag ds, bl' = .row sz ag ds → ∀ n x, ρ i n = some x → n ≤ ds.length)
    (hn : ρ i bl'.n = none ∨ ρ i bl'.n = some (b, x')) (hos : w'.os = w.os) (htape : w'.tape = w.tape) (hout : w'.output = w.output) (hsize : w'.heap.size = w.heap.size)
    (hother : ∀ c, c ≠ b → w'.heap[c]? = w.heap[c]?) (hrel : RelB h (ρ.set i bl'.n (b, x')) i w' bl') :
    RLe ρ (ρ.set i bl'.n (b, x')) ∧ Sim w0 M0 hI h (ρ.set i bl'.n (b, x')) (hset H i bl') w' := by
  have hle : RLe ρ (ρ.set i bl'.n (b, x')) := Rn.le_set hn
  refine ⟨hle, ?_⟩
  have hil := hS.live_lt hl
  obtain ⟨b1, x1, h1, hbn, hblt⟩ := (hS.blk i).lies hl
  rw [hb] at h1
  cases h1
  have hne : ∀ j, j ≠ i → hget (hset H i bl') j = hget H j := fun j hj => by rw [hget_set, if_neg (by omega)]
  have hsame : hget (hset H i bl') i = bl' := by rw [hget_set, if_pos ⟨rfl, hil⟩]
  have hold : ∀ j n, j ≠ i → (ρ.set i bl'.n (b, x')) j n = ρ j n := fun j n hj => Rn.set_ne _ _ (by omega)
  exact {
    os := hos.trans hS.os
    tape := htape.trans hS.tape
    output := hout.trans hS.output
    size := by rw [hsize]; exact hS.size
    imm := by
      intro c p hp
      show w'.heap[c]? = _
      rw [hother c (fun e => by subst e; rw [hbn] at hp; cases hp)]
      exact hS.imm _ _ hp
    blk := by
      intro j
      by_cases hj : j = i
      · subst hj; rw [hsame]; exact hrel
      · rw [hne j hj]
        refine (hS.blk j).mono (.refl _) hle fun c y hlj hc hnone => ⟨hother c (fun e => ?_), hnone⟩
        subst e
        exact hS.inj j i c y x hj hlj hl hc hb
    own := by
      intro j c y hlj hc
      by_cases hj : j = i
      · subst hj
        rw [hsame, Rn.set_same] at hc
        cases hc
        exact hS.own j b x hl hb
      · rw [hne j hj] at hlj hc
        rw [hold j _ hj] at hc
        exact hS.own j c y hlj hc
    inj := by
      intro j k c y z hjk hlj hlk hc
      by_cases hj : j = i
      · subst hj
        rw [hsame, Rn.set_same] at hc
        cases hc
        rw [hne k (Ne.symm hjk)] at hlk ⊢
        rw [hold k _ (Ne.symm hjk)]
        exact hS.inj j k b x z hjk hl hlk hb
      · rw [hne j hj] at hlj hc
        rw [hold j _ hj] at hc
        by_cases hk : k = i
        · subst hk
          rw [hsame, Rn.set_same]
          intro e
          cases e
          exact hS.inj j k b y x hjk hlj hl hc hb
        · rw [hne k hk] at hlk ⊢
          rw [hold k _ hk]
          exact hS.inj j k c y z hjk hlj hlk hc
    dom := by
      intro j n y hy
      rw [hset_len]
      by_cases hc : j = i ∧ n = bl'.n
      · omega
      · rw [Rn.set_ne _ _ (by omega)] at hy
        exact hS.dom _ _ _ hy
    ver := by
      intro j sz ag ds hd n y hy
      by_cases hj : j = i
      · subst hj
        rw [hsame] at hd
        subst hd
        by_cases hc : n = ds.length
        · omega
        · rw [Rn.set_ne _ _ (.inr (by simp [Blk.n]; exact hc))] at hy
          exact hver sz ag ds rfl n y hy
      · rw [hne j hj] at hd
        rw [hold j _ hj] at hy
        exact hS.ver j sz ag ds hd n y hy
    keep := hS.keep
    frame := by
      intro c hc hm
      rw [hother c ?_]
      · exact hS.frame c hc hm
      · intro e
        subst e
        rcases hS.own i c x hl hb with h1 | h1
        · exact hm h1
        · omega }

/-- Row i goes to a new block. -/
theorem Sim.move (hS : Sim w0 M0 hI h ρ H w) {i : Nat} {bl' : Blk} {o : Obj} {x' : Nat × Nat} (hl : (hget H i).live = true) (hl' : bl'.live = true) (hver : ∀ sz ag ds, bl' = .row sz ag ds → ∀ n x, ρ i n = some x → n ≤ ds.length) (hn : ρ i bl'.n = none)
    (hrel : RelB h (ρ.set i bl'.n (w.heap.size, x')) i (w.alloc o) bl') :
    RLe ρ (ρ.set i bl'.n (w.heap.size, x')) ∧ Sim w0 M0 hI h (ρ.set i bl'.n (w.heap.size, x')) (hset H i bl') (w.alloc o) := by
  have hle : RLe ρ (ρ.set i bl'.n (w.heap.size, x')) := Rn.le_set (.inl hn)
  refine ⟨hle, ?_⟩
  have hil := hS.live_lt hl
  have hlt : ∀ i b x, (hget H i).live = true → ρ i (hget H i).n = some (b, x) → b < w.heap.size := by
    intro i b x hl hb
    obtain ⟨b', x', h1, _, h3⟩ := (hS.blk i).lies hl
    rw [hb] at h1
    cases h1
    exact h3
  have hne : ∀ j, j ≠ i → hget (hset H i bl') j = hget H j := fun j hj => by rw [hget_set, if_neg (by omega)]
  have hsame : hget (hset H i bl') i = bl' := by rw [hget_set, if_pos ⟨rfl, hil⟩]
  have hold : ∀ j n, j ≠ i → (ρ.set i bl'.n (w.heap.size, x')) j n = ρ j n := fun j n hj => Rn.set_ne _ _ (by omega)
  exact {
    os := hS.os
    tape := hS.tape
    output := hS.output
    size := by have := hS.size; simp; omega
    imm := by
      intro b p hp
      show (w.alloc o).heap[b]? = _
      rw [alloc_old _ _ (hS.lt hp)]; exact hS.imm _ _ hp
    blk := by
      intro j
      by_cases hj : j = i
      · subst hj; rw [hsame]; exact hrel
      · rw [hne j hj]
        exact (hS.blk j).mono (.refl _) hle fun b x hl hb hnone => ⟨alloc_old _ _ (hlt j b x hl hb), hnone⟩
    own := by
      intro j c y hlj hc
      by_cases hj : j = i
      · subst hj
        rw [hsame, Rn.set_same] at hc
        cases hc
        exact .inr hS.size
      · rw [hne j hj] at hlj hc
        rw [hold j _ hj] at hc
        exact hS.own j c y hlj hc
    inj := by
      intro j k c y z hjk hlj hlk hc
      by_cases hj : j = i
      · subst hj
        rw [hsame, Rn.set_same] at hc
        cases hc
        rw [hne k (Ne.symm hjk)] at hlk ⊢
        rw [hold k _ (Ne.symm hjk)]
        intro e
        have := hlt k _ z hlk e
        omega
      · rw [hne j hj] at hlj hc
        rw [hold j _ hj] at hc
        by_cases hk : k = i
        · subst hk
          rw [hsame, Rn.set_same]
          intro e
          cases e
          have := hlt j _ y hlj hc
          omega
        · rw [hne k hk] at hlk ⊢
          rw [hold k _ hk]
          exact hS.inj j k c y z hjk hlj hlk hc
    dom := by
      intro j n y hy
      rw [hset_len]
      by_cases hc : j = i ∧ n = bl'.n
      · omega
      · rw [Rn.set_ne _ _ (by omega)] at hy
        exact hS.dom _ _ _ hy
    ver := by
      intro j sz ag ds hd n y hy
      by_cases hj : j = i
      · subst hj
        rw [hsame] at hd
        subst hd
        by_cases hc : n = ds.length
        · omega
        · rw [Rn.set_ne _ _ (.inr (by simp [Blk.n]; exact hc))] at hy
          exact hver sz ag ds rfl n y hy
      · rw [hne j hj] at hd
        rw [hold j _ hj] at hy
        exact hS.ver j sz ag ds hd n y hy
    keep := hS.keep
    frame := fun b hb hm => by rw [alloc_old _ _ (by have := hS.size; omega)]; exact hS.frame b hb hm }
end
end Go.Lv

namespace Go.Lv
open Go
set_option linter.unusedVariables false
set_option linter.unusedSimpArgs false

/-- w' is w but for the cells of block b. -/
structure Wrote (w w' : World) (b : Nat) (cs' : Array Value) (e : TypeId) (fz : Nat × Nat) : Prop where
  os : w'.os = w.os
  tape : w'.tape = w.tape
  output : w'.output = w.output
  size : w'.heap.size = w.heap.size
  other : ∀ c, c ≠ b → w'.heap[c]? = w.heap[c]?
  at_ : w'.heap[b]? = some (.cells cs' e fz)

theorem setCell_heap (w : World) (b o : Nat) (v : Value) {cs : Array Value} {e : TypeId} {fz : Nat × Nat} (hb : w.heap[b]? = some (.cells cs e fz)) : Wrote w (w.setCell ⟨b, o, none⟩ v) b (cs.setIfInBounds o v) e fz where
  os := rfl
  tape := rfl
  output := rfl
  size := by simp
  other := by
    intro c hc
    simp only [World.setCell, Array.getElem?_modify]
    rw [if_neg (fun e => hc e.symm)]
  at_ := by
    simp only [World.setCell, Array.getElem?_modify, if_true, hb]
    rfl

theorem run_storeCells {P : Program} {b off : Nat} {e : TypeId} {fz : Nat × Nat} : ∀ (vs : List Value) (k : Nat) (cs : Array Value) (w : World), w.heap[b]? = some (.cells cs e fz) → (∀ v ∈ vs, v.oneCell' = true) → Clear cs fz → off + k + vs.length ≤ cs.size →
    ∃ w', (storeCells ⟨b, off, none⟩ vs k).run P w = .ok () w' ∧ Wrote w w' b ((vs.zipIdx k).foldl (fun cs (x : Value × Nat) => cs.setIfInBounds (off + x.2) x.1) cs) e fz
  | [], k, cs, w, hb, _, _, _ => ⟨w, rfl, rfl, rfl, rfl, rfl, fun _ _ => rfl, hb⟩
  | v :: vs, k, cs, w, hb, h1, hc, hle => by
    simp only [List.length_cons] at hle
    have hcell : w.cell? ⟨b, off + k, none⟩ = some (cs[off + k]'(by omega)) := by
      simp only [World.cell?, hb]
      simp
    have hfz : w.frozen? ⟨b, off + k, none⟩ = false := by
      have := hc (off + k) (by omega)
      simp only [World.frozen?, hb]
      simp
      omega
    have w1 := setCell_heap w b (off + k) v hb
    obtain ⟨w', h2, w2⟩ := run_storeCells (off := off) vs (k + 1) (cs.setIfInBounds (off + k) v) (w.setCell ⟨b, off + k, none⟩ v) w1.at_ (fun v hv => h1 v (by simp [hv])) (fun j hj => hc j (by simpa using hj)) (by rw [Array.size_setIfInBounds]; omega)
    refine ⟨w', ?_, ?_⟩
    · simp only [storeCells, Sem.run_bind, Addr.add_lit, run_store P w _ v _ (h1 v (by simp)), hcell, hfz, Bool.false_eq_true, if_false, Result.andThen_ok]
      exact h2
    · simp only [List.zipIdx_cons, List.foldl_cons]
      exact ⟨w2.os, w2.tape, w2.output, w2.size.trans w1.size, fun c hc => (w2.other c hc).trans (w1.other c hc), w2.at_⟩

theorem wrote_row {h : Gh} {ρ : Rn} {cs new : Array Value} {ds dn : List D} {off : Nat} (r : Row h ρ cs 0 ds) (hn : new.size = dn.length) (rn : ∀ (j : Nat) (d : D), dn[j]? = some d → ∃ u, new[j]? = some u ∧ u.oneCell' = true ∧ RelV h ρ d u)
    (hle : off + dn.length ≤ ds.length) (hds : ds.length ≤ cs.size) : Row h ρ ((new.toList.zipIdx 0).foldl (fun cs (x : Value × Nat) => cs.setIfInBounds (off + x.2) x.1) cs) 0 (splice ds off dn) := by
  intro j d hj
  rw [splice_get hle] at hj
  rw [Nat.zero_add, foldl_set _ _ _ _ (by simp; omega)]
  simp only [Nat.add_zero, Array.length_toList, hn]
  split at hj
  · rename_i h1
    rw [if_pos h1]
    obtain ⟨u, a, b⟩ := rn _ _ hj
    exact ⟨u, by simpa using a, b⟩
  · rename_i h1
    rw [if_neg h1]
    have := r j d hj
    simpa using this

theorem wrote_size {off : Nat} (l : List (Value × Nat)) (cs : Array Value) : (l.foldl (fun cs (x : Value × Nat) => cs.setIfInBounds (off + x.2) x.1) cs).size = cs.size := foldl_size l cs

/-- New cells behind old ones, within the row. -/
theorem wrote_app {h : Gh} {ρ : Rn} {cs new : Array Value} {ds dn : List D} (r : Row h ρ cs 0 ds) (hn : new.size = dn.length) (rn : ∀ (j : Nat) (d : D), dn[j]? = some d → ∃ u, new[j]? = some u ∧ u.oneCell' = true ∧ RelV h ρ d u)
    (hle : ds.length + dn.length ≤ cs.size) : Row h ρ ((new.toList.zipIdx 0).foldl (fun cs (x : Value × Nat) => cs.setIfInBounds (ds.length + x.2) x.1) cs) 0 (ds ++ dn) := by
  intro j d hj
  rw [Nat.zero_add, foldl_set _ _ _ _ (by simp; omega)]
  simp only [Nat.add_zero, Array.length_toList, hn]
  by_cases h1 : j < ds.length
  · rw [List.getElem?_append_left h1] at hj
    rw [if_neg (by omega)]
    have := r j d hj
    simpa using this
  · rw [List.getElem?_append_right (by omega)] at hj
    have h2 := (List.getElem?_eq_some_iff.1 hj).1
    rw [if_pos (by omega)]
    obtain ⟨u, a, b⟩ := rn _ _ hj
    exact ⟨u, by simpa using a, b⟩

section
variable {P : Program} {w0 : World} {M0 : Nat → Prop} {hI h : Gh} {ρ : Rn} {H : Hp} {w : World}

theorem Rn.set_id {ρ : Rn} {i n : Nat} {x} (hb : ρ i n = some x) : ρ.set i n x = ρ := by
  funext j m
  by_cases hc : j = i ∧ m = n
  · obtain ⟨rfl, rfl⟩ := hc; rw [Rn.set_same, hb]
  · rw [Rn.set_ne _ _ (by omega)]

theorem setCs_n (bl : Blk) (cs : List D) (hm : bl.mut = true) : (bl.setCs cs).n = cs.length := by
  cases bl <;> simp_all [Blk.mut, Blk.setCs, Blk.n]
theorem mut_live {bl : Blk} (hm : bl.mut = true) : bl.live = true := by cases bl <;> simp_all [Blk.mut, Blk.live]
theorem setCs_live {bl : Blk} {cs : List D} (hm : bl.mut = true) : (bl.setCs cs).live = true := by cases bl <;> simp_all [Blk.mut, Blk.live, Blk.setCs]
theorem mut_n {bl : Blk} (hm : bl.mut = true) : bl.n = bl.cs.length := by cases bl <;> simp_all [Blk.mut, Blk.n, Blk.cs]

/-- What lies there, where it may be written. -/
theorem Sim.mutAt (hS : Sim w0 M0 hI h ρ H w) {i : Nat} (hm : (hget H i).mut = true) : ∃ b c s cs e fz, ρ i (hget H i).cs.length = some (b, c, s) ∧ h b = none ∧ w.heap[b]? = some (.cells cs e fz) ∧ cs.size = c ∧ (hget H i).cs.length ≤ c ∧ Row h ρ cs 0 (hget H i).cs ∧ Clear cs fz ∧
    (∀ (ds : List D) (cs' : Array Value) (w' : World), ds.length = (hget H i).cs.length → cs'.size = c → w'.heap[b]? = some (.cells cs' e fz) → Row h ρ cs' 0 ds → RelB h ρ i w' ((hget H i).setCs ds)) := by
  have hb := hS.blk i
  cases hg : hget H i with
  | var l =>
    rw [hg] at hb
    obtain ⟨b, c, s, cs, el, fz, a1, a2, a3, a4, a5, a6, a7⟩ := hb
    refine ⟨b, c, s, cs, el, fz, a1, a2, a3, a4, by simp [Blk.cs]; omega, a6, a7, fun ds cs' w' h1 h2 h3 h4 => ?_⟩
    simp only [Blk.cs] at h1
    exact ⟨b, c, s, cs', el, fz, by rw [h1]; exact a1, a2, h3, h2, by omega, h4, fun j hj => a7 j (by omega)⟩
  | row sz ag l =>
    rw [hg] at hb
    obtain ⟨b, c, cs, el, fz, a1, a2, a3, a4, a5, a6, a7⟩ := hb
    refine ⟨b, c, sz, cs, el, fz, a1, a2, a3, a4, by simp [Blk.cs]; omega, a6, a7, fun ds cs' w' h1 h2 h3 h4 => ?_⟩
    simp only [Blk.cs] at h1
    exact ⟨b, c, cs', el, fz, by rw [h1]; exact a1, a2, h3, h2, by omega, h4, fun j hj => a7 j (by omega)⟩
  | frz sz ag l => rw [hg] at hm; cases hm
  | iter s p => rw [hg] at hm; cases hm
  | rng ts ps a b st => rw [hg] at hm; cases hm
  | map es => rw [hg] at hm; cases hm
  | dead => rw [hg] at hm; cases hm

theorem cells_one {d : D} {v : Value} {l : List D} (r : RelV h ρ d v) (hl : d.cells? = some l) : ∀ u ∈ v.cells.toList, u.oneCell' = true := by
  obtain ⟨_, hs, hc⟩ := r.cells hl
  intro u hu
  obtain ⟨j, hj⟩ := List.getElem?_of_mem hu
  have hlt : j < l.length := by
    have := (List.getElem?_eq_some_iff.1 hj).1
    simp at this
    omega
  obtain ⟨u', a, b, _⟩ := hc j l[j] (by simp)
  have : u' = u := by
    have e : v.cells[j]? = some u := by simpa using hj
    rw [a] at e
    cases e
    rfl
  exact this ▸ b

theorem run_storeAt (hS : Sim w0 M0 hI h ρ H w) {t : TypeId} {p x : D} {vp vx : Value} {H' : Hp} (hsz : 0 < szOf P t) (hp : RelV h ρ p vp) (hx : RelV h ρ x vx) (e : dStore (szOf P t) H p x = some H') :
    ∃ w', (Instr.storeAt t vp vx).run P w = .ok () w' ∧ Sim w0 M0 hI h ρ H' w' := by
  unfold dStore at e
  split at e
  · rename_i i off n new hnew
    split at e
    · rename_i hh
      simp only [Bool.and_eq_true, beq_iff_eq, decide_eq_true_eq] at hh
      obtain ⟨⟨⟨hm, hn⟩, hl⟩, hle⟩ := hh
      cases e
      cases hp with | ptr _ _ _ b c s hb =>
      obtain ⟨b', c', s', cs, el, fz, a1, a2, a3, a4, a5, a6, a7, key⟩ := hS.mutAt hm
      rw [hn, hb] at a1
      cases a1
      obtain ⟨_, hsv, hcv⟩ := hx.cells hnew
      obtain ⟨w', k1, k2⟩ := run_storeCells (P := P) (b := b) (off := off) vx.cells.toList 0 cs w a3 (cells_one hx hnew) a7 (by simp; omega)
      have hlen : (splice (hget H i).cs off new).length = (hget H i).cs.length := splice_len (by omega)
      have hrel : RelB h ρ i w' ((hget H i).setCs (splice (hget H i).cs off new)) :=
        key _ _ w' hlen (by rw [wrote_size]; exact a4) k2.at_ (wrote_row a6 hsv hcv (by omega) (by omega))
      have hnn : ρ i (hget H i).n = some (b, c, s) := by rw [mut_n hm, hn]; exact hb
      have hn' : ((hget H i).setCs (splice (hget H i).cs off new)).n = n := by rw [setCs_n _ _ hm, hlen, hn]
      have fin := hS.write (w' := w') (x' := (c, s)) (bl' := (hget H i).setCs (splice (hget H i).cs off new)) (mut_live hm) hnn (setCs_live hm) (fun sz ag ds hd k x hk => by
        cases hg : hget H i <;> rw [hg] at hd hm <;> first | (cases hm; done) | (cases hd; done) | skip
        simp only [Blk.setCs, Blk.row.injEq] at hd
        obtain ⟨rfl, rfl, rfl⟩ := hd
        have h5 := hlen
        rw [hg] at h5
        rw [h5]
        exact hS.ver i _ _ _ hg k x hk) (.inr (by rw [hn']; exact hb)) k2.os k2.tape k2.output k2.size k2.other (by rw [hn', Rn.set_id hb]; exact hrel)
      rw [hn', Rn.set_id hb] at fin
      refine ⟨w', ?_, fin.2⟩
      simp only [Instr.storeAt, Instr.sureAddr, storeVar, Sem.run_bind, Sem.run_pure, Result.andThen_ok, run_sizeOf' hsz]
      rw [if_neg (by omega)]
      exact k1
    · cases e
  · cases e

/-- A new variable. -/
theorem Sim.newVar (hS : Sim w0 M0 hI h ρ H w) (t : TypeId) {ds : List D} {cs : Array Value} (r : Whole h ρ cs ds) :
    ∃ ρ', RLe ρ ρ' ∧ Sim w0 M0 hI h ρ' (H ++ [.var ds]) (w.alloc (.cells cs t)) ∧ RelV h ρ' (.ptr H.length 0 ds.length) (.pointer (some ⟨w.heap.size, 0, none⟩)) := by
  have key := hS.push (.cells cs t) (.var ds) (cs.size, 0) ?_
  · exact ⟨_, key.1, key.2, .ptr _ _ _ _ _ _ (Rn.set_same _ _ _ _)⟩
  · exact ⟨w.heap.size, cs.size, 0, cs, t, (0, 0), Rn.set_same _ _ _ _, hS.new_none, alloc_new _ _, rfl, r.1, r.2.mono (.refl _) (Rn.le_set (.inl (hS.fresh (Nat.le_refl _)))), fun j hj => by simp⟩

theorem run_allocAt (hS : Sim w0 M0 hI h ρ H w) {t : TypeId} (hz : 0 < (zcells P t).length) :
    ∃ v w' ρ', (Instr.alloc t true (.tuple #[])).run P w = .ok v w' ∧ RLe ρ ρ' ∧ Sim w0 M0 hI h ρ' (H ++ [.var (zcells P t)]) w' ∧ RelV h ρ' (.ptr H.length 0 (zcells P t).length) v := by
  obtain ⟨i, zv, hi, hzv, rz⟩ := zcells_spec (h := h) (ρ := ρ) hz
  obtain ⟨ρ', h1, h2, h3⟩ := hS.newVar t rz
  refine ⟨_, _, ρ', ?_, h1, h2, h3⟩
  simp only [Instr.alloc, Sem.run_bind, run_zero hi hzv, Result.andThen_ok, Go.newVar, newRow, run_newObj, Sem.run_pure, World.alloc_eq]

theorem run_boxAt (hS : Sim w0 M0 hI h ρ H w) {t : TypeId} {x : D} {vx : Value} {cs : List D} (hx : RelV h ρ x vx) (e : x.cells? = some cs) :
    ∃ v w' ρ', (Instr.box t vx).run P w = .ok v w' ∧ RLe ρ ρ' ∧ Sim w0 M0 hI h ρ' (H ++ [.var cs]) w' ∧ RelV h ρ' (.ptr H.length 0 cs.length) v := by
  obtain ⟨_, hs, hc⟩ := hx.cells e
  obtain ⟨ρ', h1, h2, h3⟩ := hS.newVar t (ds := cs) (cs := vx.cells) ⟨hs, fun j d hj => by simpa using hc j d hj⟩
  refine ⟨_, _, ρ', ?_, h1, h2, h3⟩
  simp only [Instr.box, Sem.run_bind, Result.andThen_ok, Go.newVar, newRow, run_newObj, Sem.run_pure, World.alloc_eq]
end
end Go.Lv

namespace Go.Lv
open Go
set_option linter.unusedVariables false
set_option linter.unusedSimpArgs false
section
variable {P : Program} {w0 : World} {M0 : Nat → Prop} {hI h : Gh} {ρ : Rn} {H : Hp} {w : World}

/-- The type of what is appended: no number (a number stands for so many zero values). -/
def notInt (P : Program) (u : TypeId) : Prop := (∃ e, P.underlying u = some (.slice e)) ∨ P.underlying u = some .string

theorem run_app_grow {t u ty e : TypeId} {i : TypeInfo} {z : Value} (ht : P.underlying t = some (.slice e)) (hu : notInt P u) (hi : P.info? e = some i) (hz : i.zero = some z)
    (b : Option Addr) (sLen sCap n : Nat) (vx : Value) (old new : Array Value) (hl : (Builtin.lenOf vx).run P w = .ok n w)
    (ho : (Builtin.firstCells i.size sLen (.slice b sLen sCap)).run P w.drew = .ok old w.drew) (hx : (Builtin.firstCells i.size n vx).run P w.drew = .ok new w.drew)
    (hg : sCap < sLen + n) (h63 : ((sLen + n : Nat) : Int) ≤ 9223372036854775807) (hfit : Builtin.nextslicecap (sLen + n) sCap * i.bytes ≤ 281474976710656) :
    (Builtin.append_ #[t, u] ty #[.slice b sLen sCap, vx]).run P w =
      .ok (.slice (some ⟨w.heap.size, 0, none⟩) (sLen + n) (grownCap w (sLen + n) sCap e))
        (w.drew.alloc (.cells (old ++ new ++ Builtin.zeroCells z.cells (grownCap w (sLen + n) sCap e - (sLen + n))) e)) := by
  have hn : ¬ (sLen + n ≤ sCap) := by omega
  have h63' : ¬ (9223372036854775807 < ((sLen : Int) + (n : Int))) := by omega
  have h48' : ¬ (281474976710656 < Builtin.nextslicecap (sLen + n) sCap * i.bytes) := by omega
  rcases hu with ⟨e', hd⟩ | hd <;> simp [Builtin.append_, run_underlying ht, run_underlying hd, sizeOf, typeInfo, zeroValue, hi, hz, hl, hn, h63', h48', Question.forced, hx, ho, newRow, grownCap]

theorem run_app_room {t u ty e : TypeId} {i : TypeInfo} (ht : P.underlying t = some (.slice e)) (hu : notInt P u) (hi : P.info? e = some i)
    (b : Addr) (sLen sCap n : Nat) (vx : Value) (new : Array Value) (w' : World) (hl : (Builtin.lenOf vx).run P w = .ok n w)
    (hx : (Builtin.firstCells i.size n vx).run P w = .ok new w) (hg : sLen + n ≤ sCap) (hs : (storeCells (b.add (sLen * i.size)) new.toList).run P w = .ok () w') :
    (Builtin.append_ #[t, u] ty #[.slice (some b) sLen sCap, vx]).run P w = .ok (.slice (some b) (sLen + n) sCap) w' := by
  rcases hu with ⟨e', hd⟩ | hd <;> simp [Builtin.append_, run_underlying ht, run_underlying hd, sizeOf, typeInfo, zeroValue, hi, hl, hg, hx, hs]

theorem run_app_none {t u ty e : TypeId} {i : TypeInfo} (ht : P.underlying t = some (.slice e)) (hu : notInt P u) (hi : P.info? e = some i)
    (b : Option Addr) (sLen sCap : Nat) (vx : Value) (hl : (Builtin.lenOf vx).run P w = .ok 0 w)
    (hx : (Builtin.firstCells i.size 0 vx).run P w = .ok #[] w) (hg : sLen ≤ sCap) :
    (Builtin.append_ #[t, u] ty #[.slice b sLen sCap, vx]).run P w = .ok (.slice b sLen sCap) w := by
  rcases hu with ⟨e', hd⟩ | hd <;> cases b <;> simp [Builtin.append_, run_underlying ht, run_underlying hd, sizeOf, typeInfo, zeroValue, hi, hl, hg, hx, storeCells]

/-- So many zero values appended. -/
theorem run_app0_grow {t u ty e : TypeId} {i : TypeInfo} {z : Value} {k : IntKind} (ht : P.underlying t = some (.slice e)) (hu : P.underlying u = some (.int k)) (hi : P.info? e = some i) (hz : i.zero = some z) (hzs : z.cells.size = i.size) (hp : 0 < i.size)
    (b : Option Addr) (sLen sCap n : Nat) (old : Array Value)
    (ho : (Builtin.firstCells i.size sLen (.slice b sLen sCap)).run P w.drew = .ok old w.drew) (hn0 : 0 < n)
    (hg : sCap < sLen + n) (h63 : ((sLen + n : Nat) : Int) ≤ 9223372036854775807) (hb48 : n * i.bytes ≤ 281474976710656) (hfit : Builtin.nextslicecap (sLen + n) sCap * i.bytes ≤ 281474976710656) :
    (Builtin.append_ #[t, u] ty #[.slice b sLen sCap, .int .i64 n]).run P w =
      .ok (.slice (some ⟨w.heap.size, 0, none⟩) (sLen + n) (grownCap w (sLen + n) sCap e))
        (w.drew.alloc (.cells (old ++ Builtin.zeroCells z.cells n ++ Builtin.zeroCells z.cells (grownCap w (sLen + n) sCap e - (sLen + n))) e)) := by
  have hn : ¬ (sLen + n ≤ sCap) := by omega
  have h63' : ¬ (9223372036854775807 < ((sLen : Int) + (n : Int))) := by omega
  have h48' : ¬ (281474976710656 < Builtin.nextslicecap (sLen + n) sCap * i.bytes) := by omega
  have hw : IntKind.i64.wrap (n : Int) = n := by simp [IntKind.wrap, IntKind.bits, IntKind.signed]; omega
  have hnn : ¬ ((n : Int) < 0) := by omega
  have hb' : ¬ ((281474976710656 : Int) < (n : Int) * (i.bytes : Int)) := by
    rw [← Int.natCast_mul]
    omega
  have hne : ¬ (n = 0) := by omega
  have hse : ¬ (i.size = 0) := by omega
  have hze : ¬ (n * i.size = 0) := fun e => by rcases Nat.mul_eq_zero.1 e with e | e <;> omega
  simp [Builtin.append_, run_underlying ht, run_underlying hu, sizeOf, typeInfo, zeroValue, hi, hz, asInt, asIntOf, hw, hnn, hb', hn, h63', h48', Question.forced, ho, newRow, grownCap, hne, hse, hze]

theorem rep_get (z : List D) (hz : 0 < z.length) : ∀ (n j : Nat), (rep n z)[j]? = if j < n * z.length then z[j % z.length]? else none
  | 0, j => by simp [rep]
  | n + 1, j => by
    simp only [rep]
    by_cases h1 : j < z.length
    · rw [List.getElem?_append_left h1, Nat.mod_eq_of_lt h1, if_pos (by rw [Nat.succ_mul]; omega)]
    · rw [List.getElem?_append_right (by omega), rep_get z hz n (j - z.length), Nat.succ_mul]
      have hm : (j - z.length) % z.length = j % z.length := by
        conv => rhs; rw [show j = (j - z.length) + z.length from by omega]
        simp
      rw [hm]
      by_cases h2 : j - z.length < n * z.length
      · rw [if_pos h2, if_pos (by omega)]
      · rw [if_neg h2, if_neg (by omega)]
theorem rep_len (z : List D) : ∀ n, (rep n z).length = n * z.length
  | 0 => by simp [rep]
  | n + 1 => by simp [rep, rep_len z n, Nat.succ_mul]; omega

theorem whole_rep {zs : Array Value} {z : List D} (hz : 0 < z.length) (r : Whole h ρ zs z) (n : Nat) : Whole h ρ ((Array.range (n * zs.size)).map (zs[· % zs.size]!)) (rep n z) := by
  refine ⟨by simp [rep_len, r.1], fun j d hj => ?_⟩
  rw [rep_get z hz] at hj
  split at hj
  · rename_i hlt
    obtain ⟨u, a, b⟩ := r.2 _ _ hj
    rw [Nat.zero_add] at a
    refine ⟨u, ?_, b⟩
    have hlt' : j < n * zs.size := by rw [r.1]; exact hlt
    rw [Nat.zero_add, Array.getElem?_map]
    simp only [Array.getElem?_range, hlt', if_true, Option.map_some]
    rw [r.1, getElem!_pos zs _ (Array.getElem?_eq_some_iff.1 a).1]
    rw [← Array.getElem?_eq_getElem, a]
  · cases hj

theorem zeroCells_whole {zs : Array Value} {z : List D} (hz : 0 < z.length) (r : Whole h ρ zs z) (n : Nat) : Whole h ρ (Builtin.zeroCells zs n) (rep n z) := by
  unfold Builtin.zeroCells
  exact whole_rep hz r n
end
end Go.Lv

namespace Go.Lv
open Go
set_option linter.unusedVariables false
set_option linter.unusedSimpArgs false
section
variable {P : Program} {w0 : World} {M0 : Nat → Prop} {hI h : Gh} {ρ : Rn} {H : Hp} {w : World}

theorem Row.bound {cs : Array Value} {off : Nat} {ds : List D} (r : Row h ρ cs off ds) (hp : ds ≠ []) : off + ds.length ≤ cs.size := by
  have hl : 0 < ds.length := List.length_pos_iff.2 hp
  obtain ⟨u, a, _⟩ := r (ds.length - 1) ds[ds.length - 1] (by simp)
  have := (Array.getElem?_eq_some_iff.1 a).1
  omega
theorem Row.whole {cs : Array Value} {off : Nat} {ds : List D} (r : Row h ρ cs off ds) (hp : off + ds.length ≤ cs.size) : Whole h ρ (cs.extract off (off + ds.length)) ds :=
  ⟨by simp; omega, r.extract _ (Nat.le_refl _)⟩

theorem run_loadW {b off n : Nat} {ds : List D} {cs : Array Value} {el : TypeId} {fz : Nat × Nat} {w1 : World} (hb : w1.heap[b]? = some (.cells cs el fz)) (r : Row h ρ cs off ds) (hn : n = ds.length) :
    ∃ arr, (loadCells ⟨b, off, none⟩ n).run P w1 = .ok arr w1 ∧ arr = (if ds = [] then #[] else cs.extract off (off + ds.length)) ∧ Whole h ρ arr ds := by
  subst hn
  by_cases hd : ds = []
  · subst hd
    exact ⟨#[], by simp [loadCells, loadCellsFrom], by simp, ⟨rfl, fun j d hj => by simp at hj⟩⟩
  · have := r.bound hd
    refine ⟨_, ?_, by rw [if_neg hd], r.whole this⟩
    unfold loadCells
    rw [run_loadCells hb _ _ _ (by omega)]
    simp

theorem run_src (hS : Sim w0 M0 hI h ρ H w) {x : D} {vx : Value} {sz n : Nat} {new : List D} (hx : RelV h ρ x vx) (e : srcCells H sz x = some new) (el : dLenN x = some n) :
    ∃ arr, (∀ w1 : World, w1.heap = w.heap → (Builtin.firstCells sz n vx).run P w1 = .ok arr w1) ∧ (∀ w1 : World, (Builtin.lenOf vx).run P w1 = .ok n w1) ∧ Whole h ρ arr new ∧ new.length = n * sz := by
  unfold srcCells at e
  split at e
  · rename_i t xs
    split at e
    · rename_i hall
      have hsz := allSz_spec hall
      cases e
      simp only [dLenN, Option.some.injEq] at el
      subst el
      have hfl := flat_len hsz
      cases hx with
      | lnil t a c ht =>
        refine ⟨#[], fun w1 hw => ?_, fun w1 => rfl, ⟨rfl, fun j d hj => by simp at hj⟩, by simp⟩
        cases a <;> simp [Builtin.firstCells, loadCells, loadCellsFrom]
      | list t _ b off n' c sz' cs el' fz us hx hn hlen ht hsz' hcl' hcc hb hc ho hr =>
        have r : Row h ρ cs off (xs.flatMap D.cells) := fun j d hj => ⟨us j, hc j (List.getElem?_eq_some_iff.1 hj).1, ho j (List.getElem?_eq_some_iff.1 hj).1, hr j d hj⟩
        obtain ⟨arr, h1, h2, h3⟩ := run_loadW (P := P) (w1 := w) (hS.imm _ _ hb) r rfl
        refine ⟨arr, fun w1 hw => ?_, fun w1 => by simp [Builtin.lenOf, hn], h3, hfl⟩
        obtain ⟨arr', g1, g2, g3⟩ := run_loadW (P := P) (w1 := w1) (by rw [hw]; exact hS.imm _ _ hb) r rfl
        rw [h2, ← g2]
        show (loadCells ⟨b, off, none⟩ (xs.length * sz)).run P w1 = _
        rw [← hfl]
        exact g1
    · cases e
  · rename_i i len N
    split at e
    · rename_i cs0 hcs
      split at e
      · rename_i hle
        cases e
        simp only [dLenN, Option.some.injEq] at el
        subst el
        cases hx with | own _ _ _ b c cs sz' hb hc hl =>
        obtain ⟨b', c', s', cs', el', fz, hb', hw', r⟩ := hS.at hcs
        rw [hb] at hb'
        cases hb'
        have hlen : cs0.length = N := (cellsOf_some hcs).2.2
        have r' := r.take (len * sz)
        have hl' : (cs0.take (len * sz)).length = len * sz := by simp; omega
        obtain ⟨arr, h1, h2, h3⟩ := run_loadW (P := P) (w1 := w) hw' r' rfl
        refine ⟨arr, fun w1 hw => ?_, fun w1 => rfl, h3, hl'⟩
        obtain ⟨arr', g1, g2, g3⟩ := run_loadW (P := P) (w1 := w1) (by rw [hw]; exact hw') r' rfl
        rw [h2, ← g2]
        rw [hl'] at g1
        exact g1
      · cases e
    · cases e
  · rename_i i off len N
    split at e
    · rename_i cs0 hcs
      split at e
      · rename_i hle
        cases e
        simp only [dLenN, Option.some.injEq] at el
        subst el
        cases hx with | asl _ _ _ _ b o c cs sz' hb hl ho =>
        obtain ⟨b', c', s', cs', el', fz, hb', hw', r⟩ := hS.at hcs
        rw [hb] at hb'
        cases hb'
        have hlen : cs0.length = N := (cellsOf_some hcs).2.2
        have r' := (r.drop off).take (len * sz)
        rw [Nat.zero_add] at r'
        have hl' : ((cs0.drop off).take (len * sz)).length = len * sz := by simp; omega
        by_cases h0 : len = 0
        · subst h0
          refine ⟨#[], fun w1 hw => ?_, fun w1 => rfl, ⟨by simp, fun j d hj => by simp at hj⟩, hl'⟩
          simp [Builtin.firstCells, loadCells, loadCellsFrom]
        · obtain rfl := ho h0
          obtain ⟨arr, h1, h2, h3⟩ := run_loadW (P := P) (w1 := w) hw' r' rfl
          refine ⟨arr, fun w1 hw => ?_, fun w1 => rfl, h3, hl'⟩
          obtain ⟨arr', g1, g2, g3⟩ := run_loadW (P := P) (w1 := w1) (by rw [hw]; exact hw') r' rfl
          rw [h2, ← g2]
          rw [hl'] at g1
          exact g1
      · cases e
    · cases e
  · rename_i s
    split at e
    · rename_i h1
      subst h1
      cases e
      simp only [dLenN, Option.some.injEq] at el
      subst el
      cases hx with | str _ s1 e1 =>
      subst e1
      refine ⟨s1.data.map fun b => .int .u8 b.toNat, fun w1 hw => ?_, fun w1 => by simp [Builtin.lenOf], ⟨by simp, fun j d hj => ?_⟩, by simp⟩
      · simp [Builtin.firstCells]
      · simp only [List.getElem?_map, Option.map_eq_some_iff] at hj
        obtain ⟨b, hb, rfl⟩ := hj
        refine ⟨.int .u8 b.toNat, ?_, rfl, .int _ _⟩
        simp at hb
        simp [hb]
    · cases e
  · cases e

theorem cells_pos {e : TypeId} {i : TypeInfo} (hp : 0 < szOf P e) (hi : P.info? e = some i) : i.size = szOf P e := by
  rw [(szOf_pos hp).1]
  simp [Program.cellsOf, hi]

theorem grown_ge (w : World) (need cap e : Nat) (hn : need < 2 ^ 63) : need ≤ grownCap w need cap e := by
  simp only [grownCap, Question.cut]
  omega

/-- The new row of an append that grows. -/
theorem Sim.grow_new (hS : Sim w0 M0 hI h ρ H w) {e : TypeId} {ag : Bool} {sz len need nc : Nat} {old news rest : Array Value} {od nd : List D} (ro : Whole h ρ old od) (rn : Whole h ρ news nd)
    (hrest : (old ++ news ++ rest).size = nc * sz) (hlen : len ≤ nc) :
    ∃ ρ', RLe ρ ρ' ∧ Sim w0 M0 hI h ρ' (H ++ [.row sz ag (od ++ nd)]) (w.drew.alloc (.cells (old ++ news ++ rest) e)) ∧ RelV h ρ' (.own H.length len (od ++ nd).length) (.slice (some ⟨w.heap.size, 0, none⟩) len nc) := by
  have hD := hS.drew
  have hrow : ∀ ρ', RLe ρ ρ' → Row h ρ' (old ++ news ++ rest) 0 (od ++ nd) := by
    intro ρ' hρ j d hj
    rw [List.getElem?_append] at hj
    rw [Nat.zero_add, Array.append_assoc, Array.getElem?_append]
    split at hj
    · rename_i h1
      rw [if_pos (by rw [ro.1]; exact h1)]
      obtain ⟨u, a, b, c⟩ := ro.2 j d hj
      exact ⟨u, by simpa using a, b, c.mono (.refl _) hρ⟩
    · rename_i h1
      rw [if_neg (by rw [ro.1]; exact h1)]
      obtain ⟨u, a, b, c⟩ := rn.2 _ d hj
      rw [Nat.zero_add] at a
      refine ⟨u, ?_, b, c.mono (.refl _) hρ⟩
      rw [Array.getElem?_append, if_pos (by rw [ro.1]; exact (Array.getElem?_eq_some_iff.1 a).1), ro.1]
      exact a
  have key := hD.push (.cells (old ++ news ++ rest) e) (.row sz ag (od ++ nd)) (nc * sz, sz) ?_
  · refine ⟨_, key.1, key.2, .own _ _ _ _ _ _ _ (Rn.set_same _ _ _ _) rfl hlen⟩
  · refine ⟨w.heap.size, nc * sz, _, e, (0, 0), Rn.set_same _ _ _ _, hS.new_none, alloc_new _ _, hrest, ?_, hrow _ (Rn.le_set (.inl (hS.fresh (Nat.le_refl _)))), fun j hj => by simp⟩
    have h1 := ro.1
    have h2 := rn.1
    simp at hrest ⊢
    omega

/-- The row of an append that grows goes to a new block. -/
theorem Sim.grow_move (hS : Sim w0 M0 hI h ρ H w) {e : TypeId} {ag : Bool} {sz i len nc : Nat} {old news rest : Array Value} {od nd : List D} (hg : hget H i = .row sz ag od) (hnd : nd ≠ []) (ro : Whole h ρ old od) (rn : Whole h ρ news nd)
    (hrest : (old ++ news ++ rest).size = nc * sz) (hlen : len ≤ nc) :
    ∃ ρ', RLe ρ ρ' ∧ Sim w0 M0 hI h ρ' (hset H i (.row sz ag (od ++ nd))) (w.drew.alloc (.cells (old ++ news ++ rest) e)) ∧ RelV h ρ' (.own i len (od ++ nd).length) (.slice (some ⟨w.heap.size, 0, none⟩) len nc) := by
  have hD := hS.drew
  have hlt : od.length < (od ++ nd).length := by
    have := List.length_pos_iff.2 hnd
    simp
    omega
  have hnone : ρ i (Blk.row sz ag (od ++ nd)).n = none := by
    cases hh : ρ i (Blk.row sz ag (od ++ nd)).n with
    | none => rfl
    | some x =>
      have := hS.ver i sz ag od hg _ _ hh
      simp only [Blk.n] at this
      omega
  have hrow : ∀ ρ', RLe ρ ρ' → Row h ρ' (old ++ news ++ rest) 0 (od ++ nd) := by
    intro ρ' hρ j d hj
    rw [List.getElem?_append] at hj
    rw [Nat.zero_add, Array.append_assoc, Array.getElem?_append]
    split at hj
    · rename_i h1
      rw [if_pos (by rw [ro.1]; exact h1)]
      obtain ⟨u, a, b, c⟩ := ro.2 j d hj
      exact ⟨u, by simpa using a, b, c.mono (.refl _) hρ⟩
    · rename_i h1
      rw [if_neg (by rw [ro.1]; exact h1)]
      obtain ⟨u, a, b, c⟩ := rn.2 _ d hj
      rw [Nat.zero_add] at a
      refine ⟨u, ?_, b, c.mono (.refl _) hρ⟩
      rw [Array.getElem?_append, if_pos (by rw [ro.1]; exact (Array.getElem?_eq_some_iff.1 a).1), ro.1]
      exact a
  have key := hD.move (i := i) (bl' := .row sz ag (od ++ nd)) (o := .cells (old ++ news ++ rest) e) (x' := (nc * sz, sz)) (by rw [hg]; rfl) rfl (fun sz' ag' ds hd n x hx => by
    cases hd
    have := hS.ver i sz ag od hg _ _ hx
    omega) hnone ?_
  · refine ⟨_, key.1, key.2, .own _ _ _ _ _ _ _ (Rn.set_same _ _ _ _) rfl hlen⟩
  · refine ⟨w.heap.size, nc * sz, _, e, (0, 0), Rn.set_same _ _ _ _, hS.new_none, alloc_new _ _, hrest, ?_, hrow _ (Rn.le_set (.inl hnone)), fun j hj => by simp⟩
    have h1 := ro.1
    have h2 := rn.1
    simp at hrest ⊢
    omega

theorem zc_size {e : TypeId} {i : TypeInfo} {z : Value} (hp : 0 < szOf P e) (hi : P.info? e = some i) (hz : z.cells.size = szOf P e) (n : Nat) : (Builtin.zeroCells z.cells n).size = n * szOf P e := by
  simp [Builtin.zeroCells, hz]

/-- The shape of an append's source, behind the walk: what is read, and what it tells. -/
structure Src (P : Program) (h : Gh) (ρ : Rn) (w : World) (u : TypeId) (vx : Value) (sz n : Nat) (new : List D) where
  arr : Array Value
  ok : Whole h ρ arr new
  len : new.length = n * sz

theorem run_append (hS : Sim w0 M0 hI h ρ H w) {t u ty' e : TypeId} {s x : D} {vs vx : Value} {n : Nat} {new : List D} {d : D} {H' : Hp} (ht : P.underlying t = some (.slice e)) (hu : notInt P u)
    (hz : (zcells P e).length = szOf P e) (hs : RelV h ρ s vs) (hx : RelV h ρ x vx) (hsrc : srcCells H (szOf P e) x = some new) (hn : dLenN x = some n) (ea : dAppend H (szOf P e) (P.bytesOf e) (isAg P e) s n new = some (d, H')) :
    ∃ v w' ρ', (Builtin.append_ #[t, u] ty' #[vs, vx]).run P w = .ok v w' ∧ RLe ρ ρ' ∧ Sim w0 M0 hI h ρ' H' w' ∧ RelV h ρ' d v := by
  unfold dAppend at ea
  split at ea
  · cases ea
  · rename_i hchk
    simp only [Bool.and_eq_true, decide_eq_true_eq, beq_iff_eq, Bool.not_eq_true', Bool.not_eq_false] at hchk
    obtain ⟨⟨hp, hb0⟩, hnl⟩ := hchk
    obtain ⟨arr, hfx, hlx, rx, hlen⟩ := run_src (P := P) hS hx hsrc hn
    obtain ⟨i, zv, hi, hzv, rz⟩ := zcells_spec (h := h) (ρ := ρ) (P := P) (t := e) (by omega)
    have hsize := cells_pos hp hi
    have hbytes : i.bytes = P.bytesOf e := by simp [Program.bytesOf, hi]
    rw [← hsize] at hfx hlen
    have hzs : zv.cells.size = i.size := by rw [rz.1, hz, hsize]
    split at ea
    · rename_i tt xs
      obtain ⟨a, m, c, rfl, hm, hmc, htt⟩ := hs.list_inv
      subst hm
      split at ea
      · rename_i h0
        cases ea
        subst h0
        have harr : arr = #[] := by
          have h1 := rx.1
          rw [hlen] at h1
          simpa using h1
        subst harr
        exact ⟨_, w, ρ, run_app_none ht hu hi a _ c vx (hlx w) (hfx w rfl) hmc, .refl _, hS, hs⟩
      · rename_i h0
        split at ea
        · rename_i hh
          simp only [Bool.and_eq_true, decide_eq_true_eq] at hh
          obtain ⟨⟨htt', hall⟩, hbd⟩ := hh
          cases ea
          have hcm := htt htt'
          subst hcm
          -- the elements that there are
          obtain ⟨old, hfo, hlo, ro, hlo'⟩ := run_src (P := P) (n := xs.length) hS hs (by simp only [srcCells]; rw [if_pos hall]) rfl
          rw [← hsize] at hfo hlo'
          have hneed : xs.length + n < 2 ^ 63 := by
            have : xs.length + n ≤ (xs.length + n) * P.bytesOf e := Nat.le_mul_of_pos_right _ hb0
            omega
          have hr := run_app_grow (ty := ty') ht hu hi hzv a xs.length xs.length n vx old arr (hlx w) (hfo w.drew rfl) (hfx w.drew rfl) (by omega) (by omega) (growslice_fits (by omega) (by rw [hbytes]; omega))
          have hge := grown_ge w (xs.length + n) xs.length e hneed
          obtain ⟨ρ', k1, k2, k3⟩ := hS.grow_new (e := e) (ag := isAg P e) (sz := szOf P e) (len := xs.length + n) (need := xs.length + n) (nc := grownCap w (xs.length + n) xs.length e) (rest := Builtin.zeroCells zv.cells (grownCap w (xs.length + n) xs.length e - (xs.length + n))) ro rx (by
              have h1 := ro.1
              have h2 := rx.1
              rw [← hsize]
              simp only [Array.size_append, Builtin.zeroCells, Array.size_map, Array.size_range, hzs, h1, h2, hlo', hlen]
              rw [← Nat.add_mul, ← Nat.add_mul]
              congr 1
              omega) hge
          exact ⟨_, _, ρ', hr, k1, k2, k3⟩
        · cases ea
    · rename_i b0 len N
      cases hs with | own _ _ _ b c cs sz' hb hc hl =>
      split at ea
      · rename_i sz1 ag1 cds hg
        split at ea
        · rename_i hh
          obtain ⟨hN, hszz, hbd⟩ := hh
          subst hN hszz
          have hblk := hS.blk b0
          rw [hg] at hblk
          obtain ⟨b', c', ccs, el', fz, a1, a2, a3, a4, a5, a6, a7⟩ := hblk
          rw [hb] at a1
          cases a1
          have hneed : len + n < 2 ^ 63 := by
            have : len + n ≤ (len + n) * P.bytesOf e := Nat.le_mul_of_pos_right _ hb0
            omega
          split at ea
          · rename_i h0
            cases ea
            subst h0
            have harr : arr = #[] := by
              have h1 := rx.1
              rw [hlen] at h1
              simpa using h1
            subst harr
            exact ⟨_, w, ρ, run_app_none ht hu hi _ _ c vx (hlx w) (hfx w rfl) hl, .refl _, hS, .own _ _ _ b c _ _ hb hc hl⟩
          · rename_i h0
            have hstore : ∀ (k : Nat), k * szOf P e + new.length ≤ ccs.size → ∃ w', (storeCells ⟨b, k * szOf P e, none⟩ arr.toList).run P w = .ok () w' ∧ Wrote w w' b ((arr.toList.zipIdx 0).foldl (fun cs (x : Value × Nat) => cs.setIfInBounds (k * szOf P e + x.2) x.1) ccs) el' fz := by
              intro k hk
              refine run_storeCells arr.toList 0 ccs w a3 (fun v hv => ?_) a7 (by have := rx.1; simp; omega)
              obtain ⟨j, hj⟩ := List.getElem?_of_mem hv
              have hj' : arr[j]? = some v := by simpa using hj
              have hlt : j < new.length := by rw [← rx.1]; exact (Array.getElem?_eq_some_iff.1 hj').1
              obtain ⟨u', q1, q2, _⟩ := rx.2 j new[j] (by simp)
              rw [Nat.zero_add, hj'] at q1
              cases q1
              exact q2
            have rx' : ∀ (j : Nat) (d : D), new[j]? = some d → ∃ u, arr[j]? = some u ∧ u.oneCell' = true ∧ RelV h ρ d u := fun j d hj => by simpa using rx.2 j d hj
            split at ea
            · rename_i hlN
              cases ea
              by_cases hroom : len + n ≤ c
              · -- in place
                have hfit : len * szOf P e + new.length ≤ ccs.size := by
                  rw [a4, ← hc, hnl, ← Nat.add_mul]
                  exact Nat.mul_le_mul_right _ hroom
                obtain ⟨w', s1, s2⟩ := hstore len hfit
                have hr := run_app_room (ty := ty') ht hu hi ⟨b, 0, none⟩ len c n vx arr w' (hlx w) (hfx w rfl) hroom (by rw [hsize, Addr.add_lit, Nat.zero_add]; exact s1)
                have hnne : 0 < new.length := by rw [hnl]; exact Nat.mul_pos (by omega) hp
                have hnone : ρ b0 (Blk.row (szOf P e) ag1 (cds ++ new)).n = none := by
                  cases hh : ρ b0 (Blk.row (szOf P e) ag1 (cds ++ new)).n with
                  | none => rfl
                  | some x =>
                    have := hS.ver b0 _ _ cds hg _ _ hh
                    simp only [Blk.n, List.length_append] at this
                    omega
                have hle := Rn.le_set (x := (b, c * szOf P e, szOf P e)) (.inl hnone)
                have key := hS.write (i := b0) (bl' := .row (szOf P e) ag1 (cds ++ new)) (w' := w') (b := b) (x := (_, _)) (x' := (c * szOf P e, szOf P e)) (by rw [hg]; rfl) (by rw [hg]; exact hb) rfl (fun sz' ag' ds hd k x hk => by
                  cases hd
                  have := hS.ver b0 _ _ cds hg _ _ hk
                  simp
                  omega) (.inl hnone) s2.os s2.tape s2.output s2.size s2.other ?_
                · refine ⟨_, w', _, hr, key.1, key.2, ?_⟩
                  refine .own _ _ _ b c _ (szOf P e) ?_ rfl hroom
                  rw [← hnl]
                  have := Rn.set_same ρ b0 (Blk.row (szOf P e) ag1 (cds ++ new)).n (b, c * szOf P e, szOf P e)
                  simpa [Blk.n] using this
                · have hw := wrote_app (a6.mono (.refl _) hle) rx.1 (fun j d hj => by obtain ⟨u, q1, q2, q3⟩ := rx' j d hj; exact ⟨u, q1, q2, q3.mono (.refl _) hle⟩) (by rw [hlN] at hfit; exact hfit)
                  rw [hlN] at s2
                  exact ⟨b, c * szOf P e, _, el', fz, Rn.set_same _ _ _ _, a2, s2.at_, by rw [wrote_size, a4, hc], by rw [hlN] at hfit; simp; omega, hw, fun j hj => a7 j (by rw [wrote_size] at hj; exact hj)⟩
              · -- a new row
                have ro : Whole h ρ (ccs.extract 0 (0 + cds.length)) cds := a6.whole (by omega)
                have hfo : ∀ w1 : World, w1.heap = w.heap → (Builtin.firstCells i.size len (.slice (some ⟨b, 0, none⟩) len c)).run P w1 = .ok (ccs.extract 0 (0 + cds.length)) w1 := by
                  intro w1 hw
                  show (loadCells ⟨b, 0, none⟩ (len * i.size)).run P w1 = _
                  unfold loadCells
                  rw [hsize, hlN, run_loadCells (by rw [hw]; exact a3) _ _ _ (by omega)]
                  simp
                have hr := run_app_grow (ty := ty') ht hu hi hzv (some ⟨b, 0, none⟩) len c n vx _ arr (hlx w) (hfo w.drew rfl) (hfx w.drew rfl) (by omega) (by omega) (growslice_fits (by omega) (by rw [hbytes]; omega))
                have hge := grown_ge w (len + n) c e hneed
                obtain ⟨ρ', k1, k2, k3⟩ := hS.grow_move (e := e) (len := len + n) (nc := grownCap w (len + n) c e) (rest := Builtin.zeroCells zv.cells (grownCap w (len + n) c e - (len + n))) hg (by
                    intro hnil
                    rw [hnil] at hnl
                    have := Nat.mul_pos (show 0 < n by omega) hp
                    simp at hnl
                    omega) ro rx (by
                    have h1 := ro.1
                    have h2 := rx.1
                    rw [← hlN] at h1
                    rw [← hsize] at h1 ⊢
                    simp only [Array.size_append, Builtin.zeroCells, Array.size_map, Array.size_range, hzs, h2, hlen]
                    rw [show (ccs.extract 0 (0 + cds.length)).size = len * i.size from by rw [← h1, ← hlN, hsize]]
                    rw [← Nat.add_mul, ← Nat.add_mul]
                    congr 1
                    omega) hge
                refine ⟨_, _, ρ', hr, k1, k2, ?_⟩
                rw [← hnl, ← List.length_append]
                exact k3
            · rename_i hlN
              split at ea
              · rename_i hle
                cases ea
                have hroom : len + n ≤ c := by
                  have h1 : (len + n) * szOf P e ≤ c * szOf P e := by omega
                  exact Nat.le_of_mul_le_mul_right h1 hp
                have hfit : len * szOf P e + new.length ≤ cds.length := by rw [hnl, ← Nat.add_mul]; exact hle
                obtain ⟨w', s1, s2⟩ := hstore len (by omega)
                have hr := run_app_room (ty := ty') ht hu hi ⟨b, 0, none⟩ len c n vx arr w' (hlx w) (hfx w rfl) hroom (by rw [hsize, Addr.add_lit, Nat.zero_add]; exact s1)
                have hlen' : (splice cds (len * szOf P e) new).length = cds.length := splice_len hfit
                have hsm : ρ b0 (Blk.row (szOf P e) ag1 (splice cds (len * szOf P e) new)).n = some (b, cs, szOf P e) := by
                  simp only [Blk.n, hlen']
                  exact hb
                have key := hS.write (i := b0) (bl' := .row (szOf P e) ag1 (splice cds (len * szOf P e) new)) (w' := w') (b := b) (x := (_, _)) (x' := (cs, szOf P e)) (by rw [hg]; rfl) (by rw [hg]; exact hb) rfl (fun sz' ag' ds hd k x hk => by
                  cases hd
                  have := hS.ver b0 _ _ cds hg _ _ hk
                  omega) (.inr hsm) s2.os s2.tape s2.output s2.size s2.other ?_
                · rw [Rn.set_id hsm] at key
                  exact ⟨_, w', ρ, hr, .refl _, key.2, .own _ _ _ b c _ _ hb hc hroom⟩
                · rw [Rn.set_id hsm]
                  have hw := wrote_row a6 rx.1 rx' hfit (by omega)
                  exact ⟨b, _, _, el', fz, by rw [hlen']; exact hb, a2, s2.at_, by rw [wrote_size, a4], by omega, hw, fun j hj => a7 j (by rw [wrote_size] at hj; exact hj)⟩
              · cases ea
        · cases ea
      · cases ea
    · cases ea
end
end Go.Lv
