/- LvB: when data tell values and a heap tells memory. -/
import Derived.Test.YtmpbkkfkkbdndaaDoorLvA
import Derived.Laws.Sem
import Derived.Laws.World
import Derived.Laws.NewFold
namespace Go.Lv
open Go
set_option linter.unusedVariables false

abbrev Gh := Nat → Option Obj
abbrev Rn := Nat → Nat → Option (Nat × Nat × Nat)

/-- d tells v: h: the blocks that are written no more; ρ: where the own heap's blocks lie (the block, its cells in all, an element's cells). -/
inductive RelV (h : Gh) (ρ : Rn) : D → Value → Prop
  | und (v) : RelV h ρ .und v
  | bool (b) : RelV h ρ (.bool b) (.bool b)
  | int (k n) : RelV h ρ (.int k n) (.int k n)
  | str (l s) (e : s.data.toList = l) : RelV h ρ (.str l) (.string s)
  | lnil (t a c) (ht : t = true → c = 0) : RelV h ρ (.list t []) (.slice a 0 c)
  | list (t xs b off n c sz cs e fz) (us : Nat → Value) (hx : xs ≠ []) (hn : n = xs.length) (hlen : n ≤ c) (ht : t = true → c = n)
      (hsz : ∀ x ∈ xs, x.cells.length = sz) (hcl : ∀ x ∈ xs, x.closed = true) (hcc : ∀ x ∈ xs, x.cells? = some x.cells)
      (hb : h b = some (.cells cs e fz))
      (hc : ∀ j, j < (xs.flatMap D.cells).length → cs[off + j]? = some (us j))
      (ho : ∀ j, j < (xs.flatMap D.cells).length → (us j).oneCell' = true)
      (hr : ∀ j d, (xs.flatMap D.cells)[j]? = some d → RelV h ρ d (us j)) :
      RelV h ρ (.list t xs) (.slice (some ⟨b, off, none⟩) n c)
  | at (ds off b o o' cs e fz) (us : Nat → Value) (hb : h b = some (.cells cs e fz)) (ho : o' = o + off)
      (hc : ∀ j, j < ds.length → cs[o + j]? = some (us j)) (h1 : ∀ j, j < ds.length → (us j).oneCell' = true)
      (hr : ∀ j d, ds[j]? = some d → RelV h ρ d (us j)) : RelV h ρ (.at ds off) (.pointer (some ⟨b, o', none⟩))
  | nilp : RelV h ρ .nilp (.pointer none)
  | ptr (i off n b c s) (hb : ρ i n = some (b, c, s)) : RelV h ρ (.ptr i off n) (.pointer (some ⟨b, off, none⟩))
  | own (i len n b c cs sz) (hb : ρ i n = some (b, cs, sz)) (hc : c * sz = cs) (hl : len ≤ c) : RelV h ρ (.own i len n) (.slice (some ⟨b, 0, none⟩) len c)
  | asl (i off len n b o c cs sz) (hb : ρ i n = some (b, cs, sz)) (hl : len ≤ c) (ho : len ≠ 0 → o = off) : RelV h ρ (.asl i off len n) (.slice (some ⟨b, o, none⟩) len c)
  | agg (ds vs) (hs : vs.size = ds.length) (h1 : ∀ (j : Nat) (v : Value), vs[j]? = some v → v.oneCell' = true) (us : Nat → Value) (hu : ∀ j, j < ds.length → vs[j]? = some (us j)) (hr : ∀ j d, ds[j]? = some d → RelV h ρ d (us j)) : RelV h ρ (.agg ds) (.agg vs)
  | tup (ds vs) (hs : vs.size = ds.length) (us : Nat → Value) (hu : ∀ j, j < ds.length → vs[j]? = some (us j)) (hr : ∀ j d, ds[j]? = some d → RelV h ρ d (us j)) : RelV h ρ (.tup ds) (.tuple vs)
  | fn (f fi ca fv cv) (us ws : Nat → Value) (hs : fv.size = fi.length) (hs' : cv.size = ca.length) (hu : ∀ j, j < fi.length → fv[j]? = some (us j)) (hw : ∀ j, j < ca.length → cv[j]? = some (ws j))
      (hr : ∀ j d, fi[j]? = some d → RelV h ρ d (us j)) (hq : ∀ j d, ca[j]? = some d → RelV h ρ d (ws j)) : RelV h ρ (.fn f fi ca) (.func f fv cv)
  | nilf : RelV h ρ .nilf .nilFunc
  | iface (t d v) (hr : RelV h ρ d v) : RelV h ρ (.iface t d) (.iface t v)
  | nili : RelV h ρ .nili .nilIface

def GLe (h h' : Gh) : Prop := ∀ b o, h b = some o → h' b = some o
def RLe (ρ ρ' : Rn) : Prop := ∀ i n x, ρ i n = some x → ρ' i n = some x
theorem GLe.refl (h : Gh) : GLe h h := fun _ _ e => e
theorem RLe.refl (ρ : Rn) : RLe ρ ρ := fun _ _ _ e => e
theorem GLe.trans {a b c : Gh} (x : GLe a b) (y : GLe b c) : GLe a c := fun _ _ e => y _ _ (x _ _ e)
theorem RLe.trans {a b c : Rn} (x : RLe a b) (y : RLe b c) : RLe a c := fun _ _ _ e => y _ _ _ (x _ _ _ e)

theorem RelV.mono {h h' : Gh} {ρ ρ' : Rn} (hh : GLe h h') (hρ : RLe ρ ρ') {d : D} {v : Value} (r : RelV h ρ d v) : RelV h' ρ' d v := by
  induction r with
  | und v => exact .und v
  | bool b => exact .bool b
  | int k n => exact .int k n
  | str l s e => exact .str l s e
  | lnil t a c ht => exact .lnil t a c ht
  | list t xs b off n c sz cs e fz us hx hn hlen ht hsz hcl hcc hb hc ho hr ih => exact .list t xs b off n c sz cs e fz us hx hn hlen ht hsz hcl hcc (hh _ _ hb) hc ho ih
  | «at» ds off b o o' cs e fz us hb ho hc h1 hr ih => exact .at ds off b o o' cs e fz us (hh _ _ hb) ho hc h1 ih
  | nilp => exact .nilp
  | ptr i off n b c s hb => exact .ptr i off n b c s (hρ _ _ _ hb)
  | own i len n b c cs sz hb hc hl => exact .own i len n b c cs sz (hρ _ _ _ hb) hc hl
  | asl i off len n b o c cs sz hb hl ho => exact .asl i off len n b o c cs sz (hρ _ _ _ hb) hl ho
  | agg ds vs hs h1 us hu hr ih => exact .agg ds vs hs h1 us hu ih
  | tup ds vs hs us hu hr ih => exact .tup ds vs hs us hu ih
  | fn f fi ca fv cv us ws hs hs' hu hw hr hq ih1 ih2 => exact .fn f fi ca fv cv us ws hs hs' hu hw ih1 ih2
  | nilf => exact .nilf
  | iface t d v hr ih => exact .iface t d v ih
  | nili => exact .nili

theorem closedL_get {l : List D} (h : D.closedL l = true) {j : Nat} {d : D} (hj : l[j]? = some d) : d.closed = true := by
  induction l generalizing j with
  | nil => simp at hj
  | cons a l ih =>
    simp only [D.closedL, Bool.and_eq_true] at h
    cases j with
    | zero => simp at hj; exact hj ▸ h.1
    | succ j => exact ih h.2 (by simpa using hj)

theorem closed_cells {d : D} (h : d.closed = true) : D.closedL d.cells = true := by
  cases d <;> simp_all [D.cells, D.closedL, D.closed]

theorem closedL_flat {xs : List D} (h : ∀ x ∈ xs, x.closed = true) : D.closedL (xs.flatMap D.cells) = true := by
  induction xs with
  | nil => rfl
  | cons a l ih =>
    have h1 := closed_cells (h a (by simp))
    have h2 := ih (fun x hx => h x (by simp [hx]))
    simp only [List.flatMap_cons]
    generalize D.cells a = p at h1
    induction p with
    | nil => simpa using h2
    | cons q p ihp =>
      simp only [D.closedL, Bool.and_eq_true, List.cons_append] at h1 ⊢
      exact ⟨h1.1, ihp h1.2⟩

/-- What is closed doesn't hang on where the own heap lies. -/
theorem RelV.closed {h : Gh} {ρ ρ' : Rn} {d : D} {v : Value} (r : RelV h ρ d v) : d.closed = true → RelV h ρ' d v := by
  induction r with
  | und v => exact fun _ => .und v
  | bool b => exact fun _ => .bool b
  | int k n => exact fun _ => .int k n
  | str l s e => exact fun _ => .str l s e
  | lnil t a c ht => exact fun _ => .lnil t a c ht
  | list t xs b off n c sz cs e fz us hx hn hlen ht hsz hcl hcc hb hc ho hr ih =>
    exact fun _ => .list t xs b off n c sz cs e fz us hx hn hlen ht hsz hcl hcc hb hc ho fun j d hj => ih j d hj (closedL_get (closedL_flat hcl) hj)
  | «at» ds off b o o' cs e fz us hb ho hc h1 hr ih => exact fun hc' => .at ds off b o o' cs e fz us hb ho hc h1 fun j d hj => ih j d hj (closedL_get (by simpa [D.closed] using hc') hj)
  | nilp => exact fun _ => .nilp
  | ptr i off n b c s hb => exact fun hc => by simp [D.closed] at hc
  | own i len n b c cs sz hb hc hl => exact fun hc => by simp [D.closed] at hc
  | asl i off len n b o c cs sz hb hl ho => exact fun hc => by simp [D.closed] at hc
  | agg ds vs hs h1 us hu hr ih => exact fun hc => .agg ds vs hs h1 us hu fun j d hj => ih j d hj (closedL_get (by simpa [D.closed] using hc) hj)
  | tup ds vs hs us hu hr ih => exact fun hc => .tup ds vs hs us hu fun j d hj => ih j d hj (closedL_get (by simpa [D.closed] using hc) hj)
  | fn f fi ca fv cv us ws hs hs' hu hw hr hq ih1 ih2 =>
    intro hc
    simp only [D.closed, Bool.and_eq_true] at hc
    exact .fn f fi ca fv cv us ws hs hs' hu hw (fun j d hj => ih1 j d hj (closedL_get hc.1 hj)) (fun j d hj => ih2 j d hj (closedL_get hc.2 hj))
  | nilf => exact fun _ => .nilf
  | iface t d v hr ih => exact fun hc => .iface t d v (ih (by simpa [D.closed] using hc))
  | nili => exact fun _ => .nili

/-- A value's cells are told by the data's cells. -/
theorem RelV.cells {h : Gh} {ρ : Rn} {d : D} {v : Value} {l : List D} (r : RelV h ρ d v) (hl : d.cells? = some l) :
    l = d.cells ∧ v.cells.size = l.length ∧ ∀ (j : Nat) (d' : D), l[j]? = some d' → ∃ u, v.cells[j]? = some u ∧ u.oneCell' = true ∧ RelV h ρ d' u := by
  have one : ∀ {d v}, RelV h ρ d v → d.cells = [d] → v.cells = #[v] → v.oneCell' = true → some [d] = some l → l = d.cells ∧ v.cells.size = l.length ∧ ∀ (j : Nat) (d' : D), l[j]? = some d' → ∃ u, v.cells[j]? = some u ∧ u.oneCell' = true ∧ RelV h ρ d' u := by
    intro d v r h1 h2 h3 h4
    cases h4
    refine ⟨h1.symm, by simp [h2], fun j d' hj => ?_⟩
    rw [h2]
    cases j with
    | zero => simp at hj; exact ⟨v, by simp, h3, hj ▸ r⟩
    | succ j => simp at hj
  cases r with
  | und v => simp [D.cells?] at hl
  | tup => simp [D.cells?] at hl
  | agg ds vs hs h1 us hu hr =>
    simp only [D.cells?, Option.some.injEq] at hl
    subst hl
    refine ⟨rfl, hs, fun j d' hj => ?_⟩
    have hlt : j < ds.length := (List.getElem?_eq_some_iff.1 hj).1
    exact ⟨us j, hu j hlt, h1 _ _ (hu j hlt), hr j d' hj⟩
  | bool b => exact one (.bool b) rfl rfl rfl hl
  | int k n => exact one (.int k n) rfl rfl rfl hl
  | str l s e => exact one (.str l s e) rfl rfl rfl hl
  | lnil t a c ht => exact one (.lnil t a c ht) rfl rfl rfl hl
  | list t xs b off n c sz cs e fz us hx hn hlen ht hsz hcl hcc hb hc ho hr => exact one (.list t xs b off n c sz cs e fz us hx hn hlen ht hsz hcl hcc hb hc ho hr) rfl rfl rfl hl
  | «at» ds off b o o' cs e fz us hb ho hc h1 hr => exact one (.at ds off b o o' cs e fz us hb ho hc h1 hr) rfl rfl rfl hl
  | nilp => exact one .nilp rfl rfl rfl hl
  | ptr i off n b c s hb => exact one (.ptr i off n b c s hb) rfl rfl rfl hl
  | own i len n b c cs sz hb hc hl' => exact one (.own i len n b c cs sz hb hc hl') rfl rfl rfl hl
  | asl i off len n b o c cs sz hb hl' ho => exact one (.asl i off len n b o c cs sz hb hl' ho) rfl rfl rfl hl
  | fn f fi ca fv cv us ws hs hs' hu hw hr hq => exact one (.fn f fi ca fv cv us ws hs hs' hu hw hr hq) rfl rfl rfl hl
  | nilf => exact one .nilf rfl rfl rfl hl
  | iface t d v hr => exact one (.iface t d v hr) rfl rfl rfl hl
  | nili => exact one .nili rfl rfl rfl hl

/-- Cells that lie from 'off' on. -/
def Row (h : Gh) (ρ : Rn) (cs : Array Value) (off : Nat) (ds : List D) : Prop :=
  ∀ (j : Nat) (d : D), ds[j]? = some d → ∃ u, cs[off + j]? = some u ∧ u.oneCell' = true ∧ RelV h ρ d u

theorem Row.mono {h h' : Gh} {ρ ρ' : Rn} (hh : GLe h h') (hρ : RLe ρ ρ') {cs : Array Value} {off : Nat} {ds : List D} (r : Row h ρ cs off ds) : Row h' ρ' cs off ds :=
  fun j d hj => let ⟨u, a, b, c⟩ := r j d hj; ⟨u, a, b, c.mono hh hρ⟩

def Clear (cs : Array Value) (fz : Nat × Nat) : Prop := ∀ j, j < cs.size → ¬ (fz.1 ≤ j ∧ j < fz.2)

/-- A block of the own heap lies in memory. -/
def RelB (h : Gh) (ρ : Rn) (i : Nat) (w : World) : Blk → Prop
  | .var ds => ∃ b c s cs e fz, ρ i ds.length = some (b, c, s) ∧ h b = none ∧ w.heap[b]? = some (.cells cs e fz) ∧ cs.size = c ∧ c = ds.length ∧ Row h ρ cs 0 ds ∧ Clear cs fz
  | .row sz _ ds => ∃ b c cs e fz, ρ i ds.length = some (b, c, sz) ∧ h b = none ∧ w.heap[b]? = some (.cells cs e fz) ∧ cs.size = c ∧ ds.length ≤ c ∧ Row h ρ cs 0 ds ∧ Clear cs fz
  | .frz _ _ ds => ∃ b c s cs e fz, ρ i ds.length = some (b, c, s) ∧ h b = some (.cells cs e fz) ∧ Row h ρ cs 0 ds
  | .iter s pos => ∃ b c z bs, ρ i 0 = some (b, c, z) ∧ h b = none ∧ bs.data.toList = s ∧ w.heap[b]? = some (.stringIter bs pos)
  | .dead => True
def Blk.n : Blk → Nat
  | .var ds | .row _ _ ds | .frz _ _ ds => ds.length
  | _ => 0
/-- It may be written: its memory is nobody else's. -/
def Blk.live : Blk → Bool
  | .var _ | .row .. | .iter .. => true
  | _ => false

/-- The memory w in a call that began in w0, where it may write M0 (its callers' blocks that it was handed) and what is new. -/
structure Sim (w0 : World) (M0 : Nat → Prop) (hI h : Gh) (ρ : Rn) (H : Hp) (w : World) : Prop where
  os : w.os = w0.os
  tape : w.tape = w0.tape
  output : w.output = w0.output
  size : w0.heap.size ≤ w.heap.size
  imm : GLe h (fun b => w.heap[b]?)
  blk : ∀ i, RelB h ρ i w (hget H i)
  own : ∀ i b x, (hget H i).live = true → ρ i (hget H i).n = some (b, x) → M0 b ∨ w0.heap.size ≤ b
  inj : ∀ i j b x y, i ≠ j → (hget H i).live = true → (hget H j).live = true → ρ i (hget H i).n = some (b, x) → ρ j (hget H j).n ≠ some (b, y)
  dom : ∀ i n x, ρ i n = some x → i < H.length
  ver : ∀ i sz ag ds, hget H i = .row sz ag ds → ∀ n x, ρ i n = some x → n ≤ ds.length
  keep : ∀ b, b < w0.heap.size → ¬ M0 b → h b = hI b
  frame : ∀ b, b < w0.heap.size → ¬ M0 b → w.heap[b]? = w0.heap[b]?
end Go.Lv
