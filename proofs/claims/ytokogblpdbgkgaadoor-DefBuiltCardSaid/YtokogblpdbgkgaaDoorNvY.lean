/- LvY: what is handed to a call, by its type, as data. -/
import Derived.Test.YtokogblpdbgkgaaDoorNv6
import Derived.ChangeArms
import Derived.DataReads
namespace Go.Lv
open Go
set_option linter.unusedVariables false
set_option linter.unusedSimpArgs false

/-- A plain type: whole numbers, bools, texts, slices of such, structs of such. -/
inductive Sh where
  | int (k : IntKind)
  | bool
  | str
  | sl (e : Sh)
  | st (fs : List Sh)
/-- A value of cells. -/
def Sh.mk : Sh → List D → D
  | .st _, ds => .agg ds
  | _, [d] => d
  | _, _ => .und
mutual
/-- The cells of a value of a plain type. -/
def Sh.ok : Sh → List D → Prop
  | .int k, ds => ∃ z, ds = [.int k z] ∧ (Lit.int k z).wf = true
  | .bool, ds => ∃ b, ds = [.bool b]
  | .str, ds => ∃ s : List UInt8, ds = [.str s] ∧ s.length ≤ maxLen
  | .sl e, ds => ∃ ys : List (List D), ds = [.list false (ys.map e.mk)] ∧ ys.length ≤ maxLen ∧ ∀ y ∈ ys, e.ok y
  | .st fs, ds => Sh.okL fs ds
def Sh.okL : List Sh → List D → Prop
  | [], ds => ds = []
  | s :: l, ds => ∃ a b, ds = a ++ b ∧ s.ok a ∧ Sh.okL l b
end
def shL (f : TypeId → Option Sh) : List Field → Option (List Sh)
  | [] => some []
  | x :: l => match f x.type, shL f l with
    | some s, some r => some (s :: r)
    | _, _ => none
def shOf (P : Program) : Nat → TypeId → Option Sh
  | 0, _ => none
  | n + 1, t => match P.underlying t with
    | some (.int k) => if P.cellsOf t = 1 then some (.int k) else none
    | some .bool => if P.cellsOf t = 1 then some .bool else none
    | some .string => if P.cellsOf t = 1 then some .str else none
    | some (.slice e) => if P.cellsOf t = 1 ∧ 0 < P.cellsOf e then (shOf P n e).map .sl else none
    | some (.struct fs) => if tiles P 0 fs.toList (P.cellsOf t) = true then (shL (shOf P n) fs.toList).map .st else none
    | _ => none

/-- Cells that tell values, one by one. -/
def Cells (h : Gh) (ds : List D) (cs : List Value) : Prop :=
  ds.length = cs.length ∧ D.closedL ds = true ∧ ∀ (j : Nat) (d : D), ds[j]? = some d → ∃ v, cs[j]? = some v ∧ v.oneCell' = true ∧ RelV h (fun _ _ => none) d v

theorem Cells.one {h : Gh} {d : D} {v : Value} (hc : d.closed = true) (h1 : v.oneCell' = true) (hr : RelV h (fun _ _ => none) d v) : Cells h [d] [v] :=
  ⟨rfl, by simp [D.closedL, hc], fun j d' hj => by
    cases j with
    | zero => cases hj; exact ⟨v, rfl, h1, hr⟩
    | succ j => simp at hj⟩
theorem closedL_app {a b : List D} (ha : D.closedL a = true) (hb : D.closedL b = true) : D.closedL (a ++ b) = true := by
  induction a with
  | nil => exact hb
  | cons x l ih =>
    simp only [D.closedL, Bool.and_eq_true, List.cons_append] at ha ⊢
    exact ⟨ha.1, ih ha.2⟩
theorem Cells.app {h : Gh} {a b : List D} {x y : List Value} (h1 : Cells h a x) (h2 : Cells h b y) : Cells h (a ++ b) (x ++ y) := by
  refine ⟨by simp [h1.1, h2.1], closedL_app h1.2.1 h2.2.1, fun j d hj => ?_⟩
  rw [List.getElem?_append] at hj ⊢
  rw [← h1.1]
  split at hj
  · rename_i hlt
    rw [if_pos hlt]
    exact h1.2.2 j d hj
  · rename_i hlt
    rw [if_neg hlt]
    exact h2.2.2 _ d hj

/-- A value by its cells is one, and they are its. -/
theorem Sh.mk_cells {s : Sh} {ds : List D} (hs : s.ok ds) : (s.mk ds).cells = ds ∧ (s.mk ds).cells? = some ds := by
  cases s with
  | int k => obtain ⟨z, rfl, _⟩ := hs; exact ⟨rfl, rfl⟩
  | bool => obtain ⟨z, rfl⟩ := hs; exact ⟨rfl, rfl⟩
  | str => obtain ⟨z, rfl, _⟩ := hs; exact ⟨rfl, rfl⟩
  | sl e => obtain ⟨z, rfl, _⟩ := hs; exact ⟨rfl, rfl⟩
  | st fs => exact ⟨rfl, rfl⟩
theorem Sh.mk_closed {s : Sh} {ds : List D} (hs : s.ok ds) (hc : D.closedL ds = true) : (s.mk ds).closed = true := by
  cases s with
  | int k => obtain ⟨z, rfl, _⟩ := hs; rfl
  | bool => obtain ⟨z, rfl⟩ := hs; rfl
  | str => obtain ⟨z, rfl, _⟩ := hs; rfl
  | sl e => obtain ⟨z, rfl, _⟩ := hs; rfl
  | st fs => exact hc

theorem build_list {α : Type} {Q : Nat → α → Prop} : ∀ n : Nat, (∀ i, i < n → ∃ y, Q i y) → ∃ ys : List α, ys.length = n ∧ ∀ (i : Nat) (y : α), ys[i]? = some y → Q i y
  | 0, _ => ⟨[], rfl, fun i y h => by simp at h⟩
  | n + 1, h => by
    obtain ⟨ys, h1, h2⟩ := build_list n fun i hi => h i (by omega)
    obtain ⟨y, hy⟩ := h n (by omega)
    refine ⟨ys ++ [y], by simp [h1], fun i z hz => ?_⟩
    rw [List.getElem?_append] at hz
    split at hz
    · exact h2 i z hz
    · rename_i hlt
      have : i = n := by
        have := (List.getElem?_eq_some_iff.1 hz).1
        simp at this
        omega
      subst this
      rw [h1, Nat.sub_self] at hz
      cases hz
      exact hy

theorem flatY_get {α : Type} {sz : Nat} (hp : 0 < sz) : ∀ (ys : List (List α)), (∀ y ∈ ys, y.length = sz) → ∀ j, j < (ys.flatten).length → ∃ y, ys[j / sz]? = some y ∧ ys.flatten[j]? = y[j % sz]? ∧ j % sz < sz
  | [], _, j, hj => by simp at hj
  | y :: ys, h, j, hj => by
    have hy := h y (by simp)
    by_cases hlt : j < sz
    · refine ⟨y, by simp [Nat.div_eq_of_lt hlt], ?_, Nat.mod_lt _ hp⟩
      rw [List.flatten_cons, List.getElem?_append_left (by omega), Nat.mod_eq_of_lt hlt]
    · have hj' : j - sz < ys.flatten.length := by
        rw [List.flatten_cons, List.length_append, hy] at hj
        omega
      obtain ⟨z, h1, h2, h3⟩ := flatY_get hp ys (fun z hz => h z (by simp [hz])) (j - sz) hj'
      have e1 : j / sz = (j - sz) / sz + 1 := by
        rw [Nat.div_eq_sub_div hp (by omega)]
      have e2 : j % sz = (j - sz) % sz := Nat.mod_eq_sub_mod (by omega)
      refine ⟨z, by rw [e1]; simpa using h1, ?_, Nat.mod_lt _ hp⟩
      rw [List.flatten_cons, List.getElem?_append_right (by omega), hy, e2, h2]

section
variable {H : Type} {enc : TypeId × Value → H} {P : Program} {w : World} {base : Nat} {spare : Nat → Bool} {held : Bool}

theorem shL_get {f : TypeId → Option Sh} : ∀ {fs : List Field} {ss : List Sh}, shL f fs = some ss → ss.length = fs.length ∧ ∀ (i : Nat) (x : Field), fs[i]? = some x → ∃ s, ss[i]? = some s ∧ f x.type = some s
  | [], ss, h => by
    simp only [shL, Option.some.injEq] at h
    subst h
    exact ⟨rfl, fun i x hx => by simp at hx⟩
  | a :: l, ss, h => by
    simp only [shL] at h
    split at h
    · rename_i s r hs hr
      cases h
      obtain ⟨h1, h2⟩ := shL_get hr
      refine ⟨by simp [h1], fun i x hx => ?_⟩
      cases i with
      | zero => cases hx; exact ⟨s, rfl, hs⟩
      | succ i => exact h2 i x (by simpa using hx)
    · cases h

/-- The fields' cells, one behind the other. -/
theorem fields_rel {h : Gh} {n : Nat} {cs : List Value} (ih : ∀ (t : TypeId) (s : Sh) (fuel : Nat) (cs : List Value) (x : DataW H × List MemPlace), shOf P n t = some s → DataW.trod enc P w base spare held fuel t cs = some x → ∃ ds, Cells h ds cs ∧ s.ok ds) {m : Nat} :
    ∀ (fs : List Field) (ss : List Sh) (off total : Nat), tiles P off fs total = true → shL (shOf P n) fs = some ss → cs.length = total →
      (∀ (i : Nat) (f : Field), fs[i]? = some f → ∃ x, DataW.trod enc P w base spare held m f.type ((cs.drop f.offset).take (P.cellsOf f.type)) = some x) →
      ∃ ds, Cells h ds (cs.drop off) ∧ Sh.okL ss ds
  | [], ss, off, total, ht, hs, hl, he => by
    simp only [tiles, beq_iff_eq] at ht
    simp only [shL, Option.some.injEq] at hs
    subst hs ht
    exact ⟨[], ⟨by simp [← hl], rfl, fun j d hj => by simp at hj⟩, rfl⟩
  | f :: fs, ss, off, total, ht, hs, hl, he => by
    simp only [tiles, Bool.and_eq_true, beq_iff_eq] at ht
    obtain ⟨rfl, ht⟩ := ht
    simp only [shL] at hs
    split at hs
    · rename_i s r hs1 hs2
      cases hs
      obtain ⟨x, hx⟩ := he 0 f rfl
      obtain ⟨d1, c1, o1⟩ := ih _ _ _ _ _ hs1 hx
      obtain ⟨d2, c2, o2⟩ := fields_rel ih fs r _ total ht hs2 hl fun i g hg => he (i + 1) g (by simpa using hg)
      refine ⟨d1 ++ d2, ?_, d1, d2, rfl, o1, o2⟩
      have := c1.app c2
      rwa [show cs.drop f.offset = (cs.drop f.offset).take (P.cellsOf f.type) ++ cs.drop (f.offset + P.cellsOf f.type) from by rw [← List.drop_drop, List.take_append_drop]]
    · cases hs

theorem trod_rel : ∀ (n : Nat) (t : TypeId) (s : Sh) (fuel : Nat) (cs : List Value) (x : DataW H × List MemPlace), shOf P n t = some s → DataW.trod enc P w base spare held fuel t cs = some x →
    ∃ ds, Cells (fun b => w.heap[b]?) ds cs ∧ s.ok ds
  | 0, t, s, fuel, cs, x, hs, hx => by cases hs
  | n + 1, t, s, fuel, cs, x, hs, hx => by
    simp only [shOf] at hs
    split at hs
    · rename_i k hu
      split at hs
      · cases hs
        obtain ⟨z, rfl, _, hw⟩ := DataW.trod_int hu hx
        exact ⟨[.int k z], .one rfl rfl (.int _ _), z, rfl, hw⟩
      · cases hs
    · rename_i hu
      split at hs
      · cases hs
        obtain ⟨b, rfl⟩ : ∃ b, cs = [.bool b] := by
          cases fuel with
          | zero => simp [DataW.trod] at hx
          | succ m =>
            unfold DataW.trod at hx
            rw [hu] at hx
            split at hx <;> simp_all
        exact ⟨[.bool b], .one rfl rfl (.bool _), b, rfl⟩
      · cases hs
    · rename_i hu
      split at hs
      · cases hs
        obtain ⟨z, rfl, _, hw⟩ := DataW.trod_string hu hx
        exact ⟨[.str z.data.toList], .one rfl rfl (.str _ _ rfl), z.data.toList, rfl, by simpa using hw⟩
      · cases hs
    · rename_i e hu
      split at hs
      · rename_i hc
        rw [Option.map_eq_some_iff] at hs
        obtain ⟨se, he, rfl⟩ := hs
        rcases DataW.trod_slice hu hx with ⟨rfl, _⟩ | ⟨a, len, cap, elems, rest, m, _, rfl, _, hb, hl, hm, hlen, hel, _, _⟩
        · exact ⟨[.list false []], .one rfl rfl (.lnil _ _ _ (fun h => by cases h)), [], rfl, by simp, fun y hy => by simp at hy⟩
        · have each : ∀ i, i < len → ∃ y : List D, (∃ ci, w.cells? base (a.add (i * P.cellsOf e)) (P.cellsOf e) = some ci ∧ Cells (fun b => w.heap[b]?) y ci) ∧ se.ok y := by
            intro i hi
            have h1 := hel i hi
            rw [List.getElem?_eq_getElem (by omega), Option.bind_eq_some_iff] at h1
            obtain ⟨ci, h2, h3⟩ := h1
            obtain ⟨ds, h4, h5⟩ := trod_rel n e se _ _ _ he h3
            exact ⟨ds, ⟨ci, h2, h4⟩, h5⟩
          obtain ⟨ys, hyl, hy⟩ := build_list len each
          have hok : ∀ y ∈ ys, se.ok y := fun y hm => by
            obtain ⟨i, hi⟩ := List.getElem?_of_mem hm
            exact (hy i y hi).2
          refine ⟨[.list false (ys.map se.mk)], .one rfl rfl ?_, ys, rfl, by omega, hok⟩
          cases len with
          | zero =>
            have : ys = [] := List.length_eq_zero_iff.1 hyl
            subst this
            exact .lnil _ _ _ (fun h => by cases h)
          | succ len =>
            have hp := hc.2
            have cell : ∀ i r, i < len + 1 → r < P.cellsOf e → ∀ ci, w.cells? base (a.add (i * P.cellsOf e)) (P.cellsOf e) = some ci → w.cell? ((a.add (i * P.cellsOf e)).add r) = ci[r]? := by
              intro i r hi hr ci hci
              have := World.cells?_some hci
              exact this.2.2 r hr
            obtain ⟨y0, hy0⟩ : ∃ y, ys[0]? = some y := ⟨_, List.getElem?_eq_getElem (by omega)⟩
            obtain ⟨⟨c0, hc0, hr0⟩, _⟩ := hy 0 y0 hy0
            have l0 : c0.length = P.cellsOf e := (World.cells?_some hc0).2.1
            have z0 := cell 0 0 (by omega) hp c0 hc0
            rw [Nat.zero_mul, show (a.add 0).add 0 = a from by simp [Addr.add], List.getElem?_eq_getElem (by omega)] at z0
            obtain ⟨cs, el, fz, hcs, hspot⟩ : ∃ cs e fz, w.heap[a.block]? = some (.cells cs e fz) ∧ a.spot = none := by
              unfold World.cell? at z0
              split at z0
              · rename_i cs e fz hh
                refine ⟨cs, e, fz, hh, ?_⟩
                split at z0
                · cases z0
                · rename_i hs; simpa using hs
              · cases z0
            have ha : a = ⟨a.block, a.off, none⟩ := by rw [← hspot]
            have addb : ∀ i j, ((a.add i).add j).block = a.block ∧ ((a.add i).add j).off = a.off + (i + j) ∧ ((a.add i).add j).spot = none := by
              intro i j
              unfold Addr.add
              split
              · split
                · exact ⟨rfl, by omega, hspot⟩
                · exact ⟨rfl, by simp only []; omega, rfl⟩
              · split
                · exact ⟨rfl, by simp only []; omega, rfl⟩
                · exact ⟨rfl, by simp only []; omega, rfl⟩
            have lens : ∀ y ∈ ys, y.length = P.cellsOf e := fun y hm => by
              obtain ⟨i, hi⟩ := List.getElem?_of_mem hm
              obtain ⟨⟨ci, h1, h2⟩, _⟩ := hy i y hi
              rw [h2.1]
              exact (World.cells?_some h1).2.1
            have flat : (ys.map se.mk).flatMap D.cells = ys.flatten := by
              have : ∀ l : List (List D), (∀ y ∈ l, se.ok y) → (l.map se.mk).flatMap D.cells = l.flatten := by
                intro l
                induction l with
                | nil => intro _; rfl
                | cons y l ih =>
                  intro h
                  simp only [List.map_cons, List.flatMap_cons, List.flatten_cons]
                  rw [(Sh.mk_cells (h y (by simp))).1, ih fun z hz => h z (by simp [hz])]
              exact this ys hok
            have at_ : ∀ j, j < ys.flatten.length → ∃ d, ys.flatten[j]? = some d ∧ ∃ v, cs[a.off + j]? = some v ∧ v.oneCell' = true ∧ RelV (fun b => w.heap[b]?) (fun _ _ => none) d v := by
              intro j hj
              obtain ⟨y, h1, h2, h3⟩ := flatY_get hp ys lens j hj
              have hyy := List.mem_of_getElem? h1
              obtain ⟨⟨ci, h4, h5⟩, _⟩ := hy _ y h1
              have hil : j / P.cellsOf e < len + 1 := by
                have := (List.getElem?_eq_some_iff.1 h1).1
                omega
              have hjl : ∃ d, y[j % P.cellsOf e]? = some d := ⟨_, List.getElem?_eq_getElem (by rw [lens y hyy]; exact h3)⟩
              obtain ⟨d, hd⟩ := hjl
              obtain ⟨v, hv, v1, v2⟩ := h5.2.2 _ d hd
              refine ⟨d, by rw [h2, hd], v, ?_, v1, v2⟩
              have h6 := cell _ _ hil h3 ci h4
              rw [hv] at h6
              obtain ⟨b1, b2, b3⟩ := addb (j / P.cellsOf e * P.cellsOf e) (j % P.cellsOf e)
              unfold World.cell? at h6
              rw [b1, hcs, b2, b3] at h6
              have : j / P.cellsOf e * P.cellsOf e + j % P.cellsOf e = j := by rw [Nat.mul_comm]; exact Nat.div_add_mod _ _
              rw [this] at h6
              simpa using h6
            rw [ha]
            refine .list _ _ _ _ _ _ (P.cellsOf e) cs el fz (fun j => (cs[a.off + j]?).getD .nilIface) ?_ (by simp [hyl]) hl (fun h => by cases h) ?_ ?_ ?_ hcs ?_ ?_ ?_
            · intro h
              have := congrArg List.length h
              simp [hyl] at this
            · intro x hx
              obtain ⟨y, hm, rfl⟩ := List.mem_map.1 hx
              rw [(Sh.mk_cells (hok y hm)).1]
              exact lens y hm
            · intro x hx
              obtain ⟨y, hm, rfl⟩ := List.mem_map.1 hx
              obtain ⟨i, hi⟩ := List.getElem?_of_mem hm
              obtain ⟨⟨ci, h1, h2⟩, _⟩ := hy i y hi
              exact Sh.mk_closed (hok y hm) h2.2.1
            · intro x hx
              obtain ⟨y, hm, rfl⟩ := List.mem_map.1 hx
              rw [(Sh.mk_cells (hok y hm)).1]
              exact (Sh.mk_cells (hok y hm)).2
            · intro j hj
              rw [flat] at hj
              obtain ⟨d, _, v, hv, _⟩ := at_ j hj
              simp only [hv, Option.getD_some]
            · intro j hj
              rw [flat] at hj
              obtain ⟨d, _, v, hv, h1, _⟩ := at_ j hj
              simp only [hv, Option.getD_some]
              exact h1
            · intro j d hj
              rw [flat] at hj
              obtain ⟨d', hd', v, hv, _, h2⟩ := at_ j (List.getElem?_eq_some_iff.1 hj).1
              rw [hd'] at hj
              cases hj
              simp only [hv, Option.getD_some]
              exact h2
      · cases hs
    · rename_i fs hu
      split at hs
      · rename_i ht
        rw [Option.map_eq_some_iff] at hs
        obtain ⟨ss, he, rfl⟩ := hs
        obtain ⟨xs, m, _, _, hl, hxl, hf⟩ := DataW.trod_struct hu hx
        obtain ⟨ds, h1, h2⟩ := fields_rel (h := fun b => w.heap[b]?) (n := n) (cs := cs) (fun t s fuel cs x a b => trod_rel n t s fuel cs x a b) (m := m) fs.toList ss 0 _ ht he hl (fun i f hf' => by
          have hi : fs[i]? = some f := by simpa using hf'
          have := hf i f hi
          have hlt : i < xs.length := by
            have := (Array.getElem?_eq_some_iff.1 hi).1
            omega
          rw [List.getElem?_eq_getElem hlt] at this
          exact ⟨_, this⟩)
        exact ⟨ds, by simpa using h1, h2⟩
      · cases hs
    · cases hs

/-- An argument as data. -/
theorem arg_rel {n : Nat} {t : TypeId} {s : Sh} {b0 : Nat} {r : Reach} {v : Value} {d : DataW H} {p : List MemPlace} (hs : shOf P n t = some s) (hval : Value.okWide P w r b0 t v) (h : DataW.Trod enc P w base spare held t v d p) :
    ∃ ds, s.ok ds ∧ RelV (fun b => w.heap[b]?) (fun _ _ => none) (s.mk ds) v := by
  obtain ⟨fuel, hf⟩ := h
  obtain ⟨ds, h1, h2⟩ := trod_rel n t s fuel _ _ hs hf
  refine ⟨ds, h2, ?_⟩
  have single : ∀ {d0 : D}, ds = [d0] → v.cells = #[v] → RelV (fun b => w.heap[b]?) (fun _ _ => none) d0 v := by
    intro d0 e e2
    subst e
    obtain ⟨u, hu, _, hr⟩ := h1.2.2 0 d0 rfl
    rw [e2] at hu
    cases hu
    exact hr
  cases n with
  | zero => cases hs
  | succ n =>
    simp only [shOf] at hs
    split at hs
    · rename_i k hu
      split at hs
      · cases hs
        obtain ⟨z, rfl, hw⟩ := h2
        obtain ⟨x, rfl⟩ := WideShapes.okWide_int hu hval
        exact single rfl rfl
      · cases hs
    · rename_i hu
      split at hs
      · cases hs
        obtain ⟨z, rfl⟩ := h2
        obtain ⟨x, rfl⟩ := WideShapes.okWide_bool hu hval
        exact single rfl rfl
      · cases hs
    · rename_i hu
      split at hs
      · cases hs
        obtain ⟨z, rfl, hw⟩ := h2
        obtain ⟨x, rfl⟩ := WideShapes.okWide_string hu hval
        exact single rfl rfl
      · cases hs
    · rename_i e hu
      split at hs
      · rw [Option.map_eq_some_iff] at hs
        obtain ⟨se, he, rfl⟩ := hs
        obtain ⟨ys, rfl, hw⟩ := h2
        obtain ⟨a, len, cap, rfl⟩ := WideShapes.okWide_slice hu hval
        exact single rfl rfl
      · cases hs
    · rename_i fs hu
      split at hs
      · rw [Option.map_eq_some_iff] at hs
        obtain ⟨se, he, rfl⟩ := hs
        obtain ⟨cs, rfl, hsz⟩ := WideShapes.okWide_struct hu hval
        have hlen : ds.length = cs.size := by simpa [Value.cells] using h1.1
        have all : ∀ j, j < cs.size → ∃ d, ds[j]? = some d ∧ ∃ u, cs[j]? = some u ∧ u.oneCell' = true ∧ RelV (fun b => w.heap[b]?) (fun _ _ => none) d u := by
          intro j hj
          have hd : ds[j]? = some ds[j] := List.getElem?_eq_getElem (by omega)
          obtain ⟨u, hu', h3, h4⟩ := h1.2.2 j _ hd
          exact ⟨_, hd, u, by simpa [Value.cells] using hu', h3, h4⟩
        refine .agg ds cs hlen.symm ?_ (fun j => (cs[j]?).getD .nilIface) ?_ ?_
        · intro j u hu'
          obtain ⟨d, _, u', hu2, h3, _⟩ := all j (Array.getElem?_eq_some_iff.1 hu').1
          rw [hu'] at hu2
          cases hu2
          exact h3
        · intro j hj
          obtain ⟨d, _, u', hu2, h3, _⟩ := all j (by omega)
          rw [hu2]
          rfl
        · intro j d hj
          obtain ⟨d', hd', u', hu2, h3, h4⟩ := all j (by have := (List.getElem?_eq_some_iff.1 hj).1; omega)
          rw [hd'] at hj
          cases hj
          simp only [hu2, Option.getD_some]
          exact h4
      · cases hs
    · cases hs
end

section
variable {P : Program} {E : Env}
theorem caq_step {ops : Array Oper} {m k : Nat} {o : Oper} {rest : List Oper} {ts : List D} {H : Hp} {pd : Pend} {K : List D → Hp → Prop} (hm : 0 < m) : caq P E ops m k (o :: rest) ts H pd K = match wantD ops ts o with
    | some b => if b = true then cAny P E ops k o.op o.dst (ev E.g ts) H pd (anyK P E ops (m - 1) (k + 1) rest ts o.dst H K)
      else caq P E ops (m - 1) (k + 1) rest (putO ts o.dst (.tup [])) H pd K
    | none => False := by
  obtain ⟨n, rfl⟩ : ∃ n, m = n + 1 := ⟨m - 1, by omega⟩
  rfl
theorem caq_free {ops : Array Oper} {m k : Nat} {dst : Option Nat} {op : Op} {t : TypeId} {pos : String} {after : Array Edge} {rest : List Oper} {ts : List D} {H : Hp} {pd : Pend} {K : List D → Hp → Prop} (hm : 0 < m) : caq P E ops m k ({ dst := dst, op := op, type := t, pos := pos, after := after, guard := none } :: rest) ts H pd K = cAny P E ops k op dst (ev E.g ts) H pd (anyK P E ops (m - 1) (k + 1) rest ts dst H K) := by
  obtain ⟨n, rfl⟩ : ∃ n, m = n + 1 := ⟨m - 1, by omega⟩
  rfl
theorem caq_done {ops : Array Oper} {m k : Nat} {ts : List D} {H : Hp} {pd : Pend} {K : List D → Hp → Prop} : caq P E ops m k [] ts H pd K = K (fillT ts H.length pd) (H ++ fillH pd) := by cases m <;> rfl
/-- A call that leaves the memory as it is, behind which R holds. -/
structure PCall (P : Program) (E : Env) (g : FuncId) (args : List D) (H : Hp) (R : D → Prop) : Prop where
  go : ∃ r, PDoes P E g args H r ∧ R r
theorem PCall.to {g : FuncId} {args : List D} {H : Hp} {R : D → Prop} {r : D} (hb : hasBody P g = true) (h : PDen P E g args r) (hr : R r) : PCall P E g args H R := ⟨r, .body hb h, hr⟩
theorem PCall.ext {g : FuncId} {args : List D} {H : Hp} {R : D → Prop} {r : D} (x : Ext) (hx : extOf P g = some x) (hd : extD x args = some r) (hr : R r) : PCall P E g args H R := ⟨r, .ext x hx hd, hr⟩
theorem PCall.mem {g : FuncId} {args : List D} {H : Hp} {R : D → Prop} {r : D} (hb : hasBody P g = true) (h : Fun P E g args H fun d H' => d = r ∧ H' = H) (hr : R r) : PCall P E g args H R := ⟨r, .mem hb h, hr⟩
theorem cPure_call {op : Op} {α : Operand → D} {H : Hp} {R : D → Prop} : cPure P E op α H R = match callee P op α with
    | some (g, args) => PCall P E g args H R
    | none => if keeps op = true then match aop P op α H with
        | some (d, _) => R d
        | none => False
      else match aop P op α H with
        | some (d, H') => H' = H ∧ R d
        | none => False := by
  unfold cPure
  split
  · rename_i g args hc
    rw [hc]
    exact propext ⟨fun h => ⟨h⟩, fun h => h.go⟩
  · rename_i hc
    rw [hc]
    rfl
/-- A loop, round by round. -/
structure loopM (P : Program) (E : Env) (cx : Cx) (c : Code) (Q : Post) (n : Nat) (ts : List D) (H : Hp) : Prop where
  go : loopN cx.m0 (awp P E cx c) Q n ts H
theorem loopM_step {cx : Cx} {c : Code} {Q : Post} {n : Nat} {ts : List D} {H : Hp} (hm : P.follows .mixedOrders = true) (h : cwp P E cx c (Post.then (loopM P E cx c Q n) Q) ts H) : loopM P E cx c Q (n + 1) ts H :=
  ⟨ts, H, .refl _ _ _, awp_mono c (fun e ts H he => by cases e <;> first | exact he.go | exact he) ts H (cwp_sound hm c _ ts H h)⟩
theorem loopM_start {cx : Cx} {c : Code} {Q : Post} (hm : P.follows .mixedOrders = true) (n : Nat) {ts : List D} {H : Hp} (h : cwp P E cx c (Post.then (loopM P E cx c Q n) Q) ts H) : ∃ n, loopN cx.m0 (awp P E cx c) Q n ts H := ⟨n + 1, (loopM_step hm h).go⟩
/-- What is handed back, as data that own nothing. -/
structure Reif (H : Hp) (d r : D) : Prop where
  go : ∃ H', reify 6 H d = some (r, H')
/-- A contract out of a body that hands back rows of its own. -/
theorem pden_rby {f : FuncId} {fn : Func} {c : Code} {args : List D} {r : D} (hm : P.follows .mixedOrders = true) (hf : P.funcs[f]? = some fn) (hc : fn.body = some c) (ha : D.closedL args = true) (hr : r.closed = true)
    (h : cwp P E ⟨none, 0⟩ c (FinF P fn.results.toList fun d H => Reif H d r) (args ++ undL (fn.ntmps - args.length)) []) : PDen P E f args r := by
  refine pden_of hm hf hc ha hr (awp_mono c (fun e ts H he => ?_) _ _ (cwp_sound hm c _ _ _ h))
  cases e <;> simp only [FinF, Fin] at he ⊢ <;> first
    | (obtain ⟨d, hd, ⟨H', hre⟩⟩ := he
       exact ⟨d, hd, r, H', hre, rfl⟩)
    | exact he
theorem reif_closed {H : Hp} {d : D} (h : d.closed = true) : Reif H d d := ⟨H, by simp [reify, h]⟩
theorem reifyL_closed {k : Nat} : ∀ (l : List D) (H : Hp), D.closedL l = true → reifyL (reify k) H l = some (l, H)
  | [], H, _ => rfl
  | d :: l, H, h => by
    simp only [D.closedL, Bool.and_eq_true] at h
    have h1 : reify k H d = some (d, H) := by cases k <;> simp [reify, h.1]
    simp only [reifyL, h1, reifyL_closed l H h.2]
theorem reify_own (k : Nat) {H : Hp} {i len n sz : Nat} {ag : Bool} {cs : List D} (hg : hget H i = .row sz ag cs) (hn : cs.length = n) (hl : len * sz ≤ n) (hc : D.closedL (cs.take (len * sz)) = true) (ha : ag = true ∨ sz = 1 ∧ allCell (cs.take (len * sz)) = true) :
    reify (k + 1) H (.own i len n) = some (.list false (els ag sz len (cs.take (len * sz))), frz1 H i) := by
  have h0 : (D.own i len n).closed = false := rfl
  rw [reify]
  simp only [h0, Bool.false_eq_true, if_false, hg]
  rw [if_pos ⟨hn, hl⟩, reifyL_closed _ _ hc]
  simp only []
  rw [if_pos ha]
theorem reif_own {H : Hp} {i len n sz : Nat} {ag : Bool} {cs : List D} (hg : hget H i = .row sz ag cs) (hn : cs.length = n) (hl : len * sz ≤ n) (hc : D.closedL (cs.take (len * sz)) = true) (ha : ag = true ∨ sz = 1 ∧ allCell (cs.take (len * sz)) = true) :
    Reif H (.own i len n) (.list false (els ag sz len (cs.take (len * sz)))) := ⟨_, reify_own 5 hg hn hl hc ha⟩
theorem reif_tup1 {H : Hp} {d r e : D} (he : e.closed = true) (hd : d.closed = false) (h : ∃ H', reify 5 H d = some (r, H')) : Reif H (.tup [d, e]) (.tup [r, e]) := by
  obtain ⟨H', h⟩ := h
  refine ⟨H', ?_⟩
  have h0 : (D.tup [d, e]).closed = false := by simp [D.closed, D.closedL, hd]
  have h1 : reify 5 H' e = some (e, H') := by simp [reify, he]
  rw [show (6 : Nat) = 5 + 1 from rfl, reify]
  simp only [h0, Bool.false_eq_true, if_false]
  rw [show reifyL (reify 5) H [d, e] = some ([r, e], H') from by simp only [reifyL, h, h1]]
theorem hget_len : ∀ (H : Hp) (b : Blk), hget (H ++ [b]) H.length = b
  | [], b => rfl
  | _ :: l, b => hget_len l b
theorem hset_len' : ∀ (H : Hp) (b c : Blk), hset (H ++ [b]) H.length c = H ++ [c]
  | [], b, c => rfl
  | a :: l, b, c => by simp only [List.cons_append, List.length_cons, hset, hset_len' l b c]
theorem dBin_add {a b : List UInt8} (h : a.length + b.length ≤ 4611686018427387904) : dBin .add (.str a) (.str b) = some (.str (a ++ b)) := by
  simp only [dBin]
  exact if_pos h
theorem dBin_eqlI {k : IntKind} {a b : Int} : dBin .eql (.int k a) (.int k b) = some (.bool (a == b)) := by simp [dBin]
theorem Fun.to {g : FuncId} {args : List D} {H : Hp} {R R' : D → Hp → Prop} (h : Fun P E g args H R) (hr : ∀ d H', R d H' → R' d H') : Fun P E g args H R' := h.mono hr
end

theorem nc0 : ((0 : Nat) : Int) = 0 := rfl
theorem nc1 : ((1 : Nat) : Int) = 1 := rfl
theorem nc2 : ((2 : Nat) : Int) = 2 := rfl
theorem nc3 : ((3 : Nat) : Int) = 3 := rfl
theorem nc4 : ((4 : Nat) : Int) = 4 := rfl
theorem nc5 : ((5 : Nat) : Int) = 5 := rfl
theorem nc6 : ((6 : Nat) : Int) = 6 := rfl
theorem nc7 : ((7 : Nat) : Int) = 7 := rfl
theorem nc8 : ((8 : Nat) : Int) = 8 := rfl
theorem nc9 : ((9 : Nat) : Int) = 9 := rfl
theorem nc10 : ((10 : Nat) : Int) = 10 := rfl
theorem nc11 : ((11 : Nat) : Int) = 11 := rfl
theorem nc12 : ((12 : Nat) : Int) = 12 := rfl
theorem wl0 : IntKind.i64.wrap 0 = 0 := rfl
theorem wl1 : IntKind.i64.wrap 1 = 1 := rfl
theorem wl2 : IntKind.i64.wrap 2 = 2 := rfl
theorem wl3 : IntKind.i64.wrap 3 = 3 := rfl
theorem wl4 : IntKind.i64.wrap 4 = 4 := rfl
theorem wl5 : IntKind.i64.wrap 5 = 5 := rfl
theorem wl6 : IntKind.i64.wrap 6 = 6 := rfl
theorem wl7 : IntKind.i64.wrap 7 = 7 := rfl
theorem wl8 : IntKind.i64.wrap 8 = 8 := rfl
theorem wl9 : IntKind.i64.wrap 9 = 9 := rfl
theorem wl10 : IntKind.i64.wrap 10 = 10 := rfl
theorem wl11 : IntKind.i64.wrap 11 = 11 := rfl
theorem wl12 : IntKind.i64.wrap 12 = 12 := rfl
theorem exists_map {α β : Type} {f : α → β} {p : α → Prop} : ∀ {l : List β}, (∀ x ∈ l, ∃ a, x = f a ∧ p a) → ∃ as : List α, l = as.map f ∧ ∀ a ∈ as, p a
  | [], _ => ⟨[], rfl, fun a ha => by simp at ha⟩
  | x :: l, h => by
    obtain ⟨a, rfl, ha⟩ := h x (by simp)
    obtain ⟨as, rfl, has⟩ := exists_map (l := l) fun y hy => h y (List.mem_cons_of_mem _ hy)
    exact ⟨a :: as, rfl, fun b hb => by
      rcases List.mem_cons.1 hb with rfl | hb
      · exact ha
      · exact has b hb⟩
end Go.Lv
