/- LvH: composites, conversions, builtins that read. -/
import Derived.Test.YtmpbkkfkkbdndaaDoorLvG
namespace Go.Lv
open Go
set_option linter.unusedVariables false
set_option linter.unusedSimpArgs false
section
variable {P : Program} {w0 : World} {M0 : Nat → Prop} {hI h : Gh} {ρ : Rn} {H : Hp} {w : World}

theorem ofV_rel (v : Value) : RelV h ρ (ofV v) v := by
  unfold ofV
  split
  · exact .bool _
  · exact .int _ _
  · exact .str _ _ rfl
  · exact .lnil _ _ _ (fun _ => rfl)
  · exact .nilp
  · exact .nilf
  · exact .nili
  · exact .und _

/-- The cells are just these. -/
def Whole (h : Gh) (ρ : Rn) (cs : Array Value) (ds : List D) : Prop := cs.size = ds.length ∧ Row h ρ cs 0 ds

theorem zcells_spec {t : TypeId} (hz : 0 < (zcells P t).length) : ∃ i v, P.info? t = some i ∧ i.zero = some v ∧ Whole h ρ v.cells (zcells P t) := by
  unfold zcells at *
  split at hz
  · rename_i i hi
    split at hz
    · rename_i v hv
      split at hz
      · rename_i hone
        refine ⟨i, v, hi, hv, ?_⟩
        simp only [hi, hv, if_pos hone]
        refine ⟨by simp, fun j d hj => ?_⟩
        rw [List.getElem?_map] at hj
        cases hc : v.cells.toList[j]? with
        | none => simp [hc] at hj
        | some u =>
          simp only [hc, Option.map_some, Option.some.injEq] at hj
          subst hj
          exact ⟨u, by simpa using hc, List.all_eq_true.1 hone u (List.mem_of_getElem? hc), ofV_rel u⟩
      · simp at hz
    · simp at hz
  · simp at hz

theorem run_zero {t : TypeId} {i : TypeInfo} {v : Value} (hi : P.info? t = some i) (hv : i.zero = some v) : (zeroValue t).run P w = .ok v w := by
  simp [zeroValue, run_typeInfo hi, hv]

theorem Whole.agg {cs : Array Value} {ds : List D} (r : Whole h ρ cs ds) : RelV h ρ (.agg ds) (.agg cs) := by
  have := r.2.agg
  rw [Nat.zero_add, ← r.1] at this
  simpa using this

theorem foldl_set {off : Nat} : ∀ (l : List Value) (k : Nat) (cs : Array Value) (j : Nat), off + k + l.length ≤ cs.size →
    ((l.zipIdx k).foldl (fun cs (x : Value × Nat) => cs.setIfInBounds (off + x.2) x.1) cs)[j]? = if off + k ≤ j ∧ j < off + k + l.length then l[j - (off + k)]? else cs[j]?
  | [], k, cs, j, hle => by simp; intros; omega
  | v :: l, k, cs, j, hle => by
    simp only [List.length_cons] at hle
    simp only [List.zipIdx_cons, List.foldl_cons]
    rw [foldl_set l (k + 1) _ j (by simp; omega)]
    by_cases h1 : off + (k + 1) ≤ j ∧ j < off + (k + 1) + l.length
    · rw [if_pos h1, if_pos (by simp; omega)]
      rw [show j - (off + k) = (j - (off + (k + 1))) + 1 from by omega]
      simp
    · rw [if_neg h1]
      by_cases h2 : j = off + k
      · subst h2
        rw [if_pos (by simp), Array.getElem?_setIfInBounds_self_of_lt (by omega)]
        simp
      · rw [if_neg (by simp; omega), Array.getElem?_setIfInBounds_ne (by omega)]
theorem foldl_size {off : Nat} : ∀ (l : List (Value × Nat)) (cs : Array Value), (l.foldl (fun cs (x : Value × Nat) => cs.setIfInBounds (off + x.2) x.1) cs).size = cs.size
  | [], cs => rfl
  | x :: l, cs => by simp only [List.foldl_cons]; rw [foldl_size l]; simp

theorem splice_get {cs new : List D} {off : Nat} (hle : off + new.length ≤ cs.length) (j : Nat) : (splice cs off new)[j]? = if off ≤ j ∧ j < off + new.length then new[j - off]? else cs[j]? := by
  unfold splice
  rw [List.getElem?_append]
  simp only [List.length_append, List.length_take]
  split
  · rename_i h1
    rw [List.getElem?_append]
    simp only [List.length_take]
    split
    · rw [if_neg (by omega), List.getElem?_take, if_pos (by omega)]
    · rw [if_pos (by omega)]
      congr 1
      omega
  · rw [if_neg (by omega), List.getElem?_drop]
    congr 1
    omega
theorem splice_len {cs new : List D} {off : Nat} (hle : off + new.length ≤ cs.length) : (splice cs off new).length = cs.length := by
  simp [splice]
  omega

/-- A part laid into cells. -/
theorem Whole.put {cs new : Array Value} {ds dn : List D} {off : Nat} (r : Whole h ρ cs ds) (hn : new.size = dn.length) (rn : ∀ (j : Nat) (d : D), dn[j]? = some d → ∃ u, new[j]? = some u ∧ u.oneCell' = true ∧ RelV h ρ d u)
    (hle : off + dn.length ≤ ds.length) : Whole h ρ (new.zipIdx.foldl (fun cs (x : Value × Nat) => cs.setIfInBounds (off + x.2) x.1) cs) (splice ds off dn) := by
  rw [← Array.foldl_toList, Array.toList_zipIdx]
  refine ⟨by rw [foldl_size, splice_len hle]; exact r.1, fun j d hj => ?_⟩
  rw [splice_get hle] at hj
  rw [Nat.zero_add, foldl_set _ _ _ _ (by rw [r.1]; simp; omega)]
  simp only [Nat.add_zero, Array.length_toList, hn]
  split at hj
  · rename_i h1
    rw [if_pos h1]
    obtain ⟨u, a, b⟩ := rn _ _ hj
    exact ⟨u, by simpa using a, b⟩
  · rename_i h1
    rw [if_neg h1]
    have := r.2 j d hj
    simpa using this

theorem run_fill {placeD : Nat → Option (Nat × Nat)} {placeV : Nat → Option (Nat × Nat)} (hpl : ∀ i x, placeD i = some x → placeV i = some x) :
    ∀ (pd : List (Nat × D)) (pv : List (Nat × Value)) (ds : List D) (cs : Array Value) (out : List D), pd.map (·.1) = pv.map (·.1) → (∀ (j : Nat) (x : Nat × D) (y : Nat × Value), pd[j]? = some x → pv[j]? = some y → RelV h ρ x.2 y.2) → Whole h ρ cs ds → dFill placeD ds pd = some out →
      ∃ cs', Instr.fill placeV cs pv = some cs' ∧ Whole h ρ cs' out
  | [], pv, ds, cs, out, hm, hr, r, e => by
    cases pv with
    | nil => simp only [dFill, Option.some.injEq] at e; subst e; exact ⟨cs, rfl, r⟩
    | cons y pv => simp at hm
  | (i, d) :: pd, pv, ds, cs, out, hm, hr, r, e => by
    cases pv with
    | nil => simp at hm
    | cons y pv =>
      obtain ⟨i', v⟩ := y
      simp only [List.map_cons, List.cons.injEq] at hm
      obtain ⟨rfl, hm⟩ := hm
      simp only [dFill] at e
      split at e
      · rename_i off sz new hpi hnew
        split at e
        · rename_i hh
          obtain ⟨hl, hle⟩ := hh
          have hrel : RelV h ρ d v := hr 0 _ _ rfl rfl
          obtain ⟨_, hs, hc⟩ := hrel.cells hnew
          have r' := r.put (off := off) hs hc (by omega)
          obtain ⟨cs', h1, h2⟩ := run_fill hpl pd pv _ _ out hm (fun j x y hx hy => hr (j + 1) x y (by simpa using hx) (by simpa using hy)) r' e
          refine ⟨cs', ?_, h2⟩
          simp only [Instr.fill, hpl _ _ hpi]
          have k1 : v.cells.size = sz := by omega
          have k2 : off + v.cells.size ≤ cs.size := by have := r.1; omega
          rw [if_neg (by simp [k1]; omega)]
          exact h1
        · cases e
      · cases e

theorem mapM_places : ∀ (l : List Field), (∀ f ∈ l, 0 < szOf P f.type) → ((l.mapM fun f => do pure (f.offset, ← sizeOf f.type) : Sem (List (Nat × Nat)))).run P w = .ok (l.map fun f => (f.offset, szOf P f.type)) w
  | [], _ => rfl
  | f :: l, hl => by
    simp only [List.mapM_cons, Sem.run_bind, run_sizeOf' (hl f (by simp)), Result.andThen_ok, Sem.run_pure, mapM_places l (fun f hf => hl f (by simp [hf])), List.map_cons]

theorem run_build {t : TypeId} {pd : List (Nat × D)} {pv : Array (Nat × Value)} {d : D} (hm : pd.map (·.1) = pv.toList.map (·.1)) (hr : ∀ (j : Nat) (x : Nat × D) (y : Nat × Value), pd[j]? = some x → pv.toList[j]? = some y → RelV h ρ x.2 y.2)
    (e : dBuild (ty P t) (szOf P t) (zcells P t) pd = some d) : ∃ v, (Instr.build t pv).run P w = .ok v w ∧ RelV h ρ d v := by
  unfold dBuild at e
  split at e
  · rename_i hz
    obtain ⟨i, zv, hi, hzv, rz⟩ := zcells_spec (h := h) (ρ := ρ) (P := P) (t := t) (by omega)
    split at e
    · rename_i fs ht
      obtain ⟨fa, hu, rfl⟩ := ty_struct ht
      split at e
      · rename_i hall
        obtain ⟨out, hf, rfl⟩ := Option.map_eq_some_iff.1 e
        · obtain ⟨cs', h1, h2⟩ := run_fill (placeV := ((fa.toList.map fun f => (f.offset, szOf P f.type)).toArray[·]?)) (fun i x hx => by simpa [List.getElem?_map, Function.comp_def] using hx) pd pv.toList _ _ out hm hr rz hf
          refine ⟨.agg cs', ?_, h2.agg⟩
          have hpos : ∀ f ∈ fa.toList, 0 < szOf P f.type := by
            intro f hf
            have := List.all_eq_true.1 hall _ (List.mem_map.2 ⟨f, hf, rfl⟩)
            simpa using this
          have hmap : ((fa.mapM fun f => do pure (f.offset, ← sizeOf f.type) : Sem (Array (Nat × Nat)))).run P w = .ok (fa.toList.map fun f => (f.offset, szOf P f.type)).toArray w := by
            rw [Array.mapM_eq_mapM_toList]
            simp only [Sem.run_map, mapM_places _ hpos, Result.andThen_ok]
          simp only [Instr.build, Sem.run_bind, run_zero hi hzv, Result.andThen_ok, run_underlying hu, hmap, h1, Sem.run_pure]
      · cases e
    · rename_i n s ag ht
      obtain ⟨el, hu, rfl, _⟩ := ty_arr ht
      split at e
      · rename_i hp
        obtain ⟨out, hf, rfl⟩ := Option.map_eq_some_iff.1 e
        · obtain ⟨cs', h1, h2⟩ := run_fill (placeV := fun i => some (i * szOf P el, szOf P el)) (fun i x hx => hx) pd pv.toList _ _ out hm hr rz hf
          refine ⟨.agg cs', ?_, h2.agg⟩
          simp only [Instr.build, Sem.run_bind, run_zero hi hzv, Result.andThen_ok, run_underlying hu, run_sizeOf' hp, h1, Sem.run_pure]
      · cases e
    · cases e
  · cases e
end
end Go.Lv
