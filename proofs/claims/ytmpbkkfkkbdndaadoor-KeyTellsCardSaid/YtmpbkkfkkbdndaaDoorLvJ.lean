/- LvJ: operations that write. -/
import Derived.Test.YtmpbkkfkkbdndaaDoorLvI
namespace Go.Lv
open Go
set_option linter.unusedVariables false
set_option linter.unusedSimpArgs false

/-- w' is w but for the cells of block b. -/
structure Wrote (w w' : World) (b : Nat) (cs' : Array Value) (e : TypeId) (fz : Nat × Nat) : Prop where
  os : w'.os = w.os
  tape : w'.tape = w.tape
  output : w'.output = w.output
  size : w'.heap.size = w.heap.size
  other : ∀ c, c ≠ b → w'.heap[c]? = w.heap[c]?
  at_ : w'.heap[b]? = some (.cells cs' e fz)

theorem setCell_heap (w : World) (b o : Nat) (v : Value) {cs : Array Value} {e : TypeId} {fz : Nat × Nat} (hb : w.heap[b]? = some (.cells cs e fz)) : Wrote w (w.setCell ⟨b, o, none⟩ v) b (cs.setIfInBounds o v) e fz where
  os := rfl
  tape := rfl
  output := rfl
  size := by simp
  other := by
    intro c hc
    simp only [World.setCell, Array.getElem?_modify]
    rw [if_neg (fun e => hc e.symm)]
  at_ := by
    simp only [World.setCell, Array.getElem?_modify, if_true, hb]
    rfl

theorem run_storeCells {P : Program} {b off : Nat} {e : TypeId} {fz : Nat × Nat} : ∀ (vs : List Value) (k : Nat) (cs : Array Value) (w : World), w.heap[b]? = some (.cells cs e fz) → (∀ v ∈ vs, v.oneCell' = true) → Clear cs fz → off + k + vs.length ≤ cs.size →
    ∃ w', (storeCells ⟨b, off, none⟩ vs k).run P w = .ok () w' ∧ Wrote w w' b ((vs.zipIdx k).foldl (fun cs (x : Value × Nat) => cs.setIfInBounds (off + x.2) x.1) cs) e fz
  | [], k, cs, w, hb, _, _, _ => ⟨w, rfl, rfl, rfl, rfl, rfl, fun _ _ => rfl, hb⟩
  | v :: vs, k, cs, w, hb, h1, hc, hle => by
    simp only [List.length_cons] at hle
    have hcell : w.cell? ⟨b, off + k, none⟩ = some (cs[off + k]'(by omega)) := by
      simp only [World.cell?, hb]
      simp
    have hfz : w.frozen? ⟨b, off + k, none⟩ = false := by
      have := hc (off + k) (by omega)
      simp only [World.frozen?, hb]
      simp
      omega
    have w1 := setCell_heap w b (off + k) v hb
    obtain ⟨w', h2, w2⟩ := run_storeCells (off := off) vs (k + 1) (cs.setIfInBounds (off + k) v) (w.setCell ⟨b, off + k, none⟩ v) w1.at_ (fun v hv => h1 v (by simp [hv])) (fun j hj => hc j (by simpa using hj)) (by rw [Array.size_setIfInBounds]; omega)
    refine ⟨w', ?_, ?_⟩
    · simp only [storeCells, Sem.run_bind, Addr.add_lit, run_store P w _ v _ (h1 v (by simp)), hcell, hfz, Bool.false_eq_true, if_false, Result.andThen_ok]
      exact h2
    · simp only [List.zipIdx_cons, List.foldl_cons]
      exact ⟨w2.os, w2.tape, w2.output, w2.size.trans w1.size, fun c hc => (w2.other c hc).trans (w1.other c hc), w2.at_⟩

theorem wrote_row {h : Gh} {ρ : Rn} {cs new : Array Value} {ds dn : List D} {off : Nat} (r : Row h ρ cs 0 ds) (hn : new.size = dn.length) (rn : ∀ (j : Nat) (d : D), dn[j]? = some d → ∃ u, new[j]? = some u ∧ u.oneCell' = true ∧ RelV h ρ d u)
    (hle : off + dn.length ≤ ds.length) (hds : ds.length ≤ cs.size) : Row h ρ ((new.toList.zipIdx 0).foldl (fun cs (x : Value × Nat) => cs.setIfInBounds (off + x.2) x.1) cs) 0 (splice ds off dn) := by
  intro j d hj
  rw [splice_get hle] at hj
  rw [Nat.zero_add, foldl_set _ _ _ _ (by simp; omega)]
  simp only [Nat.add_zero, Array.length_toList, hn]
  split at hj
  · rename_i h1
    rw [if_pos h1]
    obtain ⟨u, a, b⟩ := rn _ _ hj
    exact ⟨u, by simpa using a, b⟩
  · rename_i h1
    rw [if_neg h1]
    have := r j d hj
    simpa using this

theorem wrote_size {off : Nat} (l : List (Value × Nat)) (cs : Array Value) : (l.foldl (fun cs (x : Value × Nat) => cs.setIfInBounds (off + x.2) x.1) cs).size = cs.size := foldl_size l cs

/-- New cells behind old ones, within the row. -/
theorem wrote_app {h : Gh} {ρ : Rn} {cs new : Array Value} {ds dn : List D} (r : Row h ρ cs 0 ds) (hn : new.size = dn.length) (rn : ∀ (j : Nat) (d : D), dn[j]? = some d → ∃ u, new[j]? = some u ∧ u.oneCell' = true ∧ RelV h ρ d u)
    (hle : ds.length + dn.length ≤ cs.size) : Row h ρ ((new.toList.zipIdx 0).foldl (fun cs (x : Value × Nat) => cs.setIfInBounds (ds.length + x.2) x.1) cs) 0 (ds ++ dn) := by
  intro j d hj
  rw [Nat.zero_add, foldl_set _ _ _ _ (by simp; omega)]
  simp only [Nat.add_zero, Array.length_toList, hn]
  by_cases h1 : j < ds.length
  · rw [List.getElem?_append_left h1] at hj
    rw [if_neg (by omega)]
    have := r j d hj
    simpa using this
  · rw [List.getElem?_append_right (by omega)] at hj
    have h2 := (List.getElem?_eq_some_iff.1 hj).1
    rw [if_pos (by omega)]
    obtain ⟨u, a, b⟩ := rn _ _ hj
    exact ⟨u, by simpa using a, b⟩

section
variable {P : Program} {w0 : World} {M0 : Nat → Prop} {hI h : Gh} {ρ : Rn} {H : Hp} {w : World}

theorem Rn.set_id {ρ : Rn} {i n : Nat} {x} (hb : ρ i n = some x) : ρ.set i n x = ρ := by
  funext j m
  by_cases hc : j = i ∧ m = n
  · obtain ⟨rfl, rfl⟩ := hc; rw [Rn.set_same, hb]
  · rw [Rn.set_ne _ _ (by omega)]

theorem setCs_n (bl : Blk) (cs : List D) (hm : bl.mut = true) : (bl.setCs cs).n = cs.length := by
  cases bl <;> simp_all [Blk.mut, Blk.setCs, Blk.n]
theorem mut_live {bl : Blk} (hm : bl.mut = true) : bl.live = true := by cases bl <;> simp_all [Blk.mut, Blk.live]
theorem setCs_live {bl : Blk} {cs : List D} (hm : bl.mut = true) : (bl.setCs cs).live = true := by cases bl <;> simp_all [Blk.mut, Blk.live, Blk.setCs]
theorem mut_n {bl : Blk} (hm : bl.mut = true) : bl.n = bl.cs.length := by cases bl <;> simp_all [Blk.mut, Blk.n, Blk.cs]

/-- What lies there, where it may be written. -/
theorem Sim.mutAt (hS : Sim w0 M0 hI h ρ H w) {i : Nat} (hm : (hget H i).mut = true) : ∃ b c s cs e fz, ρ i (hget H i).cs.length = some (b, c, s) ∧ h b = none ∧ w.heap[b]? = some (.cells cs e fz) ∧ cs.size = c ∧ (hget H i).cs.length ≤ c ∧ Row h ρ cs 0 (hget H i).cs ∧ Clear cs fz ∧
    (∀ (ds : List D) (cs' : Array Value) (w' : World), ds.length = (hget H i).cs.length → cs'.size = c → w'.heap[b]? = some (.cells cs' e fz) → Row h ρ cs' 0 ds → RelB h ρ i w' ((hget H i).setCs ds)) := by
  have hb := hS.blk i
  cases hg : hget H i with
  | var l =>
    rw [hg] at hb
    obtain ⟨b, c, s, cs, el, fz, a1, a2, a3, a4, a5, a6, a7⟩ := hb
    refine ⟨b, c, s, cs, el, fz, a1, a2, a3, a4, by simp [Blk.cs]; omega, a6, a7, fun ds cs' w' h1 h2 h3 h4 => ?_⟩
    simp only [Blk.cs] at h1
    exact ⟨b, c, s, cs', el, fz, by rw [h1]; exact a1, a2, h3, h2, by omega, h4, fun j hj => a7 j (by omega)⟩
  | row sz ag l =>
    rw [hg] at hb
    obtain ⟨b, c, cs, el, fz, a1, a2, a3, a4, a5, a6, a7⟩ := hb
    refine ⟨b, c, sz, cs, el, fz, a1, a2, a3, a4, by simp [Blk.cs]; omega, a6, a7, fun ds cs' w' h1 h2 h3 h4 => ?_⟩
    simp only [Blk.cs] at h1
    exact ⟨b, c, cs', el, fz, by rw [h1]; exact a1, a2, h3, h2, by omega, h4, fun j hj => a7 j (by omega)⟩
  | frz sz ag l => rw [hg] at hm; cases hm
  | iter s p => rw [hg] at hm; cases hm
  | dead => rw [hg] at hm; cases hm

theorem cells_one {d : D} {v : Value} {l : List D} (r : RelV h ρ d v) (hl : d.cells? = some l) : ∀ u ∈ v.cells.toList, u.oneCell' = true := by
  obtain ⟨_, hs, hc⟩ := r.cells hl
  intro u hu
  obtain ⟨j, hj⟩ := List.getElem?_of_mem hu
  have hlt : j < l.length := by
    have := (List.getElem?_eq_some_iff.1 hj).1
    simp at this
    omega
  obtain ⟨u', a, b, _⟩ := hc j l[j] (by simp)
  have : u' = u := by
    have e : v.cells[j]? = some u := by simpa using hj
    rw [a] at e
    cases e
    rfl
  exact this ▸ b

theorem run_storeAt (hS : Sim w0 M0 hI h ρ H w) {t : TypeId} {p x : D} {vp vx : Value} {H' : Hp} (hsz : 0 < szOf P t) (hp : RelV h ρ p vp) (hx : RelV h ρ x vx) (e : dStore (szOf P t) H p x = some H') :
    ∃ w', (Instr.storeAt t vp vx).run P w = .ok () w' ∧ Sim w0 M0 hI h ρ H' w' := by
  unfold dStore at e
  split at e
  · rename_i i off n new hnew
    split at e
    · rename_i hh
      simp only [Bool.and_eq_true, beq_iff_eq, decide_eq_true_eq] at hh
      obtain ⟨⟨⟨hm, hn⟩, hl⟩, hle⟩ := hh
      cases e
      cases hp with | ptr _ _ _ b c s hb =>
      obtain ⟨b', c', s', cs, el, fz, a1, a2, a3, a4, a5, a6, a7, key⟩ := hS.mutAt hm
      rw [hn, hb] at a1
      cases a1
      obtain ⟨_, hsv, hcv⟩ := hx.cells hnew
      obtain ⟨w', k1, k2⟩ := run_storeCells (P := P) (b := b) (off := off) vx.cells.toList 0 cs w a3 (cells_one hx hnew) a7 (by simp; omega)
      have hlen : (splice (hget H i).cs off new).length = (hget H i).cs.length := splice_len (by omega)
      have hrel : RelB h ρ i w' ((hget H i).setCs (splice (hget H i).cs off new)) :=
        key _ _ w' hlen (by rw [wrote_size]; exact a4) k2.at_ (wrote_row a6 hsv hcv (by omega) (by omega))
      have hnn : ρ i (hget H i).n = some (b, c, s) := by rw [mut_n hm, hn]; exact hb
      have hn' : ((hget H i).setCs (splice (hget H i).cs off new)).n = n := by rw [setCs_n _ _ hm, hlen, hn]
      have fin := hS.write (w' := w') (x' := (c, s)) (bl' := (hget H i).setCs (splice (hget H i).cs off new)) (mut_live hm) hnn (setCs_live hm) (fun sz ag ds hd k x hk => by
        cases hg : hget H i <;> rw [hg] at hd hm <;> first | (cases hm; done) | (cases hd; done) | skip
        simp only [Blk.setCs, Blk.row.injEq] at hd
        obtain ⟨rfl, rfl, rfl⟩ := hd
        have h5 := hlen
        rw [hg] at h5
        rw [h5]
        exact hS.ver i _ _ _ hg k x hk) (.inr (by rw [hn']; exact hb)) k2.os k2.tape k2.output k2.size k2.other (by rw [hn', Rn.set_id hb]; exact hrel)
      rw [hn', Rn.set_id hb] at fin
      refine ⟨w', ?_, fin.2⟩
      simp only [Instr.storeAt, Instr.sureAddr, storeVar, Sem.run_bind, Sem.run_pure, Result.andThen_ok, run_sizeOf' hsz]
      rw [if_neg (by omega)]
      exact k1
    · cases e
  · cases e

/-- A new variable. -/
theorem Sim.newVar (hS : Sim w0 M0 hI h ρ H w) (t : TypeId) {ds : List D} {cs : Array Value} (r : Whole h ρ cs ds) :
    ∃ ρ', RLe ρ ρ' ∧ Sim w0 M0 hI h ρ' (H ++ [.var ds]) (w.alloc (.cells cs t)) ∧ RelV h ρ' (.ptr H.length 0 ds.length) (.pointer (some ⟨w.heap.size, 0, none⟩)) := by
  have key := hS.push (.cells cs t) (.var ds) (cs.size, 0) ?_
  · exact ⟨_, key.1, key.2, .ptr _ _ _ _ _ _ (Rn.set_same _ _ _ _)⟩
  · exact ⟨w.heap.size, cs.size, 0, cs, t, (0, 0), Rn.set_same _ _ _ _, hS.new_none, alloc_new _ _, rfl, r.1, r.2.mono (.refl _) (Rn.le_set (.inl (hS.fresh (Nat.le_refl _)))), fun j hj => by simp⟩

theorem run_allocAt (hS : Sim w0 M0 hI h ρ H w) {t : TypeId} (hz : 0 < (zcells P t).length) :
    ∃ v w' ρ', (Instr.alloc t true (.tuple #[])).run P w = .ok v w' ∧ RLe ρ ρ' ∧ Sim w0 M0 hI h ρ' (H ++ [.var (zcells P t)]) w' ∧ RelV h ρ' (.ptr H.length 0 (zcells P t).length) v := by
  obtain ⟨i, zv, hi, hzv, rz⟩ := zcells_spec (h := h) (ρ := ρ) hz
  obtain ⟨ρ', h1, h2, h3⟩ := hS.newVar t rz
  refine ⟨_, _, ρ', ?_, h1, h2, h3⟩
  simp only [Instr.alloc, Sem.run_bind, run_zero hi hzv, Result.andThen_ok, Go.newVar, newRow, run_newObj, Sem.run_pure, World.alloc_eq]

theorem run_boxAt (hS : Sim w0 M0 hI h ρ H w) {t : TypeId} {x : D} {vx : Value} {cs : List D} (hx : RelV h ρ x vx) (e : x.cells? = some cs) :
    ∃ v w' ρ', (Instr.box t vx).run P w = .ok v w' ∧ RLe ρ ρ' ∧ Sim w0 M0 hI h ρ' (H ++ [.var cs]) w' ∧ RelV h ρ' (.ptr H.length 0 cs.length) v := by
  obtain ⟨_, hs, hc⟩ := hx.cells e
  obtain ⟨ρ', h1, h2, h3⟩ := hS.newVar t (ds := cs) (cs := vx.cells) ⟨hs, fun j d hj => by simpa using hc j d hj⟩
  refine ⟨_, _, ρ', ?_, h1, h2, h3⟩
  simp only [Instr.box, Sem.run_bind, Result.andThen_ok, Go.newVar, newRow, run_newObj, Sem.run_pure, World.alloc_eq]
end
end Go.Lv
