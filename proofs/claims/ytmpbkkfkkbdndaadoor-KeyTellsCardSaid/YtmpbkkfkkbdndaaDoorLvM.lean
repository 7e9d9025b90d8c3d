/- LvM: literals of slices, made slices, ranges over texts, conversions, builtins. -/
import Derived.Test.YtmpbkkfkkbdndaaDoorLvL
import Derived.Laws.IdiomStrings
import Derived.Laws.RangeString
namespace Go.Lv
open Go
set_option linter.unusedVariables false
set_option linter.unusedSimpArgs false
section
variable {P : Program} {w0 : World} {M0 : Nat → Prop} {hI h : Gh} {ρ : Rn} {H : Hp} {w : World}

theorem chunk_flat (sz : Nat) : ∀ (n : Nat) (cs : List D), cs.length = n * sz → (chunk sz n cs).flatMap D.cells = cs
  | 0, cs, hl => by
    have : cs = [] := List.eq_nil_of_length_eq_zero (by simpa using hl)
    subst this
    rfl
  | n + 1, cs, hl => by
    simp only [chunk, List.flatMap_cons, D.cells]
    rw [chunk_flat sz n (cs.drop sz) (by simp [hl, Nat.succ_mul])]
    simp
theorem chunk_len (sz : Nat) : ∀ (n : Nat) (cs : List D), (chunk sz n cs).length = n
  | 0, cs => rfl
  | n + 1, cs => by simp [chunk, chunk_len sz n]
theorem chunk_mem (sz : Nat) : ∀ (n : Nat) (cs : List D), cs.length = n * sz → ∀ x ∈ chunk sz n cs, ∃ l, x = .agg l ∧ l.length = sz ∧ ∀ d ∈ l, d ∈ cs
  | 0, cs, _, x, hx => by simp [chunk] at hx
  | n + 1, cs, hl, x, hx => by
    simp only [chunk, List.mem_cons] at hx
    rcases hx with rfl | hx
    · exact ⟨_, rfl, by simp [hl, Nat.succ_mul], fun d hd => List.mem_of_mem_take hd⟩
    · obtain ⟨l, h1, h2, h3⟩ := chunk_mem sz n _ (by simp [hl, Nat.succ_mul]) x hx
      exact ⟨l, h1, h2, fun d hd => List.mem_of_mem_drop (h3 d hd)⟩
theorem closedL_iff {l : List D} : D.closedL l = true ↔ ∀ d ∈ l, d.closed = true := by
  induction l with
  | nil => simp [D.closedL]
  | cons a l ih => simp [D.closedL, ih]
theorem allCell_iff {l : List D} : allCell l = true ↔ ∀ d ∈ l, d.isCell = true := by
  induction l with
  | nil => simp [allCell]
  | cons a l ih => simp [allCell, ih]
theorem isCell_cells {d : D} (hd : d.isCell = true) : d.cells = [d] ∧ d.cells? = some [d] := by
  cases d <;> simp_all [D.isCell, D.cells, D.cells?]

theorem els_flat {ag : Bool} {sz n : Nat} {cs : List D} (hl : cs.length = n * sz) (hc : ag = true ∨ sz = 1 ∧ allCell cs = true) : (els ag sz n cs).flatMap D.cells = cs := by
  unfold els
  rcases hc with rfl | ⟨rfl, hc⟩
  · exact chunk_flat sz n cs hl
  · cases ag
    · simp only [Bool.false_eq_true, if_false]
      have : ∀ l : List D, (∀ d ∈ l, d.isCell = true) → l.flatMap D.cells = l := by
        intro l
        induction l with
        | nil => intro _; rfl
        | cons a l ih =>
          intro hh
          simp only [List.flatMap_cons, (isCell_cells (hh a (by simp))).1, ih (fun d hd => hh d (by simp [hd]))]
          rfl
      exact this cs (allCell_iff.1 hc)
    · exact chunk_flat 1 n cs hl
theorem els_len {ag : Bool} {sz n : Nat} {cs : List D} (hl : cs.length = n * sz) (hc : ag = true ∨ sz = 1 ∧ allCell cs = true) : (els ag sz n cs).length = n := by
  unfold els
  rcases hc with rfl | ⟨rfl, hc⟩
  · exact chunk_len sz n cs
  · cases ag
    · simp [hl]
    · exact chunk_len 1 n cs
theorem els_mem {ag : Bool} {sz n : Nat} {cs : List D} (hl : cs.length = n * sz) (hc : ag = true ∨ sz = 1 ∧ allCell cs = true) (hcl : D.closedL cs = true) :
    ∀ x ∈ els ag sz n cs, x.cells.length = sz ∧ x.closed = true ∧ x.cells? = some x.cells := by
  intro x hx
  have agg : x ∈ chunk sz n cs → x.cells.length = sz ∧ x.closed = true ∧ x.cells? = some x.cells := by
    intro hx
    obtain ⟨l, rfl, h2, h3⟩ := chunk_mem sz n cs hl x hx
    exact ⟨h2, by simp only [D.closed]; exact closedL_iff.2 fun d hd => closedL_iff.1 hcl d (h3 d hd), rfl⟩
  unfold els at hx
  rcases hc with rfl | ⟨rfl, hc⟩
  · exact agg hx
  · cases ag
    · have hc' := isCell_cells (allCell_iff.1 hc x hx)
      exact ⟨by rw [hc'.1]; rfl, closedL_iff.1 hcl x hx, by rw [hc'.2, hc'.1]⟩
    · exact agg hx

/-- A row that is written no more, as a slice. -/
theorem RelV.ofRow {t ag : Bool} {sz n c b : Nat} {ds : List D} {cs : Array Value} {el : TypeId} {fz : Nat × Nat} (hb : h b = some (.cells cs el fz)) (r : Row h ρ cs 0 ds) (hl : ds.length = n * sz) (hc : ag = true ∨ sz = 1 ∧ allCell ds = true) (hcl : D.closedL ds = true)
    (hn : n ≤ c) (ht : t = true → c = n) : RelV h ρ (.list t (els ag sz n ds)) (.slice (some ⟨b, 0, none⟩) n c) := by
  have hlen := els_len hl hc
  cases n with
  | zero =>
    have : els ag sz 0 ds = [] := List.eq_nil_of_length_eq_zero hlen
    rw [this]
    exact .lnil _ _ _ ht
  | succ n =>
    have hfl := els_flat hl hc
    have hm := els_mem hl hc hcl
    refine .list t _ b 0 _ c sz cs el fz (fun j => cs.getD j undef) (by intro e; rw [e] at hlen; simp at hlen) hlen.symm hn ht (fun x hx => (hm x hx).1) (fun x hx => (hm x hx).2.1) (fun x hx => (hm x hx).2.2) hb ?_ ?_ ?_
    · intro j hj
      rw [hfl] at hj
      obtain ⟨u, a, _⟩ := r j ds[j] (by simp)
      rw [Array.getD_eq_getD_getElem?]
      rw [Nat.zero_add] at a ⊢
      rw [a]
      rfl
    · intro j hj
      rw [hfl] at hj
      obtain ⟨u, a, q, _⟩ := r j ds[j] (by simp)
      rw [Nat.zero_add] at a
      rw [Array.getD_eq_getD_getElem?, a]
      exact q
    · intro j d hj
      rw [hfl] at hj
      obtain ⟨u, a, _, q⟩ := r j d hj
      rw [Nat.zero_add] at a
      rw [Array.getD_eq_getD_getElem?, a]
      exact q

theorem run_buildSlice (hS : Sim w0 M0 hI h ρ H w) {t e : TypeId} {len : Nat} {pd : List (Nat × D)} {pv : Array (Nat × Value)} {cs : List D} (ht : P.underlying t = some (.slice e)) (hp : 0 < szOf P e) (hz : (zcells P e).length = szOf P e) (hle : len * szOf P e ≤ 2 ^ 20)
    (hm : pd.map (·.1) = pv.toList.map (·.1)) (hr : ∀ (j : Nat) (x : Nat × D) (y : Nat × Value), pd[j]? = some x → pv.toList[j]? = some y → RelV h ρ x.2 y.2)
    (ef : dFill (fun i => some (i * szOf P e, szOf P e)) (rep len (zcells P e)) pd = some cs) :
    ∃ arr, (Instr.buildSlice t len pv).run P w = .ok (.slice (some ⟨w.heap.size, 0, none⟩) len len) (w.alloc (.cells arr e)) ∧ Whole h ρ arr cs ∧ cs.length = len * szOf P e := by
  obtain ⟨i, zv, hi, hzv, rz⟩ := zcells_spec (h := h) (ρ := ρ) (P := P) (t := e) (by omega)
  have hfl : ∀ (pd : List (Nat × D)) (ds out : List D), dFill (fun i => some (i * szOf P e, szOf P e)) ds pd = some out → out.length = ds.length := by
    intro pd
    induction pd with
    | nil => intro ds out h; simp [dFill] at h; rw [h]
    | cons x pd ih =>
      intro ds out h
      simp only [dFill] at h
      split at h
      · split at h
        · rename_i hh
          rw [ih _ _ h, splice_len (by omega)]
        · cases h
      · cases h
  by_cases h0 : len = 0
  · subst h0
    have hlen := hfl _ _ _ ef
    simp only [rep, List.length_nil] at hlen
    have hnil : cs = [] := List.eq_nil_of_length_eq_zero hlen
    subst hnil
    obtain ⟨arr, h1, h2⟩ := run_fill (placeV := fun i => some (i * szOf P e, szOf P e)) (fun i x hx => hx) pd pv.toList _ #[] _ hm hr (h := h) (ρ := ρ) ⟨rfl, fun j d hj => by simp [rep] at hj⟩ ef
    refine ⟨arr, ?_, h2, by simp⟩
    simp only [Instr.buildSlice, Sem.run_bind, run_underlying ht, Result.andThen_ok, run_sizeOf' hp, Nat.zero_mul, Array.range_zero', Array.map_empty, Sem.run_ite, Sem.run_pure, if_true, h1, newRow, run_newObj, World.alloc_eq]
    rw [if_neg (by omega)]
  · have rr := whole_rep (by omega) rz len
    obtain ⟨arr, h1, h2⟩ := run_fill (placeV := fun i => some (i * szOf P e, szOf P e)) (fun i x hx => hx) pd pv.toList _ _ _ hm hr rr ef
    refine ⟨arr, ?_, h2, by rw [hfl _ _ _ ef, rep_len, hz]⟩
    have hne : ¬ (len * szOf P e = 0) := by have := Nat.mul_pos (show 0 < len by omega) hp; omega
    rw [rz.1, hz] at h1
    simp only [Instr.buildSlice, Sem.run_bind, run_underlying ht, Result.andThen_ok, run_sizeOf' hp, Sem.run_ite, Sem.run_pure, if_neg hne, run_zero hi hzv]
    rw [if_neg (by omega)]
    simp only [Result.andThen_ok, rz.1, hz, h1, Sem.run_bind, newRow, run_newObj, World.alloc_eq, Sem.run_pure]

theorem run_sliceLit (hS : Sim w0 M0 hI h ρ H w) {t e : TypeId} {ag : Bool} {len : Nat} {pd : List (Nat × D)} {pv : Array (Nat × Value)} {cs : List D} {d : D} {H' : Hp} (ht : P.underlying t = some (.slice e)) (hp : 0 < szOf P e) (hz : (zcells P e).length = szOf P e) (hle : len * szOf P e ≤ 2 ^ 20)
    (hm : pd.map (·.1) = pv.toList.map (·.1)) (hr : ∀ (j : Nat) (x : Nat × D) (y : Nat × Value), pd[j]? = some x → pv.toList[j]? = some y → RelV h ρ x.2 y.2)
    (ef : dFill (fun i => some (i * szOf P e, szOf P e)) (rep len (zcells P e)) pd = some cs)
    (eo : (if D.closedL cs = true ∧ (ag = true ∨ szOf P e = 1 ∧ allCell cs = true) then some (D.list true (els ag (szOf P e) len cs), H) else some (.own H.length len cs.length, H ++ [.row (szOf P e) ag cs])) = some (d, H')) :
    ∃ v w' h' ρ', (Instr.buildSlice t len pv).run P w = .ok v w' ∧ GLe h h' ∧ RLe ρ ρ' ∧ Sim w0 M0 hI h' ρ' H' w' ∧ RelV h' ρ' d v := by
  obtain ⟨arr, h1, h2, h3⟩ := run_buildSlice hS ht hp hz hle hm hr ef
  split at eo
  · rename_i hc
    cases eo
    obtain ⟨k1, k2⟩ := hS.pushImm (.cells arr e)
    refine ⟨_, _, _, ρ, h1, k1, .refl _, k2, ?_⟩
    exact RelV.ofRow (cs := arr) (el := e) (fz := (0, 0)) (by simp [Gh.set]) (h2.2.mono k1 (.refl _)) h3 hc.2 hc.1 (Nat.le_refl _) (fun _ => rfl)
  · cases eo
    have key := hS.push (.cells arr e) (.row (szOf P e) ag cs) (len * szOf P e, szOf P e) ?_
    · exact ⟨_, _, h, _, h1, .refl _, key.1, key.2, .own _ _ _ _ _ _ _ (Rn.set_same _ _ _ _) rfl (Nat.le_refl _)⟩
    · exact ⟨w.heap.size, _, arr, e, (0, 0), Rn.set_same _ _ _ _, hS.new_none, alloc_new _ _, by rw [h2.1, h3], by omega, h2.2.mono (.refl _) (Rn.le_set (.inl (hS.fresh (Nat.le_refl _)))), fun j hj => by simp⟩

theorem wrap_small {n : Int} (h0 : 0 ≤ n) (h1 : n < 2 ^ 63) : IntKind.i64.wrap n = n := by
  simp [IntKind.wrap, IntKind.bits, IntKind.signed]
  omega

theorem run_makeS (hS : Sim w0 M0 hI h ρ H w) {t e : TypeId} {l c : Int} {ag : Bool} (ht : P.underlying t = some (.slice e)) (hp : 0 < szOf P e) (hb : 0 < P.bytesOf e) (hz : (zcells P e).length = szOf P e) (h0 : 0 ≤ l) (h1 : l ≤ c) (h2 : c * P.bytesOf e ≤ 2 ^ 46) :
    ∃ v w' ρ', (Instr.makeSlice t (.int .i64 l) (.int .i64 c)).run P w = .ok v w' ∧ RLe ρ ρ' ∧ Sim w0 M0 hI h ρ' (H ++ [.row (szOf P e) ag (rep c.toNat (zcells P e))]) w' ∧ RelV h ρ' (.own H.length l.toNat (rep c.toNat (zcells P e)).length) v := by
  obtain ⟨i, zv, hi, hzv, rz⟩ := zcells_spec (h := h) (ρ := ρ) (P := P) (t := e) (by omega)
  have hbytes : i.bytes = P.bytesOf e := by simp [Program.bytesOf, hi]
  have hc0 : c ≤ c * P.bytesOf e := by
    have : c * 1 ≤ c * (P.bytesOf e : Int) := Int.mul_le_mul_of_nonneg_left (by omega) (by omega)
    omega
  have hwl := wrap_small h0 (n := l) (by omega)
  have hwc := wrap_small (n := c) (by omega) (by omega)
  have hb2 : (P.bytesOf e : Int) * c ≤ 2 ^ 46 := by rw [Int.mul_comm]; exact h2
  have rr := whole_rep (h := h) (ρ := ρ) (by omega) rz c.toNat
  have hzs : zv.cells.size = szOf P e := by rw [rz.1, hz]
  by_cases hc : c.toNat = 0
  · have key := hS.push (.cells #[] e) (.row (szOf P e) ag (rep c.toNat (zcells P e))) (c.toNat * szOf P e, szOf P e) ?_
    · refine ⟨_, _, _, ?_, key.1, key.2, .own _ _ _ _ c.toNat _ _ (Rn.set_same _ _ _ _) rfl (by omega)⟩
      simp only [Instr.makeSlice, Sem.run_bind, run_underlying ht, Result.andThen_ok, asInt, asIntOf, Sem.run_pure, run_typeInfo hi, hwl, hwc, hbytes]
      rw [if_neg (by simp; omega)]
      simp only [run_askRoom, Sem.run_bind, Result.andThen_ok, run_sizeOf' hp, hc, Nat.zero_mul, Sem.run_ite, if_true, Sem.run_pure, newRow, run_newObj, World.alloc_eq, Array.range_zero', Array.map_empty]
    · refine ⟨w.heap.size, _, #[], e, (0, 0), Rn.set_same _ _ _ _, hS.new_none, alloc_new _ _, by simp [hc], by rw [rep_len, hz]; omega, ?_, fun j hj => by simp⟩
      intro j d hj
      rw [hc] at hj
      simp [rep] at hj
  · have hne : ¬ (c.toNat * szOf P e = 0) := by have := Nat.mul_pos (show 0 < c.toNat by omega) hp; omega
    have key := hS.push (.cells ((Array.range (c.toNat * szOf P e)).map (zv.cells[· % zv.cells.size]!)) e) (.row (szOf P e) ag (rep c.toNat (zcells P e))) (c.toNat * szOf P e, szOf P e) ?_
    · refine ⟨_, _, _, ?_, key.1, key.2, .own _ _ _ _ c.toNat _ _ (Rn.set_same _ _ _ _) rfl (by omega)⟩
      simp only [Instr.makeSlice, Sem.run_bind, run_underlying ht, Result.andThen_ok, asInt, asIntOf, Sem.run_pure, run_typeInfo hi, hwl, hwc, hbytes]
      rw [if_neg (by simp; omega)]
      simp only [run_askRoom, Sem.run_bind, Result.andThen_ok, run_sizeOf' hp, Sem.run_ite, if_neg hne, run_zero hi hzv, Sem.run_pure, newRow, run_newObj, World.alloc_eq]
    · refine ⟨w.heap.size, _, _, e, (0, 0), Rn.set_same _ _ _ _, hS.new_none, alloc_new _ _, by simp, by rw [rep_len, hz]; omega, ?_, fun j hj => by simp⟩
      rw [hzs] at rr ⊢
      exact rr.2.mono (.refl _) (Rn.le_set (.inl (hS.fresh (Nat.le_refl _))))

theorem run_rangeS (hS : Sim w0 M0 hI h ρ H w) {t : TypeId} {s : List UInt8} {vs : Value} (ht : P.underlying t = some .string) (hx : RelV h ρ (.str s) vs) :
    ∃ v w' ρ', (Instr.range t vs).run P w = .ok v w' ∧ RLe ρ ρ' ∧ Sim w0 M0 hI h ρ' (H ++ [.iter s 0]) w' ∧ RelV h ρ' (.ptr H.length 0 0) v := by
  cases hx with | str _ s1 e1 =>
  have key := hS.push (.stringIter s1 0) (.iter s 0) (0, 0) ?_
  · refine ⟨_, _, _, ?_, key.1, key.2, .ptr _ _ _ _ _ _ (Rn.set_same _ _ _ _)⟩
    simp only [Instr.range, Sem.run_bind, run_underlying ht, Result.andThen_ok, Sem.run_pure, run_newObj, World.alloc_eq]
  · exact ⟨w.heap.size, _, _, s1, Rn.set_same _ _ _ _, hS.new_none, e1, alloc_new _ _⟩

theorem ba_mk {s : ByteArray} {l : List UInt8} (e : s.data.toList = l) : s = ⟨l.toArray⟩ := by
  subst e
  cases s
  simp

theorem run_getObj_iter {b : Nat} {s : ByteArray} {p : Nat} (hb : w.heap[b]? = some (.stringIter s p)) : (getObj b).run P w = .ok (.stringIter s p) w := by
  simp [getObj, Sem.run, hb]
theorem run_setObj_iter {b : Nat} {s : ByteArray} {p : Nat} {o : Obj} (hb : w.heap[b]? = some (.stringIter s p)) : (setObj b o).run P w = .ok () { w with heap := w.heap.setIfInBounds b o } := by
  simp [setObj, Sem.run, hb]

theorem run_nextS (hS : Sim w0 M0 hI h ρ H w) {ty' : TypeId} {i pos : Nat} {s : List UInt8} {vi : Value} (hx : RelV h ρ (.ptr i 0 0) vi) (hg : hget H i = .iter s pos) :
    ∃ v w', (Instr.next vi true ty').run P w = .ok v w' ∧ (if pos < s.length then Sim w0 M0 hI h ρ (hset H i (.iter s (pos + (Utf8.decode ⟨s.toArray⟩ pos).2))) w' ∧ RelV h ρ (.tup [.bool true, .int .i64 pos, .int .i32 (Utf8.decode ⟨s.toArray⟩ pos).1]) v
      else Sim w0 M0 hI h ρ H w' ∧ RelV h ρ (.tup [.bool false]) v) := by
  cases hx with | ptr _ _ _ b c z hb =>
  have hblk := hS.blk i
  rw [hg] at hblk
  obtain ⟨b', c', z', bs, a1, a2, a3, a4⟩ := hblk
  rw [hb] at a1
  cases a1
  obtain rfl := ba_mk a3
  have hsz : (ByteArray.mk s.toArray).size = s.length := by simp [ByteArray.size]
  by_cases hlt : pos < s.length
  · simp only [if_pos hlt]
    have hnn : ρ i (Blk.iter s (pos + (Utf8.decode ⟨s.toArray⟩ pos).2)).n = some (b, c, z) := hb
    have key := hS.write (i := i) (bl' := .iter s (pos + (Utf8.decode ⟨s.toArray⟩ pos).2)) (w' := { w with heap := w.heap.setIfInBounds b (.stringIter ⟨s.toArray⟩ (pos + (Utf8.decode ⟨s.toArray⟩ pos).2)) }) (b := b) (x := (c, z)) (x' := (c, z)) (by rw [hg]; rfl) (by rw [hg]; exact hb) rfl (fun _ _ _ hd => by cases hd) (.inr hnn) rfl rfl rfl (by simp) (fun c hc => by simp [Array.getElem?_setIfInBounds_ne (Ne.symm hc)]) ?_
    · rw [Rn.set_id hnn] at key
      refine ⟨.tuple #[.bool true, goInt pos, .int .i32 (Utf8.decode ⟨s.toArray⟩ pos).1], _, ?_, key.2, ?_⟩
      · simp only [Instr.next, Sem.run_bind, run_getObj_iter a4, Result.andThen_ok, hsz, if_pos hlt, Sem.run_pure, run_setObj_iter a4]
      · refine .tup _ _ rfl (fun j => #[Value.bool true, goInt pos, .int .i32 (Utf8.decode ⟨s.toArray⟩ pos).1].getD j undef) (fun j hj => ?_) (fun j d hj => ?_)
        · match j, hj with
          | 0, _ => rfl
          | 1, _ => rfl
          | 2, _ => rfl
        · match j, hj with
          | 0, hj => cases hj; exact .bool _
          | 1, hj => cases hj; exact .int _ _
          | 2, hj => cases hj; exact .int _ _
    · rw [Rn.set_id hnn]
      refine ⟨b, c, z, ⟨s.toArray⟩, hb, a2, by simp, ?_⟩
      have hblt : b < w.heap.size := (Array.getElem?_eq_some_iff.1 a4).1
      simp [hblt]
  · simp only [if_neg hlt]
    refine ⟨.tuple #[.bool false], w, ?_, hS, ?_⟩
    · simp only [Instr.next, Sem.run_bind, run_getObj_iter a4, Result.andThen_ok, hsz, if_neg hlt, Sem.run_pure]
    · refine .tup _ _ rfl (fun j => .bool false) (fun j hj => ?_) (fun j d hj => ?_)
      · match j, hj with
        | 0, _ => rfl
      · match j, hj with
        | 0, hj => cases hj; exact .bool _

theorem run_conv {s t : TypeId} {x : D} {vx : Value} {d : D} (hx : RelV h ρ x vx) (e : dConv (ty P s) (ty P t) x = some d) : ∃ v, (Go.convert s t vx).run P w = .ok v w ∧ RelV h ρ d v := by
  unfold dConv at e
  split at e
  · rename_i k1 k2 k n h1 h2
    cases e
    cases hx
    exact ⟨_, by simp only [Go.convert, Sem.run_bind, run_underlying (ty_int h1), run_underlying (ty_int h2), Result.andThen_ok, Conv.intToInt, Sem.run_pure], .int _ _⟩
  · rename_i k1 k n h1 h2
    cases e
    cases hx
    exact ⟨_, by simp only [Go.convert, Sem.run_bind, run_underlying (ty_int h1), run_underlying (ty_str h2), Result.andThen_ok, Conv.intToString, Sem.run_pure], .str _ _ rfl⟩
  · rename_i s1 h1 h2
    cases e
    cases hx with | str _ s2 e2 =>
    exact ⟨_, by simp only [Go.convert, Sem.run_bind, run_underlying (ty_str h1), run_underlying (ty_str h2), Result.andThen_ok, Sem.run_pure], .str _ _ e2⟩
  · cases e

theorem bytesOfD_len : ∀ {ds : List D} {l : List UInt8}, bytesOfD ds = some l → ds.length = l.length
  | [], l, e => by cases e; rfl
  | d :: ds, l, e => by
    unfold bytesOfD at e
    split at e
    · rename_i h; cases h
    · rename_i n r h
      cases h
      split at e
      · split at e
        · rename_i r' hr
          cases e
          simp [bytesOfD_len hr]
        · cases e
      · cases e
    · cases e
theorem bytesOfD_get : ∀ {ds : List D} {l : List UInt8}, bytesOfD ds = some l → ∀ (j : Nat) (hj : j < l.length), ds[j]? = some (.int .u8 (l[j].toNat : Int))
  | [], l, e, j, hj => by cases e; simp at hj
  | d :: ds, l, e, j, hj => by
    unfold bytesOfD at e
    split at e
    · rename_i h; cases h
    · rename_i n r h
      cases h
      split at e
      · rename_i hn
        split at e
        · rename_i r' hr
          cases e
          cases j with
          | zero =>
            simp only [List.getElem?_cons_zero, List.getElem_cons_zero, UInt8.toNat_ofNat']
            congr 2
            omega
          | succ j =>
            simp only [List.getElem?_cons_succ, List.getElem_cons_succ]
            exact bytesOfD_get hr j (by simpa using hj)
        · cases e
      · cases e
    · cases e
theorem run_bytesRow {b off n c : Nat} {ds : List D} {cs : Array Value} {el : TypeId} {fz : Nat × Nat} {s t e : TypeId} {l : List UInt8} (hb : w.heap[b]? = some (.cells cs el fz)) (r : Row h ρ cs off ds) (hl : bytesOfD ds = some l) (hn : n = ds.length)
    (hs : P.underlying s = some (.slice e)) (he : P.underlying e = some (.int .u8)) (hd : P.underlying t = some .string) : (Go.convert s t (.slice (some ⟨b, off, none⟩) n c)).run P w = .ok (.string ⟨l.toArray⟩) w := by
  rw [hn, bytesOfD_len hl]
  refine run_convert_bytes_back w s t e _ c l hs he hd fun j hj => ?_
  obtain ⟨u, h1, _, h3⟩ := r j _ (bytesOfD_get hl j hj)
  cases h3
  have hbl : (Addr.add ⟨b, off, none⟩ j) = ⟨b, off + j, none⟩ := by
    unfold Addr.add
    split
    · rename_i h0; subst h0; rfl
    · rfl
  rw [hbl]
  simp [World.cell?, hb, h1]
theorem run_bytesNone {n c : Nat} {s t e : TypeId} (hs : P.underlying s = some (.slice e)) (he : P.underlying e = some (.int .u8)) (hd : P.underlying t = some .string) : (Go.convert s t (.slice none n c)).run P w = .ok (.string .empty) w := by
  simp only [Go.convert, Sem.run_bind, run_underlying hs, run_underlying hd, Result.andThen_ok, run_underlying he, Conv.bytesToString, Sem.run_pure]
theorem run_bytes (hS : Sim w0 M0 hI h ρ H w) {s t e : TypeId} {x d : D} {vx : Value} (hx : RelV h ρ x vx) (ed : dBytes H x = some d)
    (hs : P.underlying s = some (.slice e)) (he : P.underlying e = some (.int .u8)) (hd : P.underlying t = some .string) : ∃ v, (Go.convert s t vx).run P w = .ok v w ∧ RelV h ρ d v := by
  have fin : ∀ {cs : List D}, (match bytesOfD cs with | some l => some (D.str l) | none => none) = some d → ∃ l, bytesOfD cs = some l ∧ d = .str l := by
    intro cs e
    split at e
    · rename_i l hl; cases e; exact ⟨l, hl, rfl⟩
    · cases e
  unfold dBytes at ed
  split at ed
  · rename_i tt xs
    simp only [srcCells] at ed
    split at ed
    · rename_i cs hcs
      split at hcs
      · rename_i hall
        cases hcs
        obtain ⟨l, hl, rfl⟩ := fin ed
        have hsz := allSz_spec hall
        have hfl := flat_len hsz
        cases hx with
        | lnil t' a c ht =>
          cases hl
          cases a with
          | none => exact ⟨_, run_bytesNone hs he hd, .str _ _ rfl⟩
          | some a => exact ⟨_, run_convert_bytes_back w s t e a c [] hs he hd (fun j hj => by simp at hj), .str _ _ rfl⟩
        | list t' _ b off n' c sz' cs' el' fz us hx hn hlen ht hsz' hcl' hcc hb hc ho hr =>
          have r : Row h ρ cs' off (xs.flatMap D.cells) := fun j d hj => ⟨us j, hc j (List.getElem?_eq_some_iff.1 hj).1, ho j (List.getElem?_eq_some_iff.1 hj).1, hr j d hj⟩
          exact ⟨_, run_bytesRow (hS.imm _ _ hb) r hl (by rw [hfl, hn, Nat.mul_one]) hs he hd, .str _ _ rfl⟩
      · cases hcs
    · cases ed
  · rename_i i len N
    simp only [srcCells] at ed
    split at ed
    · rename_i cs hcs
      split at hcs
      · rename_i cs0 hcs0
        split at hcs
        · rename_i hle
          cases hcs
          obtain ⟨l, hl, rfl⟩ := fin ed
          cases hx with | own _ _ _ b c cs1 sz' hb hc hl1 =>
          obtain ⟨b', c', s', cs', el', fz, hb', hw', r⟩ := hS.at hcs0
          rw [hb] at hb'
          cases hb'
          have hlen : cs0.length = N := (cellsOf_some hcs0).2.2
          exact ⟨_, run_bytesRow hw' (r.take (len * 1)) hl (by simp; omega) hs he hd, .str _ _ rfl⟩
        · cases hcs
      · cases hcs
    · cases ed
  · rename_i i off len N
    simp only [srcCells] at ed
    split at ed
    · rename_i cs hcs
      split at hcs
      · rename_i cs0 hcs0
        split at hcs
        · rename_i hle
          cases hcs
          obtain ⟨l, hl, rfl⟩ := fin ed
          cases hx with | asl _ _ _ _ b o c cs1 sz' hb hl1 ho =>
          obtain ⟨b', c', s', cs', el', fz, hb', hw', r⟩ := hS.at hcs0
          rw [hb] at hb'
          cases hb'
          have hlen : cs0.length = N := (cellsOf_some hcs0).2.2
          by_cases h0 : len = 0
          · subst h0
            simp only [Nat.zero_mul, List.take_zero] at hl
            cases hl
            exact ⟨_, run_convert_bytes_back w s t e ⟨b, o, none⟩ c [] hs he hd (fun j hj => by simp at hj), .str _ _ rfl⟩
          · obtain rfl := ho h0
            have r' := (r.drop o).take (len * 1)
            rw [Nat.zero_add] at r'
            exact ⟨_, run_bytesRow hw' r' hl (by simp; omega) hs he hd, .str _ _ rfl⟩
        · cases hcs
      · cases hcs
    · cases ed
  · cases ed
theorem run_convH (hS : Sim w0 M0 hI h ρ H w) {s t : TypeId} {x : D} {vx : Value} {d : D} (hx : RelV h ρ x vx) (ed : dConvH P s t H x = some d) : ∃ v, (Go.convert s t vx).run P w = .ok v w ∧ RelV h ρ d v := by
  unfold dConvH at ed
  split at ed
  · rename_i e bt ag h1 h2
    split at ed
    · rename_i h3
      exact run_bytes hS hx ed (ty_slice h1).1 (ty_int h3) (ty_str h2)
    · cases ed
  · exact run_conv hx ed
end
end Go.Lv
