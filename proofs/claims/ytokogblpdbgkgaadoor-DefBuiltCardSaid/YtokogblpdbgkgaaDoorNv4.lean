/- LvM: literals of slices, made slices, ranges over texts, conversions, builtins. -/
import Derived.Test.YtokogblpdbgkgaaDoorNv3
import Derived.Laws.IdiomStrings
import Derived.Laws.RangeString
import Derived.Lib.ConvBytes
import Derived.RangeFuncLeaves
import Derived.OrdersIn
namespace Go.Lv
open Go
set_option linter.unusedVariables false
set_option linter.unusedSimpArgs false
section
variable {P : Program} {w0 : World} {M0 : Nat → Prop} {hI h : Gh} {ρ : Rn} {H : Hp} {w : World}

theorem chunk_flat (sz : Nat) : ∀ (n : Nat) (cs : List D), cs.length = n * sz → (chunk sz n cs).flatMap D.cells = cs
  | 0, cs, hl => by
    have : cs = [] := List.eq_nil_of_length_eq_zero (by simpa using hl)
    subst this
    rfl
  | n + 1, cs, hl => by
    simp only [chunk, List.flatMap_cons, D.cells]
    rw [chunk_flat sz n (cs.drop sz) (by simp [hl, Nat.succ_mul])]
    simp
theorem chunk_len (sz : Nat) : ∀ (n : Nat) (cs : List D), (chunk sz n cs).length = n
  | 0, cs => rfl
  | n + 1, cs => by simp [chunk, chunk_len sz n]
theorem chunk_mem (sz : Nat) : ∀ (n : Nat) (cs : List D), cs.length = n * sz → ∀ x ∈ chunk sz n cs, ∃ l, x = .agg l ∧ l.length = sz ∧ ∀ d ∈ l, d ∈ cs
  | 0, cs, _, x, hx => by simp [chunk] at hx
  | n + 1, cs, hl, x, hx => by
    simp only [chunk, List.mem_cons] at hx
    rcases hx with rfl | hx
    · exact ⟨_, rfl, by simp [hl, Nat.succ_mul], fun d hd => List.mem_of_mem_take hd⟩
    · obtain ⟨l, h1, h2, h3⟩ := chunk_mem sz n _ (by simp [hl, Nat.succ_mul]) x hx
      exact ⟨l, h1, h2, fun d hd => List.mem_of_mem_drop (h3 d hd)⟩
theorem closedL_iff {l : List D} : D.closedL l = true ↔ ∀ d ∈ l, d.closed = true := by
  induction l with
  | nil => simp [D.closedL]
  | cons a l ih => simp [D.closedL, ih]
theorem allCell_iff {l : List D} : allCell l = true ↔ ∀ d ∈ l, d.isCell = true := by
  induction l with
  | nil => simp [allCell]
  | cons a l ih => simp [allCell, ih]
theorem isCell_cells {d : D} (hd : d.isCell = true) : d.cells = [d] ∧ d.cells? = some [d] := by
  cases d <;> simp_all [D.isCell, D.cells, D.cells?]

theorem els_flat {ag : Bool} {sz n : Nat} {cs : List D} (hl : cs.length = n * sz) (hc : ag = true ∨ sz = 1 ∧ allCell cs = true) : (els ag sz n cs).flatMap D.cells = cs := by
  unfold els
  rcases hc with rfl | ⟨rfl, hc⟩
  · exact chunk_flat sz n cs hl
  · cases ag
    · simp only [Bool.false_eq_true, if_false]
      have : ∀ l : List D, (∀ d ∈ l, d.isCell = true) → l.flatMap D.cells = l := by
        intro l
        induction l with
        | nil => intro _; rfl
        | cons a l ih =>
          intro hh
          simp only [List.flatMap_cons, (isCell_cells (hh a (by simp))).1, ih (fun d hd => hh d (by simp [hd]))]
          rfl
      exact this cs (allCell_iff.1 hc)
    · exact chunk_flat 1 n cs hl
theorem els_len {ag : Bool} {sz n : Nat} {cs : List D} (hl : cs.length = n * sz) (hc : ag = true ∨ sz = 1 ∧ allCell cs = true) : (els ag sz n cs).length = n := by
  unfold els
  rcases hc with rfl | ⟨rfl, hc⟩
  · exact chunk_len sz n cs
  · cases ag
    · simp [hl]
    · exact chunk_len 1 n cs
theorem els_mem {ag : Bool} {sz n : Nat} {cs : List D} (hl : cs.length = n * sz) (hc : ag = true ∨ sz = 1 ∧ allCell cs = true) (hcl : D.closedL cs = true) :
    ∀ x ∈ els ag sz n cs, x.cells.length = sz ∧ x.closed = true ∧ x.cells? = some x.cells := by
  intro x hx
  have agg : x ∈ chunk sz n cs → x.cells.length = sz ∧ x.closed = true ∧ x.cells? = some x.cells := by
    intro hx
    obtain ⟨l, rfl, h2, h3⟩ := chunk_mem sz n cs hl x hx
    exact ⟨h2, by simp only [D.closed]; exact closedL_iff.2 fun d hd => closedL_iff.1 hcl d (h3 d hd), rfl⟩
  unfold els at hx
  rcases hc with rfl | ⟨rfl, hc⟩
  · exact agg hx
  · cases ag
    · have hc' := isCell_cells (allCell_iff.1 hc x hx)
      exact ⟨by rw [hc'.1]; rfl, closedL_iff.1 hcl x hx, by rw [hc'.2, hc'.1]⟩
    · exact agg hx

/-- A row that is written no more, as a slice. -/
theorem RelV.ofRow {t ag : Bool} {sz n c b : Nat} {ds : List D} {cs : Array Value} {el : TypeId} {fz : Nat × Nat} (hb : h b = some (.cells cs el fz)) (r : Row h ρ cs 0 ds) (hl : ds.length = n * sz) (hc : ag = true ∨ sz = 1 ∧ allCell ds = true) (hcl : D.closedL ds = true)
    (hn : n ≤ c) (ht : t = true → c = n) : RelV h ρ (.list t (els ag sz n ds)) (.slice (some ⟨b, 0, none⟩) n c) := by
  have hlen := els_len hl hc
  cases n with
  | zero =>
    have : els ag sz 0 ds = [] := List.eq_nil_of_length_eq_zero hlen
    rw [this]
    exact .lnil _ _ _ ht
  | succ n =>
    have hfl := els_flat hl hc
    have hm := els_mem hl hc hcl
    refine .list t _ b 0 _ c sz cs el fz (fun j => cs.getD j undef) (by intro e; rw [e] at hlen; simp at hlen) hlen.symm hn ht (fun x hx => (hm x hx).1) (fun x hx => (hm x hx).2.1) (fun x hx => (hm x hx).2.2) hb ?_ ?_ ?_
    · intro j hj
      rw [hfl] at hj
      obtain ⟨u, a, _⟩ := r j ds[j] (by simp)
      rw [Array.getD_eq_getD_getElem?]
      rw [Nat.zero_add] at a ⊢
      rw [a]
      rfl
    · intro j hj
      rw [hfl] at hj
      obtain ⟨u, a, q, _⟩ := r j ds[j] (by simp)
      rw [Nat.zero_add] at a
      rw [Array.getD_eq_getD_getElem?, a]
      exact q
    · intro j d hj
      rw [hfl] at hj
      obtain ⟨u, a, _, q⟩ := r j d hj
      rw [Nat.zero_add] at a
      rw [Array.getD_eq_getD_getElem?, a]
      exact q

theorem run_buildSlice (hS : Sim w0 M0 hI h ρ H w) {t e : TypeId} {len : Nat} {pd : List (Nat × D)} {pv : Array (Nat × Value)} {cs : List D} (ht : P.underlying t = some (.slice e)) (hp : 0 < szOf P e) (hz : (zcells P e).length = szOf P e) (hle : len * szOf P e ≤ 2 ^ 20)
    (hm : pd.map (·.1) = pv.toList.map (·.1)) (hr : ∀ (j : Nat) (x : Nat × D) (y : Nat × Value), pd[j]? = some x → pv.toList[j]? = some y → RelV h ρ x.2 y.2)
    (ef : dFill (fun i => some (i * szOf P e, szOf P e)) (rep len (zcells P e)) pd = some cs) :
    ∃ arr, (Instr.buildSlice t len pv).run P w = .ok (.slice (some ⟨w.heap.size, 0, none⟩) len len) (w.alloc (.cells arr e)) ∧ Whole h ρ arr cs ∧ cs.length = len * szOf P e := by
  obtain ⟨i, zv, hi, hzv, rz⟩ := zcells_spec (h := h) (ρ := ρ) (P := P) (t := e) (by omega)
  have hfl : ∀ (pd : List (Nat × D)) (ds out : List D), dFill (fun i => some (i * szOf P e, szOf P e)) ds pd = some out → out.length = ds.length := by
    intro pd
    induction pd with
    | nil => intro ds out h; simp [dFill] at h; rw [h]
    | cons x pd ih =>
      intro ds out h
      simp only [dFill] at h
      split at h
      · split at h
        · rename_i hh
          rw [ih _ _ h, splice_len (by omega)]
        · cases h
      · cases h
  by_cases h0 : len = 0
  · subst h0
    have hlen := hfl _ _ _ ef
    simp only [rep, List.length_nil] at hlen
    have hnil : cs = [] := List.eq_nil_of_length_eq_zero hlen
    subst hnil
    obtain ⟨arr, h1, h2⟩ := run_fill (placeV := fun i => some (i * szOf P e, szOf P e)) (fun i x hx => hx) pd pv.toList _ #[] _ hm hr (h := h) (ρ := ρ) ⟨rfl, fun j d hj => by simp [rep] at hj⟩ ef
    refine ⟨arr, ?_, h2, by simp⟩
    simp only [Instr.buildSlice, Sem.run_bind, run_underlying ht, Result.andThen_ok, run_sizeOf' hp, Nat.zero_mul, Array.range_zero', Array.map_empty, Sem.run_ite, Sem.run_pure, if_true, h1, newRow, run_newObj, World.alloc_eq]
    rw [if_neg (by omega)]
  · have rr := whole_rep (by omega) rz len
    obtain ⟨arr, h1, h2⟩ := run_fill (placeV := fun i => some (i * szOf P e, szOf P e)) (fun i x hx => hx) pd pv.toList _ _ _ hm hr rr ef
    refine ⟨arr, ?_, h2, by rw [hfl _ _ _ ef, rep_len, hz]⟩
    have hne : ¬ (len * szOf P e = 0) := by have := Nat.mul_pos (show 0 < len by omega) hp; omega
    rw [rz.1, hz] at h1
    simp only [Instr.buildSlice, Sem.run_bind, run_underlying ht, Result.andThen_ok, run_sizeOf' hp, Sem.run_ite, Sem.run_pure, if_neg hne, run_zero hi hzv]
    rw [if_neg (by omega)]
    simp only [Result.andThen_ok, rz.1, hz, h1, Sem.run_bind, newRow, run_newObj, World.alloc_eq, Sem.run_pure]

theorem run_sliceLit (hS : Sim w0 M0 hI h ρ H w) {t e : TypeId} {ag : Bool} {len : Nat} {pd : List (Nat × D)} {pv : Array (Nat × Value)} {cs : List D} {d : D} {H' : Hp} (ht : P.underlying t = some (.slice e)) (hp : 0 < szOf P e) (hz : (zcells P e).length = szOf P e) (hle : len * szOf P e ≤ 2 ^ 20)
    (hm : pd.map (·.1) = pv.toList.map (·.1)) (hr : ∀ (j : Nat) (x : Nat × D) (y : Nat × Value), pd[j]? = some x → pv.toList[j]? = some y → RelV h ρ x.2 y.2)
    (ef : dFill (fun i => some (i * szOf P e, szOf P e)) (rep len (zcells P e)) pd = some cs)
    (eo : (if D.closedL cs = true ∧ (ag = true ∨ szOf P e = 1 ∧ allCell cs = true) then some (D.list true (els ag (szOf P e) len cs), H) else some (.own H.length len cs.length, H ++ [.row (szOf P e) ag cs])) = some (d, H')) :
    ∃ v w' h' ρ', (Instr.buildSlice t len pv).run P w = .ok v w' ∧ GLe h h' ∧ RLe ρ ρ' ∧ Sim w0 M0 hI h' ρ' H' w' ∧ RelV h' ρ' d v := by
  obtain ⟨arr, h1, h2, h3⟩ := run_buildSlice hS ht hp hz hle hm hr ef
  split at eo
  · rename_i hc
    cases eo
    obtain ⟨k1, k2⟩ := hS.pushImm (.cells arr e)
    refine ⟨_, _, _, ρ, h1, k1, .refl _, k2, ?_⟩
    exact RelV.ofRow (cs := arr) (el := e) (fz := (0, 0)) (by simp [Gh.set]) (h2.2.mono k1 (.refl _)) h3 hc.2 hc.1 (Nat.le_refl _) (fun _ => rfl)
  · cases eo
    have key := hS.push (.cells arr e) (.row (szOf P e) ag cs) (len * szOf P e, szOf P e) ?_
    · exact ⟨_, _, h, _, h1, .refl _, key.1, key.2, .own _ _ _ _ _ _ _ (Rn.set_same _ _ _ _) rfl (Nat.le_refl _)⟩
    · exact ⟨w.heap.size, _, arr, e, (0, 0), Rn.set_same _ _ _ _, hS.new_none, alloc_new _ _, by rw [h2.1, h3], by omega, h2.2.mono (.refl _) (Rn.le_set (.inl (hS.fresh (Nat.le_refl _)))), fun j hj => by simp⟩

theorem wrap_small {n : Int} (h0 : 0 ≤ n) (h1 : n < 2 ^ 63) : IntKind.i64.wrap n = n := by
  simp [IntKind.wrap, IntKind.bits, IntKind.signed]
  omega

theorem run_makeS (hS : Sim w0 M0 hI h ρ H w) {t e : TypeId} {l c : Int} {ag : Bool} (ht : P.underlying t = some (.slice e)) (hp : 0 < szOf P e) (hb : 0 < P.bytesOf e) (hz : (zcells P e).length = szOf P e) (h0 : 0 ≤ l) (h1 : l ≤ c) (h2 : c * P.bytesOf e ≤ 2 ^ 46) :
    ∃ v w' ρ', (Instr.makeSlice t (.int .i64 l) (.int .i64 c)).run P w = .ok v w' ∧ RLe ρ ρ' ∧ Sim w0 M0 hI h ρ' (H ++ [.row (szOf P e) ag (rep c.toNat (zcells P e))]) w' ∧ RelV h ρ' (.own H.length l.toNat (rep c.toNat (zcells P e)).length) v := by
  obtain ⟨i, zv, hi, hzv, rz⟩ := zcells_spec (h := h) (ρ := ρ) (P := P) (t := e) (by omega)
  have hbytes : i.bytes = P.bytesOf e := by simp [Program.bytesOf, hi]
  have hc0 : c ≤ c * P.bytesOf e := by
    have : c * 1 ≤ c * (P.bytesOf e : Int) := Int.mul_le_mul_of_nonneg_left (by omega) (by omega)
    omega
  have hwl := wrap_small h0 (n := l) (by omega)
  have hwc := wrap_small (n := c) (by omega) (by omega)
  have hb2 : (P.bytesOf e : Int) * c ≤ 2 ^ 46 := by rw [Int.mul_comm]; exact h2
  have rr := whole_rep (h := h) (ρ := ρ) (by omega) rz c.toNat
  have hzs : zv.cells.size = szOf P e := by rw [rz.1, hz]
  by_cases hc : c.toNat = 0
  · have key := hS.push (.cells #[] e) (.row (szOf P e) ag (rep c.toNat (zcells P e))) (c.toNat * szOf P e, szOf P e) ?_
    · refine ⟨_, _, _, ?_, key.1, key.2, .own _ _ _ _ c.toNat _ _ (Rn.set_same _ _ _ _) rfl (by omega)⟩
      simp only [Instr.makeSlice, Sem.run_bind, run_underlying ht, Result.andThen_ok, asInt, asIntOf, Sem.run_pure, run_typeInfo hi, hwl, hwc, hbytes]
      rw [if_neg (by simp; omega)]
      simp only [run_askRoom, Sem.run_bind, Result.andThen_ok, run_sizeOf' hp, hc, Nat.zero_mul, Sem.run_ite, if_true, Sem.run_pure, newRow, run_newObj, World.alloc_eq, Array.range_zero', Array.map_empty]
    · refine ⟨w.heap.size, _, #[], e, (0, 0), Rn.set_same _ _ _ _, hS.new_none, alloc_new _ _, by simp [hc], by rw [rep_len, hz]; omega, ?_, fun j hj => by simp⟩
      intro j d hj
      rw [hc] at hj
      simp [rep] at hj
  · have hne : ¬ (c.toNat * szOf P e = 0) := by have := Nat.mul_pos (show 0 < c.toNat by omega) hp; omega
    have key := hS.push (.cells ((Array.range (c.toNat * szOf P e)).map (zv.cells[· % zv.cells.size]!)) e) (.row (szOf P e) ag (rep c.toNat (zcells P e))) (c.toNat * szOf P e, szOf P e) ?_
    · refine ⟨_, _, _, ?_, key.1, key.2, .own _ _ _ _ c.toNat _ _ (Rn.set_same _ _ _ _) rfl (by omega)⟩
      simp only [Instr.makeSlice, Sem.run_bind, run_underlying ht, Result.andThen_ok, asInt, asIntOf, Sem.run_pure, run_typeInfo hi, hwl, hwc, hbytes]
      rw [if_neg (by simp; omega)]
      simp only [run_askRoom, Sem.run_bind, Result.andThen_ok, run_sizeOf' hp, Sem.run_ite, if_neg hne, run_zero hi hzv, Sem.run_pure, newRow, run_newObj, World.alloc_eq]
    · refine ⟨w.heap.size, _, _, e, (0, 0), Rn.set_same _ _ _ _, hS.new_none, alloc_new _ _, by simp, by rw [rep_len, hz]; omega, ?_, fun j hj => by simp⟩
      rw [hzs] at rr ⊢
      exact rr.2.mono (.refl _) (Rn.le_set (.inl (hS.fresh (Nat.le_refl _))))

theorem run_rangeS (hS : Sim w0 M0 hI h ρ H w) {t : TypeId} {s : List UInt8} {vs : Value} (ht : P.underlying t = some .string) (hx : RelV h ρ (.str s) vs) :
    ∃ v w' ρ', (Instr.range t vs).run P w = .ok v w' ∧ RLe ρ ρ' ∧ Sim w0 M0 hI h ρ' (H ++ [.iter s 0]) w' ∧ RelV h ρ' (.ptr H.length 0 0) v := by
  cases hx with | str _ s1 e1 =>
  have key := hS.push (.stringIter s1 0) (.iter s 0) (0, 0) ?_
  · refine ⟨_, _, _, ?_, key.1, key.2, .ptr _ _ _ _ _ _ (Rn.set_same _ _ _ _)⟩
    simp only [Instr.range, Sem.run_bind, run_underlying ht, Result.andThen_ok, Sem.run_pure, run_newObj, World.alloc_eq]
  · exact ⟨w.heap.size, _, _, s1, Rn.set_same _ _ _ _, hS.new_none, e1, alloc_new _ _⟩

theorem ba_mk {s : ByteArray} {l : List UInt8} (e : s.data.toList = l) : s = ⟨l.toArray⟩ := by
  subst e
  cases s
  simp

theorem run_getObj_iter {b : Nat} {s : ByteArray} {p : Nat} (hb : w.heap[b]? = some (.stringIter s p)) : (getObj b).run P w = .ok (.stringIter s p) w := by
  simp [getObj, Sem.run, hb]
theorem run_setObj_iter {b : Nat} {s : ByteArray} {p : Nat} {o : Obj} (hb : w.heap[b]? = some (.stringIter s p)) : (setObj b o).run P w = .ok () { w with heap := w.heap.setIfInBounds b o } := by
  simp [setObj, Sem.run, hb]

theorem run_nextS (hS : Sim w0 M0 hI h ρ H w) {ty' : TypeId} {i pos : Nat} {s : List UInt8} {vi : Value} (hx : RelV h ρ (.ptr i 0 0) vi) (hg : hget H i = .iter s pos) :
    ∃ v w', (Instr.next vi true ty').run P w = .ok v w' ∧ (if pos < s.length then Sim w0 M0 hI h ρ (hset H i (.iter s (pos + (Utf8.decode ⟨s.toArray⟩ pos).2))) w' ∧ RelV h ρ (.tup [.bool true, .int .i64 pos, .int .i32 (Utf8.decode ⟨s.toArray⟩ pos).1]) v
      else Sim w0 M0 hI h ρ H w' ∧ RelV h ρ (.tup [.bool false]) v) := by
  cases hx with | ptr _ _ _ b c z hb =>
  have hblk := hS.blk i
  rw [hg] at hblk
  obtain ⟨b', c', z', bs, a1, a2, a3, a4⟩ := hblk
  rw [hb] at a1
  cases a1
  obtain rfl := ba_mk a3
  have hsz : (ByteArray.mk s.toArray).size = s.length := by simp [ByteArray.size]
  by_cases hlt : pos < s.length
  · simp only [if_pos hlt]
    have hnn : ρ i (Blk.iter s (pos + (Utf8.decode ⟨s.toArray⟩ pos).2)).n = some (b, c, z) := hb
    have key := hS.write (i := i) (bl' := .iter s (pos + (Utf8.decode ⟨s.toArray⟩ pos).2)) (w' := { w with heap := w.heap.setIfInBounds b (.stringIter ⟨s.toArray⟩ (pos + (Utf8.decode ⟨s.toArray⟩ pos).2)) }) (b := b) (x := (c, z)) (x' := (c, z)) (by rw [hg]; rfl) (by rw [hg]; exact hb) rfl (fun _ _ _ hd => by cases hd) (.inr hnn) rfl rfl rfl (by simp) (fun c hc => by simp [Array.getElem?_setIfInBounds_ne (Ne.symm hc)]) ?_
    · rw [Rn.set_id hnn] at key
      refine ⟨.tuple #[.bool true, goInt pos, .int .i32 (Utf8.decode ⟨s.toArray⟩ pos).1], _, ?_, key.2, ?_⟩
      · simp only [Instr.next, Sem.run_bind, run_getObj_iter a4, Result.andThen_ok, hsz, if_pos hlt, Sem.run_pure, run_setObj_iter a4]
      · refine .tup _ _ rfl (fun j => #[Value.bool true, goInt pos, .int .i32 (Utf8.decode ⟨s.toArray⟩ pos).1].getD j undef) (fun j hj => ?_) (fun j d hj => ?_)
        · match j, hj with
          | 0, _ => rfl
          | 1, _ => rfl
          | 2, _ => rfl
        · match j, hj with
          | 0, hj => cases hj; exact .bool _
          | 1, hj => cases hj; exact .int _ _
          | 2, hj => cases hj; exact .int _ _
    · rw [Rn.set_id hnn]
      refine ⟨b, c, z, ⟨s.toArray⟩, hb, a2, by simp, ?_⟩
      have hblt : b < w.heap.size := (Array.getElem?_eq_some_iff.1 a4).1
      simp [hblt]
  · simp only [if_neg hlt]
    refine ⟨.tuple #[.bool false], w, ?_, hS, ?_⟩
    · simp only [Instr.next, Sem.run_bind, run_getObj_iter a4, Result.andThen_ok, hsz, if_neg hlt, Sem.run_pure]
    · refine .tup _ _ rfl (fun j => .bool false) (fun j hj => ?_) (fun j d hj => ?_)
      · match j, hj with
        | 0, _ => rfl
      · match j, hj with
        | 0, hj => cases hj; exact .bool _

theorem run_conv {s t : TypeId} {x : D} {vx : Value} {d : D} (hx : RelV h ρ x vx) (e : dConv (ty P s) (ty P t) x = some d) : ∃ v, (Go.convert s t vx).run P w = .ok v w ∧ RelV h ρ d v := by
  unfold dConv at e
  split at e
  · rename_i k1 k2 k n h1 h2
    cases e
    cases hx
    exact ⟨_, by simp only [Go.convert, Sem.run_bind, run_underlying (ty_int h1), run_underlying (ty_int h2), Result.andThen_ok, Conv.intToInt, Sem.run_pure], .int _ _⟩
  · rename_i k1 k n h1 h2
    cases e
    cases hx
    exact ⟨_, by simp only [Go.convert, Sem.run_bind, run_underlying (ty_int h1), run_underlying (ty_str h2), Result.andThen_ok, Conv.intToString, Sem.run_pure], .str _ _ rfl⟩
  · rename_i s1 h1 h2
    cases e
    cases hx with | str _ s2 e2 =>
    exact ⟨_, by simp only [Go.convert, Sem.run_bind, run_underlying (ty_str h1), run_underlying (ty_str h2), Result.andThen_ok, Sem.run_pure], .str _ _ e2⟩
  · cases e

theorem bytesOfD_len : ∀ {ds : List D} {l : List UInt8}, bytesOfD ds = some l → ds.length = l.length
  | [], l, e => by cases e; rfl
  | d :: ds, l, e => by
    unfold bytesOfD at e
    split at e
    · rename_i h; cases h
    · rename_i n r h
      cases h
      split at e
      · split at e
        · rename_i r' hr
          cases e
          simp [bytesOfD_len hr]
        · cases e
      · cases e
    · cases e
theorem bytesOfD_get : ∀ {ds : List D} {l : List UInt8}, bytesOfD ds = some l → ∀ (j : Nat) (hj : j < l.length), ds[j]? = some (.int .u8 (l[j].toNat : Int))
  | [], l, e, j, hj => by cases e; simp at hj
  | d :: ds, l, e, j, hj => by
    unfold bytesOfD at e
    split at e
    · rename_i h; cases h
    · rename_i n r h
      cases h
      split at e
      · rename_i hn
        split at e
        · rename_i r' hr
          cases e
          cases j with
          | zero =>
            simp only [List.getElem?_cons_zero, List.getElem_cons_zero, UInt8.toNat_ofNat']
            congr 2
            omega
          | succ j =>
            simp only [List.getElem?_cons_succ, List.getElem_cons_succ]
            exact bytesOfD_get hr j (by simpa using hj)
        · cases e
      · cases e
    · cases e
theorem run_bytesRow {b off n c : Nat} {ds : List D} {cs : Array Value} {el : TypeId} {fz : Nat × Nat} {s t e : TypeId} {l : List UInt8} (hb : w.heap[b]? = some (.cells cs el fz)) (r : Row h ρ cs off ds) (hl : bytesOfD ds = some l) (hn : n = ds.length)
    (hs : P.underlying s = some (.slice e)) (he : P.underlying e = some (.int .u8)) (hd : P.underlying t = some .string) : (Go.convert s t (.slice (some ⟨b, off, none⟩) n c)).run P w = .ok (.string ⟨l.toArray⟩) w := by
  rw [hn, bytesOfD_len hl]
  refine run_convert_bytes_back w s t e _ c l hs he hd fun j hj => ?_
  obtain ⟨u, h1, _, h3⟩ := r j _ (bytesOfD_get hl j hj)
  cases h3
  have hbl : (Addr.add ⟨b, off, none⟩ j) = ⟨b, off + j, none⟩ := by
    unfold Addr.add
    split
    · rename_i h0; subst h0; rfl
    · rfl
  rw [hbl]
  simp [World.cell?, hb, h1]
theorem run_bytesNone {n c : Nat} {s t e : TypeId} (hs : P.underlying s = some (.slice e)) (he : P.underlying e = some (.int .u8)) (hd : P.underlying t = some .string) : (Go.convert s t (.slice none n c)).run P w = .ok (.string .empty) w := by
  simp only [Go.convert, Sem.run_bind, run_underlying hs, run_underlying hd, Result.andThen_ok, run_underlying he, Conv.bytesToString, Sem.run_pure]
theorem run_bytes (hS : Sim w0 M0 hI h ρ H w) {s t e : TypeId} {x d : D} {vx : Value} (hx : RelV h ρ x vx) (ed : dBytes H x = some d)
    (hs : P.underlying s = some (.slice e)) (he : P.underlying e = some (.int .u8)) (hd : P.underlying t = some .string) : ∃ v, (Go.convert s t vx).run P w = .ok v w ∧ RelV h ρ d v := by
  have fin : ∀ {cs : List D}, (match bytesOfD cs with | some l => some (D.str l) | none => none) = some d → ∃ l, bytesOfD cs = some l ∧ d = .str l := by
    intro cs e
    split at e
    · rename_i l hl; cases e; exact ⟨l, hl, rfl⟩
    · cases e
  unfold dBytes at ed
  split at ed
  · rename_i tt xs
    simp only [srcCells] at ed
    split at ed
    · rename_i cs hcs
      split at hcs
      · rename_i hall
        cases hcs
        obtain ⟨l, hl, rfl⟩ := fin ed
        have hsz := allSz_spec hall
        have hfl := flat_len hsz
        cases hx with
        | lnil t' a c ht =>
          cases hl
          cases a with
          | none => exact ⟨_, run_bytesNone hs he hd, .str _ _ rfl⟩
          | some a => exact ⟨_, run_convert_bytes_back w s t e a c [] hs he hd (fun j hj => by simp at hj), .str _ _ rfl⟩
        | list t' _ b off n' c sz' cs' el' fz us hx hn hlen ht hsz' hcl' hcc hb hc ho hr =>
          have r : Row h ρ cs' off (xs.flatMap D.cells) := fun j d hj => ⟨us j, hc j (List.getElem?_eq_some_iff.1 hj).1, ho j (List.getElem?_eq_some_iff.1 hj).1, hr j d hj⟩
          exact ⟨_, run_bytesRow (hS.imm _ _ hb) r hl (by rw [hfl, hn, Nat.mul_one]) hs he hd, .str _ _ rfl⟩
      · cases hcs
    · cases ed
  · rename_i i len N
    simp only [srcCells] at ed
    split at ed
    · rename_i cs hcs
      split at hcs
      · rename_i cs0 hcs0
        split at hcs
        · rename_i hle
          cases hcs
          obtain ⟨l, hl, rfl⟩ := fin ed
          cases hx with | own _ _ _ b c cs1 sz' hb hc hl1 =>
          obtain ⟨b', c', s', cs', el', fz, hb', hw', r⟩ := hS.at hcs0
          rw [hb] at hb'
          cases hb'
          have hlen : cs0.length = N := (cellsOf_some hcs0).2.2
          exact ⟨_, run_bytesRow hw' (r.take (len * 1)) hl (by simp; omega) hs he hd, .str _ _ rfl⟩
        · cases hcs
      · cases hcs
    · cases ed
  · rename_i i off len N
    simp only [srcCells] at ed
    split at ed
    · rename_i cs hcs
      split at hcs
      · rename_i cs0 hcs0
        split at hcs
        · rename_i hle
          cases hcs
          obtain ⟨l, hl, rfl⟩ := fin ed
          cases hx with | asl _ _ _ _ b o c cs1 sz' hb hl1 ho =>
          obtain ⟨b', c', s', cs', el', fz, hb', hw', r⟩ := hS.at hcs0
          rw [hb] at hb'
          cases hb'
          have hlen : cs0.length = N := (cellsOf_some hcs0).2.2
          by_cases h0 : len = 0
          · subst h0
            simp only [Nat.zero_mul, List.take_zero] at hl
            cases hl
            exact ⟨_, run_convert_bytes_back w s t e ⟨b, o, none⟩ c [] hs he hd (fun j hj => by simp at hj), .str _ _ rfl⟩
          · obtain rfl := ho h0
            have r' := (r.drop o).take (len * 1)
            rw [Nat.zero_add] at r'
            exact ⟨_, run_bytesRow hw' r' hl (by simp; omega) hs he hd, .str _ _ rfl⟩
        · cases hcs
      · cases hcs
    · cases ed
  · cases ed
theorem RelB.heap {i : Nat} {w' : World} {bl : Blk} (e : w'.heap = w.heap) (r : RelB h ρ i w bl) : RelB h ρ i w' bl := by
  cases bl <;> simp only [RelB, e] at r ⊢ <;> exact r
theorem Sim.heap {w' : World} (hS : Sim w0 M0 hI h ρ H w) (e : w'.heap = w.heap) (e1 : w'.os = w.os) (e2 : w'.tape = w.tape) (e3 : w'.output = w.output) : Sim w0 M0 hI h ρ H w' where
  os := e1.trans hS.os
  tape := e2.trans hS.tape
  output := e3.trans hS.output
  size := by rw [e]; exact hS.size
  imm := by rw [e]; exact hS.imm
  blk := fun i => (hS.blk i).heap e
  own := hS.own
  inj := hS.inj
  dom := hS.dom
  ver := hS.ver
  keep := hS.keep
  frame := by rw [e]; exact hS.frame
theorem bytes_flat (l : List UInt8) : (l.map fun b => D.int .u8 b.toNat).flatMap D.cells = l.map fun b => D.int .u8 b.toNat := by
  induction l with
  | nil => rfl
  | cons b l ih => simp only [List.map_cons, List.flatMap_cons, ih]; rfl
/-- A text as a slice of bytes. -/
theorem run_strBytes (hS : Sim w0 M0 hI h ρ H w) {s t e : TypeId} {l : List UInt8} {vx : Value} (hs : P.underlying s = some .string) (hd : P.underlying t = some (.slice e)) (he : P.underlying e = some (.int .u8)) (hx : RelV h ρ (.str l) vx) :
    ∃ v w' h', (Go.convert s t vx).run P w = .ok v w' ∧ GLe h h' ∧ Sim w0 M0 hI h' ρ H w' ∧ RelV h' ρ (.list false (l.map fun b => .int .u8 b.toNat)) v := by
  cases hx with | str _ b e1 =>
  subst e1
  have hlen : b.data.toList.length = b.size := Array.length_toList
  let o : Obj := .cells (Lib.bytesCells w e b) e ((Lib.bytesCells w e b).size, (Lib.bytesCells w e b).size + 1)
  obtain ⟨k1, k2⟩ := hS.pushImm o
  have hh : (Lib.bytesWorld w e b).heap = (w.alloc o).heap := by
    refine Array.ext_getElem? fun j => ?_
    rcases Nat.lt_or_ge j w.heap.size with hj | hj
    · rw [Lib.bytesWorld_at_old w e b j hj]
      show w.heap[j]? = (w.heap.push o)[j]?
      rw [Array.getElem?_push, if_neg (by omega)]
    · rcases Nat.eq_or_lt_of_le hj with rfl | hj
      · rw [Lib.bytesWorld_at_new]
        show _ = (w.heap.push o)[w.heap.size]?
        rw [Array.getElem?_push, if_pos rfl]
      · rw [Array.getElem?_eq_none (by rw [Lib.bytesWorld_size]; omega)]
        show _ = (w.heap.push o)[j]?
        rw [Array.getElem?_eq_none (by rw [Array.size_push]; omega)]
  refine ⟨_, Lib.bytesWorld w e b, _, Lib.run_convert_string_bytes w s t e b hs hd he, k1, k2.heap hh rfl rfl rfl, ?_⟩
  have hn : b.size ≤ grownCap w b.size 0 e := grownCap_ge w b.size 0 e
  by_cases h0 : b.data.toList = []
  · have hz : b.size = 0 := by rw [← hlen, h0]; rfl
    rw [h0, hz]
    exact RelV.lnil false _ _ (fun h => by cases h)
  · refine .list false _ w.heap.size 0 _ _ 1 (Lib.bytesCells w e b) e _ (fun j => .int .u8 (b.data.toList.getD j 0).toNat) (by simpa using h0) (by simp [hlen]) hn (fun h => by cases h) (fun x hx => ?_) (fun x hx => ?_) (fun x hx => ?_) (if_pos rfl) ?_ ?_ ?_
    · obtain ⟨y, _, rfl⟩ := List.mem_map.1 hx; rfl
    · obtain ⟨y, _, rfl⟩ := List.mem_map.1 hx; rfl
    · obtain ⟨y, _, rfl⟩ := List.mem_map.1 hx; rfl
    · intro j hj
      rw [bytes_flat, List.length_map] at hj
      have hj2 : j < b.data.size := by simpa using hj
      rw [Nat.zero_add, Lib.bytesCells, Array.getElem?_append_left (by simpa using hj2)]
      refine (Array.getElem?_map ..).trans ?_
      rw [Array.getElem?_eq_getElem hj2]
      simp only [List.getD, Array.getElem?_toList, Array.getElem?_eq_getElem hj2, Option.map_some, Option.getD_some]
    · intro j hj; rfl
    · intro j d hj
      rw [bytes_flat, List.getElem?_map] at hj
      cases hb : b.data.toList[j]? with
      | none => simp [hb] at hj
      | some y =>
        simp only [hb, Option.map_some, Option.some.injEq] at hj
        subst hj
        simp only [List.getD, hb, Option.getD_some]
        exact .int _ _
theorem run_convH (hS : Sim w0 M0 hI h ρ H w) {s t : TypeId} {x : D} {vx : Value} {d : D} (hx : RelV h ρ x vx) (ed : dConvH P s t H x = some d) : ∃ v w' h', (Go.convert s t vx).run P w = .ok v w' ∧ GLe h h' ∧ Sim w0 M0 hI h' ρ H w' ∧ RelV h' ρ d v := by
  unfold dConvH at ed
  split at ed
  · rename_i e bt ag h1 h2
    split at ed
    · rename_i h3
      obtain ⟨v, a, b⟩ := run_bytes hS hx ed (ty_slice h1).1 (ty_int h3) (ty_str h2)
      exact ⟨v, w, h, a, .refl _, hS, b⟩
    · cases ed
  · rename_i e bt h1 h2
    split at ed
    · rename_i h3
      cases ed
      exact run_strBytes hS (ty_str h1) (ty_slice h2).1 (ty_int h3) hx
    · cases ed
  · obtain ⟨v, a, b⟩ := run_conv (w := w) hx ed
    exact ⟨v, w, h, a, .refl _, hS, b⟩
end
end Go.Lv

namespace Go.Lv
open Go
set_option linter.unusedVariables false
set_option linter.unusedSimpArgs false
section
variable {P : Program} {w0 : World} {M0 : Nat → Prop} {hI h : Gh} {ρ : Rn} {H : Hp} {w : World}

theorem RelV.tup2 {a b : D} {va vb : Value} (ha : RelV h ρ a va) (hb : RelV h ρ b vb) : RelV h ρ (.tup [a, b]) (.tuple #[va, vb]) := by
  refine .tup _ _ rfl (fun j => match j with | 0 => va | _ => vb) (fun j hj => ?_) (fun j d hj => ?_)
  · match j, hj with
    | 0, _ => rfl
    | 1, _ => rfl
  · match j, hj with
    | 0, hj => cases hj; exact ha
    | 1, hj => cases hj; exact hb


theorem ty_map {t k e : TypeId} (ht : ty P t = .map k e) : P.underlying t = some (.map k e) := by
  unfold ty at ht
  split at ht <;> first | (cases ht; done) | skip
  rename_i hh
  cases ht
  exact hh

theorem run_makeMapS (hS : Sim w0 M0 hI h ρ H w) (t : TypeId) :
    ∃ v w' ρ', (Instr.makeMap t none).run P w = .ok v w' ∧ RLe ρ ρ' ∧ Sim w0 M0 hI h ρ' (H ++ [.map []]) w' ∧ RelV h ρ' (.mp H.length) v := by
  have key := hS.push (.map #[] 0) (.map []) (0, 0) ?_
  · refine ⟨_, _, _, ?_, key.1, key.2, .mp _ _ _ (Rn.set_same _ _ _ _)⟩
    simp only [Instr.makeMap, Sem.run_bind, Result.andThen_ok, Sem.run_pure, run_newObj, World.alloc_eq]
  · exact ⟨w.heap.size, _, #[], 0, Rn.set_same _ _ _ _, hS.new_none, alloc_new _ _, rfl, rfl, fun j e hj => by simp at hj⟩

theorem run_getObj_map {b : Nat} {l : Array MapEntry} {c : Nat} (hb : w.heap[b]? = some (.map l c)) : (getObj b).run P w = .ok (.map l c) w := by
  simp [getObj, Sem.run, hb]
theorem run_setObj_map {b : Nat} {l : Array MapEntry} {c : Nat} {o : Obj} (hb : w.heap[b]? = some (.map l c)) : (setObj b o).run P w = .ok () { w with heap := w.heap.setIfInBounds b o } := by
  simp [setObj, Sem.run, hb]

theorem isKey_desc {k : TypeId} {a : D} (hk : isKey P k a = true) : (∃ q n q', a = .int q n ∧ P.underlying k = some (.int q')) ∨ ∃ s, a = .str s ∧ P.underlying k = some .string := by
  unfold isKey at hk
  split at hk
  · rename_i q n q' ht
    exact .inl ⟨q, n, q', rfl, ty_int ht⟩
  · rename_i s ht
    exact .inr ⟨s, rfl, ty_str ht⟩
  · cases hk

theorem run_checkKeyN {k : TypeId} {a : D} {v : Value} {e : Bool} {n : Nat} (hk : isKey P k a = true) (hr : RelV h ρ a v) : (Instr.checkKey e (n + 1) k v).run P w = .ok () w := by
  rcases isKey_desc hk with ⟨q, n, q', rfl, hu⟩ | ⟨s, rfl, hu⟩
  · cases hr
    simp only [Instr.checkKey, Sem.run_bind, run_underlying hu, Result.andThen_ok, Sem.run_pure]
  · cases hr
    simp only [Instr.checkKey, Sem.run_bind, run_underlying hu, Result.andThen_ok, Sem.run_pure]
theorem run_checkKey {k : TypeId} {a : D} {v : Value} {e : Bool} (hk : isKey P k a = true) (hr : RelV h ρ a v) : (Instr.checkKey e 10000 k v).run P w = .ok () w := run_checkKeyN hk hr

theorem baeq (a b : ByteArray) : (a == b) = (a.data.toList == b.data.toList) := by
  show (a.data == b.data) = _
  by_cases hh : a.data = b.data
  · simp [hh]
  · have : ¬ a.data.toList = b.data.toList := fun e => hh (Array.toList_inj.1 e)
    simp [this]

/-- Looked for among entries. -/
theorem findNow_ok {k : TypeId} {a : D} {v : Value} {d : TypeDesc} (hd : P.underlying k = some d) (hr : RelV h ρ a v) : ∀ (es : List (D × D)) (l : List MapEntry) (i : Nat) (r : Option D),
    l.length = es.length → (∀ (j : Nat) (e : D × D), es[j]? = some e → ∃ x : MapEntry, l[j]? = some x ∧ RelV h ρ e.1 x.key ∧ RelV h ρ e.2 x.val) → mfind P k a es = some r →
    ∃ o, Instr.findNow d v l i = some o ∧ (match r with
      | none => o = none ∧ ∀ (x : D), mput P k a x es = some (es ++ [(a, x)])
      | some z => ∃ j u, o = some (i + j, u) ∧ RelV h ρ z u ∧ j < es.length ∧ (∀ (x : D), mput P k a x es = some (es.set j (a, x))) ∧ ∃ x : MapEntry, l[j]? = some x ∧ Instr.sameNow d v x.key = some true)
  | [], [], i, r, hl, hx, hf => by
    simp only [mfind, Option.some.injEq] at hf
    subst hf
    exact ⟨none, rfl, rfl, fun x => rfl⟩
  | [], y :: l, i, r, hl, hx, hf => by simp at hl
  | e :: es, [], i, r, hl, hx, hf => by simp at hl
  | e :: es, y :: l, i, r, hl, hx, hf => by
    obtain ⟨x, h1, h2, h3⟩ := hx 0 e rfl
    simp only [List.getElem?_cons_zero, Option.some.injEq] at h1
    subst h1
    simp only [mfind] at hf
    have hsame : ∀ b, keyEq P k a e.1 = some b → Instr.sameNow d v y.key = some b := by
      intro b hb
      unfold keyEq at hb
      split at hb
      · rename_i q n q' m hq
        rw [hq] at h2
        generalize y.key = yk at h2
        cases hr
        cases h2
        split at hb
        · rename_i q2 ht
          have hu := ty_int ht
          rw [hd] at hu
          cases hu
          split at hb
          · rename_i hqq
            cases hb
            simp [Instr.sameNow, hqq]
          · cases hb
        · cases hb
      · rename_i s s' hq
        rw [hq] at h2
        generalize y.key = yk at h2
        cases hr with | str _ b1 e1 =>
        cases h2 with | str _ b2 e2 =>
        split at hb
        · rename_i ht
          have hu := ty_str ht
          rw [hd] at hu
          cases hu
          cases hb
          simp only [Instr.sameNow, Option.some.injEq]
          subst e1 e2
          exact baeq b1 b2
        · cases hb
      · cases hb
    split at hf
    · rename_i hb
      cases hf
      refine ⟨some (i, y.val), by simp [Instr.findNow, hsame _ hb], 0, y.val, rfl, h3, by simp, fun x => by simp [mput, hb], y, rfl, hsame _ hb⟩
    · rename_i hb
      obtain ⟨o, ho, hm⟩ := findNow_ok hd hr es l (i + 1) r (by simpa using hl) (fun j e' hj => by simpa using hx (j + 1) e' (by simpa using hj)) hf
      refine ⟨o, by simp [Instr.findNow, hsame _ hb, ho], ?_⟩
      cases r with
      | none =>
        obtain ⟨rfl, h4⟩ := hm
        exact ⟨rfl, fun x => by simp [mput, hb, h4]⟩
      | some z =>
        obtain ⟨j, u, rfl, h4, h5, h6, x, h7, h8⟩ := hm
        exact ⟨j + 1, u, by simp; omega, h4, by simpa using h5, fun x => by simp [mput, hb, h6], x, by simpa using h7, h8⟩
    · cases hf

theorem mput_none {k : TypeId} {a : D} (v : D) : ∀ {es : List (D × D)}, mfind P k a es = none → mput P k a v es = none
  | [], h => by simp [mfind] at h
  | e :: es, h => by
    simp only [mfind] at h
    simp only [mput]
    split at h
    · cases h
    · simp [mput_none v h]
    · rfl
theorem run_findKey {k : TypeId} {v : Value} {d : TypeDesc} {l : List MapEntry} {o : Option (Nat × Value)} (hd : P.underlying k = some d) (h1 : Instr.findNow d v l 0 = some o) : (Instr.findKey k v l).run P w = .ok o w := by
  simp only [Instr.findKey, Sem.run_bind, run_underlying hd, Result.andThen_ok, h1, Sem.run_pure]

theorem zval_spec {t : TypeId} {z : D} (hz : zval P t = some z) : ∃ v, (zeroValue t).run P w = .ok v w ∧ RelV h ρ z v := by
  unfold zval at hz
  split at hz
  · rename_i i hi
    split at hz
    · rename_i cs hv
      split at hz
      · rename_i hp
        cases hz
        obtain ⟨i', v', h1, h2, h3⟩ := zcells_spec (h := h) (ρ := ρ) hp
        rw [hi] at h1
        cases h1
        rw [hv] at h2
        cases h2
        exact ⟨_, run_zero hi hv, h3.agg⟩
      · cases hz
    · rename_i v hn hv
      cases hz
      exact ⟨_, run_zero hi hv, ofV_rel v⟩
    · cases hz
  · cases hz

theorem dMents_spec (hS : Sim w0 M0 hI h ρ H w) {x : D} {vx : Value} {es : List (D × D)} (hx : RelV h ρ x vx) (hes : dMents H x = some es) :
    (vx = .map none ∧ es = []) ∨ ∃ b l c m z, vx = .map (some b) ∧ x = .mp m ∧ ρ m 0 = some (b, z) ∧ h b = none ∧ hget H m = .map es ∧ w.heap[b]? = some (.map l c) ∧ MapRel h ρ es l c := by
  unfold dMents at hes
  split at hes
  · cases hes
    cases hx
    exact .inl ⟨rfl, rfl⟩
  · rename_i m
    cases hx with | mp _ b z hb =>
    have hblk := hS.blk m
    split at hes
    · rename_i es' hg
      cases hes
      rw [hg] at hblk
      obtain ⟨b', z', l, c, a1, a2, a3, a4⟩ := hblk
      rw [hb] at a1
      cases a1
      exact .inr ⟨b, l, c, m, z, rfl, rfl, hb, a2, hg, a3, a4⟩
    · cases hes
  · cases hes

theorem MapRel.ents {es : List (D × D)} {l : Array MapEntry} {c : Nat} (r : MapRel h ρ es l c) : l.toList.length = es.length ∧ (∀ (j : Nat) (e : D × D), es[j]? = some e → ∃ x : MapEntry, l.toList[j]? = some x ∧ RelV h ρ e.1 x.key ∧ RelV h ρ e.2 x.val) :=
  ⟨by simpa using r.1, fun j e hj => let ⟨y, q1, q2, q3, _⟩ := r.2.2 j e hj; ⟨y, by simpa using q1, q2, q3⟩⟩

theorem run_lookupS (hS : Sim w0 M0 hI h ρ H w) {t : TypeId} {x i : D} {vx vi : Value} {ok : Bool} {d : D} (hx : RelV h ρ x vx) (hi : RelV h ρ i vi) (e : dLook P t H x i ok = some d) :
    ∃ v, (Instr.lookup t vx vi ok).run P w = .ok v w ∧ RelV h ρ d v := by
  unfold dLook at e
  split at e
  · rename_i k el ht
    have hu := ty_map ht
    split at e
    · rename_i hk
      split at e
      · rename_i es hes
        obtain ⟨dk, hdk⟩ : ∃ dk, P.underlying k = some dk := by
          rcases isKey_desc hk with ⟨_, _, q', _, hu'⟩ | ⟨_, _, hu'⟩
          · exact ⟨_, hu'⟩
          · exact ⟨_, hu'⟩
        -- the entries
        obtain ⟨l, hl, hrel, hrun⟩ : ∃ l : Array MapEntry, l.toList.length = es.length ∧ (∀ (j : Nat) (e : D × D), es[j]? = some e → ∃ x : MapEntry, l.toList[j]? = some x ∧ RelV h ρ e.1 x.key ∧ RelV h ρ e.2 x.val) ∧
            ∀ o u b, (Instr.findKey k vi l.toList).run P w = .ok o w → (match o with | some (_, v) => u = v ∧ b = true | none => (zeroValue el).run P w = .ok u w ∧ b = false) → (Instr.lookup t vx vi ok).run P w = .ok (if ok then .tuple #[u, .bool b] else u) w := by
          rcases dMents_spec hS hx hes with ⟨rfl, rfl⟩ | ⟨b, l, c, m, z, rfl, rfl, hb, hn, hg, hh, hr⟩
          · refine ⟨#[], rfl, fun j e hj => by simp at hj, fun o u b ho hu2 => ?_⟩
            simp only [Instr.lookup, Sem.run_bind, run_underlying hu, Result.andThen_ok, Sem.run_pure, run_checkKey (e := true) hk hi, Array.isEmpty_empty, ho]
            cases o with
            | none => simp only [Sem.run_bind, hu2.1, hu2.2, Result.andThen_ok, Sem.run_pure]
            | some p => obtain ⟨rfl, rfl⟩ := hu2; simp only [Sem.run_bind, Sem.run_pure, Result.andThen_ok]
          · refine ⟨l, hr.ents.1, hr.ents.2, fun o u b ho hu2 => ?_⟩
            simp only [Instr.lookup, Sem.run_bind, run_underlying hu, Result.andThen_ok, Sem.run_pure, run_getObj_map hh, run_checkKey (e := l.isEmpty) hk hi, ho]
            cases o with
            | none => simp only [Sem.run_bind, hu2.1, hu2.2, Result.andThen_ok, Sem.run_pure]
            | some p => obtain ⟨rfl, rfl⟩ := hu2; simp only [Sem.run_bind, Sem.run_pure, Result.andThen_ok]
        split at e
        · rename_i v hf
          cases e
          obtain ⟨o, ho, j, u, rfl, hv, _⟩ := findNow_ok hdk hi es l.toList 0 _ hl hrel hf
          refine ⟨_, hrun _ u true (run_findKey hdk ho) ⟨rfl, rfl⟩, ?_⟩
          cases ok
          · exact hv
          · exact .tup2 hv (.bool _)
        · rename_i hf
          split at e
          · rename_i z hz
            cases e
            obtain ⟨o, ho, rfl, _⟩ := findNow_ok hdk hi es l.toList 0 _ hl hrel hf
            obtain ⟨u, hu2, hv⟩ := zval_spec (h := h) (ρ := ρ) (w := w) hz
            refine ⟨_, hrun _ u false (run_findKey hdk ho) ⟨hu2, rfl⟩, ?_⟩
            cases ok
            · exact hv
            · exact .tup2 hv (.bool _)
          · cases e
        · cases e
      · cases e
    · cases e
  · cases e

theorem sameBits_of {v u : Value} {d : TypeDesc} {n : Nat} (hs : Instr.sameNow d v u = some true) : Instr.sameBits n u v = true := by
  unfold Instr.sameNow at hs
  split at hs
  · split at hs
    · rename_i hk
      cases hk
      simp only [Option.some.injEq, beq_iff_eq] at hs
      subst hs
      cases n <;> simp [Instr.sameBits]
    · cases hs
  · simp only [Option.some.injEq] at hs
    rw [baeq] at hs
    cases n <;> (simp only [Instr.sameBits]; rw [baeq]; simpa using (beq_iff_eq.1 hs).symm)
  · simp only [Option.some.injEq, beq_iff_eq] at hs
    subst hs
    cases n <;> simp [Instr.sameBits]
  · cases hs

theorem run_mapUpdateS (hS : Sim w0 M0 hI h ρ H w) {t : TypeId} {x i v : D} {vx vi vv : Value} {H' : Hp} (hx : RelV h ρ x vx) (hi : RelV h ρ i vi) (hv : RelV h ρ v vv) (e : dMput P t H x i v = some H') :
    ∃ w', (Instr.mapUpdate t vx vi vv).run P w = .ok () w' ∧ Sim w0 M0 hI h ρ H' w' := by
  unfold dMput at e
  split at e
  · rename_i k el m ht
    have hu := ty_map ht
    split at e
    · rename_i hk
      split at e
      · rename_i es hg
        obtain ⟨dk, hdk⟩ : ∃ dk, P.underlying k = some dk := by
          rcases isKey_desc hk with ⟨_, _, q', _, hu'⟩ | ⟨_, _, hu'⟩
          · exact ⟨_, hu'⟩
          · exact ⟨_, hu'⟩
        cases hx with | mp _ b z hb =>
        have hblk := hS.blk m
        rw [hg] at hblk
        obtain ⟨b', z', l, c, a1, a2, a3, a4⟩ := hblk
        rw [hb] at a1
        cases a1
        have hblt : b < w.heap.size := (Array.getElem?_eq_some_iff.1 a3).1
        have wr : ∀ (es' : List (D × D)) (l' : Array MapEntry) (c' : Nat), MapRel h ρ es' l' c' → Sim w0 M0 hI h ρ (hset H m (.map es')) { w with heap := w.heap.setIfInBounds b (.map l' c') } := by
          intro es' l' c' hr
          have hnn : ρ m (Blk.map es').n = some (b, z) := hb
          have key := hS.write (i := m) (bl' := .map es') (w' := { w with heap := w.heap.setIfInBounds b (.map l' c') }) (b := b) (x := z) (x' := z) (by rw [hg]; rfl) (by rw [hg]; exact hb) rfl (fun _ _ _ hd => by cases hd) (.inr hnn) rfl rfl rfl (by simp) (fun c hc => by simp [Array.getElem?_setIfInBounds_ne (Ne.symm hc)]) ?_
          · rw [Rn.set_id hnn] at key
            exact key.2
          · rw [Rn.set_id hnn]
            exact ⟨b, z, l', c', hb, a2, by simp [hblt], hr⟩
        cases hf : mfind P k i es with
        | none => rw [mput_none v hf] at e; cases e
        | some r =>
          obtain ⟨o, ho, hm⟩ := findNow_ok hdk hi es l.toList 0 r a4.ents.1 a4.ents.2 hf
          cases r with
          | none =>
            obtain ⟨rfl, hp⟩ := hm
            rw [hp v] at e
            cases e
            refine ⟨{ w with heap := w.heap.setIfInBounds b (.map (l.push { key := vi, val := vv, born := c }) (c + 1)) }, ?_, wr _ _ _ ⟨by simp [a4.1], by simp [a4.2.1], fun j e hj => ?_⟩⟩
            · simp only [Instr.mapUpdate, Sem.run_bind, run_underlying hu, Result.andThen_ok, Sem.run_pure, run_getObj_map a3, run_checkKey (e := false) hk hi, run_findKey hdk ho, run_setObj_map a3]
            · rw [List.getElem?_append] at hj
              rw [Array.getElem?_push]
              split at hj
              · rename_i hlt
                rw [if_neg (by rw [a4.1]; omega)]
                exact a4.2.2 j e hj
              · rename_i hlt
                have hj0 : j = es.length := by
                  have := (List.getElem?_eq_some_iff.1 hj).1
                  simp at this
                  omega
                subst hj0
                rw [if_pos (by rw [a4.1])]
                simp at hj
                subst hj
                exact ⟨_, rfl, hi, hv, by simp [a4.2.1]⟩
          | some zz =>
            obtain ⟨j, u, rfl, hz, hjl, hp, y, hy, hyk⟩ := hm
            rw [hp v] at e
            cases e
            have hyl : l[j]? = some y := by simpa using hy
            refine ⟨{ w with heap := w.heap.setIfInBounds b (.map (l.modify j fun e => { e with key := vi, val := vv }) c) }, ?_, wr _ _ _ ⟨by simp [a4.1], by simp [a4.2.1], fun q e hq => ?_⟩⟩
            · have hst : (Instr.keyThatStays y.key vi).run P w = .ok vi w := by
                simp only [Instr.keyThatStays, sameBits_of hyk, if_true, Sem.run_pure]
              simp only [Instr.mapUpdate, Sem.run_bind, run_underlying hu, Result.andThen_ok, Sem.run_pure, run_getObj_map a3, run_checkKey (e := false) hk hi, run_findKey hdk ho, Nat.zero_add, hyl, Option.map_some, Option.getD_some, hst, run_setObj_map a3]
            · rw [List.getElem?_set] at hq
              rw [Array.getElem?_modify]
              split at hq
              · rename_i hjq
                subst hjq
                cases hq
                rw [if_pos rfl, hyl]
                refine ⟨_, rfl, hi, hv, ?_⟩
                obtain ⟨y', hy', _, _, hb'⟩ := a4.2.2 j es[j] (by simp [hjl])
                rw [hyl] at hy'
                cases hy'
                exact hb'
              · rename_i hjq
                rw [if_neg hjq]
                exact a4.2.2 q e hq
      · cases e
    · cases e
  · cases e

theorem run_mlenB (hS : Sim w0 M0 hI h ρ H w) {t ty' tk te : TypeId} {x : D} {vx : Value} {d : D} (ht : ty P t = .map tk te) (hx : RelV h ρ x vx) (e : dMlen H x = some d) : ∃ v, (Builtin.len_ #[t] ty' #[vx]).run P w = .ok v w ∧ RelV h ρ d v := by
  have hu := ty_map ht
  unfold dMlen at e
  split at e
  · rename_i es hes
    cases e
    rcases dMents_spec hS hx hes with ⟨rfl, rfl⟩ | ⟨b, l, c, m, z, rfl, rfl, hb, hn, hg, hh, hr⟩
    · refine ⟨goInt 0, ?_, .int _ _⟩
      simp [Builtin.len_, run_underlying hu]
    · refine ⟨goInt l.size, ?_, by rw [hr.1]; exact .int _ _⟩
      simp [Builtin.len_, run_underlying hu, run_getObj_map hh]
  · cases e
end
end Go.Lv

namespace Go.Lv
open Go
set_option linter.unusedVariables false
set_option linter.unusedSimpArgs false
section
variable {P : Program} {w0 : World} {M0 : Nat → Prop} {hI h : Gh} {ρ : Rn} {H : Hp} {w : World}

theorem Out.mem {d : D} {v : Value} {w' : World} {H' : Hp} {s : Sem Value} {h' : Gh} {ρ' : Rn} (hr : s.run P w = .ok v w') (hh : GLe h h') (hρ : RLe ρ ρ') (hS : Sim w0 M0 hI h' ρ' H' w') (hv : RelV h' ρ' d v) :
    Out w0 M0 hI h ρ H' d ((do pure (Next.value (← s)) : Sem Next).run P w) := ⟨v, w', h', ρ', .inl (by rw [run_v, hr]; rfl), hh, hρ, hS, hv⟩

theorem map_eq {x : Option D} {H : Hp} {d : D} {H' : Hp} (e : x.map (·, H) = some (d, H')) : x = some d ∧ H' = H := by
  cases x with
  | none => cases e
  | some y => simp at e; exact ⟨by rw [e.1], e.2.symm⟩

theorem orel {α : Operand → D} {β : Operand → Value} (x : Option Operand) (hx : ∀ y, x = some y → RelV h ρ (α y) (β y)) : ORel h ρ (x.map α) (x.map β) := by
  cases x with
  | none => trivial
  | some y => exact hx y rfl

theorem RelV.fnMap {α : Operand → D} {β : Operand → Value} {f : Fn} {first cap : Array Operand} (h1 : ∀ x ∈ first.toList, RelV h ρ (α x) (β x)) (h2 : ∀ x ∈ cap.toList, RelV h ρ (α x) (β x)) :
    RelV h ρ (.fn f (first.toList.map α) (cap.toList.map α)) (.func f (first.map β) (cap.map β)) := by
  have key : ∀ (l : Array Operand), (∀ x ∈ l.toList, RelV h ρ (α x) (β x)) → (∀ j, j < (l.toList.map α).length → (l.map β)[j]? = some ((l.map β).getD j undef)) ∧ (∀ j d, (l.toList.map α)[j]? = some d → RelV h ρ d ((l.map β).getD j undef)) := by
    intro l hl
    refine ⟨fun j hj => ?_, fun j d hj => ?_⟩
    · simp at hj
      rw [Array.getD_eq_getD_getElem?]
      simp [hj]
    · rw [List.getElem?_map] at hj
      cases hx : l.toList[j]? with
      | none => simp [hx] at hj
      | some x =>
        simp only [hx, Option.map_some, Option.some.injEq] at hj
        subst hj
        rw [Array.getD_eq_getD_getElem?]
        have : l[j]? = some x := by simpa using hx
        simp [this]
        exact hl x (List.mem_of_getElem? hx)
  exact .fn f _ _ _ _ _ _ (by simp) (by simp) (key first h1).1 (key cap h2).1 (key first h1).2 (key cap h2).2

theorem parts_rel {α : Operand → D} {β : Operand → Value} {parts : Array (Nat × Operand)} (hp : ∀ x ∈ parts.toList, RelV h ρ (α x.2) (β x.2)) :
    (parts.toList.map fun (x : Nat × Operand) => (x.1, α x.2)).map (·.1) = (parts.map fun (x : Nat × Operand) => (x.1, β x.2)).toList.map (·.1) ∧
    ∀ (j : Nat) (x : Nat × D) (y : Nat × Value), (parts.toList.map fun (x : Nat × Operand) => (x.1, α x.2))[j]? = some x → (parts.map fun (x : Nat × Operand) => (x.1, β x.2)).toList[j]? = some y → RelV h ρ x.2 y.2 := by
  refine ⟨by simp [Function.comp_def], fun j x y hx hy => ?_⟩
  rw [Array.toList_map, List.getElem?_map] at hy
  rw [List.getElem?_map] at hx
  cases hz : parts.toList[j]? with
  | none => simp [hz] at hx
  | some z =>
    simp only [hz, Option.map_some, Option.some.injEq] at hx hy
    subst hx hy
    exact hp z (List.mem_of_getElem? hz)

theorem ty_iface_ok {t : TypeId} (h1 : ty P t ≠ .iface) (h2 : ty P t ≠ .other) : ∃ d, P.underlying t = some d ∧ ∀ ms, d ≠ .interface ms := by
  unfold ty at *
  cases hu : P.underlying t with
  | none => simp [hu] at h2
  | some d => exact ⟨d, rfl, fun ms e => by subst e; simp [hu] at h1⟩

theorem run_lenB {t ty' : TypeId} {x : D} {vx : Value} {d : D} (hx : RelV h ρ x vx) (e : dLen (ty P t) x = some d) : ∃ v, (Builtin.len_ #[t] ty' #[vx]).run P w = .ok v w ∧ RelV h ρ d v := by
  unfold dLen at e
  split at e
  · rename_i s ht
    cases e
    cases hx with | str _ s1 e1 =>
    subst e1
    exact ⟨_, by simp [Builtin.len_, run_underlying (ty_str ht), goInt], .int _ _⟩
  · rename_i el sz bytes ag tt xs ht
    cases e
    obtain ⟨a, n, c, rfl, hn, _⟩ := hx.list_inv
    subst hn
    exact ⟨_, by simp [Builtin.len_, run_underlying (ty_slice ht).1, goInt], .int _ _⟩
  · rename_i el sz bytes ag i len N ht
    cases e
    cases hx
    exact ⟨_, by simp [Builtin.len_, run_underlying (ty_slice ht).1, goInt], .int _ _⟩
  · rename_i el sz bytes ag i off len N ht
    cases e
    cases hx
    exact ⟨_, by simp [Builtin.len_, run_underlying (ty_slice ht).1, goInt], .int _ _⟩
  · rename_i n sz ag ht
    cases e
    obtain ⟨el, hu, _⟩ := ty_arr ht
    exact ⟨_, by simp [Builtin.len_, run_underlying hu, goInt], .int _ _⟩
  · cases e

theorem run_app0 (hS : Sim w0 M0 hI h ρ H w) {t u ty' e : TypeId} {k : IntKind} {xs : List D} {vs : Value} {n : Int} {d : D} {H' : Hp} (ht : P.underlying t = some (.slice e)) (hu : P.underlying u = some (.int k))
    (hz : (zcells P e).length = szOf P e) (hs : RelV h ρ (.list true xs) vs) (hn : 0 < n) (ea : dAppend H (szOf P e) (P.bytesOf e) (isAg P e) (.list true xs) n.toNat (rep n.toNat (zcells P e)) = some (d, H')) :
    ∃ v w' ρ', (Builtin.append_ #[t, u] ty' #[vs, .int .i64 n]).run P w = .ok v w' ∧ RLe ρ ρ' ∧ Sim w0 M0 hI h ρ' H' w' ∧ RelV h ρ' d v := by
  obtain ⟨n, rfl⟩ := Int.eq_ofNat_of_zero_le (show 0 ≤ n by omega)
  simp only [Int.toNat_natCast] at ea
  unfold dAppend at ea
  split at ea
  · cases ea
  · rename_i hchk
    simp only [Bool.and_eq_true, decide_eq_true_eq, beq_iff_eq, Bool.not_eq_true', Bool.not_eq_false] at hchk
    obtain ⟨⟨hp, hb0⟩, hnl⟩ := hchk
    obtain ⟨i, zv, hi, hzv, rz⟩ := zcells_spec (h := h) (ρ := ρ) (P := P) (t := e) (by omega)
    have hsize := cells_pos hp hi
    have hbytes : i.bytes = P.bytesOf e := by simp [Program.bytesOf, hi]
    have hzs : zv.cells.size = i.size := by rw [rz.1, hz, hsize]
    have rx := zeroCells_whole (by omega) rz n
    simp only at ea
    rw [if_neg (by omega)] at ea
    split at ea
    · rename_i hh
      simp only [Bool.and_eq_true, decide_eq_true_eq, Bool.true_and] at hh
      obtain ⟨hall, hbd⟩ := hh
      cases ea
      obtain ⟨a, m, c, rfl, hm, hmc, htt⟩ := hs.list_inv
      subst hm
      have hcm := htt rfl
      subst hcm
      obtain ⟨old, hfo, hlo, ro, hlo'⟩ := run_src (P := P) (n := xs.length) hS hs (by simp only [srcCells]; rw [if_pos hall]) rfl
      rw [← hsize] at hfo hlo'
      have hneed : xs.length + n < 2 ^ 63 := by
        have : xs.length + n ≤ (xs.length + n) * P.bytesOf e := Nat.le_mul_of_pos_right _ hb0
        omega
      have hnb : n * i.bytes ≤ 281474976710656 := by
        rw [hbytes]
        have : n * P.bytesOf e ≤ (xs.length + n) * P.bytesOf e := Nat.mul_le_mul_right _ (by omega)
        omega
      have hr := run_app0_grow (ty := ty') ht hu hi hzv hzs (by omega) a xs.length xs.length n old (hfo w.drew rfl) (by omega) (by omega) (by omega) hnb (growslice_fits (by omega) (by rw [hbytes]; omega))
      have hge := grown_ge w (xs.length + n) xs.length e hneed
      obtain ⟨ρ', k1, k2, k3⟩ := hS.grow_new (e := e) (ag := isAg P e) (sz := szOf P e) (len := xs.length + n) (need := xs.length + n) (nc := grownCap w (xs.length + n) xs.length e) (rest := Builtin.zeroCells zv.cells (grownCap w (xs.length + n) xs.length e - (xs.length + n))) ro rx (by
          have h1 := ro.1
          have h2 := rx.1
          rw [← hsize]
          simp only [Array.size_append, h1, h2, hlo', rep_len]
          simp only [Builtin.zeroCells, Array.size_map, Array.size_range, hzs, hz, hsize]
          rw [← Nat.add_mul, ← Nat.add_mul]
          congr 1
          omega) hge
      exact ⟨_, _, ρ', hr, k1, k2, k3⟩
    · cases ea

theorem asserts_true {t t' : TypeId} (h : asserts P t t' = some true) : ∃ want i, P.underlying t = some (.interface want) ∧ P.info? t' = some i ∧ Instr.missingMethod want i.methods = none := by
  unfold asserts at h
  split at h
  · rename_i want hu
    split at h
    · rename_i i hi
      split at h
      · rename_i hm
        exact ⟨want, i, hu, hi, by simpa using hm⟩
      · cases h
    · cases h
  · split at h <;> cases h
  · cases h
theorem asserts_false {t t' : TypeId} (h : asserts P t t' = some false) : ∃ u, P.underlying t = some u ∧ (∀ w, u ≠ .interface w) ∧ t' = t := by
  unfold asserts at h
  split at h
  · split at h
    · split at h <;> cases h
    · cases h
  · rename_i u hn hu
    split at h
    · rename_i he
      exact ⟨u, hu, fun w e => hn w e, he⟩
    · cases h
  · cases h
theorem aop_sound {o : Oper} {α : Operand → D} {β : Operand → Value} {d : D} {H' : Hp} (hS : Sim w0 M0 hI h ρ H w) (hT : ∀ x ∈ o.op.operands.toList, RelV h ρ (α x) (β x)) (e : aop P o.op α H = some (d, H')) :
    Out w0 M0 hI h ρ H' d ((execOp β o).run P w) := by
  unfold aop at e
  split at e
  · -- move
    rename_i x ho
    cases e
    rw [ho] at hT
    exact .same hS (v := β x) (by simp [execOp, ho]) (hT x (by simp [Op.operands]))
  · rename_i x ho
    cases e
    rw [ho] at hT
    exact .same hS (v := β x) (by simp [execOp, ho]) (hT x (by simp [Op.operands]))
  · rename_i c a b ho
    rw [ho] at hT
    have hc := hT c (by simp [Op.operands])
    have ha := hT a (by simp [Op.operands])
    have hb := hT b (by simp [Op.operands])
    split at e
    · rename_i t hct
      cases e
      rw [hct] at hc
      generalize hbc : β c = vc at hc
      cases hc
      refine .same hS (v := if t then β a else β b) (by simp [execOp, ho, hbc, asBool]) ?_
      cases t
      · exact hb
      · exact ha
    · cases e
  · rename_i op t x y yt ho
    obtain ⟨e1, rfl⟩ := map_eq e
    rw [ho] at hT
    obtain ⟨v, hv, rv⟩ := run_binT (P := P) (w := w) (xo := x) (yo := y) (hT x (by simp [Op.operands])) (hT y (by simp [Op.operands])) e1
    simp only [execOp, ho]
    exact .sem hS hv rv
  · rename_i op t x ho
    obtain ⟨e1, rfl⟩ := map_eq e
    rw [ho] at hT
    obtain ⟨v, hv, rv⟩ := run_un (P := P) (w := w) (hT x (by simp [Op.operands])) e1
    simp only [execOp, ho]
    exact .sem hS hv rv
  · rename_i t x i ho
    obtain ⟨e1, rfl⟩ := map_eq e
    rw [ho] at hT
    obtain ⟨v, hv, rv⟩ := run_indexAt (P := P) (w := w) (hT x (by simp [Op.operands])) (hT i (by simp [Op.operands])) e1
    simp only [execOp, ho]
    exact .sem hS hv rv
  · rename_i t x i ho
    obtain ⟨e1, rfl⟩ := map_eq e
    rw [ho] at hT
    obtain ⟨v, hv, rv⟩ := run_index (P := P) (w := w) (hT x (by simp [Op.operands])) (hT i (by simp [Op.operands])) e1
    simp only [execOp, ho]
    exact .sem hS hv rv
  · rename_i t x i ho
    obtain ⟨e1, rfl⟩ := map_eq e
    rw [ho] at hT
    obtain ⟨v, hv, rv⟩ := run_fieldAt (P := P) (w := w) (hT x (by simp [Op.operands])) e1
    simp only [execOp, ho]
    exact .sem hS hv rv
  · rename_i t x i ho
    obtain ⟨e1, rfl⟩ := map_eq e
    rw [ho] at hT
    obtain ⟨v, hv, rv⟩ := run_field (P := P) (w := w) (hT x (by simp [Op.operands])) e1
    simp only [execOp, ho]
    exact .sem hS hv rv
  · rename_i t a ho
    obtain ⟨e1, rfl⟩ := map_eq e
    rw [ho] at hT
    obtain ⟨v, hv, rv⟩ := run_loadAt (P := P) hS (hT a (by simp [Op.operands])) e1
    simp only [execOp, ho]
    exact .sem hS hv rv
  · -- store
    rename_i t a x ho
    rw [ho] at hT
    split at e
    · rename_i hp
      cases hs : dStore (szOf P t) H (α a) (α x) with
      | none => simp [hs] at e
      | some H1 =>
        simp only [hs, Option.map_some, Option.some.injEq, Prod.mk.injEq] at e
        obtain ⟨rfl, rfl⟩ := e
        obtain ⟨w', hr, hS'⟩ := run_storeAt hS hp (hT a (by simp [Op.operands])) (hT x (by simp [Op.operands])) hs
        refine ⟨undef, w', h, ρ, .inr ⟨?_, rfl⟩, .refl _, .refl _, hS', .und _⟩
        simp only [execOp, ho]
        rw [run_u, hr]
        rfl
    · cases e
  · rename_i t ho
    split at e
    · rename_i hz
      cases e
      obtain ⟨v, w', ρ', hr, h1, h2, h3⟩ := run_allocAt hS hz
      simp only [execOp, ho]
      exact .mem hr (.refl _) h1 h2 h3
    · cases e
  · rename_i t x ho
    rw [ho] at hT
    split at e
    · rename_i cs hcs
      cases e
      obtain ⟨v, w', ρ', hr, h1, h2, h3⟩ := run_boxAt (P := P) (t := t) hS (hT x (by simp [Op.operands])) hcs
      simp only [execOp, ho]
      exact .mem hr (.refl _) h1 h2 h3
    · cases e
  · rename_i t parts ho
    obtain ⟨e1, rfl⟩ := map_eq e
    rw [ho] at hT
    obtain ⟨p1, p2⟩ := parts_rel (parts := parts) (α := α) (β := β) (h := h) (ρ := ρ) (fun x hx => hT x.2 (by simp [Op.operands]; exact ⟨x.1, by simpa using hx⟩))
    obtain ⟨v, hv, rv⟩ := run_build (P := P) (w := w) p1 p2 e1
    simp only [execOp, ho]
    exact .sem hS hv rv
  · -- buildSlice
    rename_i t len parts ho
    rw [ho] at hT
    split at e
    · rename_i el sz bytes ag ht
      obtain ⟨hu, rfl, _, _⟩ := ty_slice ht
      split at e
      · rename_i hc
        split at e
        · rename_i cs hcs
          obtain ⟨p1, p2⟩ := parts_rel (parts := parts) (α := α) (β := β) (h := h) (ρ := ρ) (fun x hx => hT x.2 (by simp [Op.operands]; exact ⟨x.1, by simpa using hx⟩))
          obtain ⟨v, w', h', ρ', hr, h1, h2, h3, h4⟩ := run_sliceLit hS hu hc.1 hc.2.1 hc.2.2 p1 p2 hcs e
          simp only [execOp, ho]
          exact .mem hr h1 h2 h3 h4
        · cases e
      · cases e
    · cases e
  · -- makeSlice
    rename_i t l c ho
    rw [ho] at hT
    split at e
    · rename_i el sz bytes ag l1 c1 ht hl hc
      obtain ⟨hu, rfl, rfl, _⟩ := ty_slice ht
      split at e
      · rename_i hh
        cases e
        have r1 := hT l (by simp [Op.operands])
        have r2 := hT c (by simp [Op.operands])
        rw [hl] at r1
        rw [hc] at r2
        generalize hbl : β l = vl at r1
        generalize hbc : β c = vc at r2
        cases r1; cases r2
        obtain ⟨v, w', ρ', hr, k1, k2, k3⟩ := run_makeS (ag := ag) hS hu hh.1 hh.2.1 hh.2.2.1 hh.2.2.2.1 hh.2.2.2.2.1 hh.2.2.2.2.2
        simp only [execOp, ho, hbl, hbc]
        exact .mem hr (.refl _) k1 k2 k3
      · cases e
    · cases e
  · -- slice
    rename_i t x lo hi mx ho
    obtain ⟨e1, rfl⟩ := map_eq e
    rw [ho] at hT
    obtain ⟨v, hv, rv⟩ := run_slice (P := P) (w := w) (hT x (by simp [Op.operands])) (orel (α := α) (β := β) lo (fun y hy => hT y (by subst hy; simp [Op.operands]))) (orel (α := α) (β := β) hi (fun y hy => hT y (by subst hy; simp [Op.operands]))) (orel (α := α) (β := β) mx (fun y hy => hT y (by subst hy; simp [Op.operands]))) e1
    simp only [execOp, ho]
    exact .sem hS hv rv
  · -- extract
    rename_i x i ho
    rw [ho] at hT
    split at e
    · rename_i ds hds
      obtain ⟨e1, rfl⟩ := map_eq e
      have r := hT x (by simp [Op.operands])
      rw [hds] at r
      generalize hb : β x = vx at r
      cases r with | tup _ vs hs us hu hr =>
      have hlt := (List.getElem?_eq_some_iff.1 e1).1
      refine .same hS (v := us i) ?_ (hr i d e1)
      simp [execOp, ho, hb, Instr.extract, hu i hlt]
    · cases e
  · -- makeFunc
    rename_i f first cap ho
    cases e
    rw [ho] at hT
    refine .same hS (v := .func f (first.map β) (cap.map β)) (by simp [execOp, ho, Instr.makeFunc]) ?_
    exact .fnMap (fun x hx => hT x (by simp [Op.operands]; exact .inl (by simpa using hx))) (fun x hx => hT x (by simp [Op.operands]; exact .inr (by simpa using hx)))
  · -- makeInterface
    rename_i t x ho
    rw [ho] at hT
    split at e
    · cases e
    · cases e
    · rename_i n1 n2
      cases e
      obtain ⟨dd, hd, hni⟩ := ty_iface_ok (fun e => n1 e) (fun e => n2 e)
      refine .same hS (v := .iface t (β x)) ?_ (.iface _ _ _ (hT x (by simp [Op.operands])))
      simp only [execOp, ho, Instr.makeInterface]
      cases dd <;> first | exact absurd rfl (hni _) | simp [run_underlying hd]
  · -- nilCheck
    rename_i x ho
    rw [ho] at hT
    have r := hT x (by simp [Op.operands])
    split at e
    · rename_i i o' n hx
      cases e
      rw [hx] at r
      generalize hb : β x = vx at r
      cases r with | ptr _ _ _ b c s hbb =>
      exact .same hS (v := .pointer (some ⟨b, o', none⟩)) (by simp [execOp, ho, hb]) (.ptr _ _ _ b c s hbb)
    · rename_i cs o' hx
      cases e
      rw [hx] at r
      generalize hb : β x = vx at r
      have r' := r
      cases r with | «at» _ _ b o o2 cs' el fz us hbb hoo hc h1 hr =>
      exact .same hS (v := .pointer (some ⟨b, o2, none⟩)) (by simp [execOp, ho, hb]) r'
    · rename_i f a b hx
      cases e
      rw [hx] at r
      generalize hb : β x = vx at r
      have r' := r
      cases r with | fn _ _ _ fv cv us ws hs hs' hu hw hr hq =>
      exact .same hS (v := .func (.func f) fv cv) (by simp [execOp, ho, hb]) r'
    · rename_i i hx
      cases e
      rw [hx] at r
      generalize hb : β x = vx at r
      have r' := r
      cases r with | yld _ b x hbb =>
      exact .same hS (v := .func (.yield b) #[] #[]) (by simp [execOp, ho, hb]) r'
    · cases e
  · -- convert
    rename_i s t x ho
    obtain ⟨e1, rfl⟩ := map_eq e
    rw [ho] at hT
    obtain ⟨v, w', h', hv, hg, hS', rv⟩ := run_convH (P := P) hS (hT x (by simp [Op.operands])) e1
    simp only [execOp, ho]
    exact .mem hv hg (.refl _) hS' rv
  · -- typeAssert
    rename_i x xt t ok ho
    rw [ho] at hT
    have r := hT x (by simp [Op.operands])
    split at e
    · rename_i t' dd hx
      rw [hx] at r
      generalize hb : β x = vx at r
      have r' := r
      cases r with | iface _ _ v hr =>
      split at e
      · rename_i hab
        obtain ⟨want, i, hu, hi, hm⟩ := asserts_true hab
        cases e
        cases ok
        · exact .same hS (v := .iface t' v) (by simp [execOp, ho, hb, Instr.typeAssert, run_underlying hu, run_typeInfo hi, hm]) r'
        · exact .same hS (v := .tuple #[.iface t' v, .bool true]) (by simp [execOp, ho, hb, Instr.typeAssert, run_underlying hu, run_typeInfo hi, hm]) (RelV.tup2 r' (.bool true))
      · rename_i hab
        obtain ⟨u, hu, hn, rfl⟩ := asserts_false hab
        cases e
        cases ok
        · exact .same hS (v := v) (by cases u <;> first | exact absurd rfl (hn _) | simp [execOp, ho, hb, Instr.typeAssert, run_underlying hu]) hr
        · exact .same hS (v := .tuple #[v, .bool true]) (by cases u <;> first | exact absurd rfl (hn _) | simp [execOp, ho, hb, Instr.typeAssert, run_underlying hu]) (RelV.tup2 hr (.bool true))
      · cases e
    · cases e
  · -- range
    rename_i t x ho
    rw [ho] at hT
    split at e
    · rename_i s ht hx
      cases e
      have r := hT x (by simp [Op.operands])
      rw [hx] at r
      obtain ⟨v, w', ρ', hr, k1, k2, k3⟩ := run_rangeS (P := P) hS (ty_str ht) r
      simp only [execOp, ho]
      exact .mem hr (.refl _) k1 k2 k3
    · cases e
  · -- next
    rename_i it ho
    rw [ho] at hT
    split at e
    · rename_i i hx
      split at e
      · rename_i s pos hg
        have r := hT it (by simp [Op.operands])
        rw [hx] at r
        obtain ⟨v, w', hr, key⟩ := run_nextS (P := P) (ty' := o.type) hS r hg
        split at e
        · rename_i hlt
          cases e
          rw [if_pos hlt] at key
          simp only [execOp, ho]
          exact .mem hr (.refl _) (.refl _) key.1 key.2
        · rename_i hlt
          cases e
          rw [if_neg hlt] at key
          simp only [execOp, ho]
          exact .mem hr (.refl _) (.refl _) key.1 key.2
      · cases e
    · cases e
  · -- makeMap
    rename_i t ho
    split at e
    · cases e
      obtain ⟨v, w', ρ', hr, h1, h2, h3⟩ := run_makeMapS (P := P) hS t
      simp only [execOp, ho]
      exact .mem hr (.refl _) h1 h2 h3
    · cases e
  · -- lookup
    rename_i t x i ok ho
    obtain ⟨e1, rfl⟩ := map_eq e
    rw [ho] at hT
    obtain ⟨v, hv, rv⟩ := run_lookupS (P := P) hS (hT x (by simp [Op.operands])) (hT i (by simp [Op.operands])) e1
    simp only [execOp, ho]
    exact .sem hS hv rv
  · -- mapUpdate
    rename_i t x i y ho
    rw [ho] at hT
    cases hs : dMput P t H (α x) (α i) (α y) with
    | none => simp [hs] at e
    | some H1 =>
      simp only [hs, Option.map_some, Option.some.injEq, Prod.mk.injEq] at e
      obtain ⟨rfl, rfl⟩ := e
      obtain ⟨w', hr, hS'⟩ := run_mapUpdateS (P := P) hS (hT x (by simp [Op.operands])) (hT i (by simp [Op.operands])) (hT y (by simp [Op.operands])) hs
      refine ⟨undef, w', h, ρ, .inr ⟨?_, rfl⟩, .refl _, .refl _, hS', .und _⟩
      simp only [execOp, ho]
      rw [run_u, hr]
      rfl
  · -- builtins
    rename_i b args argTypes ho
    rw [ho] at hT
    have hT' : ∀ x ∈ args.toList, RelV h ρ (α x) (β x) := fun x hx => hT x (by simp [Op.operands, Call.operands]; simpa using hx)
    have run1 : (execOp β o).run P w = (builtin b argTypes o.type (args.map fun | .const _ => true | _ => false) (args.map β)).run P w := by
      simp [execOp, ho, resolve, invoke]
      rfl
    rw [run1]
    split at e
    · rename_i x t ha ht
      have ha' : args = #[x] := by rw [← Array.toArray_toList (xs := args), ha]
      have ht' : argTypes = #[t] := by rw [← Array.toArray_toList (xs := argTypes), ht]
      subst ha' ht'
      split at e
      · rename_i tk te htt
        obtain ⟨e1, rfl⟩ := map_eq e
        obtain ⟨v, hv, rv⟩ := run_mlenB (P := P) hS (ty' := o.type) htt (hT' x (by simp)) e1
        exact .sem hS (by simpa [builtin] using hv) rv
      · obtain ⟨e1, rfl⟩ := map_eq e
        obtain ⟨v, hv, rv⟩ := run_lenB (P := P) (w := w) (ty' := o.type) (hT' x (by simp)) e1
        exact .sem hS (by simpa [builtin] using hv) rv
    · rename_i x t ha ht
      have ha' : args = #[x] := by rw [← Array.toArray_toList (xs := args), ha]
      have ht' : argTypes = #[t] := by rw [← Array.toArray_toList (xs := argTypes), ht]
      subst ha' ht'
      split at e
      · rename_i el sz bytes ag xs hty hx
        cases e
        have r := hT' x (by simp)
        rw [hx] at r
        generalize hb : β x = vx at r
        obtain ⟨a, n, c, rfl, hn, _, htt⟩ := r.list_inv
        subst hn
        exact .same hS (v := .int .i64 xs.length) (by simp [builtin, hb, Builtin.cap_, run_underlying (ty_slice hty).1, goInt, htt rfl]) (.int _ _)
      · cases e
    · rename_i s x t u ha ht
      have ha' : args = #[s, x] := by rw [← Array.toArray_toList (xs := args), ha]
      have ht' : argTypes = #[t, u] := by rw [← Array.toArray_toList (xs := argTypes), ht]
      subst ha' ht'
      have app : ∀ {el : TypeId} {sz bytes : Nat} {ag : Bool}, ty P t = .slice el sz bytes ag → notInt P u → (match dLenN (α x), srcCells H sz (α x) with
        | some n, some new => if (zcells P el).length = sz then dAppend H sz bytes ag (α s) n new else none
        | _, _ => none) = some (d, H') → Out w0 M0 hI h ρ H' d ((builtin .append #[t, u] o.type (#[s, x].map fun | .const _ => true | _ => false) (#[s, x].map β)).run P w) := by
        intro el sz bytes ag hty hu e
        obtain ⟨hut, rfl, rfl, rfl⟩ := ty_slice hty
        split at e
        · rename_i n new hn hnew
          split at e
          · rename_i hz
            obtain ⟨v, w', ρ', hr, k1, k2, k3⟩ := run_append (ty' := o.type) hS hut hu hz (hT' s (by simp)) (hT' x (by simp)) hnew hn e
            exact .mem (by simpa [builtin] using hr) (.refl _) k1 k2 k3
          · cases e
        · cases e
      split at e
      · rename_i e1 sz bytes ag e2 sz2 b2 ag2 hty hu
        exact app hty (.inl ⟨_, (ty_slice hu).1⟩) e
      · rename_i e1 sz bytes ag hty hu
        exact app hty (.inr (ty_str hu)) e
      · rename_i el sz bytes ag k hty hu
        split at e
        · rename_i n hx
          split at e
          · rename_i xs hsx
            split at e
            · rename_i hh
              obtain ⟨hut, rfl, rfl, rfl⟩ := ty_slice hty
              have r1 := hT' s (by simp)
              have r2 := hT' x (by simp)
              rw [hsx] at r1
              rw [hx] at r2
              generalize hbs : β s = vs at r1
              generalize hbx : β x = vx at r2
              cases r2
              obtain ⟨v, w', ρ', hr, k1, k2, k3⟩ := run_app0 (ty' := o.type) hS hut (ty_int hu) hh.2 r1 hh.1 e
              exact .mem (by simpa [builtin, hbs, hbx] using hr) (.refl _) k1 k2 k3
            · cases e
          · cases e
        · cases e
      · cases e
    · rename_i x y ha
      have ha' : args = #[x, y] := by rw [← Array.toArray_toList (xs := args), ha]
      subst ha'
      split at e
      · rename_i k a k' b hx hy
        split at e
        · rename_i hk
          subst hk
          cases e
          have r1 := hT' x (by simp)
          have r2 := hT' y (by simp)
          rw [hx] at r1
          rw [hy] at r2
          generalize hbs : β x = vs at r1
          generalize hbx : β y = vx at r2
          cases r1; cases r2
          exact .same hS (v := .int k (if b > a then b else a)) (by simp [builtin, hbs, hbx, Builtin.max_, Builtin.max2]) (.int _ _)
        · cases e
      · cases e
    · rename_i x y ha
      have ha' : args = #[x, y] := by rw [← Array.toArray_toList (xs := args), ha]
      subst ha'
      split at e
      · rename_i k a k' b hx hy
        split at e
        · rename_i hk
          subst hk
          cases e
          have r1 := hT' x (by simp)
          have r2 := hT' y (by simp)
          rw [hx] at r1
          rw [hy] at r2
          generalize hbs : β x = vs at r1
          generalize hbx : β y = vx at r2
          cases r1; cases r2
          exact .same hS (v := .int k (if b < a then b else a)) (by simp [builtin, hbs, hbx, Builtin.min_, Builtin.min2]) (.int _ _)
        · cases e
      · cases e
    · rename_i x y z ha
      have ha' : args = #[x, y, z] := by rw [← Array.toArray_toList (xs := args), ha]
      subst ha'
      split at e
      · rename_i k a k' b k'' c hx hy hz
        split at e
        · rename_i hk
          obtain ⟨rfl, rfl⟩ := hk
          cases e
          have r1 := hT' x (by simp)
          have r2 := hT' y (by simp)
          have r3 := hT' z (by simp)
          rw [hx] at r1
          rw [hy] at r2
          rw [hz] at r3
          generalize hbs : β x = vs at r1
          generalize hbx : β y = vx at r2
          generalize hbz : β z = vz at r3
          cases r1; cases r2; cases r3
          exact .same hS (v := .int k (if c > (if b > a then b else a) then c else (if b > a then b else a))) (by simp [builtin, hbs, hbx, hbz, Builtin.max_, Builtin.max2]) (.int _ _)
        · cases e
      · cases e
    · cases e
  · cases e
end
end Go.Lv

namespace Go.Lv
open Go
set_option linter.unusedVariables false
set_option linter.unusedSimpArgs false
section
variable {P : Program} {w0 : World} {M0 : Nat → Prop} {hI h : Gh} {ρ : Rn} {H : Hp} {w : World}

/-- A row that is written no more from now on. -/
def frz1 (H : Hp) (i : Nat) : Hp :=
  match hget H i with
  | .row sz ag cs => hset H i (.frz sz ag cs)
  | _ => H
def frzL : Hp → List Nat → Hp
  | H, [] => H
  | H, i :: l => frzL (frz1 H i) l

theorem Sim.freeze (hS : Sim w0 M0 hI h ρ H w) (i : Nat) : ∃ h', GLe h h' ∧ Sim w0 M0 hI h' ρ (frz1 H i) w := by
  unfold frz1
  split
  · rename_i sz ag cs hg
    have hb := hS.blk i
    rw [hg] at hb
    obtain ⟨b, c, ccs, e, fz, a1, a2, a3, a4, a5, a6, a7⟩ := hb
    have hl : (hget H i).live = true := by rw [hg]; rfl
    have hil := hS.live_lt hl
    have hle : GLe h (h.set b (.cells ccs e fz)) := Gh.le_set a2
    have hne : ∀ j, j ≠ i → hget (hset H i (.frz sz ag cs)) j = hget H j := fun j hj => by rw [hget_set, if_neg (by omega)]
    have hsame : hget (hset H i (.frz sz ag cs)) i = .frz sz ag cs := by rw [hget_set, if_pos ⟨rfl, hil⟩]
    have hlv : ∀ j, (hget (hset H i (.frz sz ag cs)) j).live = true → j ≠ i := by
      intro j hj e
      subst e
      rw [hsame] at hj
      cases hj
    have hbn : ρ i (hget H i).n = some (b, c, sz) := by rw [hg]; exact a1
    refine ⟨_, hle, ?_⟩
    exact {
      os := hS.os
      tape := hS.tape
      output := hS.output
      size := hS.size
      imm := by
        intro d p hp
        simp only [Gh.set] at hp
        split at hp
        · rename_i e; subst e; cases hp; exact a3
        · exact hS.imm _ _ hp
      blk := by
        intro j
        by_cases hj : j = i
        · subst hj
          rw [hsame]
          exact ⟨b, c, sz, ccs, e, fz, a1, by simp [Gh.set], a6.mono hle (.refl _)⟩
        · rw [hne j hj]
          refine (hS.blk j).mono hle (.refl _) fun d y hlj hd hn => ⟨rfl, ?_⟩
          simp only [Gh.set]
          rw [if_neg]
          · exact hn
          · intro e
            subst e
            exact hS.inj j i d y _ hj hlj hl hd hbn
      own := by
        intro j d y hlj hd
        have hj := hlv j hlj
        rw [hne j hj] at hlj hd
        exact hS.own j d y hlj hd
      inj := by
        intro j k d y z hjk hlj hlk hd
        have hj := hlv j hlj
        have hk := hlv k hlk
        rw [hne j hj] at hlj hd
        rw [hne k hk] at hlk ⊢
        exact hS.inj j k d y z hjk hlj hlk hd
      dom := by
        intro j n y hy
        rw [hset_len]
        exact hS.dom _ _ _ hy
      ver := by
        intro j sz' ag' ds hd n y hy
        by_cases hj : j = i
        · subst hj; rw [hsame] at hd; cases hd
        · rw [hne j hj] at hd
          exact hS.ver j sz' ag' ds hd n y hy
      keep := by
        intro d hd hm
        simp only [Gh.set]
        rw [if_neg]
        · exact hS.keep d hd hm
        · intro e
          subst e
          rcases hS.own i d _ hl hbn with h1 | h1
          · exact hm h1
          · omega
      frame := hS.frame }
  · exact ⟨h, .refl _, hS⟩

theorem Sim.freezeL : ∀ (l : List Nat) {h : Gh} {H : Hp}, Sim w0 M0 hI h ρ H w → ∃ h', GLe h h' ∧ Sim w0 M0 hI h' ρ (frzL H l) w
  | [], h, H, hS => ⟨h, .refl _, hS⟩
  | i :: l, h, H, hS => by
    obtain ⟨h1, k1, k2⟩ := hS.freeze i
    obtain ⟨h2, k3, k4⟩ := Sim.freezeL l k2
    exact ⟨h2, k1.trans k3, k4⟩

/-- These data tell these values. -/
def AllRel (h : Gh) (ρ : Rn) (l : List D) (vs : Array Value) : Prop := ∀ (j : Nat) (d : D), l[j]? = some d → ∃ v : Value, vs[j]? = some v ∧ RelV h ρ d v

/-- What a program laid ahead, and what its variables of packages tell, as far as they are written no more. -/
structure Env where
  h0 : Gh
  g : Nat → D
  ok : ∀ i, RelV h0 (fun _ _ => none) (g i) (.pointer (some ⟨i, 0, none⟩))

/-- What f does, called with these data, and these blocks. -/
def Den (P : Program) (E : Env) (f : FuncId) (args : List D) (S : Hp) (post : D → Hp → Prop) : Prop :=
  ∀ (h : Gh) (ρ : Rn) (w : World) (vs : Array Value) (M : Nat → Prop), GLe E.h0 h → Sim w M h h ρ S w → vs.size = args.length → AllRel h ρ args vs →
    Calls P f vs w fun e w' => ∃ v r S' h' ρ', e = .returned v ∧ post r S' ∧ GLe h h' ∧ RLe ρ ρ' ∧ Sim w M h h' ρ' S' w' ∧ RelV h' ρ' r v

/-- A function of closed data alone. -/
structure PDen (P : Program) (E : Env) (f : FuncId) (args : List D) (r : D) : Prop where
  ca : D.closedL args = true
  cr : r.closed = true
  den : Den P E f args [] fun r' _ => r' = r

/-- Inside a round of the loop r, or in none. -/
def fen (r : Option Nat) : Fence := { Fence.wide with round := r }
theorem callsIn_fen {r : Option Nat} {n : Nat} {f : FuncId} {vs : Array Value} {R : Ending → World → Prop} (h : Calls P f vs w R) : CallsIn (fen r) n P f vs w R := callsIn_wide (n := n) |>.2 h
theorem aop_nodefer {op : Op} {α : Operand → D} {d : D} {H H' : Hp} (e : aop P op α H = some (d, H')) : ∀ c, op ≠ .defer c := by
  rintro c rfl
  cases e
/-- What an operation may come to. -/
def Step (P : Program) (E : Env) (o : Oper) (α : Operand → D) (H : Hp) (R : D → Hp → Prop) : Prop :=
  ∀ (rd : Option Nat) (w0 : World) (M0 : Nat → Prop) (hI h : Gh) (ρ : Rn) (w : World) (a : Act), GLe E.h0 h → Sim w0 M0 hI h ρ H w → (∀ x ∈ o.op.operands.toList, RelV h ρ (α x) (a.eval x)) →
    ∀ (next : Act → World → Prop) (Q : Exit → Act → World → Prop), (∀ d H' v w' h' ρ', R d H' → GLe h h' → RLe ρ ρ' → Sim w0 M0 hI h' ρ' H' w' → RelV h' ρ' d v → next (a.put o.dst v) w') → o.wpIn (fen rd) 0 P a w next Q

theorem Step.mono {E : Env} {o : Oper} {α : Operand → D} {R R' : D → Hp → Prop} (hs : Step P E o α H R) (hr : ∀ d H', R d H' → R' d H') : Step P E o α H R' :=
  fun rd w0 M0 hI h ρ w a hb hS hT next Q hk => hs rd w0 M0 hI h ρ w a hb hS hT next Q fun d H' v w' h' ρ' r => hk d H' v w' h' ρ' (hr d H' r)

/-- Only the operands count. -/
theorem Step.congr {E : Env} {o : Oper} {α α' : Operand → D} {R : D → Hp → Prop} (hs : Step P E o α H R) (hα : ∀ x ∈ o.op.operands.toList, α x = α' x) : Step P E o α' H R :=
  fun rd w0 M0 hI h ρ w a hb hS hT next Q hk => hs rd w0 M0 hI h ρ w a hb hS (fun x hx => by rw [hα x hx]; exact hT x hx) next Q hk

theorem step_aop {E : Env} {o : Oper} {α : Operand → D} {d : D} {H' : Hp} (e : aop P o.op α H = some (d, H')) : Step P E o α H fun d' H'' => d' = d ∧ H'' = H' := by
  intro rd w0 M0 hI h ρ w a hb hS hT next Q hk
  obtain ⟨v, w', h', ρ', hr, h1, h2, h3, h4⟩ := aop_sound (P := P) (β := a.eval) hS hT e
  refine ⟨fun _ _ => trivial, ?_⟩
  rw [Oper.semAt_eq _ _ _ (aop_nodefer e)]
  rcases hr with hr | ⟨hr, rfl⟩
  · rw [hr]
    exact hk d H' v w' h' ρ' ⟨rfl, rfl⟩ h1 h2 h3 h4
  · rw [hr]
    exact hk d H' undef w' h' ρ' ⟨rfl, rfl⟩ h1 h2 h3 h4

/-- The memory of a call of its own, that owns nothing yet. -/
theorem Sim.enter (hS : Sim w0 M0 hI h ρ H w) : Sim w (fun _ => False) h h (fun _ _ => none) [] w where
  os := rfl
  tape := rfl
  output := rfl
  size := Nat.le_refl _
  imm := hS.imm
  blk := fun i => by simp [hget, RelB]
  own := fun i b x hl => by simp [hget, Blk.live] at hl
  inj := fun i j b x y _ hl => by simp [hget, Blk.live] at hl
  dom := fun i n x hx => by cases hx
  ver := fun i sz ag ds hd => by simp [hget] at hd
  keep := fun b _ _ => rfl
  frame := fun b _ _ => rfl

/-- Back from a call that owned nothing of ours. -/
theorem Sim.back {h' : Gh} {ρ' : Rn} {S' : Hp} {w' : World} (hS : Sim w0 M0 hI h ρ H w) (hC : Sim w (fun _ => False) h h' ρ' S' w') (hle : GLe h h') : Sim w0 M0 hI h' ρ H w' where
  os := hC.os.trans hS.os
  tape := hC.tape.trans hS.tape
  output := hC.output.trans hS.output
  size := Nat.le_trans hS.size hC.size
  imm := hC.imm
  blk := fun i => (hS.blk i).mono hle (.refl _) fun b x hl hb hn => by
    obtain ⟨b', x', h1, _, h3⟩ := (hS.blk i).lies hl
    rw [hb] at h1
    cases h1
    exact ⟨hC.frame b h3 (fun f => f), by rw [hC.keep b h3 (fun f => f)]; exact hn⟩
  own := hS.own
  inj := hS.inj
  dom := hS.dom
  ver := hS.ver
  keep := fun b hb hm => by rw [hC.keep b (by have := hS.size; omega) (fun f => f)]; exact hS.keep b hb hm
  frame := fun b hb hm => by rw [hC.frame b (by have := hS.size; omega) (fun f => f)]; exact hS.frame b hb hm

theorem run_resolve {c : Call} {β : Operand → Value} {f : Operand} {g : FuncId} {fv cv : Array Value} {ty' : TypeId} (hc : c.callee = .value f) (hf : β f = .func (.func g) fv cv) :
    (resolve β c ty').run P w = .ok { target := .fn (.func g) cv, args := fv ++ c.args.map β } w := by
  simp [resolve, hc, hf, Deferred.ofValue]

theorem run_callFunc {g : FuncId} {fn : Func} {vs : Array Value} (hf : P.funcs[g]? = some fn) (hb : fn.body.isSome = true) (hn : fn.name ≠ "runtime.NumGoroutine") : (callFunc g vs).run P w = .ok (.enter g vs) w := by
  simp only [callFunc, Sem.run_bind, run_program, Result.andThen_ok, hf]
  rw [if_neg (by simpa using hn)]
  rw [if_neg (by cases hh : fn.body <;> simp_all)]
  rfl

/-- It has a body of its own, and isn't the one whose body is the machine's. -/
def hasBody (P : Program) (g : FuncId) : Bool :=
  match P.funcs[g]? with
  | some fn => fn.body.isSome && fn.name != "runtime.NumGoroutine"
  | none => false
theorem hasBody_spec {g : FuncId} (hb : hasBody P g = true) : ∃ fn, P.funcs[g]? = some fn ∧ fn.body.isSome = true ∧ fn.name ≠ "runtime.NumGoroutine" := by
  unfold hasBody at hb
  split at hb
  · rename_i fn hf
    simp only [Bool.and_eq_true, bne_iff_ne] at hb
    exact ⟨fn, hf, hb.1, hb.2⟩
  · cases hb

theorem vals_get {l : List D} {vs : Array Value} (us : Nat → Value) (hs : vs.size = l.length) (hu : ∀ j, j < l.length → vs[j]? = some (us j)) (hr : ∀ (j : Nat) (d : D), l[j]? = some d → RelV h ρ d (us j)) : AllRel h ρ l vs :=
  fun j d hj => ⟨us j, hu j (List.getElem?_eq_some_iff.1 hj).1, hr j d hj⟩

theorem app_get {l m : List D} {vs us : Array Value} (hs : vs.size = l.length) (h1 : AllRel h ρ l vs) (h2 : AllRel h ρ m us) : AllRel h ρ (l ++ m) (vs ++ us) := by
  intro j d hj
  rw [List.getElem?_append] at hj
  rw [Array.getElem?_append]
  split at hj
  · rename_i hlt
    rw [if_pos (by omega)]
    exact h1 j d hj
  · rename_i hlt
    rw [if_neg (by omega), hs]
    exact h2 _ d hj

theorem args_rel {α : Operand → D} {β : Operand → Value} {l : Array Operand} (hT : ∀ x ∈ l.toList, RelV h ρ (α x) (β x)) : AllRel h ρ (l.toList.map α) (l.map β) := by
  intro j d hj
  rw [List.getElem?_map] at hj
  cases hx : l.toList[j]? with
  | none => simp [hx] at hj
  | some x =>
    simp only [hx, Option.map_some, Option.some.injEq] at hj
    subst hj
    refine ⟨β x, ?_, hT x (List.mem_of_getElem? hx)⟩
    have : l[j]? = some x := by simpa using hx
    simp [this]
theorem run_method {t : TypeId} {name : String} {g : FuncId} {v : Value} {n : Nat} (hm : methOf P t name = some g) : (method (n + 1) t v name).run P w = .ok (g, v) w := by
  unfold methOf at hm
  split at hm
  · rename_i i hi
    split at hm
    · rename_i m hf
      split at hm
      · rename_i hp
        have hp' : m.path.toList = [] := by simpa using hp
        split at hm
        · rename_i f el hfn hu
          cases hm
          simp [method, run_typeInfo hi, hf, hp', follow, hfn, receiverAt, run_underlying hu, Place.get]
        · cases hm
        · rename_i f u hnp hfn hu
          cases hm
          cases u <;> first
            | exact (hnp _ rfl).elim
            | simp [method, run_typeInfo hi, hf, hp', follow, hfn, receiverAt, run_underlying hu, Place.get]
        · cases hm
      · cases hm
    · cases hm
  · cases hm

theorem ext_find {name : String} {e : Ext} (h : extNamed name = some e) {fn : Func} (hn : fn.name = name) (ho : fn.origin = "") : Extern.findNext fn = none ∧ Extern.find fn = some e.entry := by
  unfold extNamed at h
  split at h
  · rename_i hh; subst hh; cases h; simp only [Extern.findNext, Extern.find, hn, ho]; exact ⟨by kernel_rfl, by kernel_rfl⟩
  · split at h
    · rename_i hh; subst hh; cases h; simp only [Extern.findNext, Extern.find, hn, ho]; exact ⟨by kernel_rfl, by kernel_rfl⟩
    · split at h
      · rename_i hh; subst hh; cases h; simp only [Extern.findNext, Extern.find, hn, ho]; exact ⟨by kernel_rfl, by kernel_rfl⟩
      · cases h

theorem idxB_eq : ∀ (l : List UInt8) (c : UInt8), Lib.indexByte l c = idxB l c
  | [], c => rfl
  | b :: l, c => by
    have h := Lib.indexByte_ge l c
    unfold Lib.indexByte idxB
    rw [← idxB_eq l c]
    split
    · rfl
    · cases hx : Lib.indexByte l c with
      | ofNat n => first | (simp; done) | (simp; omega)
      | negSucc n =>
        rw [hx] at h
        have : n = 0 := by omega
        subst this
        rfl

theorem run_ext {h' : Gh} {e : Ext} {args : List D} {d : D} {vs : Array Value} (h : extD e args = some d) (hs : vs.size = args.length) (hr : AllRel h' ρ args vs) : ∃ v, (e.entry vs).run P w = .ok v w ∧ RelV h' ρ d v := by
  unfold extD at h
  split at h
  · rename_i x
    cases h
    obtain ⟨v, h1, h2⟩ := hr 0 d rfl
    have : vs = #[v] := by
      apply Array.ext'
      apply List.ext_getElem? 
      intro i
      cases i with
      | zero => simpa using h1
      | succ i => simp [List.getElem?_eq_none]; simp at hs; omega
    subst this
    exact ⟨v, rfl, h2⟩
  · rename_i s b
    cases h
    obtain ⟨v0, h1, h2⟩ := hr 0 _ rfl
    obtain ⟨v1, h3, h4⟩ := hr 1 _ rfl
    have : vs = #[v0, v1] := by
      apply Array.ext'
      apply List.ext_getElem? 
      intro i
      match i with
      | 0 => simpa using h1
      | 1 => simpa using h3
      | i + 2 => simp [List.getElem?_eq_none]; simp at hs; omega
    subst this
    cases h2 with | str _ s1 e1 =>
    cases h4
    subst e1
    exact ⟨_, Lib.run_indexByteString s1 b w, by rw [idxB_eq]; exact .int _ _⟩
  · rename_i s b
    cases h
    obtain ⟨v0, h1, h2⟩ := hr 0 _ rfl
    obtain ⟨v1, h3, h4⟩ := hr 1 _ rfl
    have : vs = #[v0, v1] := by
      apply Array.ext'
      apply List.ext_getElem? 
      intro i
      match i with
      | 0 => simpa using h1
      | 1 => simpa using h3
      | i + 2 => simp [List.getElem?_eq_none]; simp at hs; omega
    subst this
    cases h2 with | str _ s1 e1 =>
    cases h4
    subst e1
    exact ⟨_, Lib.run_countString s1 b w, .int _ _⟩
  · cases h

/-- A call of a function without a body, that the machine knows. -/
theorem run_callFunc_ext {g : FuncId} {e : Ext} {args : List D} {d : D} {vs : Array Value} {h' : Gh} (hg : extOf P g = some e) (h : extD e args = some d) (hs : vs.size = args.length) (hr : AllRel h' ρ args vs) :
    ∃ v, (callFunc g vs).run P w = .ok (.value v) w ∧ RelV h' ρ d v := by
  unfold extOf at hg
  split at hg
  · rename_i fn hf
    split at hg
    · rename_i hbo
      simp only [Bool.and_eq_true, beq_iff_eq] at hbo
      obtain ⟨hb, ho⟩ := hbo
      obtain ⟨h1, h2⟩ := ext_find hg rfl ho
      obtain ⟨v, hv, rv⟩ := run_ext (P := P) (w := w) h hs hr
      refine ⟨v, ?_, rv⟩
      rw [run_callFunc_extern hf ?_ hb h1 h2, hv]
      · rfl
      · by_cases hh : fn.name = "runtime.NumGoroutine"
        · rw [hh] at hg
          have : extNamed "runtime.NumGoroutine" = none := by decide
          rw [this] at hg
          cases hg
        · simpa using hh
    · cases hg
  · cases hg

/-- What a call of a known function is handed. -/
theorem callee_run {o : Oper} {α : Operand → D} {β : Operand → Value} {g : FuncId} {args : List D} (hT : ∀ x ∈ o.op.operands.toList, RelV h ρ (α x) (β x)) (e : callee P o.op α = some (g, args)) :
    ∃ vs : Array Value, (execOp β o).run P w = (callFunc g vs).run P w ∧ vs.size = args.length ∧ AllRel h ρ args vs := by
  unfold callee at e
  split at e
  · rename_i x name args0 ats ho
    split at e
    · rename_i t d hx
      split at e
      · rename_i g' hm
        cases e
        rw [ho] at hT
        have rf := hT x (by simp [Op.operands, Call.operands])
        rw [hx] at rf
        generalize hbf : β x = vf at rf
        cases rf with | iface _ _ v hr =>
        have ra := args_rel (h := h) (ρ := ρ) (α := α) (β := β) (l := args0) fun y hy => hT y (by simp [Op.operands, Call.operands]; exact .inr (by simpa using hy))
        refine ⟨#[v] ++ args0.map β, ?_, by simp; omega, ?_⟩
        · simp only [execOp, ho, resolve, Sem.run_bind, Sem.run_pure, Result.andThen_ok, invoke, hbf]
          simp only [Array.getElem?_append, List.size_toArray, List.length_singleton, Nat.lt_one_iff, if_true, List.getElem?_toArray, List.getElem?_cons_zero, callMethod, Sem.run_bind, run_program, Result.andThen_ok, show ∀ n, n + Made.depth = n + (Made.depth - 1) + 1 from fun n => by have : 0 < Made.depth := by decide
                                                                                                                                                                                                                                                                                              omega]
          rw [run_method hm, Result.andThen_ok]
          simp only []
          have : (#[Value.iface t v] ++ args0.map β).extract 1 (#[Value.iface t v] ++ args0.map β).size = args0.map β := by
            apply Array.ext'
            have hl : args0.size = (args0.toList.map β).length := by simp
            simp only [Array.toList_extract, Array.toList_append, Array.toList_map]
            simp
            rw [hl, List.take_length]
          rw [this]
        · exact app_get (l := [d]) rfl (fun j dd hj => by
            cases j with
            | zero => cases hj; exact ⟨v, rfl, hr⟩
            | succ j => simp at hj) ra
      · cases e
    · cases e
  · rename_i f args0 ats ho
    split at e
    · rename_i g' first cap hf
      cases e
      rw [ho] at hT
      have rf := hT f (by simp [Op.operands, Call.operands])
      rw [hf] at rf
      generalize hbf : β f = vf at rf
      cases rf with | fn _ _ _ fv cv us ws hs hs' hu hw hr hq =>
      have ra := args_rel (h := h) (ρ := ρ) (α := α) (β := β) (l := args0) fun y hy => hT y (by simp [Op.operands, Call.operands]; exact .inr (by simpa using hy))
      refine ⟨fv ++ args0.map β ++ cv, ?_, by simp [hs, hs'], ?_⟩
      · simp only [execOp, ho, Sem.run_bind, run_resolve (c := { callee := .value f, args := args0, argTypes := ats }) rfl hbf, Result.andThen_ok, invoke]
      · exact app_get (by simp [hs]) (app_get hs (vals_get us hs hu hr) ra) (vals_get ws hs' hw hq)
    · cases e
  · cases e

theorem callee_spec {o : Oper} {α : Operand → D} {β : Operand → Value} {g : FuncId} {args : List D} (hT : ∀ x ∈ o.op.operands.toList, RelV h ρ (α x) (β x)) (e : callee P o.op α = some (g, args)) (hb : hasBody P g = true) :
    ∃ vs : Array Value, (execOp β o).run P w = .ok (.enter g vs) w ∧ vs.size = args.length ∧ AllRel h ρ args vs := by
  obtain ⟨vs, h1, h2, h3⟩ := callee_run (P := P) (w := w) hT e
  obtain ⟨fn, hfn, hbo, hnm⟩ := hasBody_spec hb
  exact ⟨vs, h1.trans (run_callFunc hfn hbo hnm), h2, h3⟩

theorem callee_nodefer {op : Op} {α : Operand → D} {x : FuncId × List D} (e : callee P op α = some x) : ∀ c, op ≠ .defer c := by
  rintro c rfl
  cases e

/-- A call of a function without a body that the machine knows. -/
theorem step_ext {E : Env} {o : Oper} {α : Operand → D} {g : FuncId} {x : Ext} {args : List D} {d : D} (e : callee P o.op α = some (g, args)) (hx : extOf P g = some x) (hd : extD x args = some d) : Step P E o α H fun d' H' => d' = d ∧ H' = H := by
  intro rd w0 M0 hI h ρ w a hbase hS hT next Q hk
  obtain ⟨vs, h1, h2, h3⟩ := callee_run (P := P) (w := w) hT e
  obtain ⟨v, h4, h5⟩ := run_callFunc_ext (P := P) (w := w) hx hd h2 h3
  refine ⟨fun _ _ => trivial, ?_⟩
  rw [Oper.semAt_eq _ _ _ (callee_nodefer e), h1, h4, Oper.uponIn_value]
  exact hk d H v w h ρ ⟨rfl, rfl⟩ (.refl _) (.refl _) hS h5

/-- A call of a function of closed data. -/
theorem step_pcall {E : Env} {o : Oper} {α : Operand → D} {g : FuncId} {args : List D} {r : D} (e : callee P o.op α = some (g, args)) (hb : hasBody P g = true) (hd : PDen P E g args r) : Step P E o α H fun d H' => d = r ∧ H' = H := by
  intro rd w0 M0 hI h ρ w a hbase hS hT next Q hk
  obtain ⟨hca, hcr, hden⟩ := hd
  obtain ⟨vs, hrun, hsz, hget⟩ := callee_spec (P := P) (w := w) hT e hb
  have hE := hS.enter
  have hC := hden h (fun _ _ => none) w vs (fun _ => False) hbase hE hsz (fun j d hj => by
    obtain ⟨v, h1, h2⟩ := hget j d hj
    exact ⟨v, h1, h2.closed (closedL_get hca hj)⟩)
  refine ⟨fun _ _ => trivial, ?_⟩
  rw [Oper.semAt_eq _ _ _ (callee_nodefer e), hrun, Oper.uponIn_enter]
  refine ⟨fun hx => (by cases hx), callsIn_fen (hC.mono fun e w' hh => ?_)⟩
  obtain ⟨v, r', S', h', ρ', rfl, rfl, hle, _, hSim, hrel⟩ := hh
  exact hk r' H v w' h' ρ ⟨rfl, rfl⟩ hle (.refl _) (hS.back hSim hle) (hrel.closed hcr)
end
end Go.Lv

namespace Go.Lv
open Go
set_option linter.unusedVariables false
set_option linter.unusedSimpArgs false
section
variable {P : Program} {w0 : World} {M0 : Nat → Prop} {hI h1 h : Gh} {ρ0 ρ : Rn} {H : Hp} {w : World} {E : Env}

theorem put_len : ∀ (l : List D) (t : Nat) (d : D), (put l t d).length = l.length
  | [], t, d => rfl
  | a :: l, 0, d => rfl
  | a :: l, t + 1, d => by simp [put, put_len l t d]
theorem putO_len (l : List D) (t : Option Nat) (d : D) : (putO l t d).length = l.length := by cases t <;> simp [putO, put_len]
theorem nth_put : ∀ (l : List D) (t i : Nat) (d : D), nth (put l t d) i = if i = t ∧ t < l.length then d else nth l i
  | [], t, i, d => by simp [put]
  | a :: l, 0, 0, d => by simp [put, nth]
  | a :: l, 0, i + 1, d => by simp [put, nth]
  | a :: l, t + 1, 0, d => by simp [put, nth]
  | a :: l, t + 1, i + 1, d => by
    simp only [put, nth, List.length_cons]
    rw [nth_put l t i d]
    simp only [Nat.add_lt_add_iff_right, Nat.add_right_cancel_iff]

/-- A frame told as data. -/
def RelF (h : Gh) (ρ : Rn) (ts : List D) (a : Act) : Prop := ts.length = a.tmps.size ∧ ∀ t, RelV h ρ (nth ts t) (a.tmps.getD t undef)

theorem RelF.mono {h' : Gh} {ρ' : Rn} {ts : List D} {a : Act} (r : RelF h ρ ts a) (hh : GLe h h') (hρ : RLe ρ ρ') : RelF h' ρ' ts a := ⟨r.1, fun t => (r.2 t).mono hh hρ⟩

theorem RelF.put {ts : List D} {a : Act} {d : D} {v : Value} (r : RelF h ρ ts a) (hv : RelV h ρ d v) (t : Option Nat) : RelF h ρ (putO ts t d) (a.put t v) := by
  cases t with
  | none => exact r
  | some t =>
    refine ⟨by simp [putO, put_len, Act.put, r.1], fun i => ?_⟩
    simp only [putO, Act.put]
    rw [nth_put, Array.getD_eq_getD_getElem?]
    by_cases hc : i = t ∧ t < ts.length
    · obtain ⟨rfl, hlt⟩ := hc
      rw [if_pos ⟨rfl, hlt⟩, Array.getElem?_setIfInBounds_self_of_lt (by rw [← r.1]; exact hlt)]
      exact hv
    · rw [if_neg hc]
      have : (a.tmps.setIfInBounds t v)[i]? = a.tmps[i]? := by
        by_cases hit : i = t
        · subst hit
          have : ¬ i < a.tmps.size := by rw [← r.1]; omega
          rw [Array.getElem?_setIfInBounds]
          simp [this]
        · exact Array.getElem?_setIfInBounds_ne (fun e => hit e.symm)
      rw [this, ← Array.getD_eq_getD_getElem?]
      exact r.2 i

theorem RelF.ev {ts : List D} {a : Act} (r : RelF h ρ ts a) (hb : GLe E.h0 h) (x : Operand) : RelV h ρ (ev E.g ts x) (a.eval x) := by
  cases x with
  | tmp t => exact r.2 t
  | const v => exact ofV_rel v
  | global g => exact (E.ok g).mono hb (fun i n x e => by cases e)
  | func f => exact .fn _ _ _ _ _ (fun _ => undef) (fun _ => undef) rfl rfl (fun j hj => by simp at hj) (fun j hj => by simp at hj) (fun j d hj => by simp at hj) (fun j d hj => by simp at hj)

/-- Is the operation wanted? -/
def wantD (ops : Array Oper) (ts : List D) (o : Oper) : Option Bool :=
  match o.guard with
  | none => some true
  | some (j, want) => match (ops[j]?).bind (·.dst) with
    | some t => match nth ts t with
      | .bool b => some (b == want)
      | .tup [] => some false
      | _ => none
    | none => none
/-- What stands where nothing was yielded. -/
theorem rel_undef : RelV h ρ (.tup []) undef := .tup [] #[] rfl (fun _ => undef) (fun j hj => by simp at hj) (fun j d hj => by simp at hj)
theorem tup_nil {v : Value} (r : RelV h ρ (.tup []) v) : v = .tuple #[] := by
  cases r with | tup _ vs hs us hu hr =>
  cases vs with | mk l =>
  cases l with
  | nil => rfl
  | cons a l => simp at hs

theorem want_spec {ops : Array Oper} {ts : List D} {a : Act} {o : Oper} {b : Bool} (r : RelF h ρ ts a) (e : wantD ops ts o = some b) : Region.wanted o (yielded ops a.tmps) = b := by
  unfold wantD at e
  unfold Region.wanted
  split at e
  · rename_i hg
    cases e
    simp only [hg]
  · rename_i j want hg
    split at e
    · rename_i t ht
      split at e
      · rename_i c hc
        cases e
        have hr := r.2 t
        rw [hc] at hr
        have hv : a.tmps[t]? = some (.bool c) := by
          rw [Array.getD_eq_getD_getElem?] at hr
          cases hx : a.tmps[t]? with
          | none => rw [hx] at hr; simp only [Option.getD_none, undef] at hr; cases hr
          | some v => rw [hx] at hr; simp only [Option.getD_some] at hr; cases hr; rfl
        simp only [hg, yielded, ht, Option.bind_some, hv]
        cases c <;> cases want <;> rfl
      · rename_i hc
        cases e
        have hr := r.2 t
        rw [hc] at hr
        have hv := tup_nil hr
        rw [Array.getD_eq_getD_getElem?] at hv
        simp only [hg, yielded, ht, Option.bind_some]
        cases hx : a.tmps[t]? with
        | none => rfl
        | some v =>
          rw [hx, Option.getD_some] at hv
          subst hv
          rfl
      · cases e
    · cases e

/-- A region's operations, in their own order. -/
def aseq (P : Program) (E : Env) (ops : Array Oper) : List Oper → List D → Hp → (List D → Hp → Prop) → Prop
  | [], ts, H, K => K ts H
  | o :: rest, ts, H, K => match wantD ops ts o with
    | some true => Step P E o (ev E.g ts) H fun d H' => aseq P E ops rest (putO ts o.dst d) H' K
    | some false => aseq P E ops rest (putO ts o.dst (.tup [])) H K
    | none => False

theorem Sim.more {w' : World} (hS : Sim w0 M0 hI h ρ H w) (ho : w'.os = w.os) (ht : w'.tape = w.tape) (hu : w'.output = w.output) (hs : w.heap.size ≤ w'.heap.size) (hb : ∀ b, b < w.heap.size → w'.heap[b]? = w.heap[b]?) : Sim w0 M0 hI h ρ H w' where
  os := ho.trans hS.os
  tape := ht.trans hS.tape
  output := hu.trans hS.output
  size := Nat.le_trans hS.size hs
  imm := fun b o e => by
    have e' : w.heap[b]? = some o := hS.imm b o e
    show w'.heap[b]? = some o
    rw [show w'.heap[b]? = w.heap[b]? from hb b (Array.getElem?_eq_some_iff.1 e').1]
    exact e'
  blk := fun i => (hS.blk i).mono (.refl _) (.refl _) fun b x hl hb' hn => by
    obtain ⟨b', x', h1, h2, h3⟩ := (hS.blk i).lies hl
    rw [hb'] at h1
    cases h1
    exact ⟨hb b h3, hn⟩
  own := hS.own
  inj := hS.inj
  dom := hS.dom
  ver := hS.ver
  keep := hS.keep
  frame := fun b hlt hm => by rw [hb b (by have := hS.size; omega)]; exact hS.frame b hlt hm

/-- The blocks that are the heap's. -/
def Mine (ρ : Rn) (H : Hp) (b : Nat) : Prop := ∃ j x, (hget H j).live = true ∧ ρ j (hget H j).n = some (b, x)
theorem Sim.inside (hS : Sim w0 M0 hI h ρ H w) : Sim w (Mine ρ H) h h ρ H w where
  os := rfl
  tape := rfl
  output := rfl
  size := Nat.le_refl _
  imm := hS.imm
  blk := hS.blk
  own := fun i b x hl hb => .inl ⟨i, x, hl, hb⟩
  inj := hS.inj
  dom := hS.dom
  ver := hS.ver
  keep := fun b _ _ => rfl
  frame := fun b _ _ => rfl
theorem Sim.outside {h' : Gh} {ρ' : Rn} {H' : Hp} {w' : World} (hS : Sim w0 M0 hI h ρ H w) (hC : Sim w (Mine ρ H) h h' ρ' H' w') : Sim w0 M0 hI h' ρ' H' w' := by
  have hm : ∀ b, Mine ρ H b → M0 b ∨ w0.heap.size ≤ b := fun b ⟨j, x, hl, hb⟩ => hS.own j b x hl hb
  exact {
    os := hC.os.trans hS.os
    tape := hC.tape.trans hS.tape
    output := hC.output.trans hS.output
    size := Nat.le_trans hS.size hC.size
    imm := hC.imm
    blk := hC.blk
    own := fun i b x hl hb => by
      rcases hC.own i b x hl hb with h1 | h1
      · exact hm b h1
      · exact .inr (Nat.le_trans hS.size h1)
    inj := hC.inj
    dom := hC.dom
    ver := hC.ver
    keep := fun b hlt hn => by
      have hnm : ¬ Mine ρ H b := fun e => by rcases hm b e with h1 | h1; exact hn h1; omega
      rw [hC.keep b (by have := hS.size; omega) hnm]
      exact hS.keep b hlt hn
    frame := fun b hlt hn => by
      have hnm : ¬ Mine ρ H b := fun e => by rcases hm b e with h1 | h1; exact hn h1; omega
      rw [hC.frame b (by have := hS.size; omega) hnm]
      exact hS.frame b hlt hn }

/-- The blocks for deferred calls of loops over iterators, which nobody else looks at. -/
structure Mark (w0 : World) (h : Gh) (ρ : Rn) (H : Hp) (w : World) (b : Nat) : Prop where
  lies : w.heap[b]? = some (.deferred (some []))
  none : h b = none
  new : w0.heap.size ≤ b
  free : ¬ Mine ρ H b
def mark (b : Nat) : Deferred := { target := .collected b, args := #[] }
def Marks (w0 : World) (h : Gh) (ρ : Rn) (H : Hp) (w : World) (ds : List Deferred) : Prop := ∃ bs : List Nat, ds = bs.map mark ∧ bs.Nodup ∧ ∀ b ∈ bs, Mark w0 h ρ H w b
theorem Mark.step {w0 w w' : World} {h h' : Gh} {ρ ρ' : Rn} {H H' : Hp} {b : Nat} (hf : Mark w0 h ρ H w b) (hC : Sim w (Mine ρ H) h h' ρ' H' w') : Mark w0 h' ρ' H' w' b := by
  have hlt := (Array.getElem?_eq_some_iff.1 hf.lies).1
  refine ⟨by rw [hC.frame b hlt hf.free]; exact hf.lies, by rw [hC.keep b hlt hf.free]; exact hf.none, hf.new, ?_⟩
  rintro ⟨j, x, hl, hb⟩
  rcases hC.own j b x hl hb with h4 | h4
  · exact hf.free h4
  · omega
theorem Marks.step {w0 w w' : World} {h h' : Gh} {ρ ρ' : Rn} {H H' : Hp} {ds : List Deferred} (hf : Marks w0 h ρ H w ds) (hC : Sim w (Mine ρ H) h h' ρ' H' w') : Marks w0 h' ρ' H' w' ds := by
  obtain ⟨bs, h1, h2, h3⟩ := hf
  exact ⟨bs, h1, h2, fun b hb => (h3 b hb).step hC⟩
theorem Marks.nil (w0 : World) (h : Gh) (ρ : Rn) (H : Hp) (w : World) : Marks w0 h ρ H w [] := ⟨[], rfl, .nil, fun b hb => by simp at hb⟩
theorem Marks.more {w0 w w' : World} {h : Gh} {ρ : Rn} {H : Hp} {ds : List Deferred} (hf : Marks w0 h ρ H w ds) (hs : w.heap.size ≤ w'.heap.size) (hb : ∀ b, b < w.heap.size → w'.heap[b]? = w.heap[b]?) : Marks w0 h ρ H w' ds := by
  obtain ⟨bs, h1, h2, h3⟩ := hf
  refine ⟨bs, h1, h2, fun b hbb => ?_⟩
  obtain ⟨m1, m2, m3, m4⟩ := h3 b hbb
  exact ⟨by rw [hb b (Array.getElem?_eq_some_iff.1 m1).1]; exact m1, m2, m3, m4⟩
theorem Marks.drew {w0 w : World} {h : Gh} {ρ : Rn} {H : Hp} {ds : List Deferred} (hf : Marks w0 h ρ H w ds) : Marks w0 h ρ H w.drew ds := hf.more (Nat.le_refl _) fun _ _ => rfl
theorem Sim.notMine {b : Nat} {o : Option (List Deferred)} (hS : Sim w0 M0 hI h ρ H w) (hd : w.heap[b]? = some (.deferred o)) : ¬ Mine ρ H b := by
  rintro ⟨j, x, hl, hb⟩
  have hr := hS.blk j
  cases hg : hget H j <;> rw [hg] at hl hb hr <;> simp only [Blk.live, Bool.false_eq_true] at hl <;> simp only [Blk.n] at hb
  · obtain ⟨b', c, s, cs, e, fz, a1, a2, a3, _⟩ := hr
    rw [hb] at a1
    cases a1
    rw [hd] at a3
    cases a3
  · obtain ⟨b', c, cs, e, fz, a1, a2, a3, _⟩ := hr
    rw [hb] at a1
    cases a1
    rw [hd] at a3
    cases a3
  · obtain ⟨b', c, z, bs, a1, a2, a3, a4⟩ := hr
    rw [hb] at a1
    cases a1
    rw [hd] at a4
    cases a4
  · obtain ⟨b', z, r, a1, a2, a3, _⟩ := hr
    rw [hb] at a1
    cases a1
    rw [hd] at a3
    cases a3
  · obtain ⟨b', z, l, c, a1, a2, a3, _⟩ := hr
    rw [hb] at a1
    cases a1
    rw [hd] at a3
    cases a3
theorem Marks.re {ρ' : Rn} {H' : Hp} {ds : List Deferred} (hf : Marks w0 h ρ H w ds) (hS : Sim w0 M0 hI h ρ' H' w) : Marks w0 h ρ' H' w ds := by
  obtain ⟨bs, h1, h2, h3⟩ := hf
  exact ⟨bs, h1, h2, fun b hbb => let ⟨m1, m2, m3, m4⟩ := h3 b hbb; ⟨m1, m2, m3, hS.notMine m1⟩⟩
/-- The state of a call: its frame, and memory. -/
def St (w0 : World) (M0 : Nat → Prop) (hI h1 : Gh) (ρ0 : Rn) (ts : List D) (H : Hp) (a : Act) (w : World) : Prop :=
  ∃ h ρ, GLe h1 h ∧ RLe ρ0 ρ ∧ Sim w0 M0 hI h ρ H w ∧ RelF h ρ ts a ∧ Marks w0 h ρ H w a.defers

theorem put_defers (a : Act) (t : Option Nat) (v : Value) : (a.put t v).defers = a.defers := by cases t <;> rfl

theorem aseq_mono {ops : Array Oper} {K K' : List D → Hp → Prop} (hk : ∀ ts H, K ts H → K' ts H) : ∀ (l : List Oper) (ts : List D) (H : Hp), aseq P E ops l ts H K → aseq P E ops l ts H K'
  | [], ts, H, hs => hk _ _ hs
  | o :: rest, ts, H, hs => by
    simp only [aseq] at hs ⊢
    split at hs
    · exact hs.mono fun d H' => aseq_mono hk rest _ H'
    · exact aseq_mono hk rest _ H hs
    · exact hs

theorem aseq_ops {rd : Option Nat} {ops : Array Oper} {K : List D → Hp → Prop} {Q : Exit → Act → World → Prop} (hb : GLe E.h0 h1) (hK : ∀ ts H a w, K ts H → St w0 M0 hI h1 ρ0 ts H a w → Q .normal a w) :
    ∀ (rest : List Oper) (k : Nat) (ts : List D) (H : Hp) (a : Act) (w : World), ops.toList.drop k = rest → aseq P E ops rest ts H K → St w0 M0 hI h1 ρ0 ts H a w → wpOpsIn (fen rd) 0 P ops Q (List.range' k rest.length) a w
  | [], k, ts, H, a, w, hd, hs, hst => by
    simp only [List.length_nil, List.range'_zero, wpOpsIn]
    exact hK ts H a w hs hst
  | o :: rest, k, ts, H, a, w, hd, hs, hst => by
    obtain ⟨h, ρ, hg, hρ, hS, hF, hdef⟩ := hst
    have hk : ops[k]? = some o := by
      have : (ops.toList.drop k)[0]? = some o := by rw [hd]; rfl
      rw [List.getElem?_drop] at this
      simpa using this
    have hd' : ops.toList.drop (k + 1) = rest := by
      rw [← List.drop_drop, hd]
      rfl
    simp only [List.length_cons, List.range'_succ, wpOpsIn, hk]
    simp only [aseq] at hs
    split at hs
    · rename_i hw
      rw [want_spec hF hw, if_pos rfl]
      refine hs rd w (Mine ρ H) h h ρ w a (hb.trans hg) hS.inside (fun x _ => hF.ev (hb.trans hg) x) _ Q fun d H' v w' h' ρ' hr g1 r1 hS' hv => ?_
      exact aseq_ops hb hK rest (k + 1) _ H' _ w' hd' hr ⟨h', ρ', hg.trans g1, hρ.trans r1, hS.outside hS', (hF.mono g1 r1).put hv _, by rw [put_defers]; exact hdef.step hS'⟩
    · rename_i hw
      rw [want_spec hF hw]
      simp only [Bool.false_eq_true, if_false]
      refine ⟨fun _ _ => trivial, ?_⟩
      exact aseq_ops hb hK rest (k + 1) _ H _ w hd' hs ⟨h, ρ, hg, hρ, hS, hF.put rel_undef _, by rw [put_defers]; exact hdef⟩
    · exact hs.elim

theorem aseq_wp {rd : Option Nat} {id : Nat} {ops : Array Oper} {K : List D → Hp → Prop} {Q : Exit → Act → World → Prop} {ts : List D} {a : Act} (hb : GLe E.h0 h1) (hK : ∀ ts H a w, K ts H → St w0 M0 hI h1 ρ0 ts H a w → Q .normal a w)
    (hs : aseq P E ops ops.toList ts H K) (hst : St w0 M0 hI h1 ρ0 ts H a w) : (Code.region id ops false).wpIn (fen rd) 0 P Q a w := by
  refine wpIn_region ?_
  have := aseq_ops (rd := rd) (Q := Q) hb hK ops.toList 0 ts H a w (by simp) hs hst
  rw [List.range_eq_range']
  simpa using this
end
end Go.Lv
