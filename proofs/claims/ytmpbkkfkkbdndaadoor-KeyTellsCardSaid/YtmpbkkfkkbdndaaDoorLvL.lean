/- LvL: append, over data. -/
import Derived.Test.YtmpbkkfkkbdndaaDoorLvK
namespace Go.Lv
open Go
set_option linter.unusedVariables false
set_option linter.unusedSimpArgs false
section
variable {P : Program} {w0 : World} {M0 : Nat → Prop} {hI h : Gh} {ρ : Rn} {H : Hp} {w : World}

theorem Row.bound {cs : Array Value} {off : Nat} {ds : List D} (r : Row h ρ cs off ds) (hp : ds ≠ []) : off + ds.length ≤ cs.size := by
  have hl : 0 < ds.length := List.length_pos_iff.2 hp
  obtain ⟨u, a, _⟩ := r (ds.length - 1) ds[ds.length - 1] (by simp)
  have := (Array.getElem?_eq_some_iff.1 a).1
  omega
theorem Row.whole {cs : Array Value} {off : Nat} {ds : List D} (r : Row h ρ cs off ds) (hp : off + ds.length ≤ cs.size) : Whole h ρ (cs.extract off (off + ds.length)) ds :=
  ⟨by simp; omega, r.extract _ (Nat.le_refl _)⟩

theorem run_loadW {b off n : Nat} {ds : List D} {cs : Array Value} {el : TypeId} {fz : Nat × Nat} {w1 : World} (hb : w1.heap[b]? = some (.cells cs el fz)) (r : Row h ρ cs off ds) (hn : n = ds.length) :
    ∃ arr, (loadCells ⟨b, off, none⟩ n).run P w1 = .ok arr w1 ∧ arr = (if ds = [] then #[] else cs.extract off (off + ds.length)) ∧ Whole h ρ arr ds := by
  subst hn
  by_cases hd : ds = []
  · subst hd
    exact ⟨#[], by simp [loadCells, loadCellsFrom], by simp, ⟨rfl, fun j d hj => by simp at hj⟩⟩
  · have := r.bound hd
    refine ⟨_, ?_, by rw [if_neg hd], r.whole this⟩
    unfold loadCells
    rw [run_loadCells hb _ _ _ (by omega)]
    simp

theorem run_src (hS : Sim w0 M0 hI h ρ H w) {x : D} {vx : Value} {sz n : Nat} {new : List D} (hx : RelV h ρ x vx) (e : srcCells H sz x = some new) (el : dLenN x = some n) :
    ∃ arr, (∀ w1 : World, w1.heap = w.heap → (Builtin.firstCells sz n vx).run P w1 = .ok arr w1) ∧ (∀ w1 : World, (Builtin.lenOf vx).run P w1 = .ok n w1) ∧ Whole h ρ arr new ∧ new.length = n * sz := by
  unfold srcCells at e
  split at e
  · rename_i t xs
    split at e
    · rename_i hall
      have hsz := allSz_spec hall
      cases e
      simp only [dLenN, Option.some.injEq] at el
      subst el
      have hfl := flat_len hsz
      cases hx with
      | lnil t a c ht =>
        refine ⟨#[], fun w1 hw => ?_, fun w1 => rfl, ⟨rfl, fun j d hj => by simp at hj⟩, by simp⟩
        cases a <;> simp [Builtin.firstCells, loadCells, loadCellsFrom]
      | list t _ b off n' c sz' cs el' fz us hx hn hlen ht hsz' hcl' hcc hb hc ho hr =>
        have r : Row h ρ cs off (xs.flatMap D.cells) := fun j d hj => ⟨us j, hc j (List.getElem?_eq_some_iff.1 hj).1, ho j (List.getElem?_eq_some_iff.1 hj).1, hr j d hj⟩
        obtain ⟨arr, h1, h2, h3⟩ := run_loadW (P := P) (w1 := w) (hS.imm _ _ hb) r rfl
        refine ⟨arr, fun w1 hw => ?_, fun w1 => by simp [Builtin.lenOf, hn], h3, hfl⟩
        obtain ⟨arr', g1, g2, g3⟩ := run_loadW (P := P) (w1 := w1) (by rw [hw]; exact hS.imm _ _ hb) r rfl
        rw [h2, ← g2]
        show (loadCells ⟨b, off, none⟩ (xs.length * sz)).run P w1 = _
        rw [← hfl]
        exact g1
    · cases e
  · rename_i i len N
    split at e
    · rename_i cs0 hcs
      split at e
      · rename_i hle
        cases e
        simp only [dLenN, Option.some.injEq] at el
        subst el
        cases hx with | own _ _ _ b c cs sz' hb hc hl =>
        obtain ⟨b', c', s', cs', el', fz, hb', hw', r⟩ := hS.at hcs
        rw [hb] at hb'
        cases hb'
        have hlen : cs0.length = N := (cellsOf_some hcs).2.2
        have r' := r.take (len * sz)
        have hl' : (cs0.take (len * sz)).length = len * sz := by simp; omega
        obtain ⟨arr, h1, h2, h3⟩ := run_loadW (P := P) (w1 := w) hw' r' rfl
        refine ⟨arr, fun w1 hw => ?_, fun w1 => rfl, h3, hl'⟩
        obtain ⟨arr', g1, g2, g3⟩ := run_loadW (P := P) (w1 := w1) (by rw [hw]; exact hw') r' rfl
        rw [h2, ← g2]
        rw [hl'] at g1
        exact g1
      · cases e
    · cases e
  · rename_i i off len N
    split at e
    · rename_i cs0 hcs
      split at e
      · rename_i hle
        cases e
        simp only [dLenN, Option.some.injEq] at el
        subst el
        cases hx with | asl _ _ _ _ b o c cs sz' hb hl ho =>
        obtain ⟨b', c', s', cs', el', fz, hb', hw', r⟩ := hS.at hcs
        rw [hb] at hb'
        cases hb'
        have hlen : cs0.length = N := (cellsOf_some hcs).2.2
        have r' := (r.drop off).take (len * sz)
        rw [Nat.zero_add] at r'
        have hl' : ((cs0.drop off).take (len * sz)).length = len * sz := by simp; omega
        by_cases h0 : len = 0
        · subst h0
          refine ⟨#[], fun w1 hw => ?_, fun w1 => rfl, ⟨by simp, fun j d hj => by simp at hj⟩, hl'⟩
          simp [Builtin.firstCells, loadCells, loadCellsFrom]
        · obtain rfl := ho h0
          obtain ⟨arr, h1, h2, h3⟩ := run_loadW (P := P) (w1 := w) hw' r' rfl
          refine ⟨arr, fun w1 hw => ?_, fun w1 => rfl, h3, hl'⟩
          obtain ⟨arr', g1, g2, g3⟩ := run_loadW (P := P) (w1 := w1) (by rw [hw]; exact hw') r' rfl
          rw [h2, ← g2]
          rw [hl'] at g1
          exact g1
      · cases e
    · cases e
  · rename_i s
    split at e
    · rename_i h1
      subst h1
      cases e
      simp only [dLenN, Option.some.injEq] at el
      subst el
      cases hx with | str _ s1 e1 =>
      subst e1
      refine ⟨s1.data.map fun b => .int .u8 b.toNat, fun w1 hw => ?_, fun w1 => by simp [Builtin.lenOf], ⟨by simp, fun j d hj => ?_⟩, by simp⟩
      · simp [Builtin.firstCells]
      · simp only [List.getElem?_map, Option.map_eq_some_iff] at hj
        obtain ⟨b, hb, rfl⟩ := hj
        refine ⟨.int .u8 b.toNat, ?_, rfl, .int _ _⟩
        simp at hb
        simp [hb]
    · cases e
  · cases e

theorem cells_pos {e : TypeId} {i : TypeInfo} (hp : 0 < szOf P e) (hi : P.info? e = some i) : i.size = szOf P e := by
  rw [(szOf_pos hp).1]
  simp [Program.cellsOf, hi]

theorem grown_ge (w : World) (need cap e : Nat) (hn : need < 2 ^ 63) : need ≤ grownCap w need cap e := by
  simp only [grownCap, Question.cut]
  omega

/-- The new row of an append that grows. -/
theorem Sim.grow_new (hS : Sim w0 M0 hI h ρ H w) {e : TypeId} {ag : Bool} {sz len need nc : Nat} {old news rest : Array Value} {od nd : List D} (ro : Whole h ρ old od) (rn : Whole h ρ news nd)
    (hrest : (old ++ news ++ rest).size = nc * sz) (hlen : len ≤ nc) :
    ∃ ρ', RLe ρ ρ' ∧ Sim w0 M0 hI h ρ' (H ++ [.row sz ag (od ++ nd)]) (w.drew.alloc (.cells (old ++ news ++ rest) e)) ∧ RelV h ρ' (.own H.length len (od ++ nd).length) (.slice (some ⟨w.heap.size, 0, none⟩) len nc) := by
  have hD := hS.drew
  have hrow : ∀ ρ', RLe ρ ρ' → Row h ρ' (old ++ news ++ rest) 0 (od ++ nd) := by
    intro ρ' hρ j d hj
    rw [List.getElem?_append] at hj
    rw [Nat.zero_add, Array.append_assoc, Array.getElem?_append]
    split at hj
    · rename_i h1
      rw [if_pos (by rw [ro.1]; exact h1)]
      obtain ⟨u, a, b, c⟩ := ro.2 j d hj
      exact ⟨u, by simpa using a, b, c.mono (.refl _) hρ⟩
    · rename_i h1
      rw [if_neg (by rw [ro.1]; exact h1)]
      obtain ⟨u, a, b, c⟩ := rn.2 _ d hj
      rw [Nat.zero_add] at a
      refine ⟨u, ?_, b, c.mono (.refl _) hρ⟩
      rw [Array.getElem?_append, if_pos (by rw [ro.1]; exact (Array.getElem?_eq_some_iff.1 a).1), ro.1]
      exact a
  have key := hD.push (.cells (old ++ news ++ rest) e) (.row sz ag (od ++ nd)) (nc * sz, sz) ?_
  · refine ⟨_, key.1, key.2, .own _ _ _ _ _ _ _ (Rn.set_same _ _ _ _) rfl hlen⟩
  · refine ⟨w.heap.size, nc * sz, _, e, (0, 0), Rn.set_same _ _ _ _, hS.new_none, alloc_new _ _, hrest, ?_, hrow _ (Rn.le_set (.inl (hS.fresh (Nat.le_refl _)))), fun j hj => by simp⟩
    have h1 := ro.1
    have h2 := rn.1
    simp at hrest ⊢
    omega

/-- The row of an append that grows goes to a new block. -/
theorem Sim.grow_move (hS : Sim w0 M0 hI h ρ H w) {e : TypeId} {ag : Bool} {sz i len nc : Nat} {old news rest : Array Value} {od nd : List D} (hg : hget H i = .row sz ag od) (hnd : nd ≠ []) (ro : Whole h ρ old od) (rn : Whole h ρ news nd)
    (hrest : (old ++ news ++ rest).size = nc * sz) (hlen : len ≤ nc) :
    ∃ ρ', RLe ρ ρ' ∧ Sim w0 M0 hI h ρ' (hset H i (.row sz ag (od ++ nd))) (w.drew.alloc (.cells (old ++ news ++ rest) e)) ∧ RelV h ρ' (.own i len (od ++ nd).length) (.slice (some ⟨w.heap.size, 0, none⟩) len nc) := by
  have hD := hS.drew
  have hlt : od.length < (od ++ nd).length := by
    have := List.length_pos_iff.2 hnd
    simp
    omega
  have hnone : ρ i (Blk.row sz ag (od ++ nd)).n = none := by
    cases hh : ρ i (Blk.row sz ag (od ++ nd)).n with
    | none => rfl
    | some x =>
      have := hS.ver i sz ag od hg _ _ hh
      simp only [Blk.n] at this
      omega
  have hrow : ∀ ρ', RLe ρ ρ' → Row h ρ' (old ++ news ++ rest) 0 (od ++ nd) := by
    intro ρ' hρ j d hj
    rw [List.getElem?_append] at hj
    rw [Nat.zero_add, Array.append_assoc, Array.getElem?_append]
    split at hj
    · rename_i h1
      rw [if_pos (by rw [ro.1]; exact h1)]
      obtain ⟨u, a, b, c⟩ := ro.2 j d hj
      exact ⟨u, by simpa using a, b, c.mono (.refl _) hρ⟩
    · rename_i h1
      rw [if_neg (by rw [ro.1]; exact h1)]
      obtain ⟨u, a, b, c⟩ := rn.2 _ d hj
      rw [Nat.zero_add] at a
      refine ⟨u, ?_, b, c.mono (.refl _) hρ⟩
      rw [Array.getElem?_append, if_pos (by rw [ro.1]; exact (Array.getElem?_eq_some_iff.1 a).1), ro.1]
      exact a
  have key := hD.move (i := i) (bl' := .row sz ag (od ++ nd)) (o := .cells (old ++ news ++ rest) e) (x' := (nc * sz, sz)) (by rw [hg]; rfl) rfl (fun sz' ag' ds hd n x hx => by
    cases hd
    have := hS.ver i sz ag od hg _ _ hx
    omega) hnone ?_
  · refine ⟨_, key.1, key.2, .own _ _ _ _ _ _ _ (Rn.set_same _ _ _ _) rfl hlen⟩
  · refine ⟨w.heap.size, nc * sz, _, e, (0, 0), Rn.set_same _ _ _ _, hS.new_none, alloc_new _ _, hrest, ?_, hrow _ (Rn.le_set (.inl hnone)), fun j hj => by simp⟩
    have h1 := ro.1
    have h2 := rn.1
    simp at hrest ⊢
    omega

theorem zc_size {e : TypeId} {i : TypeInfo} {z : Value} (hp : 0 < szOf P e) (hi : P.info? e = some i) (hz : z.cells.size = szOf P e) (n : Nat) : (Builtin.zeroCells z.cells n).size = n * szOf P e := by
  simp [Builtin.zeroCells, hz]

/-- The shape of an append's source, behind the walk: what is read, and what it tells. -/
structure Src (P : Program) (h : Gh) (ρ : Rn) (w : World) (u : TypeId) (vx : Value) (sz n : Nat) (new : List D) where
  arr : Array Value
  ok : Whole h ρ arr new
  len : new.length = n * sz

theorem run_append (hS : Sim w0 M0 hI h ρ H w) {t u ty' e : TypeId} {s x : D} {vs vx : Value} {n : Nat} {new : List D} {d : D} {H' : Hp} (ht : P.underlying t = some (.slice e)) (hu : notInt P u)
    (hz : (zcells P e).length = szOf P e) (hs : RelV h ρ s vs) (hx : RelV h ρ x vx) (hsrc : srcCells H (szOf P e) x = some new) (hn : dLenN x = some n) (ea : dAppend H (szOf P e) (P.bytesOf e) (isAg P e) s n new = some (d, H')) :
    ∃ v w' ρ', (Builtin.append_ #[t, u] ty' #[vs, vx]).run P w = .ok v w' ∧ RLe ρ ρ' ∧ Sim w0 M0 hI h ρ' H' w' ∧ RelV h ρ' d v := by
  unfold dAppend at ea
  split at ea
  · cases ea
  · rename_i hchk
    simp only [Bool.and_eq_true, decide_eq_true_eq, beq_iff_eq, Bool.not_eq_true', Bool.not_eq_false] at hchk
    obtain ⟨⟨hp, hb0⟩, hnl⟩ := hchk
    obtain ⟨arr, hfx, hlx, rx, hlen⟩ := run_src (P := P) hS hx hsrc hn
    obtain ⟨i, zv, hi, hzv, rz⟩ := zcells_spec (h := h) (ρ := ρ) (P := P) (t := e) (by omega)
    have hsize := cells_pos hp hi
    have hbytes : i.bytes = P.bytesOf e := by simp [Program.bytesOf, hi]
    rw [← hsize] at hfx hlen
    have hzs : zv.cells.size = i.size := by rw [rz.1, hz, hsize]
    split at ea
    · rename_i tt xs
      obtain ⟨a, m, c, rfl, hm, hmc, htt⟩ := hs.list_inv
      subst hm
      split at ea
      · rename_i h0
        cases ea
        subst h0
        have harr : arr = #[] := by
          have h1 := rx.1
          rw [hlen] at h1
          simpa using h1
        subst harr
        exact ⟨_, w, ρ, run_app_none ht hu hi a _ c vx (hlx w) (hfx w rfl) hmc, .refl _, hS, hs⟩
      · rename_i h0
        split at ea
        · rename_i hh
          simp only [Bool.and_eq_true, decide_eq_true_eq] at hh
          obtain ⟨⟨htt', hall⟩, hbd⟩ := hh
          cases ea
          have hcm := htt htt'
          subst hcm
          -- the elements that there are
          obtain ⟨old, hfo, hlo, ro, hlo'⟩ := run_src (P := P) (n := xs.length) hS hs (by simp only [srcCells]; rw [if_pos hall]) rfl
          rw [← hsize] at hfo hlo'
          have hneed : xs.length + n < 2 ^ 63 := by
            have : xs.length + n ≤ (xs.length + n) * P.bytesOf e := Nat.le_mul_of_pos_right _ hb0
            omega
          have hr := run_app_grow (ty := ty') ht hu hi hzv a xs.length xs.length n vx old arr (hlx w) (hfo w.drew rfl) (hfx w.drew rfl) (by omega) (by omega) (growslice_fits (by omega) (by rw [hbytes]; omega))
          have hge := grown_ge w (xs.length + n) xs.length e hneed
          obtain ⟨ρ', k1, k2, k3⟩ := hS.grow_new (e := e) (ag := isAg P e) (sz := szOf P e) (len := xs.length + n) (need := xs.length + n) (nc := grownCap w (xs.length + n) xs.length e) (rest := Builtin.zeroCells zv.cells (grownCap w (xs.length + n) xs.length e - (xs.length + n))) ro rx (by
              have h1 := ro.1
              have h2 := rx.1
              rw [← hsize]
              simp only [Array.size_append, Builtin.zeroCells, Array.size_map, Array.size_range, hzs, h1, h2, hlo', hlen]
              rw [← Nat.add_mul, ← Nat.add_mul]
              congr 1
              omega) hge
          exact ⟨_, _, ρ', hr, k1, k2, k3⟩
        · cases ea
    · rename_i b0 len N
      cases hs with | own _ _ _ b c cs sz' hb hc hl =>
      split at ea
      · rename_i sz1 ag1 cds hg
        split at ea
        · rename_i hh
          obtain ⟨hN, hszz, hbd⟩ := hh
          subst hN hszz
          have hblk := hS.blk b0
          rw [hg] at hblk
          obtain ⟨b', c', ccs, el', fz, a1, a2, a3, a4, a5, a6, a7⟩ := hblk
          rw [hb] at a1
          cases a1
          have hneed : len + n < 2 ^ 63 := by
            have : len + n ≤ (len + n) * P.bytesOf e := Nat.le_mul_of_pos_right _ hb0
            omega
          split at ea
          · rename_i h0
            cases ea
            subst h0
            have harr : arr = #[] := by
              have h1 := rx.1
              rw [hlen] at h1
              simpa using h1
            subst harr
            exact ⟨_, w, ρ, run_app_none ht hu hi _ _ c vx (hlx w) (hfx w rfl) hl, .refl _, hS, .own _ _ _ b c _ _ hb hc hl⟩
          · rename_i h0
            have hstore : ∀ (k : Nat), k * szOf P e + new.length ≤ ccs.size → ∃ w', (storeCells ⟨b, k * szOf P e, none⟩ arr.toList).run P w = .ok () w' ∧ Wrote w w' b ((arr.toList.zipIdx 0).foldl (fun cs (x : Value × Nat) => cs.setIfInBounds (k * szOf P e + x.2) x.1) ccs) el' fz := by
              intro k hk
              refine run_storeCells arr.toList 0 ccs w a3 (fun v hv => ?_) a7 (by have := rx.1; simp; omega)
              obtain ⟨j, hj⟩ := List.getElem?_of_mem hv
              have hj' : arr[j]? = some v := by simpa using hj
              have hlt : j < new.length := by rw [← rx.1]; exact (Array.getElem?_eq_some_iff.1 hj').1
              obtain ⟨u', q1, q2, _⟩ := rx.2 j new[j] (by simp)
              rw [Nat.zero_add, hj'] at q1
              cases q1
              exact q2
            have rx' : ∀ (j : Nat) (d : D), new[j]? = some d → ∃ u, arr[j]? = some u ∧ u.oneCell' = true ∧ RelV h ρ d u := fun j d hj => by simpa using rx.2 j d hj
            split at ea
            · rename_i hlN
              cases ea
              by_cases hroom : len + n ≤ c
              · -- in place
                have hfit : len * szOf P e + new.length ≤ ccs.size := by
                  rw [a4, ← hc, hnl, ← Nat.add_mul]
                  exact Nat.mul_le_mul_right _ hroom
                obtain ⟨w', s1, s2⟩ := hstore len hfit
                have hr := run_app_room (ty := ty') ht hu hi ⟨b, 0, none⟩ len c n vx arr w' (hlx w) (hfx w rfl) hroom (by rw [hsize, Addr.add_lit, Nat.zero_add]; exact s1)
                have hnne : 0 < new.length := by rw [hnl]; exact Nat.mul_pos (by omega) hp
                have hnone : ρ b0 (Blk.row (szOf P e) ag1 (cds ++ new)).n = none := by
                  cases hh : ρ b0 (Blk.row (szOf P e) ag1 (cds ++ new)).n with
                  | none => rfl
                  | some x =>
                    have := hS.ver b0 _ _ cds hg _ _ hh
                    simp only [Blk.n, List.length_append] at this
                    omega
                have hle := Rn.le_set (x := (b, c * szOf P e, szOf P e)) (.inl hnone)
                have key := hS.write (i := b0) (bl' := .row (szOf P e) ag1 (cds ++ new)) (w' := w') (b := b) (x := (_, _)) (x' := (c * szOf P e, szOf P e)) (by rw [hg]; rfl) (by rw [hg]; exact hb) rfl (fun sz' ag' ds hd k x hk => by
                  cases hd
                  have := hS.ver b0 _ _ cds hg _ _ hk
                  simp
                  omega) (.inl hnone) s2.os s2.tape s2.output s2.size s2.other ?_
                · refine ⟨_, w', _, hr, key.1, key.2, ?_⟩
                  refine .own _ _ _ b c _ (szOf P e) ?_ rfl hroom
                  rw [← hnl]
                  have := Rn.set_same ρ b0 (Blk.row (szOf P e) ag1 (cds ++ new)).n (b, c * szOf P e, szOf P e)
                  simpa [Blk.n] using this
                · have hw := wrote_app (a6.mono (.refl _) hle) rx.1 (fun j d hj => by obtain ⟨u, q1, q2, q3⟩ := rx' j d hj; exact ⟨u, q1, q2, q3.mono (.refl _) hle⟩) (by rw [hlN] at hfit; exact hfit)
                  rw [hlN] at s2
                  exact ⟨b, c * szOf P e, _, el', fz, Rn.set_same _ _ _ _, a2, s2.at_, by rw [wrote_size, a4, hc], by rw [hlN] at hfit; simp; omega, hw, fun j hj => a7 j (by rw [wrote_size] at hj; exact hj)⟩
              · -- a new row
                have ro : Whole h ρ (ccs.extract 0 (0 + cds.length)) cds := a6.whole (by omega)
                have hfo : ∀ w1 : World, w1.heap = w.heap → (Builtin.firstCells i.size len (.slice (some ⟨b, 0, none⟩) len c)).run P w1 = .ok (ccs.extract 0 (0 + cds.length)) w1 := by
                  intro w1 hw
                  show (loadCells ⟨b, 0, none⟩ (len * i.size)).run P w1 = _
                  unfold loadCells
                  rw [hsize, hlN, run_loadCells (by rw [hw]; exact a3) _ _ _ (by omega)]
                  simp
                have hr := run_app_grow (ty := ty') ht hu hi hzv (some ⟨b, 0, none⟩) len c n vx _ arr (hlx w) (hfo w.drew rfl) (hfx w.drew rfl) (by omega) (by omega) (growslice_fits (by omega) (by rw [hbytes]; omega))
                have hge := grown_ge w (len + n) c e hneed
                obtain ⟨ρ', k1, k2, k3⟩ := hS.grow_move (e := e) (len := len + n) (nc := grownCap w (len + n) c e) (rest := Builtin.zeroCells zv.cells (grownCap w (len + n) c e - (len + n))) hg (by
                    intro hnil
                    rw [hnil] at hnl
                    have := Nat.mul_pos (show 0 < n by omega) hp
                    simp at hnl
                    omega) ro rx (by
                    have h1 := ro.1
                    have h2 := rx.1
                    rw [← hlN] at h1
                    rw [← hsize] at h1 ⊢
                    simp only [Array.size_append, Builtin.zeroCells, Array.size_map, Array.size_range, hzs, h2, hlen]
                    rw [show (ccs.extract 0 (0 + cds.length)).size = len * i.size from by rw [← h1, ← hlN, hsize]]
                    rw [← Nat.add_mul, ← Nat.add_mul]
                    congr 1
                    omega) hge
                refine ⟨_, _, ρ', hr, k1, k2, ?_⟩
                rw [← hnl, ← List.length_append]
                exact k3
            · rename_i hlN
              split at ea
              · rename_i hle
                cases ea
                have hroom : len + n ≤ c := by
                  have h1 : (len + n) * szOf P e ≤ c * szOf P e := by omega
                  exact Nat.le_of_mul_le_mul_right h1 hp
                have hfit : len * szOf P e + new.length ≤ cds.length := by rw [hnl, ← Nat.add_mul]; exact hle
                obtain ⟨w', s1, s2⟩ := hstore len (by omega)
                have hr := run_app_room (ty := ty') ht hu hi ⟨b, 0, none⟩ len c n vx arr w' (hlx w) (hfx w rfl) hroom (by rw [hsize, Addr.add_lit, Nat.zero_add]; exact s1)
                have hlen' : (splice cds (len * szOf P e) new).length = cds.length := splice_len hfit
                have hsm : ρ b0 (Blk.row (szOf P e) ag1 (splice cds (len * szOf P e) new)).n = some (b, cs, szOf P e) := by
                  simp only [Blk.n, hlen']
                  exact hb
                have key := hS.write (i := b0) (bl' := .row (szOf P e) ag1 (splice cds (len * szOf P e) new)) (w' := w') (b := b) (x := (_, _)) (x' := (cs, szOf P e)) (by rw [hg]; rfl) (by rw [hg]; exact hb) rfl (fun sz' ag' ds hd k x hk => by
                  cases hd
                  have := hS.ver b0 _ _ cds hg _ _ hk
                  omega) (.inr hsm) s2.os s2.tape s2.output s2.size s2.other ?_
                · rw [Rn.set_id hsm] at key
                  exact ⟨_, w', ρ, hr, .refl _, key.2, .own _ _ _ b c _ _ hb hc hroom⟩
                · rw [Rn.set_id hsm]
                  have hw := wrote_row a6 rx.1 rx' hfit (by omega)
                  exact ⟨b, _, _, el', fz, by rw [hlen']; exact hb, a2, s2.at_, by rw [wrote_size, a4], by omega, hw, fun j hj => a7 j (by rw [wrote_size] at hj; exact hj)⟩
              · cases ea
        · cases ea
      · cases ea
    · cases ea
end
end Go.Lv
