/- LvF: the operations that read. -/
import Derived.Test.YtmpbkkfkkbdndaaDoorLvE
namespace Go.Lv
open Go
set_option linter.unusedVariables false
set_option linter.unusedSimpArgs false
section
variable {P : Program} {w0 : World} {M0 : Nat → Prop} {hI h : Gh} {ρ : Rn} {H : Hp} {w : World}

theorem run_un {op : UnOp} {x : D} {vx : Value} {d : D} (hx : RelV h ρ x vx) (e : dUn op x = some d) : ∃ v, (Op.unary op vx).run P w = .ok v w ∧ RelV h ρ d v := by
  cases op <;> cases x <;> simp only [dUn] at e <;> first
    | (cases e; done)
    | (cases e; cases hx; exact ⟨_, rfl, .int _ _⟩)
    | (cases e; cases hx; exact ⟨_, rfl, .bool _⟩)

theorem fi_spec {t : TypeId} {i : Nat} {f : FI} (hf : (ty P t).fi i = some f) : ∃ fa fd, P.underlying t = some (.struct fa) ∧ fa[i]? = some fd ∧ f.off = fd.offset ∧ f.sz = szOf P fd.type ∧ f.ag = isAg P fd.type := by
  unfold Ty.fi at hf
  split at hf
  · rename_i fs ht
    obtain ⟨fa, hu, rfl⟩ := ty_struct ht
    rw [List.getElem?_map] at hf
    cases hfa : fa.toList[i]? with
    | none => simp [hfa] at hf
    | some fd =>
      simp only [hfa, Option.map_some, Option.some.injEq] at hf
      subst hf
      exact ⟨fa, fd, hu, by simpa using hfa, rfl, rfl, rfl⟩
  · cases hf

theorem run_field {t : TypeId} {i : Nat} {x : D} {vx : Value} {d : D} (hx : RelV h ρ x vx) (e : dField ((ty P t).fi i) x = some d) : ∃ v, (Instr.field t vx i).run P w = .ok v w ∧ RelV h ρ d v := by
  unfold dField at e
  split at e
  · rename_i f cs hf
    obtain ⟨fa, fd, hu, hfd, h1, h2, h3⟩ := fi_spec hf
    cases hx with | agg _ vs hs hone us hu' hr =>
    have rx : Row h ρ vs 0 cs := fun j d hj => ⟨us j, by simpa using hu' j (List.getElem?_eq_some_iff.1 hj).1, hone _ _ (hu' j (List.getElem?_eq_some_iff.1 hj).1), hr j d hj⟩
    rw [h1, h2, h3] at e
    obtain ⟨v, hv, rv⟩ := run_partD (P := P) (w := w) rx e
    refine ⟨v, ?_, rv⟩
    rw [Nat.zero_add] at hv
    simp [Instr.field, run_underlying hu, hfd, asAgg, hv]
  · cases e

theorem run_fieldAt {t : TypeId} {i : Nat} {x : D} {vx : Value} {d : D} (hx : RelV h ρ x vx) (e : dFieldA ((ty P t).fi i) x = some d) : ∃ v, (Instr.fieldAt t vx i).run P w = .ok v w ∧ RelV h ρ d v := by
  unfold dFieldA at e
  split at e
  · rename_i f cs off hf
    split at e
    · cases e
    · rename_i hz
      cases e
      obtain ⟨fa, fd, hu, hfd, h1, h2, h3⟩ := fi_spec hf
      cases hx with | «at» _ _ b o o' cs' el fz us hb ho hc hone hr =>
      refine ⟨.pointer (some ⟨b, o' + f.off, none⟩), ?_, .at cs _ b o _ cs' el fz us hb (by omega) hc hone hr⟩
      have := run_sizeOf' (P := P) (w := w) (t := fd.type) (by omega)
      simp [Instr.fieldAt, run_underlying hu, hfd, Instr.sureAddr, fieldPlace, this, ← h2, hz, Addr.add_lit, h1]
  · rename_i f b0 off n hf
    split at e
    · cases e
    · rename_i hz
      cases e
      obtain ⟨fa, fd, hu, hfd, h1, h2, h3⟩ := fi_spec hf
      cases hx with | ptr _ _ _ b c s hb =>
      refine ⟨.pointer (some ⟨b, off + f.off, none⟩), ?_, .ptr _ _ _ b c s hb⟩
      have := run_sizeOf' (P := P) (w := w) (t := fd.type) (by omega)
      simp [Instr.fieldAt, run_underlying hu, hfd, Instr.sureAddr, fieldPlace, this, ← h2, hz, Addr.add_lit, h1]
  · cases e

theorem flat_get {xs : List D} {sz : Nat} (hsz : ∀ x ∈ xs, x.cells.length = sz) : ∀ {i : Nat} {x : D}, xs[i]? = some x → ∀ j d, x.cells[j]? = some d → (xs.flatMap D.cells)[i * sz + j]? = some d := by
  induction xs with
  | nil => intro i x hx; simp at hx
  | cons a l ih =>
    intro i x hx j d hj
    simp only [List.flatMap_cons]
    have ha := hsz a (by simp)
    cases i with
    | zero =>
      simp only [List.getElem?_cons_zero, Option.some.injEq] at hx
      subst hx
      have hlt := (List.getElem?_eq_some_iff.1 hj).1
      rw [List.getElem?_append_left (by omega)]
      simpa using hj
    | succ i =>
      rw [List.getElem?_append_right (by rw [ha, Nat.succ_mul]; omega)]
      have := ih (fun x hx => hsz x (by simp [hx])) (i := i) (x := x) (by simpa using hx) j d hj
      rw [ha]
      rw [show (i + 1) * sz + j - sz = i * sz + j from by rw [Nat.succ_mul]; omega]
      exact this

theorem flat_len {xs : List D} {sz : Nat} (hsz : ∀ x ∈ xs, x.cells.length = sz) : (xs.flatMap D.cells).length = xs.length * sz := by
  induction xs with
  | nil => simp
  | cons a l ih =>
    simp only [List.flatMap_cons, List.length_append, List.length_cons]
    rw [ih (fun x hx => hsz x (by simp [hx])), hsz a (by simp), Nat.succ_mul]
    omega

theorem run_idxS {t el : TypeId} (hu : P.underlying t = some (.slice el)) (hp : 0 < szOf P el) (b off len c : Nat) (k : IntKind) (n : Int) (h0 : 0 ≤ n) (h1 : n < len) :
    (Instr.indexAt t (.slice (some ⟨b, off, none⟩) len c) (.int k n)).run P w = .ok (.pointer (some ⟨b, off + n.toNat * szOf P el, none⟩)) w := by
  simp only [Instr.indexAt, asIntOf, Sem.run_bind, Sem.run_pure, Result.andThen_ok, run_underlying hu, Sem.run_ite, run_sizeOf' hp, Addr.add_lit, if_pos (show 0 ≤ n ∧ n < len from ⟨h0, h1⟩)]
theorem run_idxArr {t el : TypeId} {m : Nat} (hu : P.underlying t = some (.array m el)) (hp : 0 < szOf P el) (b off : Nat) (k : IntKind) (n : Int) (h0 : 0 ≤ n) (h1 : n < m) :
    (Instr.indexAt t (.pointer (some ⟨b, off, none⟩)) (.int k n)).run P w = .ok (.pointer (some ⟨b, off + n.toNat * szOf P el, none⟩)) w := by
  simp only [Instr.indexAt, Instr.sureAddr, asIntOf, Sem.run_bind, Sem.run_pure, Result.andThen_ok, run_underlying hu, Sem.run_ite, run_sizeOf' hp, Addr.add_lit, if_pos (show 0 ≤ n ∧ n < m from ⟨h0, h1⟩)]

theorem run_indexAt {t : TypeId} {x i : D} {vx vi : Value} {d : D} (hx : RelV h ρ x vx) (hi : RelV h ρ i vi) (e : dIdxA (ty P t) x i = some d) : ∃ v, (Instr.indexAt t vx vi).run P w = .ok v w ∧ RelV h ρ d v := by
  unfold dIdxA at e
  split at e
  · rename_i el sz bytes ag tt xs k n ht
    obtain ⟨hu, rfl, _, _⟩ := ty_slice ht
    cases hi
    split at e
    · rename_i h0
      obtain ⟨h0, hp⟩ := h0
      split at e
      · rename_i dx hdx
        split at e
        · rename_i hcl
          cases e
          cases hx with
          | lnil t a c ht => simp at hdx
          | list t _ b off n' c sz' cs el' fz us hx hn hlen ht hsz hcl' hcc hb hc ho hr =>
            have hlt : n.toNat < xs.length := (List.getElem?_eq_some_iff.1 hdx).1
            have hs' : sz' = szOf P el := by rw [← hcl]; exact (hsz dx (List.mem_of_getElem? hdx)).symm
            subst hs'
            have hg := flat_get hsz hdx
            refine ⟨_, run_idxS hu hp b off n' c k n h0 (by omega), ?_⟩
            refine .at _ 0 b (off + n.toNat * szOf P el) _ cs el' fz (fun j => us (n.toNat * szOf P el + j)) hb rfl (fun j hj => ?_) (fun j hj => ?_) (fun j d hj => ?_)
            · have h2 := hg j _ (List.getElem?_eq_getElem hj)
              rw [Nat.add_assoc]
              exact hc _ (List.getElem?_eq_some_iff.1 h2).1
            · have h2 := hg j _ (List.getElem?_eq_getElem hj)
              exact ho _ (List.getElem?_eq_some_iff.1 h2).1
            · exact hr _ _ (hg j d hj)
        · cases e
      · cases e
    · cases e
  · rename_i el sz bytes ag b0 len N k n ht
    obtain ⟨hu, rfl, _, _⟩ := ty_slice ht
    cases hi
    split at e
    · rename_i hh
      cases e
      cases hx with | own _ _ _ b c cs sz hb hc hl =>
      exact ⟨_, run_idxS hu hh.2.2 b 0 len c k n hh.1 hh.2.1, by rw [Nat.zero_add]; exact .ptr _ _ _ b cs sz hb⟩
    · cases e
  · rename_i el sz bytes ag b0 off len N k n ht
    obtain ⟨hu, rfl, _, _⟩ := ty_slice ht
    cases hi
    split at e
    · rename_i hh
      cases e
      cases hx with | asl _ _ _ _ b o c cs sz hb hl ho =>
      obtain rfl := ho (by omega)
      exact ⟨_, run_idxS hu hh.2.2 b o len c k n hh.1 hh.2.1, .ptr _ _ _ b cs sz hb⟩
    · cases e
  · rename_i m sz ag b0 off N k n ht
    obtain ⟨el, hu, rfl, _⟩ := ty_arr ht
    cases hi
    split at e
    · rename_i hh
      cases e
      cases hx with | ptr _ _ _ b c s hb =>
      exact ⟨_, run_idxArr hu hh.2.2 b off k n hh.1 hh.2.1, .ptr _ _ _ b c s hb⟩
    · cases e
  · rename_i m sz ag cs off k n ht
    obtain ⟨el, hu, rfl, _⟩ := ty_arr ht
    cases hi
    split at e
    · rename_i hh
      cases e
      cases hx with | «at» _ _ b o o' cs' el' fz us hb ho hc hone hr =>
      exact ⟨_, run_idxArr hu hh.2.2 b o' k n hh.1 hh.2.1, .at cs _ b o _ cs' el' fz us hb (by omega) hc hone hr⟩
    · cases e
  · cases e

theorem run_index {t : TypeId} {x i : D} {vx vi : Value} {d : D} (hx : RelV h ρ x vx) (hi : RelV h ρ i vi) (e : dIdx (ty P t) x i = some d) : ∃ v, (Instr.index t vx vi).run P w = .ok v w ∧ RelV h ρ d v := by
  unfold dIdx at e
  split at e
  · rename_i s k n ht
    have hu := ty_str ht
    cases hi
    cases hx with | str _ s1 e1 =>
    subst e1
    split at e
    · rename_i h0
      split at e
      · rename_i b hb
        cases e
        refine ⟨.int .u8 b.toNat, ?_, .int _ _⟩
        have hlt : n.toNat < s1.size := by have := (List.getElem?_eq_some_iff.1 hb).1; simpa using this
        have hg : s1[n.toNat]? = some b := by
          rw [ByteArray.getElem?_lt' _ _ hlt]
          have := (List.getElem?_eq_some_iff.1 hb).2
          rw [← this]
          rfl
        simp only [Instr.index, asIntOf, Sem.run_bind, Sem.run_pure, Result.andThen_ok, run_underlying hu, if_pos h0, hg]
      · cases e
    · cases e
  · rename_i m sz ag cs k n ht
    obtain ⟨el, hu, hsz, hag⟩ := ty_arr ht
    subst hsz hag
    cases hi
    split at e
    · rename_i hh
      cases hx with | agg _ vs hs hone us hu' hr =>
      have rx : Row h ρ vs 0 cs := fun j d hj => ⟨us j, by simpa using hu' j (List.getElem?_eq_some_iff.1 hj).1, hone _ _ (hu' j (List.getElem?_eq_some_iff.1 hj).1), hr j d hj⟩
      obtain ⟨v, hv, rv⟩ := run_partD (P := P) (w := w) rx e
      refine ⟨v, ?_, rv⟩
      rw [Nat.zero_add] at hv
      have hp : 0 < szOf P el := by
        unfold part at e
        split at e
        · rename_i h1; exact h1.2.1
        · cases e
      simp only [Instr.index, asIntOf, Sem.run_bind, Sem.run_pure, Result.andThen_ok, run_underlying hu, Sem.run_ite, run_sizeOf' hp, if_pos (show 0 ≤ n ∧ n < m from hh), hv]
    · cases e
  · cases e

theorem getElem?_ofFn_toArray {α : Type} (l : List α) (j : Nat) : l.toArray[j]? = l[j]? := by simp

/-- Loading n cells. -/
theorem run_loadCells {cs : Array Value} {el : TypeId} {fz : Nat × Nat} {b off : Nat} (hb : w.heap[b]? = some (.cells cs el fz)) : ∀ (n i : Nat) (acc : Array Value), off + i + n ≤ cs.size →
    (loadCellsFrom ⟨b, off, none⟩ i n acc).run P w = .ok (acc ++ cs.extract (off + i) (off + i + n)) w
  | 0, i, acc, hle => by simp [loadCellsFrom]; omega
  | n + 1, i, acc, hle => by
    have hc : w.cell? ⟨b, off + i, none⟩ = some cs[off + i] := by
      simp only [World.cell?, hb]
      simp
    simp only [loadCellsFrom, Sem.run_bind, Addr.add_lit, run_load, hc, Result.andThen_ok]
    rw [run_loadCells hb n (i + 1) _ (by omega)]
    congr 1
    rw [Array.push_eq_append, Array.append_assoc]
    congr 1
    rw [show off + (i + 1) = (off + i) + 1 from by omega]
    apply Array.ext
    · simp; omega
    · intro j hj hj'
      simp only [Array.getElem_append, Array.getElem_extract]
      split
      · rename_i hlt
        have : j = 0 := by simpa using hlt
        subst this
        simp
      · rename_i hlt
        simp only [List.size_toArray, List.length_cons, List.length_nil] at hlt ⊢
        congr 1
        omega

theorem run_loadVar {t : TypeId} {ds : List D} {cs : Array Value} {el : TypeId} {fz : Nat × Nat} {b off0 off : Nat} {d : D} (hb : w.heap[b]? = some (.cells cs el fz)) (r : Row h ρ cs off0 ds)
    (e : part (isAg P t) ds off (szOf P t) = some d) : ∃ v, (loadVar t ⟨b, off0 + off, none⟩).run P w = .ok v w ∧ RelV h ρ d v := by
  have e' := e
  unfold part at e
  split at e
  · rename_i hh
    obtain ⟨hle, hp, hag⟩ := hh
    cases ha : isAg P t
    · simp only [ha, Bool.false_eq_true, false_or, if_false, Option.some.injEq] at hag e
      subst e
      have hlt : off < ds.length := by omega
      obtain ⟨u, a, _, c⟩ := r off ds[off] (by simp)
      have hc : w.cell? ⟨b, off0 + off, none⟩ = some u := by simp only [World.cell?, hb]; simpa using a
      refine ⟨u, ?_, ?_⟩
      · simp only [loadVar, Sem.run_bind, run_isAgg' hp, ha, Result.andThen_ok, Bool.false_eq_true, if_false, run_load, hc]
      · rw [nth_get, List.getElem?_eq_getElem hlt]
        exact c
    · simp only [ha, if_true, Option.some.injEq] at e
      subst e
      have r2 := ((r.drop off).take (szOf P t)).agg
      have hl : ((ds.drop off).take (szOf P t)).length = szOf P t := by simp; omega
      rw [hl] at r2
      have hbd : off0 + off + szOf P t ≤ cs.size := by
        obtain ⟨u, a, _⟩ := r (off + szOf P t - 1) ds[off + szOf P t - 1] (by simp)
        have := (Array.getElem?_eq_some_iff.1 a).1
        omega
      refine ⟨_, ?_, r2⟩
      simp only [loadVar, Sem.run_bind, run_isAgg' hp, ha, Result.andThen_ok, if_true, run_sizeOf' hp, loadCells]
      rw [run_loadCells hb _ _ _ (by omega)]
      simp
  · cases e

theorem cellsOf_some {i n : Nat} {cs : List D} (e : cellsOf H i n = some cs) : (hget H i).isC = true ∧ (hget H i).cs = cs ∧ cs.length = n := by
  simp only [cellsOf] at e
  split at e
  · rename_i hh
    simp only [Bool.and_eq_true, beq_iff_eq] at hh
    cases e
    exact ⟨hh.1, rfl, hh.2⟩
  · cases e

/-- Where a block's cells lie. -/
theorem Sim.at (hS : Sim w0 M0 hI h ρ H w) {i n : Nat} {ds : List D} (e : cellsOf H i n = some ds) : ∃ b c s cs el fz, ρ i n = some (b, c, s) ∧ w.heap[b]? = some (.cells cs el fz) ∧ Row h ρ cs 0 ds := by
  obtain ⟨h1, h2, h3⟩ := cellsOf_some e
  have hb := hS.blk i
  cases hg : hget H i with
  | var l =>
    rw [hg] at hb h2
    simp only [Blk.cs] at h2
    subst h2 h3
    obtain ⟨b, c, s, cs, el, fz, a1, a2, a3, a4, a5, a6, a7⟩ := hb
    exact ⟨b, c, s, cs, el, fz, a1, a3, a6⟩
  | row sz ag l =>
    rw [hg] at hb h2
    simp only [Blk.cs] at h2
    subst h2 h3
    obtain ⟨b, c, cs, el, fz, a1, a2, a3, a4, a5, a6, a7⟩ := hb
    exact ⟨b, c, sz, cs, el, fz, a1, a3, a6⟩
  | frz sz ag l =>
    rw [hg] at hb h2
    simp only [Blk.cs] at h2
    subst h2 h3
    obtain ⟨b, c, s, cs, el, fz, a1, a2, a3⟩ := hb
    exact ⟨b, c, s, cs, el, fz, a1, hS.imm _ _ a2, a3⟩
  | iter s p => rw [hg] at h1; cases h1
  | dead => rw [hg] at h1; cases h1

theorem run_loadAt (hS : Sim w0 M0 hI h ρ H w) {t : TypeId} {x : D} {vx : Value} {d : D} (hx : RelV h ρ x vx) (e : dLoad (ty P t) (szOf P t) H x = some d) : ∃ v, (Instr.loadAt t vx).run P w = .ok v w ∧ RelV h ρ d v := by
  have hag : (ty P t).isA = isAg P t := by
    unfold ty isAg
    cases P.underlying t with
    | none => rfl
    | some d => cases d <;> rfl
  unfold dLoad at e
  rw [hag] at e
  split at e
  · rename_i cs off
    cases hx with | «at» _ _ b o o' cs' el' fz us hb ho hc hone hr =>
    subst ho
    have rx : Row h ρ cs' o cs := fun j d hj => ⟨us j, hc j (List.getElem?_eq_some_iff.1 hj).1, hone j (List.getElem?_eq_some_iff.1 hj).1, hr j d hj⟩
    obtain ⟨v, hv, rv⟩ := run_loadVar (P := P) (hS.imm _ _ hb) rx e
    exact ⟨v, by simp [Instr.loadAt, Instr.sureAddr, hv], rv⟩
  · rename_i i off n
    split at e
    · rename_i ds hds
      cases hx with | ptr _ _ _ b c s hb =>
      obtain ⟨b', c', s', cs, el, fz, hb', hw, r⟩ := hS.at hds
      rw [hb] at hb'
      cases hb'
      obtain ⟨v, hv, rv⟩ := run_loadVar (P := P) hw r e
      rw [Nat.zero_add] at hv
      exact ⟨v, by simp [Instr.loadAt, Instr.sureAddr, hv], rv⟩
    · cases e
  · cases e
end
end Go.Lv
