/- LvN: each operation that is no call of a function does what its data's does. -/
import Derived.Test.YtmpbkkfkkbdndaaDoorLvM
namespace Go.Lv
open Go
set_option linter.unusedVariables false
set_option linter.unusedSimpArgs false
section
variable {P : Program} {w0 : World} {M0 : Nat → Prop} {hI h : Gh} {ρ : Rn} {H : Hp} {w : World}

theorem Out.mem {d : D} {v : Value} {w' : World} {H' : Hp} {s : Sem Value} {h' : Gh} {ρ' : Rn} (hr : s.run P w = .ok v w') (hh : GLe h h') (hρ : RLe ρ ρ') (hS : Sim w0 M0 hI h' ρ' H' w') (hv : RelV h' ρ' d v) :
    Out w0 M0 hI h ρ H' d ((do pure (Next.value (← s)) : Sem Next).run P w) := ⟨v, w', h', ρ', .inl (by rw [run_v, hr]; rfl), hh, hρ, hS, hv⟩

theorem map_eq {x : Option D} {H : Hp} {d : D} {H' : Hp} (e : x.map (·, H) = some (d, H')) : x = some d ∧ H' = H := by
  cases x with
  | none => cases e
  | some y => simp at e; exact ⟨by rw [e.1], e.2.symm⟩

theorem orel {α : Operand → D} {β : Operand → Value} (x : Option Operand) (hx : ∀ y, x = some y → RelV h ρ (α y) (β y)) : ORel h ρ (x.map α) (x.map β) := by
  cases x with
  | none => trivial
  | some y => exact hx y rfl

theorem RelV.fnMap {α : Operand → D} {β : Operand → Value} {f : Fn} {first cap : Array Operand} (h1 : ∀ x ∈ first.toList, RelV h ρ (α x) (β x)) (h2 : ∀ x ∈ cap.toList, RelV h ρ (α x) (β x)) :
    RelV h ρ (.fn f (first.toList.map α) (cap.toList.map α)) (.func f (first.map β) (cap.map β)) := by
  have key : ∀ (l : Array Operand), (∀ x ∈ l.toList, RelV h ρ (α x) (β x)) → (∀ j, j < (l.toList.map α).length → (l.map β)[j]? = some ((l.map β).getD j undef)) ∧ (∀ j d, (l.toList.map α)[j]? = some d → RelV h ρ d ((l.map β).getD j undef)) := by
    intro l hl
    refine ⟨fun j hj => ?_, fun j d hj => ?_⟩
    · simp at hj
      rw [Array.getD_eq_getD_getElem?]
      simp [hj]
    · rw [List.getElem?_map] at hj
      cases hx : l.toList[j]? with
      | none => simp [hx] at hj
      | some x =>
        simp only [hx, Option.map_some, Option.some.injEq] at hj
        subst hj
        rw [Array.getD_eq_getD_getElem?]
        have : l[j]? = some x := by simpa using hx
        simp [this]
        exact hl x (List.mem_of_getElem? hx)
  exact .fn f _ _ _ _ _ _ (by simp) (by simp) (key first h1).1 (key cap h2).1 (key first h1).2 (key cap h2).2

theorem parts_rel {α : Operand → D} {β : Operand → Value} {parts : Array (Nat × Operand)} (hp : ∀ x ∈ parts.toList, RelV h ρ (α x.2) (β x.2)) :
    (parts.toList.map fun (x : Nat × Operand) => (x.1, α x.2)).map (·.1) = (parts.map fun (x : Nat × Operand) => (x.1, β x.2)).toList.map (·.1) ∧
    ∀ (j : Nat) (x : Nat × D) (y : Nat × Value), (parts.toList.map fun (x : Nat × Operand) => (x.1, α x.2))[j]? = some x → (parts.map fun (x : Nat × Operand) => (x.1, β x.2)).toList[j]? = some y → RelV h ρ x.2 y.2 := by
  refine ⟨by simp [Function.comp_def], fun j x y hx hy => ?_⟩
  rw [Array.toList_map, List.getElem?_map] at hy
  rw [List.getElem?_map] at hx
  cases hz : parts.toList[j]? with
  | none => simp [hz] at hx
  | some z =>
    simp only [hz, Option.map_some, Option.some.injEq] at hx hy
    subst hx hy
    exact hp z (List.mem_of_getElem? hz)

theorem ty_iface_ok {t : TypeId} (h1 : ty P t ≠ .iface) (h2 : ty P t ≠ .other) : ∃ d, P.underlying t = some d ∧ ∀ ms, d ≠ .interface ms := by
  unfold ty at *
  cases hu : P.underlying t with
  | none => simp [hu] at h2
  | some d => exact ⟨d, rfl, fun ms e => by subst e; simp [hu] at h1⟩

theorem run_lenB {t ty' : TypeId} {x : D} {vx : Value} {d : D} (hx : RelV h ρ x vx) (e : dLen (ty P t) x = some d) : ∃ v, (Builtin.len_ #[t] ty' #[vx]).run P w = .ok v w ∧ RelV h ρ d v := by
  unfold dLen at e
  split at e
  · rename_i s ht
    cases e
    cases hx with | str _ s1 e1 =>
    subst e1
    exact ⟨_, by simp [Builtin.len_, run_underlying (ty_str ht), goInt], .int _ _⟩
  · rename_i el sz bytes ag tt xs ht
    cases e
    obtain ⟨a, n, c, rfl, hn, _⟩ := hx.list_inv
    subst hn
    exact ⟨_, by simp [Builtin.len_, run_underlying (ty_slice ht).1, goInt], .int _ _⟩
  · rename_i el sz bytes ag i len N ht
    cases e
    cases hx
    exact ⟨_, by simp [Builtin.len_, run_underlying (ty_slice ht).1, goInt], .int _ _⟩
  · rename_i el sz bytes ag i off len N ht
    cases e
    cases hx
    exact ⟨_, by simp [Builtin.len_, run_underlying (ty_slice ht).1, goInt], .int _ _⟩
  · rename_i n sz ag ht
    cases e
    obtain ⟨el, hu, _⟩ := ty_arr ht
    exact ⟨_, by simp [Builtin.len_, run_underlying hu, goInt], .int _ _⟩
  · cases e

theorem run_app0 (hS : Sim w0 M0 hI h ρ H w) {t u ty' e : TypeId} {k : IntKind} {xs : List D} {vs : Value} {n : Int} {d : D} {H' : Hp} (ht : P.underlying t = some (.slice e)) (hu : P.underlying u = some (.int k))
    (hz : (zcells P e).length = szOf P e) (hs : RelV h ρ (.list true xs) vs) (hn : 0 < n) (ea : dAppend H (szOf P e) (P.bytesOf e) (isAg P e) (.list true xs) n.toNat (rep n.toNat (zcells P e)) = some (d, H')) :
    ∃ v w' ρ', (Builtin.append_ #[t, u] ty' #[vs, .int .i64 n]).run P w = .ok v w' ∧ RLe ρ ρ' ∧ Sim w0 M0 hI h ρ' H' w' ∧ RelV h ρ' d v := by
  obtain ⟨n, rfl⟩ := Int.eq_ofNat_of_zero_le (show 0 ≤ n by omega)
  simp only [Int.toNat_natCast] at ea
  unfold dAppend at ea
  split at ea
  · cases ea
  · rename_i hchk
    simp only [Bool.and_eq_true, decide_eq_true_eq, beq_iff_eq, Bool.not_eq_true', Bool.not_eq_false] at hchk
    obtain ⟨⟨hp, hb0⟩, hnl⟩ := hchk
    obtain ⟨i, zv, hi, hzv, rz⟩ := zcells_spec (h := h) (ρ := ρ) (P := P) (t := e) (by omega)
    have hsize := cells_pos hp hi
    have hbytes : i.bytes = P.bytesOf e := by simp [Program.bytesOf, hi]
    have hzs : zv.cells.size = i.size := by rw [rz.1, hz, hsize]
    have rx := zeroCells_whole (by omega) rz n
    simp only at ea
    rw [if_neg (by omega)] at ea
    split at ea
    · rename_i hh
      simp only [Bool.and_eq_true, decide_eq_true_eq, Bool.true_and] at hh
      obtain ⟨hall, hbd⟩ := hh
      cases ea
      obtain ⟨a, m, c, rfl, hm, hmc, htt⟩ := hs.list_inv
      subst hm
      have hcm := htt rfl
      subst hcm
      obtain ⟨old, hfo, hlo, ro, hlo'⟩ := run_src (P := P) (n := xs.length) hS hs (by simp only [srcCells]; rw [if_pos hall]) rfl
      rw [← hsize] at hfo hlo'
      have hneed : xs.length + n < 2 ^ 63 := by
        have : xs.length + n ≤ (xs.length + n) * P.bytesOf e := Nat.le_mul_of_pos_right _ hb0
        omega
      have hnb : n * i.bytes ≤ 281474976710656 := by
        rw [hbytes]
        have : n * P.bytesOf e ≤ (xs.length + n) * P.bytesOf e := Nat.mul_le_mul_right _ (by omega)
        omega
      have hr := run_app0_grow (ty := ty') ht hu hi hzv hzs (by omega) a xs.length xs.length n old (hfo w.drew rfl) (by omega) (by omega) (by omega) hnb (growslice_fits (by omega) (by rw [hbytes]; omega))
      have hge := grown_ge w (xs.length + n) xs.length e hneed
      obtain ⟨ρ', k1, k2, k3⟩ := hS.grow_new (e := e) (ag := isAg P e) (sz := szOf P e) (len := xs.length + n) (need := xs.length + n) (nc := grownCap w (xs.length + n) xs.length e) (rest := Builtin.zeroCells zv.cells (grownCap w (xs.length + n) xs.length e - (xs.length + n))) ro rx (by
          have h1 := ro.1
          have h2 := rx.1
          rw [← hsize]
          simp only [Array.size_append, h1, h2, hlo', rep_len]
          simp only [Builtin.zeroCells, Array.size_map, Array.size_range, hzs, hz, hsize]
          rw [← Nat.add_mul, ← Nat.add_mul]
          congr 1
          omega) hge
      exact ⟨_, _, ρ', hr, k1, k2, k3⟩
    · cases ea

theorem asserts_true {t t' : TypeId} (h : asserts P t t' = some true) : ∃ want i, P.underlying t = some (.interface want) ∧ P.info? t' = some i ∧ Instr.missingMethod want i.methods = none := by
  unfold asserts at h
  split at h
  · rename_i want hu
    split at h
    · rename_i i hi
      split at h
      · rename_i hm
        exact ⟨want, i, hu, hi, by simpa using hm⟩
      · cases h
    · cases h
  · split at h <;> cases h
  · cases h
theorem asserts_false {t t' : TypeId} (h : asserts P t t' = some false) : ∃ u, P.underlying t = some u ∧ (∀ w, u ≠ .interface w) ∧ t' = t := by
  unfold asserts at h
  split at h
  · split at h
    · split at h <;> cases h
    · cases h
  · rename_i u hn hu
    split at h
    · rename_i he
      exact ⟨u, hu, fun w e => hn w e, he⟩
    · cases h
  · cases h
theorem RelV.tup2 {a b : D} {va vb : Value} (ha : RelV h ρ a va) (hb : RelV h ρ b vb) : RelV h ρ (.tup [a, b]) (.tuple #[va, vb]) := by
  refine .tup _ _ rfl (fun j => match j with | 0 => va | _ => vb) (fun j hj => ?_) (fun j d hj => ?_)
  · match j, hj with
    | 0, _ => rfl
    | 1, _ => rfl
  · match j, hj with
    | 0, hj => cases hj; exact ha
    | 1, hj => cases hj; exact hb


theorem aop_sound {o : Oper} {α : Operand → D} {β : Operand → Value} {d : D} {H' : Hp} (hS : Sim w0 M0 hI h ρ H w) (hT : ∀ x ∈ o.op.operands.toList, RelV h ρ (α x) (β x)) (e : aop P o.op α H = some (d, H')) :
    Out w0 M0 hI h ρ H' d ((execOp β o).run P w) := by
  unfold aop at e
  split at e
  · -- move
    rename_i x ho
    cases e
    rw [ho] at hT
    exact .same hS (v := β x) (by simp [execOp, ho]) (hT x (by simp [Op.operands]))
  · rename_i x ho
    cases e
    rw [ho] at hT
    exact .same hS (v := β x) (by simp [execOp, ho]) (hT x (by simp [Op.operands]))
  · rename_i c a b ho
    rw [ho] at hT
    have hc := hT c (by simp [Op.operands])
    have ha := hT a (by simp [Op.operands])
    have hb := hT b (by simp [Op.operands])
    split at e
    · rename_i t hct
      cases e
      rw [hct] at hc
      generalize hbc : β c = vc at hc
      cases hc
      refine .same hS (v := if t then β a else β b) (by simp [execOp, ho, hbc, asBool]) ?_
      cases t
      · exact hb
      · exact ha
    · cases e
  · rename_i op t x y yt ho
    obtain ⟨e1, rfl⟩ := map_eq e
    rw [ho] at hT
    obtain ⟨v, hv, rv⟩ := run_binT (P := P) (w := w) (xo := x) (yo := y) (hT x (by simp [Op.operands])) (hT y (by simp [Op.operands])) e1
    simp only [execOp, ho]
    exact .sem hS hv rv
  · rename_i op t x ho
    obtain ⟨e1, rfl⟩ := map_eq e
    rw [ho] at hT
    obtain ⟨v, hv, rv⟩ := run_un (P := P) (w := w) (hT x (by simp [Op.operands])) e1
    simp only [execOp, ho]
    exact .sem hS hv rv
  · rename_i t x i ho
    obtain ⟨e1, rfl⟩ := map_eq e
    rw [ho] at hT
    obtain ⟨v, hv, rv⟩ := run_indexAt (P := P) (w := w) (hT x (by simp [Op.operands])) (hT i (by simp [Op.operands])) e1
    simp only [execOp, ho]
    exact .sem hS hv rv
  · rename_i t x i ho
    obtain ⟨e1, rfl⟩ := map_eq e
    rw [ho] at hT
    obtain ⟨v, hv, rv⟩ := run_index (P := P) (w := w) (hT x (by simp [Op.operands])) (hT i (by simp [Op.operands])) e1
    simp only [execOp, ho]
    exact .sem hS hv rv
  · rename_i t x i ho
    obtain ⟨e1, rfl⟩ := map_eq e
    rw [ho] at hT
    obtain ⟨v, hv, rv⟩ := run_fieldAt (P := P) (w := w) (hT x (by simp [Op.operands])) e1
    simp only [execOp, ho]
    exact .sem hS hv rv
  · rename_i t x i ho
    obtain ⟨e1, rfl⟩ := map_eq e
    rw [ho] at hT
    obtain ⟨v, hv, rv⟩ := run_field (P := P) (w := w) (hT x (by simp [Op.operands])) e1
    simp only [execOp, ho]
    exact .sem hS hv rv
  · rename_i t a ho
    obtain ⟨e1, rfl⟩ := map_eq e
    rw [ho] at hT
    obtain ⟨v, hv, rv⟩ := run_loadAt (P := P) hS (hT a (by simp [Op.operands])) e1
    simp only [execOp, ho]
    exact .sem hS hv rv
  · -- store
    rename_i t a x ho
    rw [ho] at hT
    split at e
    · rename_i hp
      cases hs : dStore (szOf P t) H (α a) (α x) with
      | none => simp [hs] at e
      | some H1 =>
        simp only [hs, Option.map_some, Option.some.injEq, Prod.mk.injEq] at e
        obtain ⟨rfl, rfl⟩ := e
        obtain ⟨w', hr, hS'⟩ := run_storeAt hS hp (hT a (by simp [Op.operands])) (hT x (by simp [Op.operands])) hs
        refine ⟨undef, w', h, ρ, .inr ⟨?_, rfl⟩, .refl _, .refl _, hS', .und _⟩
        simp only [execOp, ho]
        rw [run_u, hr]
        rfl
    · cases e
  · rename_i t ho
    split at e
    · rename_i hz
      cases e
      obtain ⟨v, w', ρ', hr, h1, h2, h3⟩ := run_allocAt hS hz
      simp only [execOp, ho]
      exact .mem hr (.refl _) h1 h2 h3
    · cases e
  · rename_i t x ho
    rw [ho] at hT
    split at e
    · rename_i cs hcs
      cases e
      obtain ⟨v, w', ρ', hr, h1, h2, h3⟩ := run_boxAt (P := P) (t := t) hS (hT x (by simp [Op.operands])) hcs
      simp only [execOp, ho]
      exact .mem hr (.refl _) h1 h2 h3
    · cases e
  · rename_i t parts ho
    obtain ⟨e1, rfl⟩ := map_eq e
    rw [ho] at hT
    obtain ⟨p1, p2⟩ := parts_rel (parts := parts) (α := α) (β := β) (h := h) (ρ := ρ) (fun x hx => hT x.2 (by simp [Op.operands]; exact ⟨x.1, by simpa using hx⟩))
    obtain ⟨v, hv, rv⟩ := run_build (P := P) (w := w) p1 p2 e1
    simp only [execOp, ho]
    exact .sem hS hv rv
  · -- buildSlice
    rename_i t len parts ho
    rw [ho] at hT
    split at e
    · rename_i el sz bytes ag ht
      obtain ⟨hu, rfl, _, _⟩ := ty_slice ht
      split at e
      · rename_i hc
        split at e
        · rename_i cs hcs
          obtain ⟨p1, p2⟩ := parts_rel (parts := parts) (α := α) (β := β) (h := h) (ρ := ρ) (fun x hx => hT x.2 (by simp [Op.operands]; exact ⟨x.1, by simpa using hx⟩))
          obtain ⟨v, w', h', ρ', hr, h1, h2, h3, h4⟩ := run_sliceLit hS hu hc.1 hc.2.1 hc.2.2 p1 p2 hcs e
          simp only [execOp, ho]
          exact .mem hr h1 h2 h3 h4
        · cases e
      · cases e
    · cases e
  · -- makeSlice
    rename_i t l c ho
    rw [ho] at hT
    split at e
    · rename_i el sz bytes ag l1 c1 ht hl hc
      obtain ⟨hu, rfl, rfl, _⟩ := ty_slice ht
      split at e
      · rename_i hh
        cases e
        have r1 := hT l (by simp [Op.operands])
        have r2 := hT c (by simp [Op.operands])
        rw [hl] at r1
        rw [hc] at r2
        generalize hbl : β l = vl at r1
        generalize hbc : β c = vc at r2
        cases r1; cases r2
        obtain ⟨v, w', ρ', hr, k1, k2, k3⟩ := run_makeS (ag := ag) hS hu hh.1 hh.2.1 hh.2.2.1 hh.2.2.2.1 hh.2.2.2.2.1 hh.2.2.2.2.2
        simp only [execOp, ho, hbl, hbc]
        exact .mem hr (.refl _) k1 k2 k3
      · cases e
    · cases e
  · -- slice
    rename_i t x lo hi mx ho
    obtain ⟨e1, rfl⟩ := map_eq e
    rw [ho] at hT
    obtain ⟨v, hv, rv⟩ := run_slice (P := P) (w := w) (hT x (by simp [Op.operands])) (orel (α := α) (β := β) lo (fun y hy => hT y (by subst hy; simp [Op.operands]))) (orel (α := α) (β := β) hi (fun y hy => hT y (by subst hy; simp [Op.operands]))) (orel (α := α) (β := β) mx (fun y hy => hT y (by subst hy; simp [Op.operands]))) e1
    simp only [execOp, ho]
    exact .sem hS hv rv
  · -- extract
    rename_i x i ho
    rw [ho] at hT
    split at e
    · rename_i ds hds
      obtain ⟨e1, rfl⟩ := map_eq e
      have r := hT x (by simp [Op.operands])
      rw [hds] at r
      generalize hb : β x = vx at r
      cases r with | tup _ vs hs us hu hr =>
      have hlt := (List.getElem?_eq_some_iff.1 e1).1
      refine .same hS (v := us i) ?_ (hr i d e1)
      simp [execOp, ho, hb, Instr.extract, hu i hlt]
    · cases e
  · -- makeFunc
    rename_i f first cap ho
    cases e
    rw [ho] at hT
    refine .same hS (v := .func f (first.map β) (cap.map β)) (by simp [execOp, ho, Instr.makeFunc]) ?_
    exact .fnMap (fun x hx => hT x (by simp [Op.operands]; exact .inl (by simpa using hx))) (fun x hx => hT x (by simp [Op.operands]; exact .inr (by simpa using hx)))
  · -- makeInterface
    rename_i t x ho
    rw [ho] at hT
    split at e
    · cases e
    · cases e
    · rename_i n1 n2
      cases e
      obtain ⟨dd, hd, hni⟩ := ty_iface_ok (fun e => n1 e) (fun e => n2 e)
      refine .same hS (v := .iface t (β x)) ?_ (.iface _ _ _ (hT x (by simp [Op.operands])))
      simp only [execOp, ho, Instr.makeInterface]
      cases dd <;> first | exact absurd rfl (hni _) | simp [run_underlying hd]
  · -- nilCheck
    rename_i x ho
    rw [ho] at hT
    have r := hT x (by simp [Op.operands])
    split at e
    · rename_i i o' n hx
      cases e
      rw [hx] at r
      generalize hb : β x = vx at r
      cases r with | ptr _ _ _ b c s hbb =>
      exact .same hS (v := .pointer (some ⟨b, o', none⟩)) (by simp [execOp, ho, hb]) (.ptr _ _ _ b c s hbb)
    · rename_i cs o' hx
      cases e
      rw [hx] at r
      generalize hb : β x = vx at r
      have r' := r
      cases r with | «at» _ _ b o o2 cs' el fz us hbb hoo hc h1 hr =>
      exact .same hS (v := .pointer (some ⟨b, o2, none⟩)) (by simp [execOp, ho, hb]) r'
    · rename_i f a b hx
      cases e
      rw [hx] at r
      generalize hb : β x = vx at r
      have r' := r
      cases r with | fn _ _ _ fv cv us ws hs hs' hu hw hr hq =>
      exact .same hS (v := .func (.func f) fv cv) (by simp [execOp, ho, hb]) r'
    · cases e
  · -- convert
    rename_i s t x ho
    obtain ⟨e1, rfl⟩ := map_eq e
    rw [ho] at hT
    obtain ⟨v, hv, rv⟩ := run_convH (P := P) hS (hT x (by simp [Op.operands])) e1
    simp only [execOp, ho]
    exact .sem hS hv rv
  · -- typeAssert
    rename_i x xt t ok ho
    rw [ho] at hT
    have r := hT x (by simp [Op.operands])
    split at e
    · rename_i t' dd hx
      rw [hx] at r
      generalize hb : β x = vx at r
      have r' := r
      cases r with | iface _ _ v hr =>
      split at e
      · rename_i hab
        obtain ⟨want, i, hu, hi, hm⟩ := asserts_true hab
        cases e
        cases ok
        · exact .same hS (v := .iface t' v) (by simp [execOp, ho, hb, Instr.typeAssert, run_underlying hu, run_typeInfo hi, hm]) r'
        · exact .same hS (v := .tuple #[.iface t' v, .bool true]) (by simp [execOp, ho, hb, Instr.typeAssert, run_underlying hu, run_typeInfo hi, hm]) (RelV.tup2 r' (.bool true))
      · rename_i hab
        obtain ⟨u, hu, hn, rfl⟩ := asserts_false hab
        cases e
        cases ok
        · exact .same hS (v := v) (by cases u <;> first | exact absurd rfl (hn _) | simp [execOp, ho, hb, Instr.typeAssert, run_underlying hu]) hr
        · exact .same hS (v := .tuple #[v, .bool true]) (by cases u <;> first | exact absurd rfl (hn _) | simp [execOp, ho, hb, Instr.typeAssert, run_underlying hu]) (RelV.tup2 hr (.bool true))
      · cases e
    · cases e
  · -- range
    rename_i t x ho
    rw [ho] at hT
    split at e
    · rename_i s ht hx
      cases e
      have r := hT x (by simp [Op.operands])
      rw [hx] at r
      obtain ⟨v, w', ρ', hr, k1, k2, k3⟩ := run_rangeS (P := P) hS (ty_str ht) r
      simp only [execOp, ho]
      exact .mem hr (.refl _) k1 k2 k3
    · cases e
  · -- next
    rename_i it ho
    rw [ho] at hT
    split at e
    · rename_i i hx
      split at e
      · rename_i s pos hg
        have r := hT it (by simp [Op.operands])
        rw [hx] at r
        obtain ⟨v, w', hr, key⟩ := run_nextS (P := P) (ty' := o.type) hS r hg
        split at e
        · rename_i hlt
          cases e
          rw [if_pos hlt] at key
          simp only [execOp, ho]
          exact .mem hr (.refl _) (.refl _) key.1 key.2
        · rename_i hlt
          cases e
          rw [if_neg hlt] at key
          simp only [execOp, ho]
          exact .mem hr (.refl _) (.refl _) key.1 key.2
      · cases e
    · cases e
  · -- builtins
    rename_i b args argTypes ho
    rw [ho] at hT
    have hT' : ∀ x ∈ args.toList, RelV h ρ (α x) (β x) := fun x hx => hT x (by simp [Op.operands, Call.operands]; simpa using hx)
    have run1 : (execOp β o).run P w = (builtin b argTypes o.type (args.map fun | .const _ => true | _ => false) (args.map β)).run P w := by
      simp [execOp, ho, resolve, invoke]
      rfl
    rw [run1]
    split at e
    · rename_i x t ha ht
      obtain ⟨e1, rfl⟩ := map_eq e
      have ha' : args = #[x] := by rw [← Array.toArray_toList (xs := args), ha]
      have ht' : argTypes = #[t] := by rw [← Array.toArray_toList (xs := argTypes), ht]
      subst ha' ht'
      obtain ⟨v, hv, rv⟩ := run_lenB (P := P) (w := w) (ty' := o.type) (hT' x (by simp)) e1
      exact .sem hS (by simpa [builtin] using hv) rv
    · rename_i x t ha ht
      have ha' : args = #[x] := by rw [← Array.toArray_toList (xs := args), ha]
      have ht' : argTypes = #[t] := by rw [← Array.toArray_toList (xs := argTypes), ht]
      subst ha' ht'
      split at e
      · rename_i el sz bytes ag xs hty hx
        cases e
        have r := hT' x (by simp)
        rw [hx] at r
        generalize hb : β x = vx at r
        obtain ⟨a, n, c, rfl, hn, _, htt⟩ := r.list_inv
        subst hn
        exact .same hS (v := .int .i64 xs.length) (by simp [builtin, hb, Builtin.cap_, run_underlying (ty_slice hty).1, goInt, htt rfl]) (.int _ _)
      · cases e
    · rename_i s x t u ha ht
      have ha' : args = #[s, x] := by rw [← Array.toArray_toList (xs := args), ha]
      have ht' : argTypes = #[t, u] := by rw [← Array.toArray_toList (xs := argTypes), ht]
      subst ha' ht'
      have app : ∀ {el : TypeId} {sz bytes : Nat} {ag : Bool}, ty P t = .slice el sz bytes ag → notInt P u → (match dLenN (α x), srcCells H sz (α x) with
        | some n, some new => if (zcells P el).length = sz then dAppend H sz bytes ag (α s) n new else none
        | _, _ => none) = some (d, H') → Out w0 M0 hI h ρ H' d ((builtin .append #[t, u] o.type (#[s, x].map fun | .const _ => true | _ => false) (#[s, x].map β)).run P w) := by
        intro el sz bytes ag hty hu e
        obtain ⟨hut, rfl, rfl, rfl⟩ := ty_slice hty
        split at e
        · rename_i n new hn hnew
          split at e
          · rename_i hz
            obtain ⟨v, w', ρ', hr, k1, k2, k3⟩ := run_append (ty' := o.type) hS hut hu hz (hT' s (by simp)) (hT' x (by simp)) hnew hn e
            exact .mem (by simpa [builtin] using hr) (.refl _) k1 k2 k3
          · cases e
        · cases e
      split at e
      · rename_i e1 sz bytes ag e2 sz2 b2 ag2 hty hu
        exact app hty (.inl ⟨_, (ty_slice hu).1⟩) e
      · rename_i e1 sz bytes ag hty hu
        exact app hty (.inr (ty_str hu)) e
      · rename_i el sz bytes ag k hty hu
        split at e
        · rename_i n hx
          split at e
          · rename_i xs hsx
            split at e
            · rename_i hh
              obtain ⟨hut, rfl, rfl, rfl⟩ := ty_slice hty
              have r1 := hT' s (by simp)
              have r2 := hT' x (by simp)
              rw [hsx] at r1
              rw [hx] at r2
              generalize hbs : β s = vs at r1
              generalize hbx : β x = vx at r2
              cases r2
              obtain ⟨v, w', ρ', hr, k1, k2, k3⟩ := run_app0 (ty' := o.type) hS hut (ty_int hu) hh.2 r1 hh.1 e
              exact .mem (by simpa [builtin, hbs, hbx] using hr) (.refl _) k1 k2 k3
            · cases e
          · cases e
        · cases e
      · cases e
    · rename_i x y ha
      have ha' : args = #[x, y] := by rw [← Array.toArray_toList (xs := args), ha]
      subst ha'
      split at e
      · rename_i k a k' b hx hy
        split at e
        · rename_i hk
          subst hk
          cases e
          have r1 := hT' x (by simp)
          have r2 := hT' y (by simp)
          rw [hx] at r1
          rw [hy] at r2
          generalize hbs : β x = vs at r1
          generalize hbx : β y = vx at r2
          cases r1; cases r2
          exact .same hS (v := .int k (if b > a then b else a)) (by simp [builtin, hbs, hbx, Builtin.max_, Builtin.max2]) (.int _ _)
        · cases e
      · cases e
    · rename_i x y ha
      have ha' : args = #[x, y] := by rw [← Array.toArray_toList (xs := args), ha]
      subst ha'
      split at e
      · rename_i k a k' b hx hy
        split at e
        · rename_i hk
          subst hk
          cases e
          have r1 := hT' x (by simp)
          have r2 := hT' y (by simp)
          rw [hx] at r1
          rw [hy] at r2
          generalize hbs : β x = vs at r1
          generalize hbx : β y = vx at r2
          cases r1; cases r2
          exact .same hS (v := .int k (if b < a then b else a)) (by simp [builtin, hbs, hbx, Builtin.min_, Builtin.min2]) (.int _ _)
        · cases e
      · cases e
    · rename_i x y z ha
      have ha' : args = #[x, y, z] := by rw [← Array.toArray_toList (xs := args), ha]
      subst ha'
      split at e
      · rename_i k a k' b k'' c hx hy hz
        split at e
        · rename_i hk
          obtain ⟨rfl, rfl⟩ := hk
          cases e
          have r1 := hT' x (by simp)
          have r2 := hT' y (by simp)
          have r3 := hT' z (by simp)
          rw [hx] at r1
          rw [hy] at r2
          rw [hz] at r3
          generalize hbs : β x = vs at r1
          generalize hbx : β y = vx at r2
          generalize hbz : β z = vz at r3
          cases r1; cases r2; cases r3
          exact .same hS (v := .int k (if c > (if b > a then b else a) then c else (if b > a then b else a))) (by simp [builtin, hbs, hbx, hbz, Builtin.max_, Builtin.max2]) (.int _ _)
        · cases e
      · cases e
    · cases e
  · cases e
end
end Go.Lv
