/- LvO: contracts of functions over data; a step of a region; freezing. -/
import Derived.Test.YtmpbkkfkkbdndaaDoorLvN
namespace Go.Lv
open Go
set_option linter.unusedVariables false
set_option linter.unusedSimpArgs false
section
variable {P : Program} {w0 : World} {M0 : Nat → Prop} {hI h : Gh} {ρ : Rn} {H : Hp} {w : World}

/-- A row that is written no more from now on. -/
def frz1 (H : Hp) (i : Nat) : Hp :=
  match hget H i with
  | .row sz ag cs => hset H i (.frz sz ag cs)
  | _ => H
def frzL : Hp → List Nat → Hp
  | H, [] => H
  | H, i :: l => frzL (frz1 H i) l

theorem Sim.freeze (hS : Sim w0 M0 hI h ρ H w) (i : Nat) : ∃ h', GLe h h' ∧ Sim w0 M0 hI h' ρ (frz1 H i) w := by
  unfold frz1
  split
  · rename_i sz ag cs hg
    have hb := hS.blk i
    rw [hg] at hb
    obtain ⟨b, c, ccs, e, fz, a1, a2, a3, a4, a5, a6, a7⟩ := hb
    have hl : (hget H i).live = true := by rw [hg]; rfl
    have hil := hS.live_lt hl
    have hle : GLe h (h.set b (.cells ccs e fz)) := Gh.le_set a2
    have hne : ∀ j, j ≠ i → hget (hset H i (.frz sz ag cs)) j = hget H j := fun j hj => by rw [hget_set, if_neg (by omega)]
    have hsame : hget (hset H i (.frz sz ag cs)) i = .frz sz ag cs := by rw [hget_set, if_pos ⟨rfl, hil⟩]
    have hlv : ∀ j, (hget (hset H i (.frz sz ag cs)) j).live = true → j ≠ i := by
      intro j hj e
      subst e
      rw [hsame] at hj
      cases hj
    have hbn : ρ i (hget H i).n = some (b, c, sz) := by rw [hg]; exact a1
    refine ⟨_, hle, ?_⟩
    exact {
      os := hS.os
      tape := hS.tape
      output := hS.output
      size := hS.size
      imm := by
        intro d p hp
        simp only [Gh.set] at hp
        split at hp
        · rename_i e; subst e; cases hp; exact a3
        · exact hS.imm _ _ hp
      blk := by
        intro j
        by_cases hj : j = i
        · subst hj
          rw [hsame]
          exact ⟨b, c, sz, ccs, e, fz, a1, by simp [Gh.set], a6.mono hle (.refl _)⟩
        · rw [hne j hj]
          refine (hS.blk j).mono hle (.refl _) fun d y hlj hd hn => ⟨rfl, ?_⟩
          simp only [Gh.set]
          rw [if_neg]
          · exact hn
          · intro e
            subst e
            exact hS.inj j i d y _ hj hlj hl hd hbn
      own := by
        intro j d y hlj hd
        have hj := hlv j hlj
        rw [hne j hj] at hlj hd
        exact hS.own j d y hlj hd
      inj := by
        intro j k d y z hjk hlj hlk hd
        have hj := hlv j hlj
        have hk := hlv k hlk
        rw [hne j hj] at hlj hd
        rw [hne k hk] at hlk ⊢
        exact hS.inj j k d y z hjk hlj hlk hd
      dom := by
        intro j n y hy
        rw [hset_len]
        exact hS.dom _ _ _ hy
      ver := by
        intro j sz' ag' ds hd n y hy
        by_cases hj : j = i
        · subst hj; rw [hsame] at hd; cases hd
        · rw [hne j hj] at hd
          exact hS.ver j sz' ag' ds hd n y hy
      keep := by
        intro d hd hm
        simp only [Gh.set]
        rw [if_neg]
        · exact hS.keep d hd hm
        · intro e
          subst e
          rcases hS.own i d _ hl hbn with h1 | h1
          · exact hm h1
          · omega
      frame := hS.frame }
  · exact ⟨h, .refl _, hS⟩

theorem Sim.freezeL : ∀ (l : List Nat) {h : Gh} {H : Hp}, Sim w0 M0 hI h ρ H w → ∃ h', GLe h h' ∧ Sim w0 M0 hI h' ρ (frzL H l) w
  | [], h, H, hS => ⟨h, .refl _, hS⟩
  | i :: l, h, H, hS => by
    obtain ⟨h1, k1, k2⟩ := hS.freeze i
    obtain ⟨h2, k3, k4⟩ := Sim.freezeL l k2
    exact ⟨h2, k1.trans k3, k4⟩

/-- These data tell these values. -/
def AllRel (h : Gh) (ρ : Rn) (l : List D) (vs : Array Value) : Prop := ∀ (j : Nat) (d : D), l[j]? = some d → ∃ v : Value, vs[j]? = some v ∧ RelV h ρ d v

/-- What a program laid ahead, and what its variables of packages tell, as far as they are written no more. -/
structure Env where
  h0 : Gh
  g : Nat → D
  ok : ∀ i, RelV h0 (fun _ _ => none) (g i) (.pointer (some ⟨i, 0, none⟩))

/-- What f does, called with these data, and these blocks. -/
def Den (P : Program) (E : Env) (f : FuncId) (args : List D) (S : Hp) (post : D → Hp → Prop) : Prop :=
  ∀ (h : Gh) (ρ : Rn) (w : World) (vs : Array Value) (M : Nat → Prop), GLe E.h0 h → Sim w M h h ρ S w → vs.size = args.length → AllRel h ρ args vs →
    Calls P f vs w fun e w' => ∃ v r S' h' ρ', e = .returned v ∧ post r S' ∧ GLe h h' ∧ RLe ρ ρ' ∧ Sim w M h h' ρ' S' w' ∧ RelV h' ρ' r v

/-- A function of closed data alone. -/
structure PDen (P : Program) (E : Env) (f : FuncId) (args : List D) (r : D) : Prop where
  ca : D.closedL args = true
  cr : r.closed = true
  den : Den P E f args [] fun r' _ => r' = r

/-- What an operation may come to. -/
def Step (P : Program) (E : Env) (o : Oper) (α : Operand → D) (H : Hp) (R : D → Hp → Prop) : Prop :=
  ∀ (w0 : World) (M0 : Nat → Prop) (hI h : Gh) (ρ : Rn) (w : World) (a : Act), GLe E.h0 h → Sim w0 M0 hI h ρ H w → (∀ x ∈ o.op.operands.toList, RelV h ρ (α x) (a.eval x)) →
    ∀ (next : Act → World → Prop) (Q : Exit → Act → World → Prop), (∀ d H' v w' h' ρ', R d H' → GLe h h' → RLe ρ ρ' → Sim w0 M0 hI h' ρ' H' w' → RelV h' ρ' d v → next (a.put o.dst v) w') → o.wp P a w next Q

theorem Step.mono {E : Env} {o : Oper} {α : Operand → D} {R R' : D → Hp → Prop} (hs : Step P E o α H R) (hr : ∀ d H', R d H' → R' d H') : Step P E o α H R' :=
  fun w0 M0 hI h ρ w a hb hS hT next Q hk => hs w0 M0 hI h ρ w a hb hS hT next Q fun d H' v w' h' ρ' r => hk d H' v w' h' ρ' (hr d H' r)

/-- Only the operands count. -/
theorem Step.congr {E : Env} {o : Oper} {α α' : Operand → D} {R : D → Hp → Prop} (hs : Step P E o α H R) (hα : ∀ x ∈ o.op.operands.toList, α x = α' x) : Step P E o α' H R :=
  fun w0 M0 hI h ρ w a hb hS hT next Q hk => hs w0 M0 hI h ρ w a hb hS (fun x hx => by rw [hα x hx]; exact hT x hx) next Q hk

theorem step_aop {E : Env} {o : Oper} {α : Operand → D} {d : D} {H' : Hp} (e : aop P o.op α H = some (d, H')) : Step P E o α H fun d' H'' => d' = d ∧ H'' = H' := by
  intro w0 M0 hI h ρ w a hb hS hT next Q hk
  obtain ⟨v, w', h', ρ', hr, h1, h2, h3, h4⟩ := aop_sound (P := P) (β := a.eval) hS hT e
  unfold Oper.wp
  rcases hr with hr | ⟨hr, rfl⟩
  · rw [hr]
    exact hk d H' v w' h' ρ' ⟨rfl, rfl⟩ h1 h2 h3 h4
  · rw [hr]
    exact hk d H' undef w' h' ρ' ⟨rfl, rfl⟩ h1 h2 h3 h4

/-- The memory of a call of its own, that owns nothing yet. -/
theorem Sim.enter (hS : Sim w0 M0 hI h ρ H w) : Sim w (fun _ => False) h h (fun _ _ => none) [] w where
  os := rfl
  tape := rfl
  output := rfl
  size := Nat.le_refl _
  imm := hS.imm
  blk := fun i => by simp [hget, RelB]
  own := fun i b x hl => by simp [hget, Blk.live] at hl
  inj := fun i j b x y _ hl => by simp [hget, Blk.live] at hl
  dom := fun i n x hx => by cases hx
  ver := fun i sz ag ds hd => by simp [hget] at hd
  keep := fun b _ _ => rfl
  frame := fun b _ _ => rfl

/-- Back from a call that owned nothing of ours. -/
theorem Sim.back {h' : Gh} {ρ' : Rn} {S' : Hp} {w' : World} (hS : Sim w0 M0 hI h ρ H w) (hC : Sim w (fun _ => False) h h' ρ' S' w') (hle : GLe h h') : Sim w0 M0 hI h' ρ H w' where
  os := hC.os.trans hS.os
  tape := hC.tape.trans hS.tape
  output := hC.output.trans hS.output
  size := Nat.le_trans hS.size hC.size
  imm := hC.imm
  blk := fun i => (hS.blk i).mono hle (.refl _) fun b x hl hb hn => by
    obtain ⟨b', x', h1, _, h3⟩ := (hS.blk i).lies hl
    rw [hb] at h1
    cases h1
    exact ⟨hC.frame b h3 (fun f => f), by rw [hC.keep b h3 (fun f => f)]; exact hn⟩
  own := hS.own
  inj := hS.inj
  dom := hS.dom
  ver := hS.ver
  keep := fun b hb hm => by rw [hC.keep b (by have := hS.size; omega) (fun f => f)]; exact hS.keep b hb hm
  frame := fun b hb hm => by rw [hC.frame b (by have := hS.size; omega) (fun f => f)]; exact hS.frame b hb hm

theorem run_resolve {c : Call} {β : Operand → Value} {f : Operand} {g : FuncId} {fv cv : Array Value} {ty' : TypeId} (hc : c.callee = .value f) (hf : β f = .func (.func g) fv cv) :
    (resolve β c ty').run P w = .ok { target := .fn (.func g) cv, args := fv ++ c.args.map β } w := by
  simp [resolve, hc, hf, Deferred.ofValue]

theorem run_callFunc {g : FuncId} {fn : Func} {vs : Array Value} (hf : P.funcs[g]? = some fn) (hb : fn.body.isSome = true) (hn : fn.name ≠ "runtime.NumGoroutine") : (callFunc g vs).run P w = .ok (.enter g vs) w := by
  simp only [callFunc, Sem.run_bind, run_program, Result.andThen_ok, hf]
  rw [if_neg (by simpa using hn)]
  rw [if_neg (by cases hh : fn.body <;> simp_all)]
  rfl

/-- It has a body of its own, and isn't the one whose body is the machine's. -/
def hasBody (P : Program) (g : FuncId) : Bool :=
  match P.funcs[g]? with
  | some fn => fn.body.isSome && fn.name != "runtime.NumGoroutine"
  | none => false
theorem hasBody_spec {g : FuncId} (hb : hasBody P g = true) : ∃ fn, P.funcs[g]? = some fn ∧ fn.body.isSome = true ∧ fn.name ≠ "runtime.NumGoroutine" := by
  unfold hasBody at hb
  split at hb
  · rename_i fn hf
    simp only [Bool.and_eq_true, bne_iff_ne] at hb
    exact ⟨fn, hf, hb.1, hb.2⟩
  · cases hb

theorem vals_get {l : List D} {vs : Array Value} (us : Nat → Value) (hs : vs.size = l.length) (hu : ∀ j, j < l.length → vs[j]? = some (us j)) (hr : ∀ (j : Nat) (d : D), l[j]? = some d → RelV h ρ d (us j)) : AllRel h ρ l vs :=
  fun j d hj => ⟨us j, hu j (List.getElem?_eq_some_iff.1 hj).1, hr j d hj⟩

theorem app_get {l m : List D} {vs us : Array Value} (hs : vs.size = l.length) (h1 : AllRel h ρ l vs) (h2 : AllRel h ρ m us) : AllRel h ρ (l ++ m) (vs ++ us) := by
  intro j d hj
  rw [List.getElem?_append] at hj
  rw [Array.getElem?_append]
  split at hj
  · rename_i hlt
    rw [if_pos (by omega)]
    exact h1 j d hj
  · rename_i hlt
    rw [if_neg (by omega), hs]
    exact h2 _ d hj

theorem args_rel {α : Operand → D} {β : Operand → Value} {l : Array Operand} (hT : ∀ x ∈ l.toList, RelV h ρ (α x) (β x)) : AllRel h ρ (l.toList.map α) (l.map β) := by
  intro j d hj
  rw [List.getElem?_map] at hj
  cases hx : l.toList[j]? with
  | none => simp [hx] at hj
  | some x =>
    simp only [hx, Option.map_some, Option.some.injEq] at hj
    subst hj
    refine ⟨β x, ?_, hT x (List.mem_of_getElem? hx)⟩
    have : l[j]? = some x := by simpa using hx
    simp [this]
theorem run_method {t : TypeId} {name : String} {g : FuncId} {v : Value} {n : Nat} (hm : methOf P t name = some g) : (method (n + 1) t v name).run P w = .ok (g, v) w := by
  unfold methOf at hm
  split at hm
  · rename_i i hi
    split at hm
    · rename_i m hf
      split at hm
      · rename_i hp
        have hp' : m.path.toList = [] := by simpa using hp
        split at hm
        · rename_i f el hfn hu
          cases hm
          simp [method, run_typeInfo hi, hf, hp', follow, hfn, receiverAt, run_underlying hu, Place.get]
        · cases hm
        · rename_i f u hnp hfn hu
          cases hm
          cases u <;> first
            | exact (hnp _ rfl).elim
            | simp [method, run_typeInfo hi, hf, hp', follow, hfn, receiverAt, run_underlying hu, Place.get]
        · cases hm
      · cases hm
    · cases hm
  · cases hm

theorem ext_find {name : String} {e : Ext} (h : extNamed name = some e) {fn : Func} (hn : fn.name = name) (ho : fn.origin = "") : Extern.findNext fn = none ∧ Extern.find fn = some e.entry := by
  unfold extNamed at h
  split at h
  · rename_i hh; subst hh; cases h; simp only [Extern.findNext, Extern.find, hn, ho]; exact ⟨by kernel_rfl, by kernel_rfl⟩
  · split at h
    · rename_i hh; subst hh; cases h; simp only [Extern.findNext, Extern.find, hn, ho]; exact ⟨by kernel_rfl, by kernel_rfl⟩
    · split at h
      · rename_i hh; subst hh; cases h; simp only [Extern.findNext, Extern.find, hn, ho]; exact ⟨by kernel_rfl, by kernel_rfl⟩
      · cases h

theorem idxB_eq : ∀ (l : List UInt8) (c : UInt8), Lib.indexByte l c = idxB l c
  | [], c => rfl
  | b :: l, c => by
    have h := Lib.indexByte_ge l c
    unfold Lib.indexByte idxB
    rw [← idxB_eq l c]
    split
    · rfl
    · cases hx : Lib.indexByte l c with
      | ofNat n => first | (simp; done) | (simp; omega)
      | negSucc n =>
        rw [hx] at h
        have : n = 0 := by omega
        subst this
        rfl

theorem run_ext {h' : Gh} {e : Ext} {args : List D} {d : D} {vs : Array Value} (h : extD e args = some d) (hs : vs.size = args.length) (hr : AllRel h' ρ args vs) : ∃ v, (e.entry vs).run P w = .ok v w ∧ RelV h' ρ d v := by
  unfold extD at h
  split at h
  · rename_i x
    cases h
    obtain ⟨v, h1, h2⟩ := hr 0 d rfl
    have : vs = #[v] := by
      apply Array.ext'
      apply List.ext_getElem? 
      intro i
      cases i with
      | zero => simpa using h1
      | succ i => simp [List.getElem?_eq_none]; simp at hs; omega
    subst this
    exact ⟨v, rfl, h2⟩
  · rename_i s b
    cases h
    obtain ⟨v0, h1, h2⟩ := hr 0 _ rfl
    obtain ⟨v1, h3, h4⟩ := hr 1 _ rfl
    have : vs = #[v0, v1] := by
      apply Array.ext'
      apply List.ext_getElem? 
      intro i
      match i with
      | 0 => simpa using h1
      | 1 => simpa using h3
      | i + 2 => simp [List.getElem?_eq_none]; simp at hs; omega
    subst this
    cases h2 with | str _ s1 e1 =>
    cases h4
    subst e1
    exact ⟨_, Lib.run_indexByteString s1 b w, by rw [idxB_eq]; exact .int _ _⟩
  · rename_i s b
    cases h
    obtain ⟨v0, h1, h2⟩ := hr 0 _ rfl
    obtain ⟨v1, h3, h4⟩ := hr 1 _ rfl
    have : vs = #[v0, v1] := by
      apply Array.ext'
      apply List.ext_getElem? 
      intro i
      match i with
      | 0 => simpa using h1
      | 1 => simpa using h3
      | i + 2 => simp [List.getElem?_eq_none]; simp at hs; omega
    subst this
    cases h2 with | str _ s1 e1 =>
    cases h4
    subst e1
    exact ⟨_, Lib.run_countString s1 b w, .int _ _⟩
  · cases h

/-- A call of a function without a body, that the machine knows. -/
theorem run_callFunc_ext {g : FuncId} {e : Ext} {args : List D} {d : D} {vs : Array Value} {h' : Gh} (hg : extOf P g = some e) (h : extD e args = some d) (hs : vs.size = args.length) (hr : AllRel h' ρ args vs) :
    ∃ v, (callFunc g vs).run P w = .ok (.value v) w ∧ RelV h' ρ d v := by
  unfold extOf at hg
  split at hg
  · rename_i fn hf
    split at hg
    · rename_i hbo
      simp only [Bool.and_eq_true, beq_iff_eq] at hbo
      obtain ⟨hb, ho⟩ := hbo
      obtain ⟨h1, h2⟩ := ext_find hg rfl ho
      obtain ⟨v, hv, rv⟩ := run_ext (P := P) (w := w) h hs hr
      refine ⟨v, ?_, rv⟩
      rw [run_callFunc_extern hf ?_ hb h1 h2, hv]
      · rfl
      · by_cases hh : fn.name = "runtime.NumGoroutine"
        · rw [hh] at hg
          have : extNamed "runtime.NumGoroutine" = none := by decide
          rw [this] at hg
          cases hg
        · simpa using hh
    · cases hg
  · cases hg

/-- What a call of a known function is handed. -/
theorem callee_run {o : Oper} {α : Operand → D} {β : Operand → Value} {g : FuncId} {args : List D} (hT : ∀ x ∈ o.op.operands.toList, RelV h ρ (α x) (β x)) (e : callee P o.op α = some (g, args)) :
    ∃ vs : Array Value, (execOp β o).run P w = (callFunc g vs).run P w ∧ vs.size = args.length ∧ AllRel h ρ args vs := by
  unfold callee at e
  split at e
  · rename_i x name args0 ats ho
    split at e
    · rename_i t d hx
      split at e
      · rename_i g' hm
        cases e
        rw [ho] at hT
        have rf := hT x (by simp [Op.operands, Call.operands])
        rw [hx] at rf
        generalize hbf : β x = vf at rf
        cases rf with | iface _ _ v hr =>
        have ra := args_rel (h := h) (ρ := ρ) (α := α) (β := β) (l := args0) fun y hy => hT y (by simp [Op.operands, Call.operands]; exact .inr (by simpa using hy))
        refine ⟨#[v] ++ args0.map β, ?_, by simp; omega, ?_⟩
        · simp only [execOp, ho, resolve, Sem.run_bind, Sem.run_pure, Result.andThen_ok, invoke, hbf]
          simp only [Array.getElem?_append, List.size_toArray, List.length_singleton, Nat.lt_one_iff, if_true, List.getElem?_toArray, List.getElem?_cons_zero, callMethod, Sem.run_bind, run_program, Result.andThen_ok, show ∀ n, n + Made.depth = n + (Made.depth - 1) + 1 from fun n => by have : 0 < Made.depth := by decide
                                                                                                                                                                                                                                                                                              omega]
          rw [run_method hm, Result.andThen_ok]
          simp only []
          have : (#[Value.iface t v] ++ args0.map β).extract 1 (#[Value.iface t v] ++ args0.map β).size = args0.map β := by
            apply Array.ext'
            have hl : args0.size = (args0.toList.map β).length := by simp
            simp only [Array.toList_extract, Array.toList_append, Array.toList_map]
            simp
            rw [hl, List.take_length]
          rw [this]
        · exact app_get (l := [d]) rfl (fun j dd hj => by
            cases j with
            | zero => cases hj; exact ⟨v, rfl, hr⟩
            | succ j => simp at hj) ra
      · cases e
    · cases e
  · rename_i f args0 ats ho
    split at e
    · rename_i g' first cap hf
      cases e
      rw [ho] at hT
      have rf := hT f (by simp [Op.operands, Call.operands])
      rw [hf] at rf
      generalize hbf : β f = vf at rf
      cases rf with | fn _ _ _ fv cv us ws hs hs' hu hw hr hq =>
      have ra := args_rel (h := h) (ρ := ρ) (α := α) (β := β) (l := args0) fun y hy => hT y (by simp [Op.operands, Call.operands]; exact .inr (by simpa using hy))
      refine ⟨fv ++ args0.map β ++ cv, ?_, by simp [hs, hs'], ?_⟩
      · simp only [execOp, ho, Sem.run_bind, run_resolve (c := { callee := .value f, args := args0, argTypes := ats }) rfl hbf, Result.andThen_ok, invoke]
      · exact app_get (by simp [hs]) (app_get hs (vals_get us hs hu hr) ra) (vals_get ws hs' hw hq)
    · cases e
  · cases e

theorem callee_spec {o : Oper} {α : Operand → D} {β : Operand → Value} {g : FuncId} {args : List D} (hT : ∀ x ∈ o.op.operands.toList, RelV h ρ (α x) (β x)) (e : callee P o.op α = some (g, args)) (hb : hasBody P g = true) :
    ∃ vs : Array Value, (execOp β o).run P w = .ok (.enter g vs) w ∧ vs.size = args.length ∧ AllRel h ρ args vs := by
  obtain ⟨vs, h1, h2, h3⟩ := callee_run (P := P) (w := w) hT e
  obtain ⟨fn, hfn, hbo, hnm⟩ := hasBody_spec hb
  exact ⟨vs, h1.trans (run_callFunc hfn hbo hnm), h2, h3⟩

/-- A call of a function without a body that the machine knows. -/
theorem step_ext {E : Env} {o : Oper} {α : Operand → D} {g : FuncId} {x : Ext} {args : List D} {d : D} (e : callee P o.op α = some (g, args)) (hx : extOf P g = some x) (hd : extD x args = some d) : Step P E o α H fun d' H' => d' = d ∧ H' = H := by
  intro w0 M0 hI h ρ w a hbase hS hT next Q hk
  obtain ⟨vs, h1, h2, h3⟩ := callee_run (P := P) (w := w) hT e
  obtain ⟨v, h4, h5⟩ := run_callFunc_ext (P := P) (w := w) hx hd h2 h3
  unfold Oper.wp
  rw [h1, h4, Oper.upon_value]
  exact hk d H v w h ρ ⟨rfl, rfl⟩ (.refl _) (.refl _) hS h5

/-- A call of a function of closed data. -/
theorem step_pcall {E : Env} {o : Oper} {α : Operand → D} {g : FuncId} {args : List D} {r : D} (e : callee P o.op α = some (g, args)) (hb : hasBody P g = true) (hd : PDen P E g args r) : Step P E o α H fun d H' => d = r ∧ H' = H := by
  intro w0 M0 hI h ρ w a hbase hS hT next Q hk
  obtain ⟨hca, hcr, hden⟩ := hd
  obtain ⟨vs, hrun, hsz, hget⟩ := callee_spec (P := P) (w := w) hT e hb
  have hE := hS.enter
  have hC := hden h (fun _ _ => none) w vs (fun _ => False) hbase hE hsz (fun j d hj => by
    obtain ⟨v, h1, h2⟩ := hget j d hj
    exact ⟨v, h1, h2.closed (closedL_get hca hj)⟩)
  unfold Oper.wp
  rw [hrun, Oper.upon_enter]
  refine hC.mono fun e w' hh => ?_
  obtain ⟨v, r', S', h', ρ', rfl, rfl, hle, _, hSim, hrel⟩ := hh
  exact hk r' H v w' h' ρ ⟨rfl, rfl⟩ hle (.refl _) (hS.back hSim hle) (hrel.closed hcr)
end
end Go.Lv
