/- strings.Join, on rows of the caller's. -/
import Derived.Test.YtmpbkkfkkbdndaaDoorLetH
import Derived.Test.YtmpbkkfkkbdndaaDoorLayJ
namespace Go.Lv
open Go Go.Proofs Go.IntWalk
set_option linter.unusedVariables false
variable {E : Env}
section
variable {w0 : World} {M0 : Nat → Prop} {hI h : Gh} {ρ : Rn} {H : Hp} {w w' : World}
/-- What only adds to the memory leaves what is told of it. -/
theorem Sim.past (hS : Sim w0 M0 hI h ρ H w) (hb : RowKit.Below w.heap.size w w') : Sim w0 M0 hI h ρ H w' := by
  have same : ∀ (b : Nat) (o : Obj), w.heap[b]? = some o → w'.heap[b]? = some o := fun b o ho => by
    rw [hb.block b (by exact (Array.getElem?_eq_some_iff.1 ho).1)]
    exact ho
  exact {
    os := hb.os.trans hS.os
    tape := hb.tape.trans hS.tape
    output := hb.output.trans hS.output
    size := Nat.le_trans hS.size hb.size
    imm := fun b o ho => same b o (hS.imm b o ho)
    blk := fun i => (hS.blk i).mono (.refl _) (.refl _) fun b x hl hb' hn => by
      obtain ⟨b', x', h1, h2, h3⟩ := (hS.blk i).lies hl
      rw [hb'] at h1
      cases h1
      exact ⟨hb.block b h3, hn⟩
    own := hS.own
    inj := hS.inj
    dom := hS.dom
    ver := hS.ver
    keep := hS.keep
    frame := fun b hlt hm => by rw [hb.block b (by have := hS.size; omega)]; exact hS.frame b hlt hm }
end
theorem bytes_back : ∀ ws : List (List UInt8), (ws.map fun l => (⟨l.toArray⟩ : ByteArray)).map (·.data.toList) = ws
  | [] => rfl
  | l :: ws => by
    rw [List.map_cons, List.map_cons, bytes_back ws]
def strsD (l : List (List UInt8)) : List D := l.map D.str
theorem joinOwn (H : Hp) (i : Nat) (ws : List (List UInt8)) (sep : List UInt8) (hg : hget H i = .row 1 false (strsD ws)) (hl : ws.length ≤ 1000000) (hj : (Lib.join ws sep).length ≤ 140737488355328) :
    Fun Tryd.prog E 58 [.own i ws.length ws.length, .str sep] H fun d H' => d = .str (Lib.join ws sep) ∧ H' = H := by
  refine ⟨fun w0 M0 hI h ρ w vs hb hS hsz hrel => ?_⟩
  obtain ⟨v0, h1, r0⟩ := hrel 0 _ rfl
  obtain ⟨v1, h2, r1⟩ := hrel 1 _ rfl
  obtain rfl : vs = #[v0, v1] := by
    cases vs with | mk l =>
    match l, hsz with
    | [x, y], _ => simp at h1 h2; subst h1 h2; rfl
  cases r1 with | str _ s1 e1 =>
  subst e1
  have hk := hS.blk i
  rw [hg] at hk
  obtain ⟨b, c, cs, e, fz, a1, a2, a3, a4, a5, a6, a7⟩ := hk
  cases r0 with | own _ _ _ b' c' cs' sz' hb' hc' hl' =>
  have hlen : (strsD ws).length = ws.length := by simp [strsD]
  rw [hlen] at a1 a5
  rw [a1] at hb'
  cases hb'
  have hcell : ∀ (j : Nat) x, (ws.map fun l => (⟨l.toArray⟩ : ByteArray))[j]? = some x → w.cell? ⟨b, 0 + j, none⟩ = some (.string x) := by
    intro j x hx
    rw [List.getElem?_map] at hx
    cases hj : ws[j]? with
    | none => rw [hj] at hx; cases hx
    | some l =>
      rw [hj] at hx
      simp only [Option.map_some, Option.some.injEq] at hx
      subst hx
      obtain ⟨u, h3, h4, h5⟩ := a6 j (.str l) (by simp [strsD, hj])
      cases h5 with | str _ s e =>
      subst e
      unfold World.cell?
      rw [a3]
      simpa using h3
  have hmap := bytes_back ws
  have hwl : (ws.map fun l => (⟨l.toArray⟩ : ByteArray)).length = ws.length := by simp
  have key := Tryd.strings_Join b 0 c' (ws.map fun l => (⟨l.toArray⟩ : ByteArray)) s1 w hcell (Array.getElem?_eq_some_iff.1 a3).1 (by rw [hwl]; omega) (by rw [hwl]; exact hl') (by rw [hmap]; exact hj)
  rw [hmap, hwl] at key
  refine key.mono fun e w' ⟨he, hbel⟩ => ?_
  subst he
  exact ⟨_, _, H, h, ρ, rfl, ⟨rfl, rfl⟩, .refl _, .refl _, hS.past hbel, .str _ _ rfl⟩
end Go.Lv
