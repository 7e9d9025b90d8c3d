/- LvX: from a contract to a call on any memory. -/
import Derived.Test.YtmpbkkfkkbdndaaDoorLvW
import Derived.Below
namespace Go.Lv
open Go
set_option linter.unusedVariables false
section
variable {P : Program}

theorem Sim.start {h : Gh} {w : World} (hi : GLe h (fun b => w.heap[b]?)) : Sim w (fun _ => False) h h (fun _ _ => none) [] w where
  os := rfl
  tape := rfl
  output := rfl
  size := Nat.le_refl _
  imm := hi
  blk := fun i => by simp [hget, RelB]
  own := fun i b x hl => by simp [hget, Blk.live] at hl
  inj := fun i j b x y _ hl => by simp [hget, Blk.live] at hl
  dom := fun i n x hx => by cases hx
  ver := fun i sz ag ds hd => by simp [hget] at hd
  keep := fun b _ _ => rfl
  frame := fun b _ _ => rfl

theorem Sim.below {M0 : Nat → Prop} {hI h : Gh} {ρ : Rn} {H : Hp} {w w' : World} (hS : Sim w (fun _ => False) hI h ρ H w') : RowKit.Below w.heap.size w w' :=
  ⟨hS.os, hS.tape, hS.output, hS.size, fun k hk => hS.frame k hk (fun f => f)⟩

/-- The memory as it is when a call begins: all of it is written no more. -/
noncomputable def envOf (W : World) : Env where
  h0 := fun b => W.heap[b]?
  g := fun _ => .und
  ok := fun _ => .und _

theorem law_calls {f : FuncId} {args : List D} {b : Bool} {W : World} {vs : Array Value} (hd : PDen P (envOf W) f args (.bool b)) (hsz : vs.size = args.length) (hrel : AllRel (envOf W).h0 (fun _ _ => none) args vs) :
    Calls P f vs W fun e w' => e = .returned (.bool b) ∧ RowKit.Below W.heap.size W w' := by
  refine (hd.den _ _ W vs (fun _ => False) (.refl _) (Sim.start (.refl _)) hsz hrel).mono fun e w' hh => ?_
  obtain ⟨v, r, S', h', ρ', rfl, rfl, h1, h2, h3, h4⟩ := hh
  cases h4
  exact ⟨rfl, h3.below (M0 := fun _ => False)⟩

theorem tab_of {W : World} {name : String} {g : Nat} {k : IntKind} {zs : List Int} (h : Lib.TabIs P W name k zs) (hg : P.globalNamed name = some g) : Tab (envOf W).h0 g k zs := by
  unfold Lib.TabIs World.var? at h
  rw [hg, Option.bind_some] at h
  split at h
  · rename_i cs t fz hh
    cases h
    exact ⟨t, fz, hh⟩
  · cases h
end
end Go.Lv
