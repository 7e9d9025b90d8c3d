/- LvW: contracts of the library's functions. -/
import Derived.Test.YtmpbkkfkkbdndaaDoorLvV
import Derived.Deep.Draws
import Derived.Sort.Grow
import Derived.Lib.LaidTab
namespace Go.Lv
open Go
set_option linter.unusedVariables false
section
variable {P : Program} {E : Env} {w0 : World} {M0 : Nat → Prop} {hI h : Gh} {ρ : Rn} {H : Hp} {w : World}

theorem Sim.grows : ∀ (l : List Obj) {h : Gh} {w : World}, Sim w0 M0 hI h ρ H w → ∃ h', GLe h h' ∧ Sim w0 M0 hI h' ρ H (Sort.grow w l.toArray)
  | [], h, w, hS => ⟨h, .refl _, by simpa using hS⟩
  | o :: l, h, w, hS => by
    obtain ⟨h1, s1⟩ := hS.pushImm o
    obtain ⟨h', h2, s2⟩ := Sim.grows l s1
    refine ⟨h', h1.trans h2, ?_⟩
    rw [Sort.alloc_eq_grow, Sort.grow_grow] at s2
    simpa using s2

theorem Sim.drewN (hS : Sim w0 M0 hI h ρ H w) : ∀ k, Sim w0 M0 hI h ρ H (w.drewN k)
  | 0 => hS
  | k + 1 => (Sim.drewN hS k).drew

/-- A function of closed data, that leaves nothing but new memory. -/
theorem pden_lib {f : FuncId} {args : List D} {r : D} (ha : D.closedL args = true) (hr : r.closed = true)
    (hc : ∀ (h : Gh) (w : World) (vs : Array Value), GLe E.h0 h → GLe h (fun b => w.heap[b]?) → vs.size = args.length → AllRel h (fun _ _ => none) args vs → Calls P f vs w fun e w' => ∃ v k os, e = .returned v ∧ w' = Sort.grow (w.drewN k) os ∧ RelV h (fun _ _ => none) r v) : PDen P E f args r := by
  refine ⟨ha, hr, fun h ρ w vs M hb hS hsz hrel => ?_⟩
  refine (hc h w vs hb hS.imm hsz (fun j d hj => by
    obtain ⟨v, h1, h2⟩ := hrel j d hj
    exact ⟨v, h1, h2.closed (closedL_get ha hj)⟩)).mono fun e w' hh => ?_
  obtain ⟨v, k, os, rfl, rfl, rv⟩ := hh
  obtain ⟨h', g1, s1⟩ := Sim.grows os.toList (hS.drewN k)
  exact ⟨v, r, [], h', ρ, rfl, rfl, g1, .refl _, by simpa using s1, rv.mono g1 (fun i n x e => by cases e)⟩

/-- A table that is laid. -/
def Tab (h : Gh) (g : Nat) (k : IntKind) (zs : List Int) : Prop := ∃ T fz, h g = some (.cells (zs.map fun z => Value.int k z).toArray T fz)
theorem Tab.is {h : Gh} {g : Nat} {k : IntKind} {zs : List Int} {name : String} (ht : Tab h g k zs) (hg : P.globalNamed name = some g) (hi : GLe h (fun b => w.heap[b]?)) : Lib.TabIs P w name k zs := by
  obtain ⟨T, fz, e⟩ := ht
  have := hi _ _ e
  simp only at this
  simp [Lib.TabIs, World.var?, hg, this]
theorem Tab.mono {h h' : Gh} {g : Nat} {k : IntKind} {zs : List Int} (ht : Tab h g k zs) (hl : GLe h h') : Tab h' g k zs := by
  obtain ⟨T, fz, e⟩ := ht
  exact ⟨T, fz, hl _ _ e⟩
end
end Go.Lv
