/- LvK: append, copies of cells, slices that are made. -/
import Derived.Test.YtmpbkkfkkbdndaaDoorLvJ
import Derived.Laws.Append
import Derived.Laws.MakeOwn
namespace Go.Lv
open Go
set_option linter.unusedVariables false
set_option linter.unusedSimpArgs false
section
variable {P : Program} {w0 : World} {M0 : Nat → Prop} {hI h : Gh} {ρ : Rn} {H : Hp} {w : World}

/-- The type of what is appended: no number (a number stands for so many zero values). -/
def notInt (P : Program) (u : TypeId) : Prop := (∃ e, P.underlying u = some (.slice e)) ∨ P.underlying u = some .string

theorem run_app_grow {t u ty e : TypeId} {i : TypeInfo} {z : Value} (ht : P.underlying t = some (.slice e)) (hu : notInt P u) (hi : P.info? e = some i) (hz : i.zero = some z)
    (b : Option Addr) (sLen sCap n : Nat) (vx : Value) (old new : Array Value) (hl : (Builtin.lenOf vx).run P w = .ok n w)
    (ho : (Builtin.firstCells i.size sLen (.slice b sLen sCap)).run P w.drew = .ok old w.drew) (hx : (Builtin.firstCells i.size n vx).run P w.drew = .ok new w.drew)
    (hg : sCap < sLen + n) (h63 : ((sLen + n : Nat) : Int) ≤ 9223372036854775807) (hfit : Builtin.nextslicecap (sLen + n) sCap * i.bytes ≤ 281474976710656) :
    (Builtin.append_ #[t, u] ty #[.slice b sLen sCap, vx]).run P w =
      .ok (.slice (some ⟨w.heap.size, 0, none⟩) (sLen + n) (grownCap w (sLen + n) sCap e))
        (w.drew.alloc (.cells (old ++ new ++ Builtin.zeroCells z.cells (grownCap w (sLen + n) sCap e - (sLen + n))) e)) := by
  have hn : ¬ (sLen + n ≤ sCap) := by omega
  have h63' : ¬ (9223372036854775807 < ((sLen : Int) + (n : Int))) := by omega
  have h48' : ¬ (281474976710656 < Builtin.nextslicecap (sLen + n) sCap * i.bytes) := by omega
  rcases hu with ⟨e', hd⟩ | hd <;> simp [Builtin.append_, run_underlying ht, run_underlying hd, sizeOf, typeInfo, zeroValue, hi, hz, hl, hn, h63', h48', Question.forced, hx, ho, newRow, grownCap]

theorem run_app_room {t u ty e : TypeId} {i : TypeInfo} (ht : P.underlying t = some (.slice e)) (hu : notInt P u) (hi : P.info? e = some i)
    (b : Addr) (sLen sCap n : Nat) (vx : Value) (new : Array Value) (w' : World) (hl : (Builtin.lenOf vx).run P w = .ok n w)
    (hx : (Builtin.firstCells i.size n vx).run P w = .ok new w) (hg : sLen + n ≤ sCap) (hs : (storeCells (b.add (sLen * i.size)) new.toList).run P w = .ok () w') :
    (Builtin.append_ #[t, u] ty #[.slice (some b) sLen sCap, vx]).run P w = .ok (.slice (some b) (sLen + n) sCap) w' := by
  rcases hu with ⟨e', hd⟩ | hd <;> simp [Builtin.append_, run_underlying ht, run_underlying hd, sizeOf, typeInfo, zeroValue, hi, hl, hg, hx, hs]

theorem run_app_none {t u ty e : TypeId} {i : TypeInfo} (ht : P.underlying t = some (.slice e)) (hu : notInt P u) (hi : P.info? e = some i)
    (b : Option Addr) (sLen sCap : Nat) (vx : Value) (hl : (Builtin.lenOf vx).run P w = .ok 0 w)
    (hx : (Builtin.firstCells i.size 0 vx).run P w = .ok #[] w) (hg : sLen ≤ sCap) :
    (Builtin.append_ #[t, u] ty #[.slice b sLen sCap, vx]).run P w = .ok (.slice b sLen sCap) w := by
  rcases hu with ⟨e', hd⟩ | hd <;> cases b <;> simp [Builtin.append_, run_underlying ht, run_underlying hd, sizeOf, typeInfo, zeroValue, hi, hl, hg, hx, storeCells]

/-- So many zero values appended. -/
theorem run_app0_grow {t u ty e : TypeId} {i : TypeInfo} {z : Value} {k : IntKind} (ht : P.underlying t = some (.slice e)) (hu : P.underlying u = some (.int k)) (hi : P.info? e = some i) (hz : i.zero = some z) (hzs : z.cells.size = i.size) (hp : 0 < i.size)
    (b : Option Addr) (sLen sCap n : Nat) (old : Array Value)
    (ho : (Builtin.firstCells i.size sLen (.slice b sLen sCap)).run P w.drew = .ok old w.drew) (hn0 : 0 < n)
    (hg : sCap < sLen + n) (h63 : ((sLen + n : Nat) : Int) ≤ 9223372036854775807) (hb48 : n * i.bytes ≤ 281474976710656) (hfit : Builtin.nextslicecap (sLen + n) sCap * i.bytes ≤ 281474976710656) :
    (Builtin.append_ #[t, u] ty #[.slice b sLen sCap, .int .i64 n]).run P w =
      .ok (.slice (some ⟨w.heap.size, 0, none⟩) (sLen + n) (grownCap w (sLen + n) sCap e))
        (w.drew.alloc (.cells (old ++ Builtin.zeroCells z.cells n ++ Builtin.zeroCells z.cells (grownCap w (sLen + n) sCap e - (sLen + n))) e)) := by
  have hn : ¬ (sLen + n ≤ sCap) := by omega
  have h63' : ¬ (9223372036854775807 < ((sLen : Int) + (n : Int))) := by omega
  have h48' : ¬ (281474976710656 < Builtin.nextslicecap (sLen + n) sCap * i.bytes) := by omega
  have hw : IntKind.i64.wrap (n : Int) = n := by simp [IntKind.wrap, IntKind.bits, IntKind.signed]; omega
  have hnn : ¬ ((n : Int) < 0) := by omega
  have hb' : ¬ ((281474976710656 : Int) < (n : Int) * (i.bytes : Int)) := by
    rw [← Int.natCast_mul]
    omega
  have hne : ¬ (n = 0) := by omega
  have hse : ¬ (i.size = 0) := by omega
  have hze : ¬ (n * i.size = 0) := fun e => by rcases Nat.mul_eq_zero.1 e with e | e <;> omega
  simp [Builtin.append_, run_underlying ht, run_underlying hu, sizeOf, typeInfo, zeroValue, hi, hz, asInt, asIntOf, hw, hnn, hb', hn, h63', h48', Question.forced, ho, newRow, grownCap, hne, hse, hze]

theorem rep_get (z : List D) (hz : 0 < z.length) : ∀ (n j : Nat), (rep n z)[j]? = if j < n * z.length then z[j % z.length]? else none
  | 0, j => by simp [rep]
  | n + 1, j => by
    simp only [rep]
    by_cases h1 : j < z.length
    · rw [List.getElem?_append_left h1, Nat.mod_eq_of_lt h1, if_pos (by rw [Nat.succ_mul]; omega)]
    · rw [List.getElem?_append_right (by omega), rep_get z hz n (j - z.length), Nat.succ_mul]
      have hm : (j - z.length) % z.length = j % z.length := by
        conv => rhs; rw [show j = (j - z.length) + z.length from by omega]
        simp
      rw [hm]
      by_cases h2 : j - z.length < n * z.length
      · rw [if_pos h2, if_pos (by omega)]
      · rw [if_neg h2, if_neg (by omega)]
theorem rep_len (z : List D) : ∀ n, (rep n z).length = n * z.length
  | 0 => by simp [rep]
  | n + 1 => by simp [rep, rep_len z n, Nat.succ_mul]; omega

theorem whole_rep {zs : Array Value} {z : List D} (hz : 0 < z.length) (r : Whole h ρ zs z) (n : Nat) : Whole h ρ ((Array.range (n * zs.size)).map (zs[· % zs.size]!)) (rep n z) := by
  refine ⟨by simp [rep_len, r.1], fun j d hj => ?_⟩
  rw [rep_get z hz] at hj
  split at hj
  · rename_i hlt
    obtain ⟨u, a, b⟩ := r.2 _ _ hj
    rw [Nat.zero_add] at a
    refine ⟨u, ?_, b⟩
    have hlt' : j < n * zs.size := by rw [r.1]; exact hlt
    rw [Nat.zero_add, Array.getElem?_map]
    simp only [Array.getElem?_range, hlt', if_true, Option.map_some]
    rw [r.1, getElem!_pos zs _ (Array.getElem?_eq_some_iff.1 a).1]
    rw [← Array.getElem?_eq_getElem, a]
  · cases hj

theorem zeroCells_whole {zs : Array Value} {z : List D} (hz : 0 < z.length) (r : Whole h ρ zs z) (n : Nat) : Whole h ρ (Builtin.zeroCells zs n) (rep n z) := by
  unfold Builtin.zeroCells
  exact whole_rep hz r n
end
end Go.Lv
