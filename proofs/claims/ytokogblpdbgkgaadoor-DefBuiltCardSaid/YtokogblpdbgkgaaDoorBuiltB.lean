/- BuiltA: DefBuilt, run: the library's calls that are known. -/
import Derived.Test.YtokogblpdbgkgaaDoorNvZ
import Derived.Test.YtokogblpdbgkgaaDoorLayB
import Derived.Test.YtokogblpdbgkgaaDoorLayV
import Derived.IntWalk
namespace Go.Lv
open Go Go.Proofs Go.IntWalk
set_option maxRecDepth 100000
set_option linter.unusedSimpArgs false
set_option linter.unusedVariables false
theorem mixed : Tryd.prog.follows .mixedOrders = true := by kernel_rfl
theorem PDen.to {P : Program} {E : Env} {g : FuncId} {args : List D} {r : D} {H : Hp} {R : D → Hp → Prop} (h : PDen P E g args r) (hr : R r H) : Fun P E g args H R :=
  (h.fun H).mono fun d H' hh => by obtain ⟨rfl, rfl⟩ := hh; exact hr
variable {E : Env}
def I (x : Int) : D := .int .i64 x
theorem I_def (x : Int) : I x = .int .i64 x := rfl
def res (p : Int × Int) : D := .tup [.int .i64 p.1, .int .i64 p.2]
theorem res_mk (a b : Int) : res (a, b) = .tup [.int .i64 a, .int .i64 b] := rfl
def F (a : Int) : Bool := decide (0 ≤ a) && decide (a ≤ 1099511627776)
theorem F_iff {a : Int} : F a = true ↔ 0 ≤ a ∧ a ≤ 1099511627776 := by simp [F]
theorem closedI : ∀ xs : List Int, D.closedL (xs.map I) = true
  | [] => rfl
  | x :: xs => by simp only [List.map, D.closedL, I, D.closed, closedI xs, Bool.and_self]
theorem closed_ints (t : Bool) (xs : List Int) : D.closedL [.list t (xs.map I)] = true := by simp only [D.closedL, D.closed, Bool.and_self]
theorem lt_get {xs : List Int} {i : Nat} (h : i < xs.length) : ∃ x, xs[i]? = some x ∧ xs.drop i = x :: xs.drop (i + 1) := ⟨xs[i], List.getElem?_eq_getElem h, List.drop_eq_getElem_cons h⟩
theorem idx {n i : Nat} (hn : n ≤ 4611686018427387904) (h : i < n) : IntKind.i64.wrap ((i : Int) + 1) = ((i + 1 : Nat) : Int) := by
  rw [i64_in _ (by omega)]
  rfl
def digs : Nat → Nat → List UInt8
  | 0, u => [UInt8.ofNat (48 + u)]
  | k + 1, u => if u < 10 then [UInt8.ofNat (48 + u)] else digs k (u / 10) ++ [UInt8.ofNat (48 + u % 10)]
theorem digs_eq : ∀ (k u : Nat), u < 10 ^ (k + 1) → digs k u = Lib.decDigits u
  | 0, u, h => by rw [Lib.decDigits, dif_pos (by omega)]; rfl
  | k + 1, u, h => by
    rw [Lib.decDigits, digs]
    split
    · rfl
    · rename_i hlt
      rw [digs_eq k (u / 10) (by rw [Nat.div_lt_iff_lt_mul (by omega)]; rwa [Nat.pow_succ] at h)]
def itoaD (n : Int) : List UInt8 := if n < 0 then 45 :: digs 19 n.natAbs else digs 19 n.toNat
theorem itoaD_eq {n : Int} (h0 : -9223372036854775808 ≤ n) (h1 : n ≤ 9223372036854775807) : itoaD n = Lib.itoa n := by
  unfold itoaD Lib.itoa
  rw [digs_eq 19 _ (by omega), digs_eq 19 _ (by omega)]
theorem itoa (ht : Tab E.h0 3 .u64 Lib.pow10Tab) (n : Int) (h0 : -9223372036854775808 ≤ n) (h1 : n ≤ 9223372036854775807) : PDen Tryd.prog E 48 [.int .i64 n] (.str (itoaD n)) := by
  refine pden_lib rfl rfl fun h w vs hb hi hsz hrel => ?_
  obtain ⟨v, hv, rv⟩ := hrel 0 _ rfl
  cases rv
  obtain rfl : vs = #[.int .i64 n] := by
    cases vs with | mk l =>
    match l, hsz with
    | [x], _ => simp at hv; subst hv; rfl
  refine (Any.strconv_Itoa Tryd.laysM171 n h0 h1 w ((ht.mono hb).is (by kernel_rfl) hi)).mono fun e w' hh => ?_
  obtain ⟨rfl, k, os, rfl⟩ := hh
  exact ⟨_, k, os, rfl, rfl, .str _ _ (by simp [itoaD_eq h0 h1])⟩
def isTrue : Option (D × Hp) → Bool
  | some (.bool b, _) => b
  | _ => false
theorem isTrue_spec {x : Option (D × Hp)} (h : isTrue x = true) : ∃ H, x = some (.bool true, H) := by
  unfold isTrue at h
  split at h
  · subst h; exact ⟨_, rfl⟩
  · cases h
section
variable {w0 : World} {M0 : Nat → Prop} {hI h : Gh} {ρ : Rn} {H : Hp} {w w' : World}
/-- What only adds to the memory leaves what is told of it. -/
theorem Sim.past (hS : Sim w0 M0 hI h ρ H w) (hb : RowKit.Below w.heap.size w w') : Sim w0 M0 hI h ρ H w' := by
  have same : ∀ (b : Nat) (o : Obj), w.heap[b]? = some o → w'.heap[b]? = some o := fun b o ho => by
    rw [hb.block b (by exact (Array.getElem?_eq_some_iff.1 ho).1)]
    exact ho
  exact {
    os := hb.os.trans hS.os
    tape := hb.tape.trans hS.tape
    output := hb.output.trans hS.output
    size := Nat.le_trans hS.size hb.size
    imm := fun b o ho => same b o (hS.imm b o ho)
    blk := fun i => (hS.blk i).mono (.refl _) (.refl _) fun b x hl hb' hn => by
      obtain ⟨b', x', h1, h2, h3⟩ := (hS.blk i).lies hl
      rw [hb'] at h1
      cases h1
      exact ⟨hb.block b h3, hn⟩
    own := hS.own
    inj := hS.inj
    dom := hS.dom
    ver := hS.ver
    keep := hS.keep
    frame := fun b hlt hm => by rw [hb.block b (by have := hS.size; omega)]; exact hS.frame b hlt hm }
end
theorem bytes_back : ∀ ws : List (List UInt8), (ws.map fun l => (⟨l.toArray⟩ : ByteArray)).map (·.data.toList) = ws
  | [] => rfl
  | l :: ws => by
    rw [List.map_cons, List.map_cons, bytes_back ws]
def strsD (l : List (List UInt8)) : List D := l.map D.str
theorem joinOwn (H : Hp) (i : Nat) (ws : List (List UInt8)) (sep : List UInt8) (hg : hget H i = .row 1 false (strsD ws)) (hl : ws.length ≤ 1000000) (hj : (Lib.join ws sep).length ≤ 140737488355328) :
    Fun Tryd.prog E 16 [.own i ws.length ws.length, .str sep] H fun d H' => d = .str (Lib.join ws sep) ∧ H' = H := by
  refine ⟨fun w0 M0 hI h ρ w vs hb hS hsz hrel => ?_⟩
  obtain ⟨v0, h1, r0⟩ := hrel 0 _ rfl
  obtain ⟨v1, h2, r1⟩ := hrel 1 _ rfl
  obtain rfl : vs = #[v0, v1] := by
    cases vs with | mk l =>
    match l, hsz with
    | [x, y], _ => simp at h1 h2; subst h1 h2; rfl
  cases r1 with | str _ s1 e1 =>
  subst e1
  have hk := hS.blk i
  rw [hg] at hk
  obtain ⟨b, c, cs, e, fz, a1, a2, a3, a4, a5, a6, a7⟩ := hk
  cases r0 with | own _ _ _ b' c' cs' sz' hb' hc' hl' =>
  have hlen : (strsD ws).length = ws.length := by simp [strsD]
  rw [hlen] at a1 a5
  rw [a1] at hb'
  cases hb'
  have hcell : ∀ (j : Nat) x, (ws.map fun l => (⟨l.toArray⟩ : ByteArray))[j]? = some x → w.cell? ⟨b, 0 + j, none⟩ = some (.string x) := by
    intro j x hx
    rw [List.getElem?_map] at hx
    cases hj : ws[j]? with
    | none => rw [hj] at hx; cases hx
    | some l =>
      rw [hj] at hx
      simp only [Option.map_some, Option.some.injEq] at hx
      subst hx
      obtain ⟨u, h3, h4, h5⟩ := a6 j (.str l) (by simp [strsD, hj])
      cases h5 with | str _ s e =>
      subst e
      unfold World.cell?
      rw [a3]
      simpa using h3
  have hmap := bytes_back ws
  have hwl : (ws.map fun l => (⟨l.toArray⟩ : ByteArray)).length = ws.length := by simp
  have key := Tryd.strings_Join b 0 c' (ws.map fun l => (⟨l.toArray⟩ : ByteArray)) s1 w hcell (Array.getElem?_eq_some_iff.1 a3).1 (by rw [hwl]; omega) (by rw [hwl]; exact hl') (by rw [hmap]; exact hj)
  rw [hmap, hwl] at key
  refine key.mono fun e w' ⟨he, hbel⟩ => ?_
  subst he
  exact ⟨_, _, H, h, ρ, rfl, ⟨rfl, rfl⟩, .refl _, .refl _, hS.past hbel, .str _ _ rfl⟩
def strsOf : List D → Option (List (List UInt8))
  | [] => some []
  | .str s :: l => match strsOf l with
    | some r => some (s :: r)
    | none => none
  | _ => none
theorem strsOf_spec : ∀ {cs : List D} {ws : List (List UInt8)}, strsOf cs = some ws → cs = strsD ws
  | [], ws, h => by cases h; rfl
  | .str s :: l, ws, h => by
    simp only [strsOf] at h
    split at h
    · rename_i r hr
      cases h
      rw [strsOf_spec hr]
      rfl
    · cases h
def knownL (f : FuncId) (args : List D) (H : Hp) : Option (D × Hp) :=
  if f = 16 then
    match args with
    | [.own i len n, .str sep] => match hget H i with
      | .row 1 false cs => match strsOf cs with
        | some ws => if len = ws.length ∧ n = ws.length ∧ ws.length ≤ 1000000 ∧ (Lib.join ws sep).length ≤ 140737488355328 then some (.str (Lib.join ws sep), H) else none
        | none => none
      | _ => none
    | _ => none
  else if f = 48 then
    match args with
    | [.int .i64 n] => if -9223372036854775808 ≤ n ∧ n ≤ 9223372036854775807 then some (.str (itoaD n), H) else none
    | _ => none
  else if f = 56 then
    match args with
    | [.str s] => if s.length ≤ 1000 then some (.bool (Lib.validD s), H) else none
    | _ => none
  else none
/-- The two tables of unicode/utf8 lie where the program has them. -/
def UT (E : Env) : Prop := ∀ w : World, GLe E.h0 (fun b => w.heap[b]?) → Lib.Utf8Tabs (Tryd.lays196_ren.g 3) (Tryd.lays196_ren.g 4) w
theorem valid56 (hU : UT E) (s : List UInt8) (hs : s.length ≤ 4611686018427387904) : PDen Tryd.prog E 56 [.str s] (.bool (Lib.validD s)) := by
  refine pden_below rfl rfl fun h w vs hb hi hsz hrel => ?_
  obtain ⟨v, hv, rv⟩ := hrel 0 _ rfl
  cases rv with | str _ b e =>
  subst e
  obtain rfl : vs = #[.string b] := by
    cases vs with | mk l =>
    match l, hsz with
    | [x], _ => exact congrArg (fun v => #[v]) (Option.some.inj (show some x = some _ from hv))
  have hbs : b.size = b.data.toList.length := Array.length_toList.symm
  refine (Tryd.utf8_ValidString b w (by omega) (hU w (hb.trans hi))).mono fun e w' hh => ?_
  obtain ⟨rfl, hB⟩ := hh
  exact ⟨_, rfl, hB, .bool _⟩
def knownLOf (E : Env) (hU : UT E) (ht : Tab E.h0 3 .u64 Lib.pow10Tab) : Known Tryd.prog E where
  call := knownL
  ok := by
    intro g args H r H' h
    unfold knownL at h
    split at h
    · rename_i hg
      subst hg
      split at h
      · rename_i i len n sep
        split at h
        · rename_i cs hgt
          split at h
          · rename_i ws hw
            split at h
            · rename_i hh
              obtain ⟨rfl, rfl, hl, hj⟩ := hh
              cases h
              have := strsOf_spec hw
              subst this
              exact joinOwn H i ws sep hgt hl hj
            · cases h
          · cases h
        · cases h
      · cases h
    · split at h
      · rename_i hg
        subst hg
        split at h
        · split at h
          · rename_i hn
            cases h
            exact (itoa ht _ hn.1 hn.2).fun H
          · cases h
        · cases h
      · split at h
        · rename_i hg
          subst hg
          split at h
          · split at h
            · rename_i hn
              cases h
              exact (valid56 hU _ (by omega)).fun H
            · cases h
          · cases h
        · cases h
end Go.Lv
