/- LvA: an abstract semantics of loaded functions over data trees. Definitions alone. -/
import Derived.Calls
import Derived.Orders
import Derived.Laws.Entries
import Derived.Laws.Externs
import Derived.Lib.Bytealg
import Derived.Laws.Sem
import Derived.Laws.World
import Derived.Laws.NewFold
import Derived.Laws.Strings
import Derived.Laws.Unary
import Derived.Laws.Slices
import Derived.Laws.StructEq
namespace Go.Lv
open Go

/-- A value told as data. 'list': a slice whose cells are not written any more ('true': its capacity is its length); 'at': a pointer into such cells; 'ptr': into block i of the call's own heap, which has n cells; 'own': the first 'len' elements of the row in block i; 'asl': a window on a block. -/
inductive D where
  | und
  | bool (b : Bool)
  | int (k : IntKind) (n : Int)
  | str (s : List UInt8)
  | list (t : Bool) (xs : List D)
  | at (cs : List D) (off : Nat)
  | ptr (i off n : Nat)
  | nilp
  | own (i len n : Nat)
  | asl (i off len n : Nat)
  | agg (cs : List D)
  | tup (cs : List D)
  | fn (f : Fn) (first cap : List D)
  | nilf
  | iface (t : TypeId) (d : D)
  | nili
  | yld (i : Nat)
  | mp (i : Nat)
  | nilm
  deriving Inhabited

def D.cells : D → List D
  | .agg cs => cs
  | d => [d]

/-- Its cells, where it may be stored. -/
def D.cells? : D → Option (List D)
  | .agg cs => some cs
  | .und => none
  | .tup _ => none
  | d => some [d]

mutual
def D.closed : D → Bool
  | .ptr .. => false
  | .own .. => false
  | .asl .. => false
  | .yld _ => false
  | .mp _ => false
  | .at cs _ => D.closedL cs
  | .agg cs => D.closedL cs
  | .tup cs => D.closedL cs
  | .fn _ a b => D.closedL a && D.closedL b
  | .iface _ d => d.closed
  | _ => true
def D.closedL : List D → Bool
  | [] => true
  | d :: l => d.closed && D.closedL l
end

/-- How a loop over an iterator stands: it waits for a round; is in one; one has left it by a jump. -/
inductive RSt where
  | ready
  | busy
  | done (c : Code)
/-- A block of the call's own: a variable; a row (of elements of sz cells; ag: they are structs or arrays), which may have room behind; one that is not written any more; an iterator over a string. -/
inductive Blk where
  | var (cs : List D)
  | row (sz : Nat) (ag : Bool) (cs : List D)
  | frz (sz : Nat) (ag : Bool) (cs : List D)
  | iter (s : List UInt8) (pos : Nat)
  | rng (ts : List D) (ps : List Nat) (assign body : Code) (st : RSt)
  | map (es : List (D × D))
  | dead

abbrev Hp := List Blk

def Blk.cs : Blk → List D
  | .var cs | .row _ _ cs | .frz _ _ cs => cs
  | _ => []
def Blk.isC : Blk → Bool
  | .var _ | .row .. | .frz .. => true
  | _ => false
def Blk.mut : Blk → Bool
  | .var _ | .row .. => true
  | _ => false
def Blk.setCs : Blk → List D → Blk
  | .var _, cs => .var cs
  | .row sz ag _, cs => .row sz ag cs
  | b, _ => b

def nth : List D → Nat → D
  | [], _ => .und
  | d :: _, 0 => d
  | _ :: l, n + 1 => nth l n
def put : List D → Nat → D → List D
  | [], _, _ => []
  | _ :: l, 0, d => d :: l
  | a :: l, n + 1, d => a :: put l n d
def putO (l : List D) (o : Option Nat) (d : D) : List D :=
  match o with
  | some t => put l t d
  | none => l
def hget : Hp → Nat → Blk
  | [], _ => .dead
  | b :: _, 0 => b
  | _ :: l, n + 1 => hget l n
def hset : Hp → Nat → Blk → Hp
  | [], _, _ => []
  | _ :: l, 0, b => b :: l
  | a :: l, n + 1, b => a :: hset l n b

/-- The cells of a block, if it has so many: what a pointer that was made then reads. -/
def cellsOf (H : Hp) (i n : Nat) : Option (List D) :=
  if (hget H i).isC && (hget H i).cs.length == n then some (hget H i).cs else none

/- ### Types -/
structure FI where
  off : Nat
  sz : Nat
  ag : Bool
inductive Ty where
  | int (k : IntKind)
  | bool
  | str
  | slice (e sz bytes : Nat) (ag : Bool)
  | map (k e : TypeId)
  | struct (fs : List FI)
  | arr (n sz : Nat) (ag : Bool)
  | ptr
  | func
  | iface
  | other
/-- How many cells a value of a known type has; 0: the type isn't known. -/
def szOf (P : Program) (t : TypeId) : Nat := if (P.underlying t).isSome then P.cellsOf t else 0
def isAg (P : Program) (t : TypeId) : Bool := match P.underlying t with | some (.struct _) | some (.array _ _) => true | _ => false
def ty (P : Program) (t : TypeId) : Ty :=
  match P.underlying t with
  | some (.int k) => .int k
  | some .bool => .bool
  | some .string => .str
  | some (.slice e) => .slice e (szOf P e) (P.bytesOf e) (isAg P e)
  | some (.struct fs) => .struct (fs.toList.map fun f => ⟨f.offset, szOf P f.type, isAg P f.type⟩)
  | some (.array n e) => .arr n (szOf P e) (isAg P e)
  | some (.pointer _) => .ptr
  | some (.map k e) => .map k e
  | some (.func ..) => .func
  | some (.interface _) => .iface
  | _ => .other

def ofV : Value → D
  | .bool b => .bool b
  | .int k n => .int k n
  | .string s => .str s.data.toList
  | .slice none 0 0 => .list true []
  | .pointer none => .nilp
  | .nilFunc => .nilf
  | .map none => .nilm
  | .nilIface => .nili
  | _ => .und
/-- The zero value's cells. -/
def zcells (P : Program) (t : TypeId) : List D :=
  match P.info? t with
  | some i => match i.zero with
    | some v => if v.cells.toList.all Value.oneCell' then v.cells.toList.map ofV else []
    | none => []
  | none => []

/-- What an operand tells. -/
def ev (G : Nat → D) (ts : List D) : Operand → D
  | .tmp t => nth ts t
  | .const v => ofV v
  | .func f => .fn (.func f) [] []
  | .global g => G g

/-- The elements of cells, sz each, that are structs or arrays. -/
def chunk (sz : Nat) : Nat → List D → List D
  | 0, _ => []
  | n + 1, cs => .agg (cs.take sz) :: chunk sz n (cs.drop sz)
def els (ag : Bool) (sz n : Nat) (cs : List D) : List D := if ag then chunk sz n cs else cs
/-- A cell's value by itself. -/
def D.isCell : D → Bool
  | .agg _ | .tup _ | .und => false
  | _ => true
def allCell : List D → Bool
  | [] => true
  | d :: l => d.isCell && allCell l
def part (ag : Bool) (cs : List D) (off sz : Nat) : Option D :=
  if off + sz ≤ cs.length ∧ 0 < sz ∧ (ag = true ∨ sz = 1) then some (if ag then .agg ((cs.drop off).take sz) else nth cs off) else none
def splice (cs : List D) (off : Nat) (new : List D) : List D := cs.take off ++ new ++ cs.drop (off + new.length)

/- ### Operations without memory -/
/-- Are two of a plain kind one? -/
def dEq : D → D → Option Bool
  | .bool a, .bool b => some (a == b)
  | .int k a, .int k' b => if k = k' then some (a == b) else none
  | .str a, .str b => some (a == b)
  | _, _ => none
def dEqL : List D → List D → Option Bool
  | [], [] => some true
  | a :: x, b :: y => match dEq a b with
    | some true => dEqL x y
    | some false => some false
    | none => none
  | _, _ => none
/-- Do the fields lie one behind the other? -/
def tiles (P : Program) : Nat → List Field → Nat → Bool
  | off, [], total => off == total
  | off, f :: fs, total => f.offset == off && tiles P (off + P.cellsOf f.type) fs total
inductive KK where
  | i
  | b
  | s
def kindsF (k : TypeId → Option (List KK)) : List Field → Option (List KK)
  | [] => some []
  | f :: fs => if f.name = "_" then none else match k f.type, kindsF k fs with
    | some a, some b => some (a ++ b)
    | _, _ => none
/-- The kinds of the cells of a type of whole numbers, bools and texts alone, all of which count. -/
def kinds (P : Program) : Nat → TypeId → Option (List KK)
  | 0, _ => none
  | d + 1, t => if P.cellsOf t = 0 then none else match P.underlying t with
    | some (.int _) => if P.cellsOf t = 1 then some [.i] else none
    | some .bool => if P.cellsOf t = 1 then some [.b] else none
    | some .string => if P.cellsOf t = 1 then some [.s] else none
    | some (.struct fs) => if P.stoodInHeld t = false ∧ tiles P 0 fs.toList (P.cellsOf t) = true then kindsF (kinds P d) fs.toList else none
    | some (.array n e) => if n * P.cellsOf e = P.cellsOf t then (kinds P d e).map fun l => (List.replicate n l).flatten else none
    | _ => none
def kindsA (P : Program) (t : TypeId) : Option (List KK) := if isAg P t = true ∧ 9 ≤ P.depth then kinds P 9 t else none
def okK : List KK → List D → Bool
  | [], [] => true
  | .i :: ks, .int .. :: ds => okK ks ds
  | .b :: ks, .bool _ :: ds => okK ks ds
  | .s :: ks, .str _ :: ds => okK ks ds
  | _, _ => false
def dBin (op : BinOp) (x y : D) : Option D :=
  match x, y with
  | .int k a, .int k' b =>
    match op with
    | .shl => if 0 ≤ b then some (.int k (k.wrap (a * 2 ^ (min b.toNat k.bits)))) else none
    | .shr => if 0 ≤ b then some (.int k (a.fdiv (2 ^ (min b.toNat k.bits)))) else none
    | _ => if k = k' then
      match op with
      | .add => some (.int k (k.wrap (a + b)))
      | .sub => some (.int k (k.wrap (a - b)))
      | .mul => some (.int k (k.wrap (a * b)))
      | .quo => if b = 0 then none else some (.int k (k.wrap (a.tdiv b)))
      | .rem => if b = 0 then none else some (.int k (a.tmod b))
      | .and => some (.int k (bits .and k a b))
      | .or => some (.int k (bits .or k a b))
      | .xor => some (.int k (bits .xor k a b))
      | .andNot => some (.int k (bits .andNot k a b))
      | .lss => some (.bool (decide (a < b)))
      | .leq => some (.bool (decide (a ≤ b)))
      | .gtr => some (.bool (decide (a > b)))
      | .geq => some (.bool (decide (a ≥ b)))
      | .eql => some (.bool (a == b))
      | .neq => some (.bool (a != b))
      | _ => none
      else none
  | .str a, .str b =>
    match op with
    | .add => if a.length + b.length ≤ 2 ^ 62 then some (.str (a ++ b)) else none
    | .eql => some (.bool (a == b))
    | .neq => some (.bool (!(a == b)))
    | .lss => some (.bool (Op.bytesLess a b))
    | .leq => some (.bool (Op.bytesLess a b || a == b))
    | .gtr => some (.bool (!(Op.bytesLess a b || a == b)))
    | .geq => some (.bool (!Op.bytesLess a b))
    | _ => none
  | _, _ => none
def dEqO (op : BinOp) (r : Option Bool) : Option D :=
  match r with
  | some b => match op with | .eql => some (.bool b) | .neq => some (.bool (!b)) | _ => none
  | none => none
/-- '==' and '!=' beside those of whole numbers and texts. -/
def dBinT (P : Program) (op : BinOp) (t : TypeId) (x y : D) : Option D :=
  match x with
  | .agg xs => match y, kindsA P t with
    | .agg ys, some ks => if okK ks xs = true ∧ okK ks ys = true then dEqO op (dEqL xs ys) else none
    | _, _ => none
  | .ptr .. => match y, ty P t with
    | .nilp, .ptr => dEqO op (some false)
    | _, _ => none
  | .at .. => match y, ty P t with
    | .nilp, .ptr => dEqO op (some false)
    | _, _ => none
  | .nilp => match y, ty P t with
    | .nilp, .ptr => dEqO op (some true)
    | _, _ => none
  | .bool a => match y, ty P t with
    | .bool b, .bool => dEqO op (some (a == b))
    | _, _ => none
  | _ => dBin op x y
def dUn (op : UnOp) (x : D) : Option D :=
  match op, x with
  | .not, .bool b => some (.bool (!b))
  | .neg, .int k n => some (.int k (k.wrap (0 - n)))
  | .xor, .int k n => some (.int k (bits .xor k (if k.signed then -1 else k.max) n))
  | _, _ => none
def dLen (t : Ty) (x : D) : Option D :=
  match t, x with
  | .str, .str s => some (.int .i64 s.length)
  | .slice .., .list _ xs => some (.int .i64 xs.length)
  | .slice .., .own _ len _ => some (.int .i64 len)
  | .slice .., .asl _ _ len _ => some (.int .i64 len)
  | .arr n _ _, _ => some (.int .i64 n)
  | _, _ => none
def dField (f : Option FI) (x : D) : Option D :=
  match f, x with
  | some f, .agg cs => part f.ag cs f.off f.sz
  | _, _ => none
def dFieldA (f : Option FI) (x : D) : Option D :=
  match f, x with
  | some f, .at cs off => if f.sz = 0 then none else some (.at cs (off + f.off))
  | some f, .ptr b off n => if f.sz = 0 then none else some (.ptr b (off + f.off) n)
  | _, _ => none
def Ty.fi (t : Ty) (i : Nat) : Option FI := match t with | .struct fs => fs[i]? | _ => none
def dIdxA (t : Ty) (x i : D) : Option D :=
  match t, x, i with
  | .slice _ sz _ _, .list _ xs, .int _ n => if 0 ≤ n ∧ 0 < sz then match xs[n.toNat]? with | some d => if d.cells.length = sz then some (.at d.cells 0) else none | none => none else none
  | .slice _ sz _ _, .own b len N, .int _ n => if 0 ≤ n ∧ n < len ∧ 0 < sz then some (.ptr b (n.toNat * sz) N) else none
  | .slice _ sz _ _, .asl b off len N, .int _ n => if 0 ≤ n ∧ n < len ∧ 0 < sz then some (.ptr b (off + n.toNat * sz) N) else none
  | .arr m sz _, .ptr b off N, .int _ n => if 0 ≤ n ∧ n < m ∧ 0 < sz then some (.ptr b (off + n.toNat * sz) N) else none
  | .arr m sz _, .at cs off, .int _ n => if 0 ≤ n ∧ n < m ∧ 0 < sz then some (.at cs (off + n.toNat * sz)) else none
  | _, _, _ => none
def dIdx (t : Ty) (x i : D) : Option D :=
  match t, x, i with
  | .str, .str s, .int _ n => if 0 ≤ n then match s[n.toNat]? with | some b => some (.int .u8 b.toNat) | none => none else none
  | .arr m sz ag, .agg cs, .int _ n => if 0 ≤ n ∧ n < m then part ag cs (n.toNat * sz) sz else none
  | _, _, _ => none
def Ty.isA : Ty → Bool
  | .struct _ | .arr .. => true
  | _ => false
def dLoad (t : Ty) (sz : Nat) (H : Hp) (p : D) : Option D :=
  match p with
  | .at cs off => part t.isA cs off sz
  | .ptr b off n => match cellsOf H b n with | some cs => part t.isA cs off sz | none => none
  | _ => none
def dStore (sz : Nat) (H : Hp) (p x : D) : Option Hp :=
  match p, x.cells? with
  | .ptr b off n, some new =>
    if (hget H b).mut && (hget H b).cs.length == n && new.length == sz && decide (off + sz ≤ n) then some (hset H b ((hget H b).setCs (splice (hget H b).cs off new))) else none
  | _, _ => none
/-- An optional bound of a slice expression. -/
def dBnd (x : Option D) (dflt : Nat) : Option Nat :=
  match x with
  | none => some dflt
  | some (.int _ n) => if 0 ≤ n then some n.toNat else none
  | _ => none
/-- All have so many cells. -/
def allSz (sz : Nat) (xs : List D) : Bool := xs.all fun x => x.cells.length == sz
def dSlice (t : Ty) (x : D) (lo hi mx : Option D) : Option D :=
  match t, x with
  | .str, .str s => match mx, dBnd lo 0, dBnd hi s.length with
    | none, some l, some h => if l ≤ h ∧ h ≤ s.length then some (.str ((s.take h).drop l)) else none
    | _, _, _ => none
  | .slice _ sz _ _, .list tt xs => if 0 < sz ∧ allSz sz xs = true then match dBnd lo 0, dBnd hi xs.length, mx with
    | some l, some h, none => if l ≤ h ∧ h ≤ xs.length then some (.list (tt && h == xs.length) ((xs.take h).drop l)) else none
    | some l, some h, some m => match dBnd (some m) 0 with
      | some m => if hi.isSome = true ∧ l ≤ h ∧ h ≤ m ∧ m ≤ xs.length then some (.list (h == m) ((xs.take h).drop l)) else none
      | none => none
    | _, _, _ => none
    else none
  | .slice _ sz _ _, .own i len n => if 0 < sz then match dBnd lo 0, dBnd hi len, mx with
    | some l, some h, none => if l ≤ h ∧ h ≤ len then some (if l = 0 then .own i h n else .asl i (l * sz) (h - l) n) else none
    | _, _, _ => none
    else none
  | .slice _ sz _ _, .asl i off len n => if 0 < sz then match dBnd lo 0, dBnd hi len, mx with
    | some l, some h, none => if l ≤ h ∧ h ≤ len then some (.asl i (off + l * sz) (h - l) n) else none
    | _, _, _ => none
    else none
  | .arr m sz _, .ptr i off n => if 0 < sz then match dBnd lo 0, dBnd hi m, mx with
    | some l, some h, none => if l ≤ h ∧ h ≤ m then some (.asl i (off + l * sz) (h - l) n) else none
    | some l, some h, some k => match dBnd (some k) 0 with
      | some k => if hi.isSome = true ∧ l ≤ h ∧ h ≤ k ∧ k ≤ m then some (.asl i (off + l * sz) (h - l) n) else none
      | none => none
    | _, _, _ => none
    else none
  | _, _ => none
/-- Cells with parts laid at their places. -/
def dFill (place : Nat → Option (Nat × Nat)) (cs : List D) : List (Nat × D) → Option (List D)
  | [] => some cs
  | (i, d) :: rest => match place i, d.cells? with
    | some (off, sz), some new => if new.length = sz ∧ off + sz ≤ cs.length then dFill place (splice cs off new) rest else none
    | _, _ => none
def rep (n : Nat) (z : List D) : List D := match n with | 0 => [] | n + 1 => z ++ rep n z
def dBuild (t : Ty) (sz : Nat) (z : List D) (parts : List (Nat × D)) : Option D :=
  if z.length = sz ∧ 0 < sz then
    match t with
    | .struct fs => if fs.all (fun f => decide (0 < f.sz)) = true then (dFill (fun i => (fs[i]?).map fun f => (f.off, f.sz)) z parts).map .agg else none
    | .arr _ s _ => if 0 < s then (dFill (fun i => some (i * s, s)) z parts).map .agg else none
    | _ => none
  else none
/-- The cells of the elements of what is appended or copied. -/
def srcCells (H : Hp) (sz : Nat) : D → Option (List D)
  | .list _ xs => if allSz sz xs = true then some (xs.flatMap D.cells) else none
  | .own i len n => match cellsOf H i n with
    | some cs => if len * sz ≤ n then some (cs.take (len * sz)) else none
    | none => none
  | .asl i off len n => match cellsOf H i n with
    | some cs => if off + len * sz ≤ n then some ((cs.drop off).take (len * sz)) else none
    | none => none
  | .str s => if sz = 1 then some (s.map fun b => .int .u8 b.toNat) else none
  | _ => none
def dLenN : D → Option Nat
  | .list _ xs => some xs.length
  | .str s => some s.length
  | .own _ len _ => some len
  | .asl _ _ len _ => some len
  | _ => none
/-- 's' with n elements more, whose cells are 'new'. -/
def dAppend (H : Hp) (sz bytes : Nat) (ag : Bool) (s : D) (n : Nat) (new : List D) : Option (D × Hp) :=
  if !(decide (0 < sz) && decide (0 < bytes) && new.length == n * sz) then none else
  match s with
  | .list t xs =>
    if n = 0 then some (.list t xs, H)
    else if t && allSz sz xs && decide ((xs.length + n) * bytes ≤ 2 ^ 46) then
      some (.own H.length (xs.length + n) (xs.flatMap D.cells ++ new).length, H ++ [.row sz ag (xs.flatMap D.cells ++ new)])
    else none
  | .own i len N =>
    match hget H i with
    | .row sz' ag' cs =>
      if cs.length = N ∧ sz' = sz ∧ (len + n) * bytes ≤ 2 ^ 46 then
        if n = 0 then some (.own i len N, H)
        else if len * sz = N then some (.own i (len + n) (N + n * sz), hset H i (.row sz' ag' (cs ++ new)))
        else if (len + n) * sz ≤ N then some (.own i (len + n) N, hset H i (.row sz' ag' (splice cs (len * sz) new)))
        else none
      else none
    | _ => none
  | _ => none
def dConv (src dst : Ty) (x : D) : Option D :=
  match src, dst, x with
  | .int _, .int k, .int _ n => some (.int k (k.wrap n))
  | .int _, .str, .int _ n => some (.str (Utf8.encode n).data.toList)
  | .str, .str, .str s => some (.str s)
  | _, _, _ => none
def bytesOfD : List D → Option (List UInt8)
  | [] => some []
  | .int .u8 n :: l => if 0 ≤ n ∧ n ≤ 255 then match bytesOfD l with
    | some r => some (UInt8.ofNat n.toNat :: r)
    | none => none
    else none
  | _ => none
/-- A slice of bytes as a text. -/
def dBytes (H : Hp) (x : D) : Option D :=
  match x with
  | .list .. | .own .. | .asl .. => match srcCells H 1 x with
    | some cs => match bytesOfD cs with
      | some l => some (.str l)
      | none => none
    | none => none
  | _ => none
def dConvH (P : Program) (s d : TypeId) (H : Hp) (x : D) : Option D :=
  match ty P s, ty P d with
  | .slice e 1 _ _, .str => match ty P e with
    | .int .u8 => dBytes H x
    | _ => none
  | .str, .slice e 1 _ false => match ty P e, x with
    | .int .u8, .str s => some (.list false (s.map fun b => .int .u8 b.toNat))
    | _, _ => none
  | ts, td => dConv ts td x

/-- Is what an interface holds, of type t', one of type t? 'true': t is an interface, and it has all methods; 'false': it is t itself. -/
def asserts (P : Program) (t t' : TypeId) : Option Bool :=
  match P.underlying t with
  | some (.interface want) => match P.info? t' with
    | some i => if (Instr.missingMethod want i.methods).isNone then some true else none
    | none => none
  | some _ => if t' = t then some false else none
  | none => none
/-- The method that a value of a type has under a name: of the value itself. -/
def methOf (P : Program) (t : TypeId) (name : String) : Option FuncId :=
  match P.info? t with
  | some i => match i.methods.find? (·.name == name) with
    | some m => if m.path.isEmpty then match m.func, P.underlying t with
        | some (f, true), some (.pointer _) => some f
        | some (_, false), some (.pointer _) => none
        | some (f, false), some _ => some f
        | _, _ => none
      else none
    | none => none
  | none => none

/-- Are two keys one? Of whole numbers, texts, and plain structs and arrays. -/
def keyEq (P : Program) (k : TypeId) (a b : D) : Option Bool :=
  match a, b with
  | .int q x, .int q' y => match ty P k with
    | .int _ => if q = q' then some (x == y) else none
    | _ => none
  | .str x, .str y => match ty P k with
    | .str => some (x == y)
    | _ => none
  | _, _ => none
/-- What a key is laid at: none: it isn't known. -/
def mfind (P : Program) (k : TypeId) (a : D) : List (D × D) → Option (Option D)
  | [] => some none
  | e :: es => match keyEq P k a e.1 with
    | some true => some (some e.2)
    | some false => mfind P k a es
    | none => none
def mput (P : Program) (k : TypeId) (a v : D) : List (D × D) → Option (List (D × D))
  | [] => some [(a, v)]
  | e :: es => match keyEq P k a e.1 with
    | some true => some ((a, v) :: es)
    | some false => (mput P k a v es).map (e :: ·)
    | none => none
/-- A key of a kind whose keys are told apart. -/
def isKey (P : Program) (k : TypeId) (a : D) : Bool :=
  match a, ty P k with
  | .int .., .int _ => true
  | .str _, .str => true
  | _, _ => false
/-- A type's zero value, whole. -/
def zval (P : Program) (t : TypeId) : Option D :=
  match P.info? t with
  | some i => match i.zero with
    | some (.agg _) => if 0 < (zcells P t).length then some (.agg (zcells P t)) else none
    | some v => some (ofV v)
    | none => none
  | none => none
def dMents (H : Hp) (x : D) : Option (List (D × D)) :=
  match x with
  | .nilm => some []
  | .mp m => match hget H m with
    | .map es => some es
    | _ => none
  | _ => none
def dLook (P : Program) (t : TypeId) (H : Hp) (x i : D) (ok : Bool) : Option D :=
  match ty P t with
  | .map k e => if isKey P k i then
      match dMents H x with
      | some es => match mfind P k i es with
        | some (some v) => some (if ok then .tup [v, .bool true] else v)
        | some none => match zval P e with
          | some z => some (if ok then .tup [z, .bool false] else z)
          | none => none
        | none => none
      | none => none
    else none
  | _ => none
def dMput (P : Program) (t : TypeId) (H : Hp) (x i v : D) : Option Hp :=
  match ty P t, x with
  | .map k _, .mp m => if isKey P k i then match hget H m with
      | .map es => (mput P k i v es).map fun es' => hset H m (.map es')
      | _ => none
    else none
  | _, _ => none
/-- How much a map has. -/
def dMlen (H : Hp) (x : D) : Option D :=
  match dMents H x with
  | some es => some (.int .i64 es.length)
  | none => none
/-- An operation that is no call of a function: what it tells, and the heap behind it. -/
def aop (P : Program) (op : Op) (α : Operand → D) (H : Hp) : Option (D × Hp) :=
  match op with
  | .move x | .assign x => some (α x, H)
  | .pick c a b => match α c with | .bool t => some (if t then α a else α b, H) | _ => none
  | .binOp op t x y _ => (dBinT P op t (α x) (α y)).map (·, H)
  | .unOp op _ x => (dUn op (α x)).map (·, H)
  | .indexAddr t x i => (dIdxA (ty P t) (α x) (α i)).map (·, H)
  | .index t x i => (dIdx (ty P t) (α x) (α i)).map (·, H)
  | .fieldAddr t x f => (dFieldA ((ty P t).fi f) (α x)).map (·, H)
  | .field t x f => (dField ((ty P t).fi f) (α x)).map (·, H)
  | .load t a => (dLoad (ty P t) (szOf P t) H (α a)).map (·, H)
  | .store t a x => if 0 < szOf P t then (dStore (szOf P t) H (α a) (α x)).map (.und, ·) else none
  | .alloc t => if 0 < (zcells P t).length then some (.ptr H.length 0 (zcells P t).length, H ++ [.var (zcells P t)]) else none
  | .box _ x => match (α x).cells? with
    | some cs => some (.ptr H.length 0 cs.length, H ++ [.var cs])
    | none => none
  | .build t parts => (dBuild (ty P t) (szOf P t) (zcells P t) (parts.toList.map fun (x : Nat × Operand) => (x.1, α x.2))).map (·, H)
  | .buildSlice t len parts => match ty P t with
    | .slice e sz _ ag =>
      if 0 < sz ∧ (zcells P e).length = sz ∧ len * sz ≤ 2 ^ 20 then
        match dFill (fun i => some (i * sz, sz)) (rep len (zcells P e)) (parts.toList.map fun (x : Nat × Operand) => (x.1, α x.2)) with
        | some cs =>
          if D.closedL cs = true ∧ (ag = true ∨ sz = 1 ∧ allCell cs = true) then some (.list true (els ag sz len cs), H)
          else some (.own H.length len cs.length, H ++ [.row sz ag cs])
        | none => none
      else none
    | _ => none
  | .makeSlice t l c => match ty P t, α l, α c with
    | .slice e sz bytes ag, .int .i64 l, .int .i64 c =>
      if 0 < sz ∧ 0 < bytes ∧ (zcells P e).length = sz ∧ 0 ≤ l ∧ l ≤ c ∧ c * bytes ≤ 2 ^ 46 then
        some (.own H.length l.toNat (rep c.toNat (zcells P e)).length, H ++ [.row sz ag (rep c.toNat (zcells P e))])
      else none
    | _, _, _ => none
  | .slice t x lo hi mx => (dSlice (ty P t) (α x) (lo.map α) (hi.map α) (mx.map α)).map (·, H)
  | .extract x i => match α x with | .tup ds => (ds[i]?).map (·, H) | _ => none
  | .makeFunc f first cap => some (.fn f (first.toList.map α) (cap.toList.map α), H)
  | .makeInterface t x => match ty P t with | .iface => none | .other => none | _ => some (.iface t (α x), H)
  | .nilCheck x => match α x with
    | .ptr i o n => some (.ptr i o n, H)
    | .at cs o => some (.at cs o, H)
    | .fn (.func f) a b => some (.fn (.func f) a b, H)
    | .yld i => some (.yld i, H)
    | _ => none
  | .convert s d x => (dConvH P s d H (α x)).map (·, H)
  | .typeAssert x _ t ok => match α x with
    | .iface t' d => match asserts P t t' with
      | some true => some (if ok then .tup [.iface t' d, .bool true] else .iface t' d, H)
      | some false => some (if ok then .tup [d, .bool true] else d, H)
      | none => none
    | _ => none
  | .range t x => match ty P t, α x with
    | .str, .str s => some (.ptr H.length 0 0, H ++ [.iter s 0])
    | _, _ => none
  | .next it true => match α it with
    | .ptr i 0 0 => match hget H i with
      | .iter s pos =>
        if pos < s.length then
          some (.tup [.bool true, .int .i64 pos, .int .i32 (Utf8.decode ⟨s.toArray⟩ pos).1], hset H i (.iter s (pos + (Utf8.decode ⟨s.toArray⟩ pos).2)))
        else some (.tup [.bool false], H)
      | _ => none
    | _ => none
  | .makeMap t none => match ty P t with
    | .map .. => some (.mp H.length, H ++ [.map []])
    | _ => none
  | .lookup t x i ok => (dLook P t H (α x) (α i) ok).map (·, H)
  | .mapUpdate t x i v => (dMput P t H (α x) (α i) (α v)).map (.und, ·)
  | .call { callee := .builtin b, args, argTypes } =>
    match b, args.toList, argTypes.toList with
    | .len, [x], [t] => match ty P t with
      | .map .. => (dMlen H (α x)).map (·, H)
      | _ => (dLen (ty P t) (α x)).map (·, H)
    | .cap, [x], [t] => match ty P t, α x with
      | .slice .., .list true xs => some (.int .i64 xs.length, H)
      | _, _ => none
    | .append, [s, x], [t, u] => match ty P t, ty P u with
      | .slice e sz bytes ag, .slice .. | .slice e sz bytes ag, .str => match dLenN (α x), srcCells H sz (α x) with
        | some n, some new => if (zcells P e).length = sz then dAppend H sz bytes ag (α s) n new else none
        | _, _ => none
      | .slice e sz bytes ag, .int _ => match α x with
        | .int .i64 n => match α s with
          | .list true xs => if 0 < n ∧ (zcells P e).length = sz then dAppend H sz bytes ag (.list true xs) n.toNat (rep n.toNat (zcells P e)) else none
          | _ => none
        | _ => none
      | _, _ => none
    | .max, [x, y], _ => match α x, α y with | .int k a, .int k' b => if k = k' then some (.int k (if b > a then b else a), H) else none | _, _ => none
    | .min, [x, y], _ => match α x, α y with | .int k a, .int k' b => if k = k' then some (.int k (if b < a then b else a), H) else none | _, _ => none
    | .max, [x, y, z], _ => match α x, α y, α z with | .int k a, .int k' b, .int k'' c => if k = k' ∧ k = k'' then some (.int k (if c > (if b > a then b else a) then c else (if b > a then b else a)), H) else none | _, _, _ => none
    | _, _, _ => none
  | _ => none

/-- A call of a function whose value is known: which, with which arguments. -/
def callee (P : Program) (op : Op) (α : Operand → D) : Option (FuncId × List D) :=
  match op with
  | .call { callee := .invoke x name, args, .. } => match α x with
    | .iface t d => match methOf P t name with
      | some g => some (g, d :: args.toList.map α)
      | none => none
    | _ => none
  | .call { callee := .value f, args, .. } => match α f with
    | .fn (.func g) first cap => some (g, first ++ args.toList.map α ++ cap)
    | _ => none
  | _ => none
/-- A call of yield: whose, with what. -/
def yieldOf (op : Op) (α : Operand → D) : Option (Nat × List D) :=
  match op with
  | .call { callee := .value f, args, .. } => match α f with
    | .yld i => some (i, args.toList.map α)
    | _ => none
  | _ => none
/-- Parameters laid into a frame. -/
def putL : List D → List Nat → List D → List D
  | ts, p :: ps, d :: ds => putL (put ts p d) ps ds
  | ts, _, _ => ts
/-- Functions without a body that the machine knows by name. -/
inductive Ext where
  | same
  | idxByte
  | count
  deriving DecidableEq
def Ext.entry : Ext → Array Value → Sem Value
  | .same => Extern.AbiNoEscape.same
  | .idxByte => Extern.BytealgIndexByte.indexByte
  | .count => Extern.BytealgCount.count
def extNamed (name : String) : Option Ext :=
  if name = "internal/abi.NoEscape" then some .same
  else if name = "internal/bytealg.IndexByteString" then some .idxByte
  else if name = "internal/bytealg.CountString" then some .count
  else none
def extOf (P : Program) (g : FuncId) : Option Ext :=
  match P.funcs[g]? with
  | some fn => if fn.body.isNone && fn.origin == "" then extNamed fn.name else none
  | none => none
def idxB : List UInt8 → UInt8 → Int
  | [], _ => -1
  | b :: l, c => if b == c then 0 else match idxB l c with
    | .ofNat n => n + 1
    | .negSucc _ => -1
def extD (e : Ext) (args : List D) : Option D :=
  match e, args with
  | .same, [x] => some x
  | .idxByte, [.str s, .int .u8 b] => some (.int .i64 (idxB s b.toNat.toUInt8))
  | .count, [.str s, .int .u8 b] => some (.int .i64 (Lib.countByte s b.toNat.toUInt8))
  | _, _ => none
end Go.Lv

namespace Go.Lv
open Go
set_option linter.unusedVariables false

abbrev Gh := Nat → Option Obj
abbrev Rn := Nat → Nat → Option (Nat × Nat × Nat)

/-- d tells v: h: the blocks that are written no more; ρ: where the own heap's blocks lie (the block, its cells in all, an element's cells). -/
inductive RelV (h : Gh) (ρ : Rn) : D → Value → Prop
  | und (v) : RelV h ρ .und v
  | bool (b) : RelV h ρ (.bool b) (.bool b)
  | int (k n) : RelV h ρ (.int k n) (.int k n)
  | str (l s) (e : s.data.toList = l) : RelV h ρ (.str l) (.string s)
  | lnil (t a c) (ht : t = true → c = 0) : RelV h ρ (.list t []) (.slice a 0 c)
  | list (t xs b off n c sz cs e fz) (us : Nat → Value) (hx : xs ≠ []) (hn : n = xs.length) (hlen : n ≤ c) (ht : t = true → c = n)
      (hsz : ∀ x ∈ xs, x.cells.length = sz) (hcl : ∀ x ∈ xs, x.closed = true) (hcc : ∀ x ∈ xs, x.cells? = some x.cells)
      (hb : h b = some (.cells cs e fz))
      (hc : ∀ j, j < (xs.flatMap D.cells).length → cs[off + j]? = some (us j))
      (ho : ∀ j, j < (xs.flatMap D.cells).length → (us j).oneCell' = true)
      (hr : ∀ j d, (xs.flatMap D.cells)[j]? = some d → RelV h ρ d (us j)) :
      RelV h ρ (.list t xs) (.slice (some ⟨b, off, none⟩) n c)
  | at (ds off b o o' cs e fz) (us : Nat → Value) (hb : h b = some (.cells cs e fz)) (ho : o' = o + off)
      (hc : ∀ j, j < ds.length → cs[o + j]? = some (us j)) (h1 : ∀ j, j < ds.length → (us j).oneCell' = true)
      (hr : ∀ j d, ds[j]? = some d → RelV h ρ d (us j)) : RelV h ρ (.at ds off) (.pointer (some ⟨b, o', none⟩))
  | nilp : RelV h ρ .nilp (.pointer none)
  | ptr (i off n b c s) (hb : ρ i n = some (b, c, s)) : RelV h ρ (.ptr i off n) (.pointer (some ⟨b, off, none⟩))
  | own (i len n b c cs sz) (hb : ρ i n = some (b, cs, sz)) (hc : c * sz = cs) (hl : len ≤ c) : RelV h ρ (.own i len n) (.slice (some ⟨b, 0, none⟩) len c)
  | asl (i off len n b o c cs sz) (hb : ρ i n = some (b, cs, sz)) (hl : len ≤ c) (ho : len ≠ 0 → o = off) : RelV h ρ (.asl i off len n) (.slice (some ⟨b, o, none⟩) len c)
  | agg (ds vs) (hs : vs.size = ds.length) (h1 : ∀ (j : Nat) (v : Value), vs[j]? = some v → v.oneCell' = true) (us : Nat → Value) (hu : ∀ j, j < ds.length → vs[j]? = some (us j)) (hr : ∀ j d, ds[j]? = some d → RelV h ρ d (us j)) : RelV h ρ (.agg ds) (.agg vs)
  | tup (ds vs) (hs : vs.size = ds.length) (us : Nat → Value) (hu : ∀ j, j < ds.length → vs[j]? = some (us j)) (hr : ∀ j d, ds[j]? = some d → RelV h ρ d (us j)) : RelV h ρ (.tup ds) (.tuple vs)
  | fn (f fi ca fv cv) (us ws : Nat → Value) (hs : fv.size = fi.length) (hs' : cv.size = ca.length) (hu : ∀ j, j < fi.length → fv[j]? = some (us j)) (hw : ∀ j, j < ca.length → cv[j]? = some (ws j))
      (hr : ∀ j d, fi[j]? = some d → RelV h ρ d (us j)) (hq : ∀ j d, ca[j]? = some d → RelV h ρ d (ws j)) : RelV h ρ (.fn f fi ca) (.func f fv cv)
  | nilf : RelV h ρ .nilf .nilFunc
  | iface (t d v) (hr : RelV h ρ d v) : RelV h ρ (.iface t d) (.iface t v)
  | nili : RelV h ρ .nili .nilIface
  | yld (i b x) (hb : ρ i 0 = some (b, x)) : RelV h ρ (.yld i) (.func (.yield b) #[] #[])
  | mp (i b x) (hb : ρ i 0 = some (b, x)) : RelV h ρ (.mp i) (.map (some b))
  | nilm : RelV h ρ .nilm (.map none)

def GLe (h h' : Gh) : Prop := ∀ b o, h b = some o → h' b = some o
def RLe (ρ ρ' : Rn) : Prop := ∀ i n x, ρ i n = some x → ρ' i n = some x
theorem GLe.refl (h : Gh) : GLe h h := fun _ _ e => e
theorem RLe.refl (ρ : Rn) : RLe ρ ρ := fun _ _ _ e => e
theorem GLe.trans {a b c : Gh} (x : GLe a b) (y : GLe b c) : GLe a c := fun _ _ e => y _ _ (x _ _ e)
theorem RLe.trans {a b c : Rn} (x : RLe a b) (y : RLe b c) : RLe a c := fun _ _ _ e => y _ _ _ (x _ _ _ e)

theorem RelV.mono {h h' : Gh} {ρ ρ' : Rn} (hh : GLe h h') (hρ : RLe ρ ρ') {d : D} {v : Value} (r : RelV h ρ d v) : RelV h' ρ' d v := by
  induction r with
  | und v => exact .und v
  | bool b => exact .bool b
  | int k n => exact .int k n
  | str l s e => exact .str l s e
  | lnil t a c ht => exact .lnil t a c ht
  | list t xs b off n c sz cs e fz us hx hn hlen ht hsz hcl hcc hb hc ho hr ih => exact .list t xs b off n c sz cs e fz us hx hn hlen ht hsz hcl hcc (hh _ _ hb) hc ho ih
  | «at» ds off b o o' cs e fz us hb ho hc h1 hr ih => exact .at ds off b o o' cs e fz us (hh _ _ hb) ho hc h1 ih
  | nilp => exact .nilp
  | ptr i off n b c s hb => exact .ptr i off n b c s (hρ _ _ _ hb)
  | own i len n b c cs sz hb hc hl => exact .own i len n b c cs sz (hρ _ _ _ hb) hc hl
  | asl i off len n b o c cs sz hb hl ho => exact .asl i off len n b o c cs sz (hρ _ _ _ hb) hl ho
  | agg ds vs hs h1 us hu hr ih => exact .agg ds vs hs h1 us hu ih
  | tup ds vs hs us hu hr ih => exact .tup ds vs hs us hu ih
  | fn f fi ca fv cv us ws hs hs' hu hw hr hq ih1 ih2 => exact .fn f fi ca fv cv us ws hs hs' hu hw ih1 ih2
  | nilf => exact .nilf
  | iface t d v hr ih => exact .iface t d v ih
  | nili => exact .nili
  | yld i b x hb => exact .yld i b x (hρ _ _ _ hb)
  | mp i b x hb => exact .mp i b x (hρ _ _ _ hb)
  | nilm => exact .nilm

theorem closedL_get {l : List D} (h : D.closedL l = true) {j : Nat} {d : D} (hj : l[j]? = some d) : d.closed = true := by
  induction l generalizing j with
  | nil => simp at hj
  | cons a l ih =>
    simp only [D.closedL, Bool.and_eq_true] at h
    cases j with
    | zero => simp at hj; exact hj ▸ h.1
    | succ j => exact ih h.2 (by simpa using hj)

theorem closed_cells {d : D} (h : d.closed = true) : D.closedL d.cells = true := by
  cases d <;> simp_all [D.cells, D.closedL, D.closed]

theorem closedL_flat {xs : List D} (h : ∀ x ∈ xs, x.closed = true) : D.closedL (xs.flatMap D.cells) = true := by
  induction xs with
  | nil => rfl
  | cons a l ih =>
    have h1 := closed_cells (h a (by simp))
    have h2 := ih (fun x hx => h x (by simp [hx]))
    simp only [List.flatMap_cons]
    generalize D.cells a = p at h1
    induction p with
    | nil => simpa using h2
    | cons q p ihp =>
      simp only [D.closedL, Bool.and_eq_true, List.cons_append] at h1 ⊢
      exact ⟨h1.1, ihp h1.2⟩

theorem closedL_all {xs : List D} (h : ∀ x ∈ xs, x.closed = true) : D.closedL xs = true := by
  induction xs with
  | nil => rfl
  | cons a l ih =>
    simp only [D.closedL, h a (by simp), ih fun x hx => h x (by simp [hx]), Bool.and_self]
/-- What is closed doesn't hang on where the own heap lies. -/
theorem RelV.closed {h : Gh} {ρ ρ' : Rn} {d : D} {v : Value} (r : RelV h ρ d v) : d.closed = true → RelV h ρ' d v := by
  induction r with
  | und v => exact fun _ => .und v
  | bool b => exact fun _ => .bool b
  | int k n => exact fun _ => .int k n
  | str l s e => exact fun _ => .str l s e
  | lnil t a c ht => exact fun _ => .lnil t a c ht
  | list t xs b off n c sz cs e fz us hx hn hlen ht hsz hcl hcc hb hc ho hr ih =>
    exact fun _ => .list t xs b off n c sz cs e fz us hx hn hlen ht hsz hcl hcc hb hc ho fun j d hj => ih j d hj (closedL_get (closedL_flat hcl) hj)
  | «at» ds off b o o' cs e fz us hb ho hc h1 hr ih => exact fun hc' => .at ds off b o o' cs e fz us hb ho hc h1 fun j d hj => ih j d hj (closedL_get (by simpa [D.closed] using hc') hj)
  | nilp => exact fun _ => .nilp
  | ptr i off n b c s hb => exact fun hc => by simp [D.closed] at hc
  | own i len n b c cs sz hb hc hl => exact fun hc => by simp [D.closed] at hc
  | asl i off len n b o c cs sz hb hl ho => exact fun hc => by simp [D.closed] at hc
  | agg ds vs hs h1 us hu hr ih => exact fun hc => .agg ds vs hs h1 us hu fun j d hj => ih j d hj (closedL_get (by simpa [D.closed] using hc) hj)
  | tup ds vs hs us hu hr ih => exact fun hc => .tup ds vs hs us hu fun j d hj => ih j d hj (closedL_get (by simpa [D.closed] using hc) hj)
  | fn f fi ca fv cv us ws hs hs' hu hw hr hq ih1 ih2 =>
    intro hc
    simp only [D.closed, Bool.and_eq_true] at hc
    exact .fn f fi ca fv cv us ws hs hs' hu hw (fun j d hj => ih1 j d hj (closedL_get hc.1 hj)) (fun j d hj => ih2 j d hj (closedL_get hc.2 hj))
  | nilf => exact fun _ => .nilf
  | yld i b x hb => exact fun hc => by simp [D.closed] at hc
  | mp i b x hb => exact fun hc => by simp [D.closed] at hc
  | nilm => exact fun _ => .nilm
  | iface t d v hr ih => exact fun hc => .iface t d v (ih (by simpa [D.closed] using hc))
  | nili => exact fun _ => .nili

/-- A value's cells are told by the data's cells. -/
theorem RelV.cells {h : Gh} {ρ : Rn} {d : D} {v : Value} {l : List D} (r : RelV h ρ d v) (hl : d.cells? = some l) :
    l = d.cells ∧ v.cells.size = l.length ∧ ∀ (j : Nat) (d' : D), l[j]? = some d' → ∃ u, v.cells[j]? = some u ∧ u.oneCell' = true ∧ RelV h ρ d' u := by
  have one : ∀ {d v}, RelV h ρ d v → d.cells = [d] → v.cells = #[v] → v.oneCell' = true → some [d] = some l → l = d.cells ∧ v.cells.size = l.length ∧ ∀ (j : Nat) (d' : D), l[j]? = some d' → ∃ u, v.cells[j]? = some u ∧ u.oneCell' = true ∧ RelV h ρ d' u := by
    intro d v r h1 h2 h3 h4
    cases h4
    refine ⟨h1.symm, by simp [h2], fun j d' hj => ?_⟩
    rw [h2]
    cases j with
    | zero => simp at hj; exact ⟨v, by simp, h3, hj ▸ r⟩
    | succ j => simp at hj
  cases r with
  | und v => simp [D.cells?] at hl
  | tup => simp [D.cells?] at hl
  | agg ds vs hs h1 us hu hr =>
    simp only [D.cells?, Option.some.injEq] at hl
    subst hl
    refine ⟨rfl, hs, fun j d' hj => ?_⟩
    have hlt : j < ds.length := (List.getElem?_eq_some_iff.1 hj).1
    exact ⟨us j, hu j hlt, h1 _ _ (hu j hlt), hr j d' hj⟩
  | bool b => exact one (.bool b) rfl rfl rfl hl
  | int k n => exact one (.int k n) rfl rfl rfl hl
  | str l s e => exact one (.str l s e) rfl rfl rfl hl
  | lnil t a c ht => exact one (.lnil t a c ht) rfl rfl rfl hl
  | list t xs b off n c sz cs e fz us hx hn hlen ht hsz hcl hcc hb hc ho hr => exact one (.list t xs b off n c sz cs e fz us hx hn hlen ht hsz hcl hcc hb hc ho hr) rfl rfl rfl hl
  | «at» ds off b o o' cs e fz us hb ho hc h1 hr => exact one (.at ds off b o o' cs e fz us hb ho hc h1 hr) rfl rfl rfl hl
  | nilp => exact one .nilp rfl rfl rfl hl
  | ptr i off n b c s hb => exact one (.ptr i off n b c s hb) rfl rfl rfl hl
  | own i len n b c cs sz hb hc hl' => exact one (.own i len n b c cs sz hb hc hl') rfl rfl rfl hl
  | asl i off len n b o c cs sz hb hl' ho => exact one (.asl i off len n b o c cs sz hb hl' ho) rfl rfl rfl hl
  | fn f fi ca fv cv us ws hs hs' hu hw hr hq => exact one (.fn f fi ca fv cv us ws hs hs' hu hw hr hq) rfl rfl rfl hl
  | nilf => exact one .nilf rfl rfl rfl hl
  | iface t d v hr => exact one (.iface t d v hr) rfl rfl rfl hl
  | nili => exact one .nili rfl rfl rfl hl
  | yld i b x hb => exact one (.yld i b x hb) rfl rfl rfl hl
  | mp i b x hb => exact one (.mp i b x hb) rfl rfl rfl hl
  | nilm => exact one .nilm rfl rfl rfl hl

/-- Cells that lie from 'off' on. -/
def Row (h : Gh) (ρ : Rn) (cs : Array Value) (off : Nat) (ds : List D) : Prop :=
  ∀ (j : Nat) (d : D), ds[j]? = some d → ∃ u, cs[off + j]? = some u ∧ u.oneCell' = true ∧ RelV h ρ d u

theorem Row.mono {h h' : Gh} {ρ ρ' : Rn} (hh : GLe h h') (hρ : RLe ρ ρ') {cs : Array Value} {off : Nat} {ds : List D} (r : Row h ρ cs off ds) : Row h' ρ' cs off ds :=
  fun j d hj => let ⟨u, a, b, c⟩ := r j d hj; ⟨u, a, b, c.mono hh hρ⟩

def Clear (cs : Array Value) (fz : Nat × Nat) : Prop := ∀ j, j < cs.size → ¬ (fz.1 ≤ j ∧ j < fz.2)

/-- These data tell these values, one for one. -/
def Tells (h : Gh) (ρ : Rn) (ts : List D) (vs : Array Value) : Prop := ts.length = vs.size ∧ ∀ t, RelV h ρ (nth ts t) (vs.getD t undef)
theorem Tells.mono {h h' : Gh} {ρ ρ' : Rn} (hh : GLe h h') (hρ : RLe ρ ρ') {ts : List D} {vs : Array Value} (r : Tells h ρ ts vs) : Tells h' ρ' ts vs := ⟨r.1, fun t => (r.2 t).mono hh hρ⟩
/-- How a loop's record stands. -/
def RSt.of (st : RSt) (r : Loop) : Prop :=
  match st with
  | .ready => r.state = .ready ∧ r.pending = none
  | .busy => r.state = .busy
  | .done c => r.state = .done ∧ r.pending = some c
/-- A map's entries. -/
def MapRel (h : Gh) (ρ : Rn) (es : List (D × D)) (l : Array MapEntry) (clock : Nat) : Prop :=
  l.size = es.length ∧ clock = es.length ∧ ∀ (j : Nat) (e : D × D), es[j]? = some e → ∃ x : MapEntry, l[j]? = some x ∧ RelV h ρ e.1 x.key ∧ RelV h ρ e.2 x.val ∧ x.born = j
theorem MapRel.mono {h h' : Gh} {ρ ρ' : Rn} (hh : GLe h h') (hρ : RLe ρ ρ') {es : List (D × D)} {l : Array MapEntry} {c : Nat} (r : MapRel h ρ es l c) : MapRel h' ρ' es l c :=
  ⟨r.1, r.2.1, fun j e hj => let ⟨x, a, b, c, d⟩ := r.2.2 j e hj; ⟨x, a, b.mono hh hρ, c.mono hh hρ, d⟩⟩
/-- A block of the own heap lies in memory. -/
def RelB (h : Gh) (ρ : Rn) (i : Nat) (w : World) : Blk → Prop
  | .var ds => ∃ b c s cs e fz, ρ i ds.length = some (b, c, s) ∧ h b = none ∧ w.heap[b]? = some (.cells cs e fz) ∧ cs.size = c ∧ c = ds.length ∧ Row h ρ cs 0 ds ∧ Clear cs fz
  | .row sz _ ds => ∃ b c cs e fz, ρ i ds.length = some (b, c, sz) ∧ h b = none ∧ w.heap[b]? = some (.cells cs e fz) ∧ cs.size = c ∧ ds.length ≤ c ∧ Row h ρ cs 0 ds ∧ Clear cs fz
  | .frz _ _ ds => ∃ b c s cs e fz, ρ i ds.length = some (b, c, s) ∧ h b = some (.cells cs e fz) ∧ Row h ρ cs 0 ds
  | .iter s pos => ∃ b c z bs, ρ i 0 = some (b, c, z) ∧ h b = none ∧ bs.data.toList = s ∧ w.heap[b]? = some (.stringIter bs pos)
  | .rng ts ps asg body st => ∃ b x r, ρ i 0 = some (b, x) ∧ h b = none ∧ w.heap[b]? = some (.loop r) ∧ Tells h ρ ts r.tmps ∧ r.params.toList = ps ∧ r.assign = asg ∧ r.body = body ∧ st.of r
  | .map es => ∃ b x l c, ρ i 0 = some (b, x) ∧ h b = none ∧ w.heap[b]? = some (.map l c) ∧ MapRel h ρ es l c
  | .dead => True
def Blk.n : Blk → Nat
  | .var ds | .row _ _ ds | .frz _ _ ds => ds.length
  | _ => 0
/-- It may be written: its memory is nobody else's. -/
def Blk.live : Blk → Bool
  | .var _ | .row .. | .iter .. | .rng .. | .map _ => true
  | _ => false

/-- The memory w in a call that began in w0, where it may write M0 (its callers' blocks that it was handed) and what is new. -/
structure Sim (w0 : World) (M0 : Nat → Prop) (hI h : Gh) (ρ : Rn) (H : Hp) (w : World) : Prop where
  os : w.os = w0.os
  tape : w.tape = w0.tape
  output : w.output = w0.output
  size : w0.heap.size ≤ w.heap.size
  imm : GLe h (fun b => w.heap[b]?)
  blk : ∀ i, RelB h ρ i w (hget H i)
  own : ∀ i b x, (hget H i).live = true → ρ i (hget H i).n = some (b, x) → M0 b ∨ w0.heap.size ≤ b
  inj : ∀ i j b x y, i ≠ j → (hget H i).live = true → (hget H j).live = true → ρ i (hget H i).n = some (b, x) → ρ j (hget H j).n ≠ some (b, y)
  dom : ∀ i n x, ρ i n = some x → i < H.length
  ver : ∀ i sz ag ds, hget H i = .row sz ag ds → ∀ n x, ρ i n = some x → n ≤ ds.length
  keep : ∀ b, b < w0.heap.size → ¬ M0 b → h b = hI b
  frame : ∀ b, b < w0.heap.size → ¬ M0 b → w.heap[b]? = w0.heap[b]?
end Go.Lv

namespace Go.Lv
open Go
set_option linter.unusedVariables false
set_option linter.unusedSimpArgs false

theorem run_binOp_int {P : Program} {w : World} {h : Gh} {ρ : Rn} {op : BinOp} {t : TypeId} {k k' : IntKind} {a b : Int} {d : D} (e : dBin op (.int k a) (.int k' b) = some d) :
    ∃ v, (binOp op t (.int k a) (.int k' b)).run P w = .ok v w ∧ RelV h ρ d v := by
  by_cases hs : op = .shl ∨ op = .shr
  · rcases hs with rfl | rfl
    · simp only [dBin] at e
      split at e
      · rename_i hb
        cases e
        refine ⟨_, ?_, .int _ _⟩
        simp only [binOp, Op.shift]
        rw [if_neg (by omega)]
        simp
      · cases e
    · simp only [dBin] at e
      split at e
      · rename_i hb
        cases e
        refine ⟨_, ?_, .int _ _⟩
        simp only [binOp, Op.shift]
        rw [if_neg (by omega)]
        simp
      · cases e
  · have h1 : op ≠ .shl := fun x => hs (.inl x)
    have h2 : op ≠ .shr := fun x => hs (.inr x)
    by_cases hk : k = k'
    · subst hk
      cases op <;> simp only [dBin, if_true] at e <;>
        first
        | exact absurd rfl h1
        | exact absurd rfl h2
        | (cases e; exact ⟨_, by simp [binOp, Op.intArith, Op.intCmp, Op.intBits, bits], .int _ _⟩)
        | (cases e; exact ⟨_, by simp [binOp, Op.intArith, Op.intCmp, Op.intBits, bits], .bool _⟩)
        | (split at e
           · cases e
           · cases e
             rename_i hb
             exact ⟨_, by simp [binOp, Op.intDiv, hb], .int _ _⟩)
    · exfalso
      cases op <;> simp [dBin, hk] at e h1 h2

theorem listeq (a b : ByteArray) : (a.toList == b.toList) = (a.data.toList == b.data.toList) := by rw [ByteArray.toList_eq, ByteArray.toList_eq]

theorem run_binOp_str {P : Program} {w : World} {h : Gh} {ρ : Rn} {op : BinOp} {t : TypeId} {a b : ByteArray} {d : D} (e : dBin op (.str a.data.toList) (.str b.data.toList) = some d) :
    ∃ v, (binOp op t (.string a) (.string b)).run P w = .ok v w ∧ RelV h ρ d v := by
  cases op <;> simp only [dBin] at e <;> first
    | (cases e; done)
    | (cases e; exact ⟨_, by simp [binOp, Op.stringOp, ByteArray.toList_eq], .bool _⟩)
    | (split at e
       · cases e
         rename_i hl
         refine ⟨.string (a ++ b), ?_, .str _ _ (by simp)⟩
         simp only [binOp, Op.stringOp]
         rw [if_neg]
         · simp
         · simp only [IntKind.max_i64]
           have ha : a.size = a.data.toList.length := by simp
           have hb : b.size = b.data.toList.length := by simp
           omega
       · cases e)

theorem run_eqIn {P : Program} {w : World} {t : TypeId} {d : TypeDesc} (hd : P.underlying t = some d) : (underlying t).run P w = .ok d w := run_underlying hd w

theorem run_typeInfo {P : Program} {w : World} {t : TypeId} {i : TypeInfo} (hd : P.info? t = some i) : (typeInfo t).run P w = .ok i w := by
  simp [typeInfo, hd]
theorem run_sizeOf {P : Program} {w : World} {t : TypeId} (hd : 0 < P.cellsOf t) : (sizeOf t).run P w = .ok (P.cellsOf t) w := by
  unfold Program.cellsOf at *
  cases hi : P.info? t with
  | none => simp [hi] at hd
  | some i => simp [sizeOf, run_typeInfo hi, hi]
theorem run_isAgg {P : Program} {w : World} {t : TypeId} {d : TypeDesc} (hd : P.underlying t = some d) : (isAgg t).run P w = .ok (isAg P t) w := by
  simp only [isAgg, isAg, hd]
  cases d <;> simp [run_underlying hd]
theorem info_of_cells {P : Program} {t : TypeId} (hd : 0 < P.cellsOf t) : ∃ i, P.info? t = some i := by
  unfold Program.cellsOf at hd
  cases hi : P.info? t with
  | none => simp [hi] at hd
  | some i => exact ⟨i, rfl⟩
end Go.Lv

namespace Go.Lv
open Go
set_option linter.unusedVariables false
set_option linter.unusedSimpArgs false

theorem run_part {P : Program} {w : World} {t : TypeId} {d : TypeDesc} (hd : P.underlying t = some d) (hc : 0 < P.cellsOf t) (cs : Array Value) (off : Nat) :
    (Go.part t cs off).run P w = if isAg P t then .ok (.agg (cs.extract off (off + P.cellsOf t))) w else match cs[off]? with | some v => .ok v w | none => .halt (.stuck "part: no such cell") w := by
  simp only [Go.part, Sem.run_bind, run_isAgg hd, Result.andThen_ok, Sem.run_ite]
  cases hi : isAg P t
  · simp only [Bool.false_eq_true, if_false]
    cases cs[off]? <;> rfl
  · simp [run_sizeOf hc]

theorem dEqL_app : ∀ {a c : List D} (b d : List D), a.length = c.length → dEqL (a ++ b) (c ++ d) = match dEqL a c with | some true => dEqL b d | x => x
  | [], [], b, d, _ => by simp [dEqL]
  | x :: a, y :: c, b, d, hl => by
    simp only [List.cons_append, dEqL]
    cases dEq x y with
    | none => rfl
    | some t =>
      cases t
      · rfl
      · exact dEqL_app b d (by simpa using hl)

theorem Row.drop {h : Gh} {ρ : Rn} {cs : Array Value} {off : Nat} {ds : List D} (r : Row h ρ cs off ds) (k : Nat) : Row h ρ cs (off + k) (ds.drop k) := by
  intro j d hj
  rw [List.getElem?_drop] at hj
  obtain ⟨u, a, b⟩ := r _ _ hj
  exact ⟨u, by rw [Nat.add_assoc]; exact a, b⟩
theorem Row.take {h : Gh} {ρ : Rn} {cs : Array Value} {off : Nat} {ds : List D} (r : Row h ρ cs off ds) (k : Nat) : Row h ρ cs off (ds.take k) := by
  intro j d hj
  rw [List.getElem?_take] at hj
  split at hj
  · exact r _ _ hj
  · cases hj
theorem Row.extract {h : Gh} {ρ : Rn} {cs : Array Value} {off : Nat} {ds : List D} (r : Row h ρ cs off ds) (n : Nat) (hn : ds.length ≤ n) : Row h ρ (cs.extract off (off + n)) 0 ds := by
  intro j d hj
  obtain ⟨u, a, b⟩ := r _ _ hj
  have hlt : j < ds.length := (List.getElem?_eq_some_iff.1 hj).1
  refine ⟨u, ?_, b⟩
  rw [Nat.zero_add, Array.getElem?_extract]
  have : off + j < cs.size := (Array.getElem?_eq_some_iff.1 a).1
  rw [if_pos (by omega)]
  exact a
theorem Row.single {h : Gh} {ρ : Rn} {cs : Array Value} {off : Nat} {ds : List D} (r : Row h ρ cs off ds) (hl : ds.length = 1) : ∃ d u, ds = [d] ∧ cs[off]? = some u ∧ RelV h ρ d u := by
  match ds, hl with
  | [d], _ =>
    obtain ⟨u, a, b, c⟩ := r 0 d rfl
    exact ⟨d, u, rfl, a, c⟩

theorem okK_len : ∀ {ks : List KK} {ds : List D}, okK ks ds = true → ds.length = ks.length
  | [], [], _ => rfl
  | .i :: ks, .int .. :: ds, h => by simp only [okK] at h; simp [okK_len h]
  | .b :: ks, .bool _ :: ds, h => by simp only [okK] at h; simp [okK_len h]
  | .s :: ks, .str _ :: ds, h => by simp only [okK] at h; simp [okK_len h]
theorem okK_app : ∀ {a b : List KK} {ds : List D}, okK (a ++ b) ds = true → okK a (ds.take a.length) = true ∧ okK b (ds.drop a.length) = true
  | [], b, ds, h => by simpa [okK] using h
  | k :: a, b, [], h => by cases k <;> simp [okK] at h
  | k :: a, b, d :: ds, h => by
    cases k <;> cases d <;> simp only [List.cons_append, okK, List.length_cons, List.take_succ_cons, List.drop_succ_cons] at h ⊢ <;> first
      | exact okK_app h
      | cases h

theorem kinds_some {P : Program} {m : Nat} {t : TypeId} {ks : List KK} (h : kinds P m t = some ks) : 0 < P.cellsOf t ∧ ∃ d, P.underlying t = some d := by
  cases m with
  | zero => simp [kinds] at h
  | succ m =>
    simp only [kinds] at h
    split at h
    · cases h
    · refine ⟨by omega, ?_⟩
      split at h <;> first | exact ⟨_, by assumption⟩ | cases h

theorem kindsF_len {P : Program} {m : Nat} (ih : ∀ t ks, kinds P m t = some ks → ks.length = P.cellsOf t) : ∀ (fs : List Field) (off : Nat) (total : Nat) (ks : List KK), kindsF (kinds P m) fs = some ks → tiles P off fs total = true → off + ks.length = total
  | [], off, total, ks, h, ht => by
    simp [kindsF] at h
    subst h
    simpa [tiles] using ht
  | f :: fs, off, total, ks, h, ht => by
    simp only [kindsF] at h
    split at h
    · cases h
    · split at h
      · rename_i a b ha hb
        cases h
        simp only [tiles, Bool.and_eq_true] at ht
        have := kindsF_len ih fs _ _ _ hb ht.2
        have := ih _ _ ha
        simp
        omega
      · cases h

theorem flat_rep {α : Type} (n : Nat) (l : List α) : (List.replicate n l).flatten.length = n * l.length := by
  simp [List.length_flatten]

theorem kinds_len {P : Program} : ∀ (m : Nat) (t : TypeId) (ks : List KK), kinds P m t = some ks → ks.length = P.cellsOf t
  | 0, t, ks, h => by simp [kinds] at h
  | m + 1, t, ks, h => by
    have ih := kinds_len (P := P) m
    simp only [kinds] at h
    split at h
    · cases h
    · split at h
      · split at h
        · cases h; simp [*]
        · cases h
      · split at h
        · cases h; simp [*]
        · cases h
      · split at h
        · cases h; simp [*]
        · cases h
      · split at h
        · rename_i hh
          have := kindsF_len ih _ _ _ _ h hh.2
          omega
        · cases h
      · rename_i n' e' _
        split at h
        · rename_i hh
          cases he : kinds P m e' with
          | none => simp [he] at h
          | some l =>
            simp only [he, Option.map_some, Option.some.injEq] at h
            subst h
            rw [flat_rep, ih _ _ he, hh]
        · cases h
      · cases h

section
variable {P : Program} {h : Gh} {ρ : Rn}

/-- '==' of the parts of two values, of a plain type. -/
def EqAt (P : Program) (h : Gh) (ρ : Rn) (t : TypeId) (ks : List KK) (n : Nat) : Prop :=
  ∀ (xs ys : Array Value) (off : Nat) (ds es : List D) (b : Bool) (w : World), Row h ρ xs off ds → Row h ρ ys off es → okK ks ds = true → okK ks es = true → dEqL ds es = some b →
    ((do let x ← Go.part t xs off; let y ← Go.part t ys off; Op.equalIn n t x y : Sem Bool)).run P w = .ok b w

theorem eqFields_ok {n : Nat} {kf : TypeId → Option (List KK)} (hkf : ∀ t ks, kf t = some ks → ks.length = P.cellsOf t) (ih : ∀ t ks, kf t = some ks → EqAt P h ρ t ks n) :
    ∀ (fs : List Field) (off total : Nat) (ks : List KK), kindsF kf fs = some ks → tiles P off fs total = true →
      ∀ (xs ys : Array Value) (ds es : List D) (b : Bool) (w : World), Row h ρ xs off ds → Row h ρ ys off es → okK ks ds = true → okK ks es = true → dEqL ds es = some b →
        (Op.eqFields n xs ys fs).run P w = .ok b w
  | [], off, total, ks, hk, ht, xs, ys, ds, es, b, w, r1, r2, o1, o2, e => by
    simp [kindsF] at hk
    subst hk
    cases ds <;> simp [okK] at o1
    cases es <;> simp [okK] at o2
    simp [dEqL] at e
    subst e
    rfl
  | f :: fs, off, total, ks, hk, ht, xs, ys, ds, es, b, w, r1, r2, o1, o2, e => by
    simp only [kindsF] at hk
    split at hk
    · cases hk
    · rename_i hnm
      split at hk
      · rename_i a b' ha hb
        cases hk
        simp only [tiles, Bool.and_eq_true, beq_iff_eq] at ht
        obtain ⟨hoff, ht⟩ := ht
        have hla := hkf _ _ ha
        obtain ⟨p1, q1⟩ := okK_app o1
        obtain ⟨p2, q2⟩ := okK_app o2
        have l1 := okK_len p1
        have l2 := okK_len p2
        have e' : dEqL (ds.take a.length ++ ds.drop a.length) (es.take a.length ++ es.drop a.length) = some b := by simpa using e
        rw [dEqL_app _ _ (by rw [l1, l2])] at e'
        simp only [Op.eqFields]
        rw [if_pos hnm, hoff]
        have key : ∀ c, dEqL (ds.take a.length) (es.take a.length) = some c → ((do let x ← Go.part f.type xs off; let y ← Go.part f.type ys off; Op.equalIn n f.type x y : Sem Bool)).run P w = .ok c w :=
          fun c hc => ih _ _ ha xs ys off _ _ c w (r1.take _) (r2.take _) p1 p2 hc
        cases hc : dEqL (ds.take a.length) (es.take a.length) with
        | none => rw [hc] at e'; cases e'
        | some c =>
          have k := key c hc
          simp only [Sem.run_bind] at k ⊢
          generalize (Go.part f.type xs off).run P w = r at k ⊢
          cases r with
          | halt x w1 => simp at k
          | ok x w1 =>
            simp only [Result.andThen_ok] at k ⊢
            generalize (Go.part f.type ys off).run P w1 = r at k ⊢
            cases r with
            | halt x w1 => simp at k
            | ok y w2 =>
              simp only [Result.andThen_ok] at k ⊢
              rw [k]
              simp only [Result.andThen_ok]
              rw [hc] at e'
              cases c
              · simp at e'
                subst e'
                simp
              · simp only [Bool.not_true, Bool.false_eq_true, if_false]
                have := r1.drop a.length
                have := r2.drop a.length
                exact eqFields_ok hkf ih fs (off + P.cellsOf f.type) total b' hb ht xs ys _ _ b w (by rw [← hla]; exact r1.drop _) (by rw [← hla]; exact r2.drop _) q1 q2 (by simpa using e')
      · cases hk

theorem isAg_of {t : TypeId} {d : TypeDesc} (hd : P.underlying t = some d) : isAg P t = (match d with | .struct _ | .array _ _ => true | _ => false) := by
  simp only [isAg, hd]
  cases d <;> rfl

/-- The loop of an array's '=='. -/
theorem eqArr_ok {n : Nat} {e : TypeId} {ks : List KK} (hl : ks.length = P.cellsOf e) (ih : EqAt P h ρ e ks n) :
    ∀ (k i : Nat) (xs ys : Array Value) (ds es : List D) (b : Bool) (w : World), Row h ρ xs (i * P.cellsOf e) ds → Row h ρ ys (i * P.cellsOf e) es →
      okK (List.replicate k ks).flatten ds = true → okK (List.replicate k ks).flatten es = true → dEqL ds es = some b →
        ((forIn (List.range' i k) ((none, ()) : Option Bool × Unit) fun i r => do
            let x ← Go.part e xs (i * P.cellsOf e); let y ← Go.part e ys (i * P.cellsOf e)
            if !(← Op.equalIn n e x y) then pure (.done (some false, ())) else pure (.yield (none, ())) : Sem (Option Bool × Unit))).run P w = .ok (if b then none else some false, ()) w
  | 0, i, xs, ys, ds, es, b, w, r1, r2, o1, o2, eq => by
    simp at o1 o2
    cases ds <;> simp [okK] at o1
    cases es <;> simp [okK] at o2
    simp [dEqL] at eq
    subst eq
    simp
  | k + 1, i, xs, ys, ds, es, b, w, r1, r2, o1, o2, eq => by
    simp only [List.replicate_succ, List.flatten_cons] at o1 o2
    obtain ⟨p1, q1⟩ := okK_app o1
    obtain ⟨p2, q2⟩ := okK_app o2
    have l1 := okK_len p1
    have l2 := okK_len p2
    have e' : dEqL (ds.take ks.length ++ ds.drop ks.length) (es.take ks.length ++ es.drop ks.length) = some b := by simpa using eq
    rw [dEqL_app _ _ (by rw [l1, l2])] at e'
    cases hc : dEqL (ds.take ks.length) (es.take ks.length) with
    | none => rw [hc] at e'; cases e'
    | some c =>
      have k' := ih xs ys _ _ _ c w (r1.take _) (r2.take _) p1 p2 hc
      simp only [List.range'_succ, List.forIn_cons, Sem.run_bind] at k' ⊢
      generalize (Go.part e xs (i * P.cellsOf e)).run P w = r at k' ⊢
      cases r with
      | halt x w1 => simp at k'
      | ok x w1 =>
        simp only [Result.andThen_ok] at k' ⊢
        generalize (Go.part e ys (i * P.cellsOf e)).run P w1 = r at k' ⊢
        cases r with
        | halt x w1 => simp at k'
        | ok y w2 =>
          simp only [Result.andThen_ok] at k' ⊢
          rw [k']
          simp only [Result.andThen_ok]
          rw [hc] at e'
          cases c
          · simp at e'
            subst e'
            simp
          · simp only [Bool.not_true, Bool.false_eq_true, if_false, Sem.run_pure, Result.andThen_ok]
            have h1 := r1.drop ks.length
            have h2 := r2.drop ks.length
            rw [hl, ← Nat.succ_mul] at h1 h2
            rw [hl] at q1 q2 e'
            exact eqArr_ok hl ih k (i + 1) xs ys _ _ b w h1 h2 q1 q2 (by simpa using e')

theorem kinds_scalar {n : Nat} {t : TypeId} {k0 : KK} {d : TypeDesc} (hd : P.underlying t = some d) (ha : isAg P t = false) (h1 : P.cellsOf t = 1)
    (hs : ∀ (x y : D) (vx vy : Value) (b : Bool) (w : World), RelV h ρ x vx → RelV h ρ y vy → okK [k0] [x] = true → okK [k0] [y] = true → dEqL [x] [y] = some b → (Op.equalIn n t vx vy).run P w = .ok b w) : EqAt P h ρ t [k0] n := by
  intro xs ys off ds es b w r1 r2 o1 o2 e
  obtain ⟨x, vx, rfl, hx, rx⟩ := r1.single (okK_len o1)
  obtain ⟨y, vy, rfl, hy, ry⟩ := r2.single (okK_len o2)
  simp only [Sem.run_bind, run_part hd (by omega), ha, hx, hy, Bool.false_eq_true, if_false, Result.andThen_ok]
  exact hs x y vx vy b w rx ry o1 o2 e

theorem eqAt_of_kinds : ∀ (m : Nat) (t : TypeId) (ks : List KK), kinds P m t = some ks → ∀ n, m ≤ n → EqAt P h ρ t ks n
  | 0, t, ks, hk, _, _ => by simp [kinds] at hk
  | m + 1, t, ks, hk, n, hn => by
    have ih := eqAt_of_kinds m
    have hlen := kinds_len _ _ _ hk
    obtain ⟨n, rfl⟩ : ∃ n', n = n' + 1 := ⟨n - 1, by omega⟩
    simp only [kinds] at hk
    split at hk
    · cases hk
    · rename_i hpos
      split at hk
      · rename_i k hd
        split at hk
        · rename_i h1
          cases hk
          refine kinds_scalar hd (by simp [isAg_of hd]) h1 fun x y vx vy b w rx ry ox oy e => ?_
          cases x <;> simp [okK] at ox
          cases y <;> simp [okK] at oy
          cases rx; cases ry
          rename_i k1 a1 k2 a2
          simp only [dEqL, dEq] at e
          by_cases hkk : k1 = k2
          · subst hkk
            simp only [if_true] at e
            rw [run_equalIn_int w n t _ k _ _ hd]
            cases hb : (a1 == a2) <;> simp [hb] at e <;> simp [e]
          · simp [hkk] at e
        · cases hk
      · rename_i hd
        split at hk
        · rename_i h1
          cases hk
          refine kinds_scalar hd (by simp [isAg_of hd]) h1 fun x y vx vy b w rx ry ox oy e => ?_
          cases x <;> simp [okK] at ox
          cases y <;> simp [okK] at oy
          cases rx; cases ry
          rename_i a1 a2
          simp only [dEqL, dEq] at e
          rw [run_equalIn_bool' w n t _ _ hd]
          cases hb : (a1 == a2) <;> simp [hb] at e <;> simp [e]
        · cases hk
      · rename_i hd
        split at hk
        · rename_i h1
          cases hk
          refine kinds_scalar hd (by simp [isAg_of hd]) h1 fun x y vx vy b w rx ry ox oy e => ?_
          cases x <;> simp [okK] at ox
          cases y <;> simp [okK] at oy
          cases rx with | str _ s1 e1 => cases ry with | str _ s2 e2 =>
          subst e1 e2
          simp only [dEqL, dEq] at e
          rw [run_equalIn_string w n t _ _ hd, ByteArray.toList_eq, ByteArray.toList_eq]
          cases hb : (s1.data.toList == s2.data.toList) <;> simp only [hb] at e <;> simpa using e
        · cases hk
      · rename_i fs hd
        split at hk
        · rename_i hh
          have hfo : P.fieldsOf t = fs := by simp [Program.fieldsOf, hd]
          intro xs ys off ds es b w r1 r2 o1 o2 e
          simp only [Sem.run_bind, run_part hd (by omega), isAg_of hd, if_true, Result.andThen_ok]
          rw [run_equalIn_agg w n t _ _ (by rw [hfo]; exact hd) hh.1, hfo]
          have l1 := okK_len o1
          have l2 := okK_len o2
          exact eqFields_ok (kinds_len m) (fun t ks hk => ih t ks hk n (by omega)) fs.toList 0 _ ks hk hh.2 _ _ ds es b w (r1.extract _ (by omega)) (r2.extract _ (by omega)) o1 o2 e
        · cases hk
      · rename_i k el hd
        split at hk
        · rename_i hh
          cases he : kinds P m el with
          | none => simp [he] at hk
          | some l =>
            simp only [he, Option.map_some, Option.some.injEq] at hk
            subst hk
            intro xs ys off ds es b w r1 r2 o1 o2 e
            have l1 := okK_len o1
            have l2 := okK_len o2
            have hpe := (kinds_some he).1
            simp only [Sem.run_bind, run_part hd (by omega), isAg_of hd, if_true, Result.andThen_ok]
            have x1 := r1.extract (P.cellsOf t) (by omega)
            have x2 := r2.extract (P.cellsOf t) (by omega)
            have key := eqArr_ok (kinds_len m _ _ he) (ih el l he n (by omega)) k 0 _ _ ds es b w (by simpa using x1) (by simpa using x2) o1 o2 e
            simp only [Op.equalIn, Sem.run_bind, run_underlying hd, Result.andThen_ok, run_sizeOf hpe]
            simp only [Std.Legacy.Range.forIn_eq_forIn_range', Std.Legacy.Range.size]
            rw [show (k - 0 + 1 - 1) / 1 = k from by simp, key]
            cases b <;> simp
        · cases hk
      · cases hk
end
end Go.Lv
