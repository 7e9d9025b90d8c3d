/- LvA: an abstract semantics of loaded functions over data trees. Definitions alone. -/
import Derived.Calls
import Derived.Orders
import Derived.Laws.Entries
import Derived.Laws.Externs
import Derived.Lib.Bytealg
namespace Go.Lv
open Go

/-- A value told as data. 'list': a slice whose cells are not written any more ('true': its capacity is its length); 'at': a pointer into such cells; 'ptr': into block i of the call's own heap, which has n cells; 'own': the first 'len' elements of the row in block i; 'asl': a window on a block. -/
inductive D where
  | und
  | bool (b : Bool)
  | int (k : IntKind) (n : Int)
  | str (s : List UInt8)
  | list (t : Bool) (xs : List D)
  | at (cs : List D) (off : Nat)
  | ptr (i off n : Nat)
  | nilp
  | own (i len n : Nat)
  | asl (i off len n : Nat)
  | agg (cs : List D)
  | tup (cs : List D)
  | fn (f : Fn) (first cap : List D)
  | nilf
  | iface (t : TypeId) (d : D)
  | nili
  deriving Inhabited

def D.cells : D → List D
  | .agg cs => cs
  | d => [d]

/-- Its cells, where it may be stored. -/
def D.cells? : D → Option (List D)
  | .agg cs => some cs
  | .und => none
  | .tup _ => none
  | d => some [d]

mutual
def D.closed : D → Bool
  | .ptr .. => false
  | .own .. => false
  | .asl .. => false
  | .at cs _ => D.closedL cs
  | .agg cs => D.closedL cs
  | .tup cs => D.closedL cs
  | .fn _ a b => D.closedL a && D.closedL b
  | .iface _ d => d.closed
  | _ => true
def D.closedL : List D → Bool
  | [] => true
  | d :: l => d.closed && D.closedL l
end

/-- A block of the call's own: a variable; a row (of elements of sz cells; ag: they are structs or arrays), which may have room behind; one that is not written any more; an iterator over a string. -/
inductive Blk where
  | var (cs : List D)
  | row (sz : Nat) (ag : Bool) (cs : List D)
  | frz (sz : Nat) (ag : Bool) (cs : List D)
  | iter (s : List UInt8) (pos : Nat)
  | dead

abbrev Hp := List Blk

def Blk.cs : Blk → List D
  | .var cs | .row _ _ cs | .frz _ _ cs => cs
  | _ => []
def Blk.isC : Blk → Bool
  | .var _ | .row .. | .frz .. => true
  | _ => false
def Blk.mut : Blk → Bool
  | .var _ | .row .. => true
  | _ => false
def Blk.setCs : Blk → List D → Blk
  | .var _, cs => .var cs
  | .row sz ag _, cs => .row sz ag cs
  | b, _ => b

def nth : List D → Nat → D
  | [], _ => .und
  | d :: _, 0 => d
  | _ :: l, n + 1 => nth l n
def put : List D → Nat → D → List D
  | [], _, _ => []
  | _ :: l, 0, d => d :: l
  | a :: l, n + 1, d => a :: put l n d
def putO (l : List D) (o : Option Nat) (d : D) : List D :=
  match o with
  | some t => put l t d
  | none => l
def hget : Hp → Nat → Blk
  | [], _ => .dead
  | b :: _, 0 => b
  | _ :: l, n + 1 => hget l n
def hset : Hp → Nat → Blk → Hp
  | [], _, _ => []
  | _ :: l, 0, b => b :: l
  | a :: l, n + 1, b => a :: hset l n b

/-- The cells of a block, if it has so many: what a pointer that was made then reads. -/
def cellsOf (H : Hp) (i n : Nat) : Option (List D) :=
  if (hget H i).isC && (hget H i).cs.length == n then some (hget H i).cs else none

/- ### Types -/
structure FI where
  off : Nat
  sz : Nat
  ag : Bool
inductive Ty where
  | int (k : IntKind)
  | bool
  | str
  | slice (e sz bytes : Nat) (ag : Bool)
  | struct (fs : List FI)
  | arr (n sz : Nat) (ag : Bool)
  | ptr
  | func
  | iface
  | other
/-- How many cells a value of a known type has; 0: the type isn't known. -/
def szOf (P : Program) (t : TypeId) : Nat := if (P.underlying t).isSome then P.cellsOf t else 0
def isAg (P : Program) (t : TypeId) : Bool := match P.underlying t with | some (.struct _) | some (.array _ _) => true | _ => false
def ty (P : Program) (t : TypeId) : Ty :=
  match P.underlying t with
  | some (.int k) => .int k
  | some .bool => .bool
  | some .string => .str
  | some (.slice e) => .slice e (szOf P e) (P.bytesOf e) (isAg P e)
  | some (.struct fs) => .struct (fs.toList.map fun f => ⟨f.offset, szOf P f.type, isAg P f.type⟩)
  | some (.array n e) => .arr n (szOf P e) (isAg P e)
  | some (.pointer _) => .ptr
  | some (.func ..) => .func
  | some (.interface _) => .iface
  | _ => .other

def ofV : Value → D
  | .bool b => .bool b
  | .int k n => .int k n
  | .string s => .str s.data.toList
  | .slice none 0 0 => .list true []
  | .pointer none => .nilp
  | .nilFunc => .nilf
  | .nilIface => .nili
  | _ => .und
/-- The zero value's cells. -/
def zcells (P : Program) (t : TypeId) : List D :=
  match P.info? t with
  | some i => match i.zero with
    | some v => if v.cells.toList.all Value.oneCell' then v.cells.toList.map ofV else []
    | none => []
  | none => []

/-- What an operand tells. -/
def ev (G : Nat → D) (ts : List D) : Operand → D
  | .tmp t => nth ts t
  | .const v => ofV v
  | .func f => .fn (.func f) [] []
  | .global g => G g

/-- The elements of cells, sz each, that are structs or arrays. -/
def chunk (sz : Nat) : Nat → List D → List D
  | 0, _ => []
  | n + 1, cs => .agg (cs.take sz) :: chunk sz n (cs.drop sz)
def els (ag : Bool) (sz n : Nat) (cs : List D) : List D := if ag then chunk sz n cs else cs
/-- A cell's value by itself. -/
def D.isCell : D → Bool
  | .agg _ | .tup _ | .und => false
  | _ => true
def allCell : List D → Bool
  | [] => true
  | d :: l => d.isCell && allCell l
def part (ag : Bool) (cs : List D) (off sz : Nat) : Option D :=
  if off + sz ≤ cs.length ∧ 0 < sz ∧ (ag = true ∨ sz = 1) then some (if ag then .agg ((cs.drop off).take sz) else nth cs off) else none
def splice (cs : List D) (off : Nat) (new : List D) : List D := cs.take off ++ new ++ cs.drop (off + new.length)

/- ### Operations without memory -/
/-- Are two of a plain kind one? -/
def dEq : D → D → Option Bool
  | .bool a, .bool b => some (a == b)
  | .int k a, .int k' b => if k = k' then some (a == b) else none
  | .str a, .str b => some (a == b)
  | _, _ => none
def dEqL : List D → List D → Option Bool
  | [], [] => some true
  | a :: x, b :: y => match dEq a b with
    | some true => dEqL x y
    | some false => some false
    | none => none
  | _, _ => none
/-- Do the fields lie one behind the other? -/
def tiles (P : Program) : Nat → List Field → Nat → Bool
  | off, [], total => off == total
  | off, f :: fs, total => f.offset == off && tiles P (off + P.cellsOf f.type) fs total
inductive KK where
  | i
  | b
  | s
def kindsF (k : TypeId → Option (List KK)) : List Field → Option (List KK)
  | [] => some []
  | f :: fs => if f.name = "_" then none else match k f.type, kindsF k fs with
    | some a, some b => some (a ++ b)
    | _, _ => none
/-- The kinds of the cells of a type of whole numbers, bools and texts alone, all of which count. -/
def kinds (P : Program) : Nat → TypeId → Option (List KK)
  | 0, _ => none
  | d + 1, t => if P.cellsOf t = 0 then none else match P.underlying t with
    | some (.int _) => if P.cellsOf t = 1 then some [.i] else none
    | some .bool => if P.cellsOf t = 1 then some [.b] else none
    | some .string => if P.cellsOf t = 1 then some [.s] else none
    | some (.struct fs) => if P.stoodInHeld t = false ∧ tiles P 0 fs.toList (P.cellsOf t) = true then kindsF (kinds P d) fs.toList else none
    | some (.array n e) => if n * P.cellsOf e = P.cellsOf t then (kinds P d e).map fun l => (List.replicate n l).flatten else none
    | _ => none
def kindsA (P : Program) (t : TypeId) : Option (List KK) := if isAg P t = true ∧ 9 ≤ P.depth then kinds P 9 t else none
def okK : List KK → List D → Bool
  | [], [] => true
  | .i :: ks, .int .. :: ds => okK ks ds
  | .b :: ks, .bool _ :: ds => okK ks ds
  | .s :: ks, .str _ :: ds => okK ks ds
  | _, _ => false
def dBin (op : BinOp) (x y : D) : Option D :=
  match x, y with
  | .int k a, .int k' b =>
    match op with
    | .shl => if 0 ≤ b then some (.int k (k.wrap (a * 2 ^ (min b.toNat k.bits)))) else none
    | .shr => if 0 ≤ b then some (.int k (a.fdiv (2 ^ (min b.toNat k.bits)))) else none
    | _ => if k = k' then
      match op with
      | .add => some (.int k (k.wrap (a + b)))
      | .sub => some (.int k (k.wrap (a - b)))
      | .mul => some (.int k (k.wrap (a * b)))
      | .quo => if b = 0 then none else some (.int k (k.wrap (a.tdiv b)))
      | .rem => if b = 0 then none else some (.int k (a.tmod b))
      | .and => some (.int k (bits .and k a b))
      | .or => some (.int k (bits .or k a b))
      | .xor => some (.int k (bits .xor k a b))
      | .andNot => some (.int k (bits .andNot k a b))
      | .lss => some (.bool (decide (a < b)))
      | .leq => some (.bool (decide (a ≤ b)))
      | .gtr => some (.bool (decide (a > b)))
      | .geq => some (.bool (decide (a ≥ b)))
      | .eql => some (.bool (a == b))
      | .neq => some (.bool (a != b))
      | _ => none
      else none
  | .str a, .str b =>
    match op with
    | .add => if a.length + b.length ≤ 2 ^ 62 then some (.str (a ++ b)) else none
    | .eql => some (.bool (a == b))
    | .neq => some (.bool (!(a == b)))
    | .lss => some (.bool (Op.bytesLess a b))
    | .leq => some (.bool (Op.bytesLess a b || a == b))
    | .gtr => some (.bool (!(Op.bytesLess a b || a == b)))
    | .geq => some (.bool (!Op.bytesLess a b))
    | _ => none
  | _, _ => none
def dEqO (op : BinOp) (r : Option Bool) : Option D :=
  match r with
  | some b => match op with | .eql => some (.bool b) | .neq => some (.bool (!b)) | _ => none
  | none => none
/-- '==' and '!=' beside those of whole numbers and texts. -/
def dBinT (P : Program) (op : BinOp) (t : TypeId) (x y : D) : Option D :=
  match x with
  | .agg xs => match y, kindsA P t with
    | .agg ys, some ks => if okK ks xs = true ∧ okK ks ys = true then dEqO op (dEqL xs ys) else none
    | _, _ => none
  | .ptr .. => match y, ty P t with
    | .nilp, .ptr => dEqO op (some false)
    | _, _ => none
  | .at .. => match y, ty P t with
    | .nilp, .ptr => dEqO op (some false)
    | _, _ => none
  | .nilp => match y, ty P t with
    | .nilp, .ptr => dEqO op (some true)
    | _, _ => none
  | .bool a => match y, ty P t with
    | .bool b, .bool => dEqO op (some (a == b))
    | _, _ => none
  | _ => dBin op x y
def dUn (op : UnOp) (x : D) : Option D :=
  match op, x with
  | .not, .bool b => some (.bool (!b))
  | .neg, .int k n => some (.int k (k.wrap (0 - n)))
  | .xor, .int k n => some (.int k (bits .xor k (if k.signed then -1 else k.max) n))
  | _, _ => none
def dLen (t : Ty) (x : D) : Option D :=
  match t, x with
  | .str, .str s => some (.int .i64 s.length)
  | .slice .., .list _ xs => some (.int .i64 xs.length)
  | .slice .., .own _ len _ => some (.int .i64 len)
  | .slice .., .asl _ _ len _ => some (.int .i64 len)
  | .arr n _ _, _ => some (.int .i64 n)
  | _, _ => none
def dField (f : Option FI) (x : D) : Option D :=
  match f, x with
  | some f, .agg cs => part f.ag cs f.off f.sz
  | _, _ => none
def dFieldA (f : Option FI) (x : D) : Option D :=
  match f, x with
  | some f, .at cs off => if f.sz = 0 then none else some (.at cs (off + f.off))
  | some f, .ptr b off n => if f.sz = 0 then none else some (.ptr b (off + f.off) n)
  | _, _ => none
def Ty.fi (t : Ty) (i : Nat) : Option FI := match t with | .struct fs => fs[i]? | _ => none
def dIdxA (t : Ty) (x i : D) : Option D :=
  match t, x, i with
  | .slice _ sz _ _, .list _ xs, .int _ n => if 0 ≤ n ∧ 0 < sz then match xs[n.toNat]? with | some d => if d.cells.length = sz then some (.at d.cells 0) else none | none => none else none
  | .slice _ sz _ _, .own b len N, .int _ n => if 0 ≤ n ∧ n < len ∧ 0 < sz then some (.ptr b (n.toNat * sz) N) else none
  | .slice _ sz _ _, .asl b off len N, .int _ n => if 0 ≤ n ∧ n < len ∧ 0 < sz then some (.ptr b (off + n.toNat * sz) N) else none
  | .arr m sz _, .ptr b off N, .int _ n => if 0 ≤ n ∧ n < m ∧ 0 < sz then some (.ptr b (off + n.toNat * sz) N) else none
  | .arr m sz _, .at cs off, .int _ n => if 0 ≤ n ∧ n < m ∧ 0 < sz then some (.at cs (off + n.toNat * sz)) else none
  | _, _, _ => none
def dIdx (t : Ty) (x i : D) : Option D :=
  match t, x, i with
  | .str, .str s, .int _ n => if 0 ≤ n then match s[n.toNat]? with | some b => some (.int .u8 b.toNat) | none => none else none
  | .arr m sz ag, .agg cs, .int _ n => if 0 ≤ n ∧ n < m then part ag cs (n.toNat * sz) sz else none
  | _, _, _ => none
def Ty.isA : Ty → Bool
  | .struct _ | .arr .. => true
  | _ => false
def dLoad (t : Ty) (sz : Nat) (H : Hp) (p : D) : Option D :=
  match p with
  | .at cs off => part t.isA cs off sz
  | .ptr b off n => match cellsOf H b n with | some cs => part t.isA cs off sz | none => none
  | _ => none
def dStore (sz : Nat) (H : Hp) (p x : D) : Option Hp :=
  match p, x.cells? with
  | .ptr b off n, some new =>
    if (hget H b).mut && (hget H b).cs.length == n && new.length == sz && decide (off + sz ≤ n) then some (hset H b ((hget H b).setCs (splice (hget H b).cs off new))) else none
  | _, _ => none
/-- An optional bound of a slice expression. -/
def dBnd (x : Option D) (dflt : Nat) : Option Nat :=
  match x with
  | none => some dflt
  | some (.int _ n) => if 0 ≤ n then some n.toNat else none
  | _ => none
/-- All have so many cells. -/
def allSz (sz : Nat) (xs : List D) : Bool := xs.all fun x => x.cells.length == sz
def dSlice (t : Ty) (x : D) (lo hi mx : Option D) : Option D :=
  match t, x with
  | .str, .str s => match mx, dBnd lo 0, dBnd hi s.length with
    | none, some l, some h => if l ≤ h ∧ h ≤ s.length then some (.str ((s.take h).drop l)) else none
    | _, _, _ => none
  | .slice _ sz _ _, .list tt xs => if 0 < sz ∧ allSz sz xs = true then match dBnd lo 0, dBnd hi xs.length, mx with
    | some l, some h, none => if l ≤ h ∧ h ≤ xs.length then some (.list (tt && h == xs.length) ((xs.take h).drop l)) else none
    | some l, some h, some m => match dBnd (some m) 0 with
      | some m => if hi.isSome = true ∧ l ≤ h ∧ h ≤ m ∧ m ≤ xs.length then some (.list (h == m) ((xs.take h).drop l)) else none
      | none => none
    | _, _, _ => none
    else none
  | .slice _ sz _ _, .own i len n => if 0 < sz then match dBnd lo 0, dBnd hi len, mx with
    | some l, some h, none => if l ≤ h ∧ h ≤ len then some (if l = 0 then .own i h n else .asl i (l * sz) (h - l) n) else none
    | _, _, _ => none
    else none
  | .slice _ sz _ _, .asl i off len n => if 0 < sz then match dBnd lo 0, dBnd hi len, mx with
    | some l, some h, none => if l ≤ h ∧ h ≤ len then some (.asl i (off + l * sz) (h - l) n) else none
    | _, _, _ => none
    else none
  | .arr m sz _, .ptr i off n => if 0 < sz then match dBnd lo 0, dBnd hi m, mx with
    | some l, some h, none => if l ≤ h ∧ h ≤ m then some (.asl i (off + l * sz) (h - l) n) else none
    | some l, some h, some k => match dBnd (some k) 0 with
      | some k => if hi.isSome = true ∧ l ≤ h ∧ h ≤ k ∧ k ≤ m then some (.asl i (off + l * sz) (h - l) n) else none
      | none => none
    | _, _, _ => none
    else none
  | _, _ => none
/-- Cells with parts laid at their places. -/
def dFill (place : Nat → Option (Nat × Nat)) (cs : List D) : List (Nat × D) → Option (List D)
  | [] => some cs
  | (i, d) :: rest => match place i, d.cells? with
    | some (off, sz), some new => if new.length = sz ∧ off + sz ≤ cs.length then dFill place (splice cs off new) rest else none
    | _, _ => none
def rep (n : Nat) (z : List D) : List D := match n with | 0 => [] | n + 1 => z ++ rep n z
def dBuild (t : Ty) (sz : Nat) (z : List D) (parts : List (Nat × D)) : Option D :=
  if z.length = sz ∧ 0 < sz then
    match t with
    | .struct fs => if fs.all (fun f => decide (0 < f.sz)) = true then (dFill (fun i => (fs[i]?).map fun f => (f.off, f.sz)) z parts).map .agg else none
    | .arr _ s _ => if 0 < s then (dFill (fun i => some (i * s, s)) z parts).map .agg else none
    | _ => none
  else none
/-- The cells of the elements of what is appended or copied. -/
def srcCells (H : Hp) (sz : Nat) : D → Option (List D)
  | .list _ xs => if allSz sz xs = true then some (xs.flatMap D.cells) else none
  | .own i len n => match cellsOf H i n with
    | some cs => if len * sz ≤ n then some (cs.take (len * sz)) else none
    | none => none
  | .asl i off len n => match cellsOf H i n with
    | some cs => if off + len * sz ≤ n then some ((cs.drop off).take (len * sz)) else none
    | none => none
  | .str s => if sz = 1 then some (s.map fun b => .int .u8 b.toNat) else none
  | _ => none
def dLenN : D → Option Nat
  | .list _ xs => some xs.length
  | .str s => some s.length
  | .own _ len _ => some len
  | .asl _ _ len _ => some len
  | _ => none
/-- 's' with n elements more, whose cells are 'new'. -/
def dAppend (H : Hp) (sz bytes : Nat) (ag : Bool) (s : D) (n : Nat) (new : List D) : Option (D × Hp) :=
  if !(decide (0 < sz) && decide (0 < bytes) && new.length == n * sz) then none else
  match s with
  | .list t xs =>
    if n = 0 then some (.list t xs, H)
    else if t && allSz sz xs && decide ((xs.length + n) * bytes ≤ 2 ^ 46) then
      some (.own H.length (xs.length + n) (xs.flatMap D.cells ++ new).length, H ++ [.row sz ag (xs.flatMap D.cells ++ new)])
    else none
  | .own i len N =>
    match hget H i with
    | .row sz' ag' cs =>
      if cs.length = N ∧ sz' = sz ∧ (len + n) * bytes ≤ 2 ^ 46 then
        if n = 0 then some (.own i len N, H)
        else if len * sz = N then some (.own i (len + n) (N + n * sz), hset H i (.row sz' ag' (cs ++ new)))
        else if (len + n) * sz ≤ N then some (.own i (len + n) N, hset H i (.row sz' ag' (splice cs (len * sz) new)))
        else none
      else none
    | _ => none
  | _ => none
def dConv (src dst : Ty) (x : D) : Option D :=
  match src, dst, x with
  | .int _, .int k, .int _ n => some (.int k (k.wrap n))
  | .int _, .str, .int _ n => some (.str (Utf8.encode n).data.toList)
  | .str, .str, .str s => some (.str s)
  | _, _, _ => none
def bytesOfD : List D → Option (List UInt8)
  | [] => some []
  | .int .u8 n :: l => if 0 ≤ n ∧ n ≤ 255 then match bytesOfD l with
    | some r => some (UInt8.ofNat n.toNat :: r)
    | none => none
    else none
  | _ => none
/-- A slice of bytes as a text. -/
def dBytes (H : Hp) (x : D) : Option D :=
  match x with
  | .list .. | .own .. | .asl .. => match srcCells H 1 x with
    | some cs => match bytesOfD cs with
      | some l => some (.str l)
      | none => none
    | none => none
  | _ => none
def dConvH (P : Program) (s d : TypeId) (H : Hp) (x : D) : Option D :=
  match ty P s, ty P d with
  | .slice e 1 _ _, .str => match ty P e with
    | .int .u8 => dBytes H x
    | _ => none
  | ts, td => dConv ts td x

/-- Is what an interface holds, of type t', one of type t? 'true': t is an interface, and it has all methods; 'false': it is t itself. -/
def asserts (P : Program) (t t' : TypeId) : Option Bool :=
  match P.underlying t with
  | some (.interface want) => match P.info? t' with
    | some i => if (Instr.missingMethod want i.methods).isNone then some true else none
    | none => none
  | some _ => if t' = t then some false else none
  | none => none
/-- The method that a value of a type has under a name: of the value itself. -/
def methOf (P : Program) (t : TypeId) (name : String) : Option FuncId :=
  match P.info? t with
  | some i => match i.methods.find? (·.name == name) with
    | some m => if m.path.isEmpty then match m.func, P.underlying t with
        | some (f, true), some (.pointer _) => some f
        | some (_, false), some (.pointer _) => none
        | some (f, false), some _ => some f
        | _, _ => none
      else none
    | none => none
  | none => none

/-- An operation that is no call of a function: what it tells, and the heap behind it. -/
def aop (P : Program) (op : Op) (α : Operand → D) (H : Hp) : Option (D × Hp) :=
  match op with
  | .move x | .assign x => some (α x, H)
  | .pick c a b => match α c with | .bool t => some (if t then α a else α b, H) | _ => none
  | .binOp op t x y _ => (dBinT P op t (α x) (α y)).map (·, H)
  | .unOp op _ x => (dUn op (α x)).map (·, H)
  | .indexAddr t x i => (dIdxA (ty P t) (α x) (α i)).map (·, H)
  | .index t x i => (dIdx (ty P t) (α x) (α i)).map (·, H)
  | .fieldAddr t x f => (dFieldA ((ty P t).fi f) (α x)).map (·, H)
  | .field t x f => (dField ((ty P t).fi f) (α x)).map (·, H)
  | .load t a => (dLoad (ty P t) (szOf P t) H (α a)).map (·, H)
  | .store t a x => if 0 < szOf P t then (dStore (szOf P t) H (α a) (α x)).map (.und, ·) else none
  | .alloc t => if 0 < (zcells P t).length then some (.ptr H.length 0 (zcells P t).length, H ++ [.var (zcells P t)]) else none
  | .box _ x => match (α x).cells? with
    | some cs => some (.ptr H.length 0 cs.length, H ++ [.var cs])
    | none => none
  | .build t parts => (dBuild (ty P t) (szOf P t) (zcells P t) (parts.toList.map fun (x : Nat × Operand) => (x.1, α x.2))).map (·, H)
  | .buildSlice t len parts => match ty P t with
    | .slice e sz _ ag =>
      if 0 < sz ∧ (zcells P e).length = sz ∧ len * sz ≤ 2 ^ 20 then
        match dFill (fun i => some (i * sz, sz)) (rep len (zcells P e)) (parts.toList.map fun (x : Nat × Operand) => (x.1, α x.2)) with
        | some cs =>
          if D.closedL cs = true ∧ (ag = true ∨ sz = 1 ∧ allCell cs = true) then some (.list true (els ag sz len cs), H)
          else some (.own H.length len cs.length, H ++ [.row sz ag cs])
        | none => none
      else none
    | _ => none
  | .makeSlice t l c => match ty P t, α l, α c with
    | .slice e sz bytes ag, .int .i64 l, .int .i64 c =>
      if 0 < sz ∧ 0 < bytes ∧ (zcells P e).length = sz ∧ 0 ≤ l ∧ l ≤ c ∧ c * bytes ≤ 2 ^ 46 then
        some (.own H.length l.toNat (rep c.toNat (zcells P e)).length, H ++ [.row sz ag (rep c.toNat (zcells P e))])
      else none
    | _, _, _ => none
  | .slice t x lo hi mx => (dSlice (ty P t) (α x) (lo.map α) (hi.map α) (mx.map α)).map (·, H)
  | .extract x i => match α x with | .tup ds => (ds[i]?).map (·, H) | _ => none
  | .makeFunc f first cap => some (.fn f (first.toList.map α) (cap.toList.map α), H)
  | .makeInterface t x => match ty P t with | .iface => none | .other => none | _ => some (.iface t (α x), H)
  | .nilCheck x => match α x with
    | .ptr i o n => some (.ptr i o n, H)
    | .at cs o => some (.at cs o, H)
    | .fn (.func f) a b => some (.fn (.func f) a b, H)
    | _ => none
  | .convert s d x => (dConvH P s d H (α x)).map (·, H)
  | .typeAssert x _ t ok => match α x with
    | .iface t' d => match asserts P t t' with
      | some true => some (if ok then .tup [.iface t' d, .bool true] else .iface t' d, H)
      | some false => some (if ok then .tup [d, .bool true] else d, H)
      | none => none
    | _ => none
  | .range t x => match ty P t, α x with
    | .str, .str s => some (.ptr H.length 0 0, H ++ [.iter s 0])
    | _, _ => none
  | .next it true => match α it with
    | .ptr i 0 0 => match hget H i with
      | .iter s pos =>
        if pos < s.length then
          some (.tup [.bool true, .int .i64 pos, .int .i32 (Utf8.decode ⟨s.toArray⟩ pos).1], hset H i (.iter s (pos + (Utf8.decode ⟨s.toArray⟩ pos).2)))
        else some (.tup [.bool false], H)
      | _ => none
    | _ => none
  | .call { callee := .builtin b, args, argTypes } =>
    match b, args.toList, argTypes.toList with
    | .len, [x], [t] => (dLen (ty P t) (α x)).map (·, H)
    | .cap, [x], [t] => match ty P t, α x with
      | .slice .., .list true xs => some (.int .i64 xs.length, H)
      | _, _ => none
    | .append, [s, x], [t, u] => match ty P t, ty P u with
      | .slice e sz bytes ag, .slice .. | .slice e sz bytes ag, .str => match dLenN (α x), srcCells H sz (α x) with
        | some n, some new => if (zcells P e).length = sz then dAppend H sz bytes ag (α s) n new else none
        | _, _ => none
      | .slice e sz bytes ag, .int _ => match α x with
        | .int .i64 n => match α s with
          | .list true xs => if 0 < n ∧ (zcells P e).length = sz then dAppend H sz bytes ag (.list true xs) n.toNat (rep n.toNat (zcells P e)) else none
          | _ => none
        | _ => none
      | _, _ => none
    | .max, [x, y], _ => match α x, α y with | .int k a, .int k' b => if k = k' then some (.int k (if b > a then b else a), H) else none | _, _ => none
    | .min, [x, y], _ => match α x, α y with | .int k a, .int k' b => if k = k' then some (.int k (if b < a then b else a), H) else none | _, _ => none
    | .max, [x, y, z], _ => match α x, α y, α z with | .int k a, .int k' b, .int k'' c => if k = k' ∧ k = k'' then some (.int k (if c > (if b > a then b else a) then c else (if b > a then b else a)), H) else none | _, _, _ => none
    | _, _, _ => none
  | _ => none

/-- A call of a function whose value is known: which, with which arguments. -/
def callee (P : Program) (op : Op) (α : Operand → D) : Option (FuncId × List D) :=
  match op with
  | .call { callee := .invoke x name, args, .. } => match α x with
    | .iface t d => match methOf P t name with
      | some g => some (g, d :: args.toList.map α)
      | none => none
    | _ => none
  | .call { callee := .value f, args, .. } => match α f with
    | .fn (.func g) first cap => some (g, first ++ args.toList.map α ++ cap)
    | _ => none
  | _ => none
/-- Functions without a body that the machine knows by name. -/
inductive Ext where
  | same
  | idxByte
  | count
  deriving DecidableEq
def Ext.entry : Ext → Array Value → Sem Value
  | .same => Extern.AbiNoEscape.same
  | .idxByte => Extern.BytealgIndexByte.indexByte
  | .count => Extern.BytealgCount.count
def extNamed (name : String) : Option Ext :=
  if name = "internal/abi.NoEscape" then some .same
  else if name = "internal/bytealg.IndexByteString" then some .idxByte
  else if name = "internal/bytealg.CountString" then some .count
  else none
def extOf (P : Program) (g : FuncId) : Option Ext :=
  match P.funcs[g]? with
  | some fn => if fn.body.isNone && fn.origin == "" then extNamed fn.name else none
  | none => none
def idxB : List UInt8 → UInt8 → Int
  | [], _ => -1
  | b :: l, c => if b == c then 0 else match idxB l c with
    | .ofNat n => n + 1
    | .negSucc _ => -1
def extD (e : Ext) (args : List D) : Option D :=
  match e, args with
  | .same, [x] => some x
  | .idxByte, [.str s, .int .u8 b] => some (.int .i64 (idxB s b.toNat.toUInt8))
  | .count, [.str s, .int .u8 b] => some (.int .i64 (Lib.countByte s b.toNat.toUInt8))
  | _, _ => none
end Go.Lv
