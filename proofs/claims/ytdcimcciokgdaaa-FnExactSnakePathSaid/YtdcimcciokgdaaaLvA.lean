/-
The abstract machine "Lv": values, local memory, and an evaluator of the model's code, by kernel reduction.
-/
import Derived.Calls
import Derived.Below
import Derived.Orders
import Derived.Still
import Derived.StillTail
import Derived.KernelRfl
import Derived.Laws.AppendOwn
import Derived.Laws.CopyRow
import Derived.Laws.StructEq
import Derived.WalkKit
namespace Go.Lv
set_option linter.unusedVariables false

/-- Values of the abstract machine. -/
inductive V where
  | undef
  | any
  | bool (b : Bool)
  | int (k : IntKind) (n : Int)
  | ints (n : Nat) (xs : List Int)
  | bools (n : Nat) (bs : List Bool)
  | agg (vs : List V)
  | ptr (h i o s : Nat)
  | rp (c : V) (i o s : Nat)
  | sl (h off n : Nat)
  | asl (h o sz n : Nat)
  | z0
  | ri (k : IntKind) (xs : List Int)
  | rb (bs : List Bool)
  | rr (m : Nat) (xss : List (List Int))
  | rv (vs : List V)
  | fn (f : Nat) (first caps : List V)
  | tup (vs : List V)
  | map (h : Nat)
  deriving Inhabited

/-- Blocks of the local memory; the content is one of ri, rb, rr, rv. -/
inductive Blk where
  | dead
  | var (n : Nat) (c : V)
  | vec (e : TypeId) (c : V)
  | map (kvs : List (List Int × V))
  deriving Inhabited

def Blk.live : Blk → Bool
  | .dead => false
  | _ => true

abbrev Mem := List Blk

/-- np: the first np handles came in; killed: those of them that have been given up. -/
structure St where
  tmps : List V
  mem : Mem
  np : Nat
  killed : List Nat
  deriving Inhabited

structure Ret where
  v : V
  blks : List Blk
  kills : List Nat
  deriving Inhabited

inductive D where
  | bool
  | int (k : IntKind)
  | struct (fs : List (Nat × TypeId))
  | array (len : Nat) (elem : TypeId)
  | slice (e : TypeId)
  | map (k e : TypeId)
  | other
  deriving Inhabited

structure TI where
  d : D
  size : Nat
  bytes : Nat
  z : V
  deriving Inhabited

abbrev TT := List (TypeId × TI)

def look {α : Type} : List (Nat × α) → Nat → Option α
  | [], _ => none
  | (a, x) :: r, n => bif Nat.beq a n then some x else look r n

def D.agg : D → Bool
  | .struct _ | .array _ _ => true
  | _ => false

/-- a number that is a place below n -/
def inR (i : Int) (n : Nat) : Bool :=
  match i with
  | .ofNat k => Nat.blt k n
  | .negSucc _ => false

def inLe (i : Int) (n : Nat) : Bool :=
  match i with
  | .ofNat k => Nat.ble k n
  | .negSucc _ => false

def iget : List Int → Nat → Int
  | [], _ => 0
  | x :: _, 0 => x
  | _ :: r, n + 1 => iget r n

def bget : List Bool → Nat → Bool
  | [], _ => false
  | x :: _, 0 => x
  | _ :: r, n + 1 => bget r n

def rget : List (List Int) → Nat → List Int
  | [], _ => []
  | x :: _, 0 => x
  | _ :: r, n + 1 => rget r n

def vget : List V → Nat → V
  | [], _ => .any
  | x :: _, 0 => x
  | _ :: r, n + 1 => vget r n

def sub {α : Type} (xs : List α) (o s : Nat) : List α := (xs.drop o).take s

/-- the part of n numbers from o on; the whole, if it is that -/
def subn {α : Type} (n : Nat) (xs : List α) (o s : Nat) : List α :=
  bif Nat.beq o 0 && Nat.beq s n then xs else sub xs o s

def splice {α : Type} (xs : List α) (o : Nat) (ys : List α) (s : Nat) : List α := xs.take o ++ ys ++ xs.drop (o + s)

def splicen {α : Type} (n : Nat) (xs : List α) (o : Nat) (ys : List α) (s : Nat) : List α :=
  bif Nat.beq o 0 && Nat.beq s n then ys else splice xs o ys s

/-- number of elements of a content -/
def V.cnt : V → Nat
  | .ri _ xs => xs.length
  | .rb bs => bs.length
  | .rr _ xss => xss.length
  | .rv vs => vs.length
  | _ => 0
def V.wd : V → Nat
  | .rr m _ => m
  | _ => 1

def anyL : List V → Bool → Bool
  | [], b => b
  | _, b => b

mutual
/-- the handles that a value mentions -/
def V.hs : V → List Nat
  | .ptr h _ _ _ => [h]
  | .sl h _ _ => [h]
  | .asl h _ _ _ => [h]
  | .map h => [h]
  | .fn _ first caps => V.hsL first ++ V.hsL caps
  | .tup vs => V.hsL vs
  | .agg vs => V.hsL vs
  | .rv vs => V.hsL vs
  | .rp c _ _ _ => V.hs c
  | _ => []
def V.hsL : List V → List Nat
  | [] => []
  | v :: r => V.hs v ++ V.hsL r
end

def memb (n : Nat) : List Nat → Bool
  | [] => false
  | a :: r => bif Nat.beq a n then true else memb n r

def meets (ks : List Nat) : List Nat → Bool
  | [] => false
  | a :: r => bif memb a ks then true else meets ks r

def allBelow (k : Nat) : List Nat → Bool
  | [] => true
  | a :: r => bif Nat.blt a k then allBelow k r else false

def killV (ks : List Nat) (v : V) : V := bif meets ks v.hs then .any else v
def addK (np : Nat) : List Nat → List Nat → List Nat
  | [], acc => acc
  | h :: r, acc => addK np r (bif Nat.blt h np && !memb h acc then h :: acc else acc)
/-- another memory, and handles given up -/
def St.upd (σ : St) (mem : Mem) (ks : List Nat) : St :=
  match ks with
  | [] => { σ with mem := mem }
  | ks => { tmps := σ.tmps.map (killV ks), mem := mem, np := σ.np, killed := addK σ.np ks σ.killed }
def cutV (k : Nat) (v : V) : V := bif allBelow k v.hs then v else .any
/-- memory from handle k on is forgotten -/
def St.trunc (k : Nat) (σ : St) : St := { σ with tmps := σ.tmps.map (cutV k), mem := σ.mem.take k }

def mget : Mem → Nat → Blk
  | [], _ => .dead
  | b :: _, 0 => b
  | _ :: r, n + 1 => mget r n
def mset : Mem → Nat → Blk → Mem
  | [], _, _ => []
  | _ :: r, 0, b => b :: r
  | a :: r, n + 1, b => a :: mset r n b
def tset : List V → Nat → V → List V
  | [], _, _ => []
  | _ :: r, 0, b => b :: r
  | a :: r, n + 1, b => a :: tset r n b

def iset : List Int → Nat → Int → List Int
  | [], _, _ => []
  | _ :: r, 0, b => b :: r
  | a :: r, n + 1, b => a :: iset r n b
def bset : List Bool → Nat → Bool → List Bool
  | [], _, _ => []
  | _ :: r, 0, b => b :: r
  | a :: r, n + 1, b => a :: bset r n b
def rset : List (List Int) → Nat → List Int → List (List Int)
  | [], _, _ => []
  | _ :: r, 0, b => b :: r
  | a :: r, n + 1, b => a :: rset r n b

/-- what part of a content a slice of n elements from off on shows -/
def V.part (c : V) (off n : Nat) : V :=
  match c with
  | .ri k xs => .ri k (subn xs.length xs off n)
  | .rb bs => .rb (subn bs.length bs off n)
  | .rr m xss => .rr m (subn xss.length xss off n)
  | .rv vs => .rv (subn vs.length vs off n)
  | v => v

/-- n pieces of s numbers each, from o on -/
def chunks (xs : List Int) (o s : Nat) : Nat → List (List Int)
  | 0 => []
  | n + 1 => sub xs o s :: chunks xs (o + s) s n

/-- of one cell, and without depth -/
def V.g : V → Bool
  | .rv _ | .fn _ _ _ => false
  | _ => true
/-- may a content be shown to be read alone -/
def V.okRo : V → Bool
  | .rv vs => vs.all V.g
  | _ => true

/-- the content that a slice shows -/
def V.view (mem : Mem) : V → Option V
  | .sl h off n => match mget mem h with
    | .vec _ c => some (c.part off n)
    | _ => none
  | .asl h o s n => match mget mem h with
    | .var _ (.ri .i64 xs) => some (bif Nat.beq s 1 then .ri .i64 (sub xs o n) else .rr s (chunks xs o s n))
    | _ => none
  | .ri k xs => some (.ri k xs)
  | .rb bs => some (.rb bs)
  | .rr m xss => some (.rr m xss)
  | .rv vs => some (.rv vs)
  | .z0 => some .z0
  | _ => none

def V.len : V → Option Nat
  | .sl _ _ n => some n
  | .asl _ _ _ n => some n
  | .ri _ xs => some xs.length
  | .rb bs => some bs.length
  | .rr _ xss => some xss.length
  | .rv vs => some vs.length
  | .z0 => some 0
  | _ => none

/-- is it a value that a cell of a block may hold -/
def V.flat : V → Bool
  | .bool _ | .int _ _ | .ri _ _ | .rb _ | .rr _ _ | .z0 | .rv _ | .fn _ _ _ => true
  | _ => false

def V.flatG : V → Bool
  | .bool _ | .int _ _ | .ri _ _ | .rb _ | .rr _ _ | .z0 => true
  | _ => false

/-- two contents, one behind the other; a content of no elements takes the other's kind -/
def V.cat : V → V → Option V
  | .ri k xs, .ri k' ys => bif decide (k = k') then some (.ri k (xs ++ ys)) else none
  | .rb xs, .rb ys => some (.rb (xs ++ ys))
  | .rr m xs, .rr m' ys => bif Nat.beq m m' then some (.rr m (xs ++ ys)) else none
  | .rv xs, .rv ys => some (.rv (xs ++ ys))
  | .z0, .z0 => none
  | .z0, c => some c
  | c, .z0 => some c
  | _, _ => none

/-- the empty content for an element's zero value -/
def V.mt : V → Option V
  | .int k _ => some (.ri k [])
  | .bool _ => some (.rb [])
  | .ints m _ => some (.rr m [])
  | .z0 => some (.rv [])
  | .any => some (.rv [])
  | _ => none

/-- the content of one element -/
def V.one : V → Option V
  | .int k n => some (.ri k [n])
  | .bool b => some (.rb [b])
  | .ints m xs => some (.rr m [xs])
  | v => bif v.flat then some (.rv [v]) else none

def fits (n bytes : Nat) : Bool := Nat.ble (n * bytes) 140737488355328 && Nat.ble n 140737488355328

/-- a variable's block -/
def V.blk : V → Option Blk
  | .ints n xs => some (.var n (.ri .i64 xs))
  | .bools n bs => some (.var n (.rb bs))
  | .agg vs => some (.var vs.length (.rv vs))
  | .int k n => some (.var 1 (.ri k [n]))
  | .bool b => some (.var 1 (.rb [b]))
  | v => bif v.flat then some (.var 1 (.rv [v])) else none

def V.sz : V → Nat
  | .ints n _ => n
  | .bools n _ => n
  | .agg vs => vs.length
  | _ => 1

def V.hasRo : V → Bool
  | .ri _ _ | .rb _ | .rr _ _ | .rv _ | .rp _ _ _ _ => true
  | .tup vs => vs.any fun | .ri _ _ | .rb _ | .rr _ _ | .rv _ | .rp _ _ _ _ | .agg _ | .fn _ _ _ => true | _ => false
  | .agg _ | .fn _ _ _ => true
  | _ => false
def Blk.hasRo : Blk → Bool
  | .var _ (.rv _) | .vec _ (.rv _) | .map _ => true
  | _ => false

def idx (n : Nat) : List Nat → Option Nat
  | [] => none
  | a :: r => bif Nat.beq a n then some 0 else (idx n r).map (· + 1)

mutual
/-- a value with other handles -/
def V.ren (f : Nat → Nat) : V → V
  | .ptr h i o s => .ptr (f h) i o s
  | .sl h off n => .sl (f h) off n
  | .asl h o s n => .asl (f h) o s n
  | .map h => .map (f h)
  | .fn g first caps => .fn g (V.renL f first) (V.renL f caps)
  | .tup vs => .tup (V.renL f vs)
  | .agg vs => .agg (V.renL f vs)
  | .rv vs => .rv (V.renL f vs)
  | .rp c i o s => .rp (V.ren f c) i o s
  | v => v
def V.renL (f : Nat → Nat) : List V → List V
  | [] => []
  | v :: r => V.ren f v :: V.renL f r
end

/-- how loud a function is: it leaves memory alone and gives no new memory; it makes new blocks alone; anything else -/
inductive Loud where
  | quiet
  | fresh
  | loud
  deriving DecidableEq, Inhabited

/-- what is known of a function: which arguments are handed over as they are (the others are read alone), how loud it is, and what it does, where a condition holds -/
structure Ent where
  own : List Bool
  loud : Loud
  g : List V → Mem → Option (Bool × Ret)

abbrev Tab := List (FuncId × Ent)

inductive Out where
  | norm (σ : St)
  | exit (id : Nat) (σ : St)
  | ret (σ : St)
  deriving Inhabited

def evO (σ : St) : Operand → V
  | .tmp t => vget σ.tmps t
  | .const (.bool b) => .bool b
  | .const (.int k n) => .int k n
  | .const (.slice none 0 0) => .z0
  | .func f => .fn f [] []
  | _ => .any

/-- arguments as a callee gets them: slices that it only reads become their contents -/
def roArgs (mem : Mem) : List V → List Bool → Option (List V)
  | [], _ => some []
  | v :: r, own =>
    bif own.headD false then (roArgs mem r own.tail).map (v :: ·) else
    match v with
    | .sl .. | .asl .. => match v.view mem with
      | some c => bif c.okRo then (roArgs mem r own.tail).map (c :: ·) else none
      | none => none
    | _ => (roArgs mem r own.tail).map (v :: ·)

/-- the handles of slices that are handed over to be read alone -/
def lent : List V → List Bool → List Nat
  | [], _ => []
  | v :: r, own =>
    bif own.headD false then lent r own.tail else
    match v with
    | .sl h _ _ => h :: lent r own.tail
    | .asl h _ _ _ => h :: lent r own.tail
    | _ => lent r own.tail

def dedup : List Nat → List Nat
  | [] => []
  | a :: r => bif memb a r then dedup r else a :: dedup r

def nodupB : List Nat → Bool
  | [] => true
  | a :: r => !memb a r && nodupB r

def putGo (hs : List Nat) (bs : Mem) : Nat → Mem → Mem
  | _, [] => []
  | h, b :: r => (match idx h hs with
    | some i => mget bs i
    | none => b) :: putGo hs bs (h + 1) r

/-- the blocks of the handles, as the callee has left them; and the new ones -/
def putBack (mem : Mem) (hs : List Nat) (bs : Mem) : Mem := putGo hs bs 0 mem ++ bs.drop hs.length

def maskL : List Nat → Mem → Mem
  | [], mem => mem
  | s :: r, mem => maskL r (mset mem s .dead)

def isVar : Blk → Bool
  | .var _ _ => true
  | _ => false

def isVec : Blk → Bool
  | .vec _ _ => true
  | _ => false

section
variable {R : Type}

/-- what a pointer into a variable's content shows: cell o, s cells -/
def loadV (c : V) (n : Nat) (o s : Nat) (d : D) (k : V → Option R) : Option R :=
  match c, d with
  | .ri kd xs, .int kd' => bif decide (kd = kd') then k (.int kd (iget xs o)) else none
  | .ri .i64 xs, .struct _ => k (.ints s (subn n xs o s))
  | .ri .i64 xs, .array _ _ => k (.ints s (subn n xs o s))
  | .rb bs, .bool => k (.bool (bget bs o))
  | .rb bs, .array _ _ => k (.bools s (subn n bs o s))
  | .rv vs, .struct _ => bif Nat.beq o 0 && Nat.beq s n then k (.agg vs) else none
  | .rv vs, .array _ _ => bif Nat.beq o 0 && Nat.beq s n then k (.agg vs) else none
  | .rv vs, .slice _ => k (vget vs o)
  | .rv vs, .int kd => match vget vs o with
    | .int kd' x => bif decide (kd = kd') then k (.int kd' x) else none
    | _ => none
  | .rv vs, .other => k (vget vs o)
  | _, _ => none

/-- what a pointer to the element i of a content shows: cell o of it, s cells -/
def loadE (c : V) (i o s : Nat) (d : D) (k : V → Option R) : Option R :=
  match c, d with
  | .ri kd xs, .int kd' => bif decide (kd = kd') then k (.int kd (iget xs i)) else none
  | .rb bs, .bool => k (.bool (bget bs i))
  | .rr _ xss, .int .i64 => k (.int .i64 (iget (rget xss i) o))
  | .rr m xss, .struct _ => k (.ints s (subn m (rget xss i) o s))
  | .rr m xss, .array _ _ => k (.ints s (subn m (rget xss i) o s))
  | .rv vs, .slice _ => k (vget vs i)
  | .rv vs, .other => k (vget vs i)
  | _, _ => none

/-- a store into a variable's content -/
def storeV (c : V) (n : Nat) (o s : Nat) (v : V) : Option V :=
  match c, v with
  | .ri k xs, .int k' x => bif decide (k = k') then some (.ri k (iset xs o x)) else none
  | .ri .i64 xs, .ints s' ys => bif Nat.beq s s' then some (.ri .i64 (splicen n xs o ys s)) else none
  | .rb bs, .bool b => some (.rb (bset bs o b))
  | .rb _, .bools s' ys => bif Nat.beq s s' && Nat.beq o 0 && Nat.beq s n then some (.rb ys) else none
  | .rv _, .agg ys => bif Nat.beq o 0 && Nat.beq s n && Nat.beq ys.length s then some (.rv ys) else none
  | .rv vs, v => bif v.flat then some (.rv (tset vs o v)) else none
  | _, _ => none

/-- a store into the element i of a content -/
def storeE (c : V) (i o s : Nat) (v : V) : Option V :=
  match c, v with
  | .ri k xs, .int k' x => bif decide (k = k') then some (.ri k (iset xs i x)) else none
  | .rb bs, .bool b => some (.rb (bset bs i b))
  | .rr m xss, .int .i64 x => some (.rr m (rset xss i (iset (rget xss i) o x)))
  | .rr m xss, .ints s' ys => bif Nat.beq s s' then some (.rr m (rset xss i (splicen m (rget xss i) o ys s))) else none
  | .rv vs, v => bif v.flat then some (.rv (tset vs i v)) else none
  | _, _ => none

/-- a value that is to be kept in memory: a slice of one's own is given up for its content -/
def keepV (mem : Mem) (v : V) (k : V → Mem → List Nat → Option R) : Option R :=
  match v with
  | .sl h off n => match mget mem h with
    | .vec _ c => bif (c.part off n).okRo then k (c.part off n) (mset mem h .dead) [h] else none
    | _ => none
  | v => k v mem []

/-- how many ints a type that is made of ints alone has -/
def ia (tt : TT) : Nat → TypeId → Option Nat
  | 0, _ => none
  | d + 1, t => match look tt t with
    | some { d := .int .i64, size := s, .. } => bif Nat.beq s 1 then some 1 else none
    | some { d := .array n e, size := s, .. } => match ia tt d e with
      | some m => bif Nat.beq s (n * m) then some (n * m) else none
      | none => none
    | some { d := .struct fs, size := s, .. } => match iaF (ia tt d) fs 0 with
      | some m => bif Nat.beq s m then some m else none
      | none => none
    | _ => none
where
  iaF (f : TypeId → Option Nat) : List (Nat × TypeId) → Nat → Option Nat
  | [], o => some o
  | (off, t) :: r, o => bif Nat.beq off o then
      match f t with
      | some m => iaF f r (o + m)
      | none => none
      else none

def eqT (tt : TT) (t : TypeId) (n : Nat) : Bool :=
  match look tt t with
  | some ti => ti.d.agg && (match ia tt 6 t with
    | some m => Nat.beq m n
    | none => false)
  | none => false

def cmpI (op : BinOp) (x y : Int) : Option Bool :=
  match op with
  | .eql => some (x == y)
  | .neq => some (!(x == y))
  | .lss => some (decide (x < y))
  | .leq => some (decide (x ≤ y))
  | .gtr => some (decide (y < x))
  | .geq => some (decide (y ≤ x))
  | _ => none

def bitsI (op : BinOp) (k : IntKind) (x y : Int) : Option Int :=
  let a := BitVec.ofInt k.bits x
  let b := BitVec.ofInt k.bits y
  match op with
  | .and => some (k.wrap (a &&& b).toNat)
  | .or => some (k.wrap (a ||| b).toNat)
  | .xor => some (k.wrap (a ^^^ b).toNat)
  | .andNot => some (k.wrap (a &&& ~~~b).toNat)
  | _ => none

def binK (tt : TT) (op : BinOp) (t : TypeId) (x y : V) (k : V → Option R) : Option R :=
  match x, y with
  | .int kd a, .int kd' b =>
    match op with
    | .shl => bif decide (b < 0) then none else k (.int kd (kd.wrap (a * 2 ^ (min b.toNat kd.bits))))
    | .shr => bif decide (b < 0) then none else k (.int kd (a.fdiv (2 ^ (min b.toNat kd.bits))))
    | _ => bif decide (kd = kd') then
      match op with
      | .add => k (.int kd (kd.wrap (a + b)))
      | .sub => k (.int kd (kd.wrap (a - b)))
      | .mul => k (.int kd (kd.wrap (a * b)))
      | .quo => bif b == 0 then none else k (.int kd (kd.wrap (a.tdiv b)))
      | .rem => bif b == 0 then none else k (.int kd (a.tmod b))
      | .and | .or | .xor | .andNot => match bitsI op kd a b with
        | some n => k (.int kd n)
        | none => none
      | _ => match cmpI op a b with
        | some t => k (.bool t)
        | none => none
      else none
  | .ints n xs, .ints n' ys =>
    match op with
    | .eql => bif Nat.beq n n' && eqT tt t n then k (.bool (xs == ys)) else none
    | .neq => bif Nat.beq n n' && eqT tt t n then k (.bool (!(xs == ys))) else none
    | _ => none
  | .bool a, .bool b =>
    match look tt t with
    | some { d := .bool, .. } => match op with
      | .eql => k (.bool (a == b))
      | .neq => k (.bool (!(a == b)))
      | _ => none
    | _ => none
  | _, _ => none

def unK (op : UnOp) (x : V) (k : V → Option R) : Option R :=
  match op, x with
  | .not, .bool b => k (.bool (!b))
  | .neg, .int kd n => k (.int kd (kd.wrap (0 - n)))
  | _, _ => none

/-- an index i of n, or nothing -/
def idxK (x : V) (n : Nat) (k : Nat → Option R) : Option R :=
  match x with
  | .int _ i => bif inR i n then k i.toNat else none
  | _ => none

def boundK (x : Option V) (dflt n : Nat) (k : Nat → Option R) : Option R :=
  match x with
  | none => k dflt
  | some (.int _ i) => bif inLe i n then k i.toNat else none
  | _ => none

def isZ : Option V → Bool
  | some (.int _ i) => i == 0
  | _ => false

variable (tt : TT)

def sizeT (t : TypeId) (k : TI → Option R) : Option R :=
  match look tt t with
  | some ti => k ti
  | none => none

def addrK (mem : Mem) (t : TypeId) (x ix : V) (k : V → Option R) : Option R :=
  match look tt t with
  | some { d := .array len e, .. } => match look tt e with
    | some te => match x with
      | .ptr h i o s => bif Nat.ble (len * te.size) s then idxK ix len fun j => k (.ptr h i (o + j * te.size) te.size) else none
      | .rp c i o s => bif Nat.ble (len * te.size) s then idxK ix len fun j => k (.rp c i (o + j * te.size) te.size) else none
      | _ => none
    | none => none
  | some { d := .slice e, .. } => match look tt e with
    | some te => match x with
      | .sl h off n => match mget mem h with
        | .vec _ c => bif Nat.beq te.size c.wd then idxK ix n fun j => k (.ptr h (off + j) 0 te.size) else none
        | _ => none
      | .asl h o s n => bif Nat.beq s te.size then idxK ix n fun j => k (.ptr h 0 (o + j * s) s) else none
      | .ri kd xs => bif Nat.beq te.size 1 then idxK ix xs.length fun j => k (.rp (.ri kd xs) j 0 1) else none
      | .rb bs => bif Nat.beq te.size 1 then idxK ix bs.length fun j => k (.rp (.rb bs) j 0 1) else none
      | .rr m xss => bif Nat.beq te.size m then idxK ix xss.length fun j => k (.rp (.rr m xss) j 0 m) else none
      | .rv vs => bif Nat.beq te.size 1 then idxK ix vs.length fun j => k (.rp (.rv vs) j 0 1) else none
      | _ => none
    | none => none
  | _ => none

def fieldK (t : TypeId) (x : V) (f : Nat) (k : V → Option R) : Option R :=
  match look tt t with
  | some { d := .struct fs, .. } => match fs[f]? with
    | some (off, ft) => match look tt ft with
      | some tf => match x with
        | .ptr h i o s => bif Nat.ble (off + tf.size) s && Nat.blt 0 tf.size then k (.ptr h i (o + off) tf.size) else none
        | .rp c i o s => bif Nat.ble (off + tf.size) s && Nat.blt 0 tf.size then k (.rp c i (o + off) tf.size) else none
        | _ => none
      | none => none
    | none => none
  | _ => none

/-- a part of an aggregate value -/
def partK (tf : TI) (x : V) (off : Nat) (k : V → Option R) : Option R :=
  match x with
  | .ints n xs => match tf.d with
    | .int .i64 => k (.int .i64 (iget xs off))
    | .struct _ => k (.ints tf.size (subn n xs off tf.size))
    | .array _ _ => k (.ints tf.size (subn n xs off tf.size))
    | _ => none
  | .bools _ bs => match tf.d with
    | .bool => k (.bool (bget bs off))
    | _ => none
  | .agg vs => bif tf.d.agg then none else k (vget vs off)
  | _ => none

def buildFold (n : Nat) (z : V) (place : Nat → Option (Nat × Nat)) : List (Nat × V) → Option V
  | [] => some z
  | (i, v) :: rest =>
    match place i with
    | some (off, s) =>
      match z, v with
      | .ints m xs, .int .i64 x => bif Nat.beq s 1 && Nat.blt off m then buildFold n (.ints m (iset xs off x)) place rest else none
      | .ints m xs, .ints s' ys => bif Nat.beq s s' && Nat.ble (off + s) m then buildFold n (.ints m (splicen m xs off ys s)) place rest else none
      | .bools m xs, .bool x => bif Nat.beq s 1 && Nat.blt off m then buildFold n (.bools m (bset xs off x)) place rest else none
      | .agg vs, v => bif Nat.beq s 1 && Nat.blt off vs.length && v.flat then buildFold n (.agg (tset vs off v)) place rest else none
      | _, _ => none
    | none => none

def V.isAg : V → Bool
  | .ints _ _ | .bools _ _ | .agg _ => true
  | _ => false

def structPlaces : List (Nat × TypeId) → Option (List (Nat × Nat))
  | [] => some []
  | (off, ft) :: r => match look tt ft with
    | some tf => (structPlaces r).map ((off, tf.size) :: ·)
    | none => none

/-- the content of a slice's literal -/
def buildSl (c : V) : List (Nat × V) → Option V
  | [] => some c
  | (i, v) :: rest =>
    bif Nat.beq i c.cnt then
      match v.one with
      | some c1 => match c.cat c1 with
        | some c2 => buildSl c2 rest
        | none => none
      | none => none
    else none

def lookMap (key : List Int) : List (List Int × V) → Option V
  | [] => none
  | (x, v) :: r => bif x == key then some v else lookMap key r
def putMap (key : List Int) (v : V) : List (List Int × V) → List (List Int × V)
  | [] => [(key, v)]
  | (x, u) :: r => bif x == key then (key, v) :: r else (x, u) :: putMap key v r

variable (tab : Tab)

def Blk.hs : Blk → List Nat
  | .var _ c => c.hs
  | .vec _ c => c.hs
  | _ => []
def Blk.ren (f : Nat → Nat) : Blk → Blk
  | .var n c => .var n (c.ren f)
  | .vec e c => .vec e (c.ren f)
  | b => b
def hsMore (mem : Mem) (hs : List Nat) : List Nat := dedup (hs ++ hs.flatMap fun h => (mget mem h).hs)

def upH (hs : List Nat) (n : Nat) (i : Nat) : Nat :=
  match hs[i]? with
  | some h => h
  | none => n + (i - hs.length)
def dnH (hs : List Nat) (h : Nat) : Nat := (idx h hs).getD hs.length

def hsOf (mem : Mem) (args : List V) : List Nat := hsMore mem (hsMore mem (dedup (V.hsL args)))

def okHs (mem : Mem) (args1 : List V) (hs pub : List Nat) : Bool :=
  nodupB hs && hs.all (fun h => (mget mem h).live && (mget mem h).hs.all fun x => memb x hs) && (V.hsL args1).all (fun x => memb x hs) && pub.all fun h => !memb h hs

/-- the memory that the callee leaves, as it sees it -/
def outD (ent : Ent) (memD : Mem) (ret : Ret) : Mem :=
  match ent.loud with
  | .quiet => memD
  | .fresh => memD ++ ret.blks
  | .loud => ret.blks
def outK (ent : Ent) (ret : Ret) : List Nat :=
  match ent.loud with
  | .loud => ret.kills
  | _ => []

/-- a call, with what the callee sees of memory; pub: the slices that are handed over to be read alone -/
def callG (ent : Ent) (pub hs : List Nat) (args1 : List V) (mem : Mem) (k : V → Mem → List Nat → Option R) : Option R :=
  bif okHs mem args1 hs pub then
    match ent.g (args1.map (V.ren (dnH hs))) (hs.map fun h => (mget mem h).ren (dnH hs)) with
    | none => none
    | some (c, ret) => bif !(outK ent ret).all (fun i => !isVar (mget (hs.map fun h => (mget mem h).ren (dnH hs)) i)) then none else bif c then
        bif (pub.isEmpty || !(ret.v.hasRo || (outD ent (hs.map fun h => (mget mem h).ren (dnH hs)) ret).any Blk.hasRo)) then
        (match ent.loud with
         | .quiet => bif allBelow hs.length ret.v.hs then k (ret.v.ren (upH hs 0)) mem [] else none
         | .fresh => k (ret.v.ren (upH hs mem.length)) (mem ++ ret.blks.map (Blk.ren (upH hs mem.length))) []
         | .loud => bif Nat.ble hs.length ret.blks.length then k (ret.v.ren (upH hs mem.length)) (putBack mem hs (ret.blks.map (Blk.ren (upH hs mem.length)))) (ret.kills.map (upH hs mem.length)) else none)
      else bif pub.all (fun h => isVec (mget mem h)) then
        (match ent.loud with
         | .loud => bif Nat.ble hs.length ret.blks.length then k (ret.v.ren (upH hs mem.length)) (maskL pub (putBack mem hs (ret.blks.map (Blk.ren (upH hs mem.length))))) (ret.kills.map (upH hs mem.length) ++ pub) else none
         | _ => none) else none
      else none
  else none

def callK (f : FuncId) (args : List V) (mem : Mem) (k : V → Mem → List Nat → Option R) : Option R :=
  match look tab f with
  | none => none
  | some ent =>
    match roArgs mem args ent.own with
    | none => none
    | some args1 => callG ent (lent args ent.own) (hsOf mem args1) args1 mem k

/-- a new block: at the end, or at a place that was kept for it -/
def newB (mem : Mem) (slot : Option Nat) (b : Blk) (k : Nat → Mem → Option R) : Option R :=
  match slot with
  | none => k mem.length (mem ++ [b])
  | some s => match mget mem s with
    | .dead => bif Nat.blt s mem.length then k s (mset mem s b) else none
    | _ => none

def opVals (σ : St) (xs : Array Operand) : List V := xs.toList.map (evO σ)

def lenArgs : List V → List Nat → Nat := fun _ _ => 0

/-- append: s, x the slices; e the element's type -/
def appendK (e : TypeId) (te : TI) (mem : Mem) (s x : V) (k : V → Mem → List Nat → Option R) : Option R :=
  match x.view mem with
  | none => none
  | some ys =>
    match s with
    | .sl h 0 n => match mget mem h with
      | .vec e' c => bif Nat.beq e e' && Nat.beq c.wd te.size then
          match (c.part 0 n).cat ys with
          | some c' => bif fits c'.cnt te.bytes then k (.sl h 0 c'.cnt) (mset mem h (.vec e c')) [h] else none
          | none => none
          else none
      | _ => none
    | .z0 => match te.z.mt with
      | some m => match m.cat ys with
        | some c' => bif fits c'.cnt te.bytes && Nat.beq c'.wd te.size then k (.sl mem.length 0 c'.cnt) (mem ++ [.vec e c']) [] else none
        | none => none
      | none => none
    | _ => none

def sliceK (mem : Mem) (t : TypeId) (x : V) (lo hi mx : Option V) (k : V → Option R) : Option R :=
  match mx with
  | some m => bif isZ (some m) && isZ hi && (match lo with | none => true | l => isZ l) then
      (match look tt t with
       | some { d := .slice e, .. } => match look tt e with
         | some _ => match x.len with
           | some _ => k .z0
           | none => none
         | none => none
       | _ => none) else none
  | none =>
    match look tt t with
    | some { d := .slice e, .. } => match look tt e with
      | some te =>
        match x with
        | .sl h off n => match mget mem h with
          | .vec _ c => bif Nat.beq te.size c.wd then boundK hi n n fun b => boundK lo 0 b fun a => k (.sl h (off + a) (b - a)) else none
          | _ => none
        | .asl h o s n => bif Nat.beq te.size s then boundK hi n n fun b => boundK lo 0 b fun a => k (.asl h (o + a * s) s (b - a)) else none
        | .ri kd xs => bif Nat.beq te.size 1 then boundK hi xs.length xs.length fun b => boundK lo 0 b fun a => k (.ri kd (subn xs.length xs a (b - a))) else none
        | .rb xs => bif Nat.beq te.size 1 then boundK hi xs.length xs.length fun b => boundK lo 0 b fun a => k (.rb (subn xs.length xs a (b - a))) else none
        | .rr m xs => bif Nat.beq te.size m then boundK hi xs.length xs.length fun b => boundK lo 0 b fun a => k (.rr m (subn xs.length xs a (b - a))) else none
        | .rv xs => bif Nat.beq te.size 1 then boundK hi xs.length xs.length fun b => boundK lo 0 b fun a => k (.rv (subn xs.length xs a (b - a))) else none
        | .z0 => boundK hi 0 0 fun b => boundK lo 0 b fun _ => k .z0
        | _ => none
      | none => none
    | some { d := .array len e, .. } => match look tt e with
      | some te => match x with
        | .ptr h 0 o s => match mget mem h with
          | .var _ _ => bif Nat.ble (len * te.size) s && Nat.blt 0 te.size then boundK hi len len fun b => boundK lo 0 b fun a => k (.asl h (o + a * te.size) te.size (b - a)) else none
          | _ => none
        | _ => none
      | none => none
    | _ => none

def minmax (mx : Bool) (k : V → Option R) : V → List V → Option R
  | .int kd x, [] => k (.int kd x)
  | .int kd x, .int kd' y :: r => bif decide (kd = kd') then minmax mx k (.int kd (bif mx then (if y > x then y else x) else (if y < x then y else x))) r else none
  | _, _ => none

/-- may a function value hold it -/
def okCap (mem : Mem) : V → Bool
  | .ptr h _ _ _ => match mget mem h with
    | .var _ _ => true
    | _ => false
  | v => v.flatG

def opK (slot : Option Nat) (o : Oper) (σ : St) (k : V → Mem → List Nat → Option R) : Option R :=
  match o.op with
  | .move x => k (evO σ x) σ.mem []
  | .assign x => k (evO σ x) σ.mem []
  | .pick c a b => match evO σ c with
    | .bool t => match evO σ a, evO σ b with
      | .bool x, .bool y => k (.bool (bif t then x else y)) σ.mem []
      | u, v => bif t then k u σ.mem [] else k v σ.mem []
    | _ => none
  | .alloc t => match look tt t with
    | some ti => match ti.z.blk with
      | some b => newB σ.mem slot b fun h mem => k (.ptr h 0 0 ti.z.sz) mem []
      | none => none
    | none => none
  | .box _ x => match slot with
    | none => keepV σ.mem (evO σ x) fun v mem ks => match v.blk with
      | some b => k (.ptr mem.length 0 0 v.sz) (mem ++ [b]) ks
      | none => none
    | some s => match (evO σ x).blk with
      | some b => newB σ.mem (some s) b fun h mem => k (.ptr h 0 0 (evO σ x).sz) mem []
      | none => none
  | .build t parts => match look tt t with
    | some ti => bif !ti.z.isAg then none else match ti.d with
      | .struct fs => match structPlaces tt fs with
        | some ps => match buildFold ti.size ti.z (fun i => ps[i]?) (parts.toList.map fun (i, x) => (i, evO σ x)) with
          | some v => k v σ.mem []
          | none => none
        | none => none
      | .array _ e => match look tt e with
        | some te => match buildFold ti.size ti.z (fun i => some (i * te.size, te.size)) (parts.toList.map fun (i, x) => (i, evO σ x)) with
          | some v => k v σ.mem []
          | none => none
        | none => none
      | _ => none
    | none => none
  | .buildSlice t len parts => match look tt t with
    | some { d := .slice e, .. } => match look tt e with
      | some te => match te.z.mt with
        | some m => match buildSl m (parts.toList.map fun (i, x) => (i, evO σ x)) with
          | some c => bif Nat.beq c.cnt len && Nat.beq c.wd te.size && Nat.ble (len * te.size) 16777216 then newB σ.mem slot (.vec e c) (fun h mem => k (.sl h 0 len) mem []) else none
          | none => none
        | none => none
      | none => none
    | _ => none
  | .load t a => match look tt t with
    | some ti => match evO σ a with
      | .ptr h i o s => bif Nat.ble ti.size s then
          (match mget σ.mem h with
           | .var n c => loadV c n o ti.size ti.d fun v => k v σ.mem []
           | .vec _ c => loadE c i o ti.size ti.d fun v => k v σ.mem []
           | _ => none) else none
      | .rp c i o s => bif Nat.ble ti.size s then loadE c i o ti.size ti.d fun v => k v σ.mem [] else none
      | _ => none
    | none => none
  | .store t a x => match look tt t with
    | some ti => match evO σ a with
      | .ptr h i o s => keepV σ.mem (evO σ x) fun v mem ks => bif Nat.beq ti.size v.sz && Nat.ble ti.size s then
          (match mget mem h with
           | .var n c => match storeV c n o ti.size v with
             | some c' => k .undef (mset mem h (.var n c')) ks
             | none => none
           | .vec e c => match storeE c i o ti.size v with
             | some c' => k .undef (mset mem h (.vec e c')) ks
             | none => none
           | _ => none) else none
      | _ => none
    | none => none
  | .nilCheck x => match evO σ x with
    | .ptr h i o s => k (.ptr h i o s) σ.mem []
    | .rp c i o s => k (.rp c i o s) σ.mem []
    | _ => none
  | .binOp op t x y _ => binK tt op t (evO σ x) (evO σ y) fun v => k v σ.mem []
  | .unOp op _ x => unK op (evO σ x) fun v => k v σ.mem []
  | .convert src dst x => match look tt src with
    | some _ => match look tt dst with
      | some { d := .int kd, .. } => match evO σ x with
        | .int _ n => k (.int kd (kd.wrap n)) σ.mem []
        | _ => none
      | _ => none
    | none => none
  | .makeFunc (.func f) first captured =>
    bif (opVals σ first).all (okCap σ.mem) && (opVals σ captured).all (okCap σ.mem) then k (.fn f (opVals σ first) (opVals σ captured)) σ.mem [] else none
  | .makeMap _ none => newB σ.mem slot (.map []) fun h mem => k (.map h) mem []
  | .slice t x lo hi mx => sliceK tt σ.mem t (evO σ x) (lo.map (evO σ)) (hi.map (evO σ)) (mx.map (evO σ)) fun v => k v σ.mem []
  | .fieldAddr t x f => fieldK tt t (evO σ x) f fun v => k v σ.mem []
  | .field t x f => match look tt t with
    | some { d := .struct fs, .. } => match fs[f]? with
      | some (off, ft) => match look tt ft with
        | some tf => bif Nat.ble (off + tf.size) (evO σ x).sz then partK tf (evO σ x) off fun v => k v σ.mem [] else none
        | none => none
      | none => none
    | _ => none
  | .indexAddr t x ix => addrK tt σ.mem t (evO σ x) (evO σ ix) fun v => k v σ.mem []
  | .index t x ix => match look tt t with
    | some { d := .array len e, .. } => match look tt e with
      | some te => bif Nat.ble (len * te.size) (evO σ x).sz then idxK (evO σ ix) len fun j => partK te (evO σ x) (j * te.size) fun v => k v σ.mem [] else none
      | none => none
    | _ => none
  | .extract x ix => match evO σ x with
    | .tup vs => match vs[ix]? with
      | some v => k v σ.mem []
      | none => none
    | _ => none
  | .call c => match c.callee with
    | .value f => match evO σ f with
      | .fn g first caps => callK tab g (first ++ opVals σ c.args ++ caps) σ.mem k
      | _ => none
    | .builtin .len => match c.argTypes[0]? with
      | some t => match look tt t with
        | some { d := .array len _, .. } => match opVals σ c.args with
          | [_] => k (.int .i64 len) σ.mem []
          | _ => none
        | some { d := .slice _, .. } => match opVals σ c.args with
          | [x] => match x.len with
            | some n => k (.int .i64 n) σ.mem []
            | none => none
          | _ => none
        | some { d := .map _ _, .. } => match opVals σ c.args with
          | [.map h] => match mget σ.mem h with
            | .map kvs => k (.int .i64 kvs.length) σ.mem []
            | _ => none
          | _ => none
        | _ => none
      | none => none
    | .builtin .append => match c.argTypes.toList with
      | [t, t'] => bif Nat.beq t t' then
          match look tt t with
          | some { d := .slice e, .. } => match look tt e with
            | some te => match opVals σ c.args with
              | [s, x] => appendK e te σ.mem s x k
              | _ => none
            | none => none
          | _ => none
          else none
      | _ => none
    | .builtin .max => match opVals σ c.args with
      | x :: r => minmax true (fun v => k v σ.mem []) x r
      | _ => none
    | .builtin .min => match opVals σ c.args with
      | x :: r => minmax false (fun v => k v σ.mem []) x r
      | _ => none
    | _ => none
  | _ => none

def putT (σ : St) (dst : Option Tmp) (v : V) : St :=
  match dst with
  | some d => { σ with tmps := tset σ.tmps d v }
  | none => σ

def guardK (ops : Array Oper) (σ : St) (g : Option (Nat × Bool)) (yes no : Option R) : Option R :=
  match g with
  | none => yes
  | some (j, want) => match (ops[j]?).bind (·.dst) with
    | none => none
    | some d => match vget σ.tmps d with
      | .bool b => match want with
        | true => bif b then yes else no
        | false => bif b then no else yes
      | .undef => no
      | _ => none

/-- the same; what the guard has shown is kept -/
def guardR (ops : Array Oper) (σ : St) (g : Option (Nat × Bool)) (yes no : St → Option R) : Option R :=
  match g with
  | none => yes σ
  | some (j, want) => match (ops[j]?).bind (·.dst) with
    | none => none
    | some d => match vget σ.tmps d with
      | .bool b => match want with
        | true => bif b then yes { σ with tmps := tset σ.tmps d (.bool true) } else no { σ with tmps := tset σ.tmps d (.bool false) }
        | false => bif b then no { σ with tmps := tset σ.tmps d (.bool true) } else yes { σ with tmps := tset σ.tmps d (.bool false) }
      | .undef => no σ
      | _ => none

/-- the operations, in their order -/
def opsK (ops : Array Oper) : List Oper → St → (St → Option R) → Option R
  | [], σ, k => k σ
  | o :: rest, σ, k =>
    guardR ops σ o.guard
      (fun σ => opK tt tab none o σ fun v mem ks => opsK ops rest (putT (σ.upd mem ks) o.dst v) k)
      (fun σ => opsK ops rest (putT σ o.dst .undef) k)

/-- 1: looks at memory at most; 2: makes one block; 3: makes blocks; 4: anything else -/
def cls (o : Oper) : Nat :=
  match o.op with
  | .move _ | .assign _ | .pick _ _ _ | .build _ _ | .nilCheck _ | .binOp .. | .unOp .. | .convert .. | .fieldAddr .. | .field .. | .index .. | .extract .. => 1
  | .indexAddr .. | .load _ _ | .lookup .. | .makeFunc .. | .slice .. => 1
  | .alloc _ | .box _ _ | .buildSlice _ _ _ | .makeMap _ none => 2
  | .call c => match c.callee with
    | .builtin .len => 1
    | .builtin .max | .builtin .min => 1
    | .value (.func f) => match look tab f with
      | some ent => match ent.loud with
        | .quiet => 1
        | .fresh => 3
        | .loud => 4
      | none => 4
    | _ => 4
  | _ => 4

def okCls (a b : Nat) : Bool :=
  Nat.ble a 1 || Nat.ble b 1 || (Nat.beq a 2 && Nat.ble b 3) || (Nat.beq b 2 && Nat.ble a 3)

def uni : List Nat → List Nat → List Nat
  | [], b => b
  | a :: r, b => bif memb a b then uni r b else uni r (a :: b)

def lget : List (List Nat) → Nat → List Nat
  | [], _ => []
  | x :: _, 0 => x
  | _ :: r, n + 1 => lget r n

/-- whom an operation waits for -/
def ancOf (acc : List (List Nat)) : List Edge → List Nat
  | [] => []
  | e :: r => bif Region.binds .any e then uni (e.on :: lget acc e.on) (ancOf acc r) else ancOf acc r

def ancs : List Oper → List (List Nat) → List (List Nat)
  | [], acc => acc
  | o :: r, acc => ancs r (acc ++ [ancOf acc o.after.toList])

/-- what is known of an operation of a region that is drawn: its class; the place of its block; the places of blocks of others that it may not see; what it sees: 0: all, 1: what was there, 2: nothing; does none of the others stand beside it -/
structure DI where
  cls : Nat
  slot : Nat
  ms : List Nat
  mode : Nat
  iso : Bool

def beside (an : List (List Nat)) (i j : Nat) : Bool := !Nat.beq i j && !memb j (lget an i) && !memb i (lget an j)

def slotsOf (base : Nat) : List Nat → List (Nat × Nat)
  | [] => []
  | c :: r => (c, base) :: slotsOf (bif Nat.beq c 2 then base + 1 else base) r

def infoOf (an : List (List Nat)) (cs : List (Nat × Nat)) (i : Nat) (c s : Nat) : DI :=
  let bs := (cs.zipIdx).filter fun x => beside an i x.2
  { cls := c, slot := s, ms := (bs.filter fun x => Nat.beq x.1.1 2).map (·.1.2),
    mode := bif bs.any (fun x => Nat.ble 4 x.1.1) then 2 else bif bs.any (fun x => Nat.beq x.1.1 3) then 1 else 0,
    iso := bs.isEmpty }

def infos (an : List (List Nat)) (cs : List (Nat × Nat)) : List DI := cs.zipIdx.map fun x => infoOf an cs x.2 x.1.1 x.1.2

/-- may those that stand beside each other do so -/
def drawOK (ops : Array Oper) (an : List (List Nat)) (cs : List (Nat × Nat)) : Bool :=
  Region.noSelect ops && ops.toList.zipIdx.all (fun x => x.1.after.toList.all fun e => !Region.binds .any e || Nat.blt e.on x.2) && (ops.toList.zip cs).zipIdx.all fun x => (ops.toList.zip cs).zipIdx.all fun y =>
    !Nat.blt x.2 y.2 || memb x.2 (lget an y.2) || (x.1.1.apart ops y.1.1 && okCls x.1.2.1 y.1.2.1)

def countA (cs : List Nat) : Nat := (cs.filter fun c => Nat.beq c 2).length

def visM (d : DI) (n0 : Nat) (mem : Mem) : Mem :=
  match d.mode with
  | 0 => maskL d.ms mem
  | 1 => maskL d.ms (mem.take n0)
  | _ => []

/-- an operation of a region that is drawn -/
def dOp (n0 : Nat) (d : DI) (o : Oper) (σ : St) (k : V → Mem → List Nat → Option R) : Option R :=
  match d.cls with
  | 0 => none
  | 1 => opK tt tab none o { σ with mem := visM d n0 σ.mem } fun v _ _ => k v σ.mem []
  | 2 => bif Nat.blt d.slot n0 then opK tt tab (some d.slot) o σ k else none
  | 3 => bif Nat.ble n0 σ.mem.length then opK tt tab none o { σ with mem := maskL d.ms σ.mem } fun v m _ => k v (σ.mem ++ m.drop σ.mem.length) [] else none
  | _ => opK tt tab none o σ fun v m ks => match ks with
    | [] => k v m []
    | _ => bif d.iso then k v m ks else none

def dOps (ops : Array Oper) (n0 : Nat) : List (Oper × DI) → St → (St → Option R) → Option R
  | [], σ, k => k σ
  | (o, d) :: rest, σ, k =>
    guardR ops σ o.guard
      (fun σ => dOp tt tab n0 d o σ fun v mem ks => dOps ops n0 rest (putT (σ.upd mem ks) o.dst v) k)
      (fun σ => dOps ops n0 rest (putT σ o.dst .undef) k)

def drawK (ops : Array Oper) (σ : St) (k : St → Option R) : Option R :=
  let cl := ops.toList.map (cls tab)
  let an := ancs ops.toList []
  let cs := slotsOf σ.mem.length cl
  let n0 := σ.mem.length + countA cl
  bif drawOK ops an cs then dOps tt tab ops n0 (ops.toList.zip (infos an cs)) { σ with mem := σ.mem ++ List.replicate (countA cl) .dead } k else none

def iter (f : St → (Out → Option R) → Option R) : Nat → St → (Out → Option R) → Option R
  | 0, _, _ => none
  | n + 1, σ, k => f σ fun
    | .norm σ' => iter f n σ' k
    | o => k o

def ev (fuel : Nat) : Code → St → (Out → Option R) → Option R
  | .skip, σ, k => k (.norm σ)
  | .label _, σ, k => k (.norm σ)
  | .region _ ops draw, σ, k =>
    bif draw then drawK tt tab ops σ fun σ' => k (.norm σ')
    else opsK tt tab ops ops.toList σ fun σ' => k (.norm σ')
  | .seq a b, σ, k => ev fuel a σ fun
    | .norm σ' => ev fuel b σ' k
    | o => k o
  | .cond c x y, σ, k => match evO σ c with
    | .bool b => bif b then ev fuel x σ k else ev fuel y σ k
    | _ => none
  | .block id body, σ, k => ev fuel body σ fun
    | .exit id' σ' => bif Nat.beq id' id then k (.norm σ') else k (.exit id' σ')
    | o => k o
  | .loop body, σ, k => iter (ev fuel body) fuel σ k
  | .exit id, σ, k => k (.exit id σ)
  | .ret, σ, k => k (.ret σ)
  | _, _, _ => none

end
end Go.Lv
