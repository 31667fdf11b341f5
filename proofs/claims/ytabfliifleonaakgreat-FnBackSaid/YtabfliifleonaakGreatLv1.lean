/-
An abstract machine for whole numbers, arrays and slices, proved sound against the model, part 1; without conditions.
-/
import Derived.Calls
import Derived.Below
import Derived.Orders
import Derived.Still
import Derived.StillTail
import Derived.KernelRfl
import Derived.Laws.AppendOwn
import Derived.Laws.CopyRow
import Derived.Laws.StructEq
import Derived.WalkKit
import Derived.DeepKeys
set_option linter.unusedVariables false
set_option linter.unusedSimpArgs false
set_option linter.unusedSectionVars false
namespace Go.Lv
inductive V where
  | undef
  | any
  | bool (b : Bool)
  | int (k : IntKind) (n : Int)
  | ints (n : Nat) (xs : List Int)
  | bools (n : Nat) (bs : List Bool)
  | agg (vs : List V)
  | ptr (h i o s : Nat)
  | rp (c : V) (i o s : Nat)
  | sl (h off n : Nat)
  | asl (h o sz n : Nat)
  | z0
  | ri (k : IntKind) (xs : List Int)
  | rb (bs : List Bool)
  | rr (m : Nat) (xss : List (List Int))
  | rl (k : IntKind) (xss : List (List Int))
  | rv (vs : List V)
  | fn (f : Nat) (first caps : List V)
  | tup (vs : List V)
  | map (h : Nat)
  deriving Inhabited
inductive MC where
  | fl (r : List (List Int × Bool))
  | ls (k : IntKind) (r : List (List Int × List Int))
  deriving Inhabited
inductive Blk where
  | dead
  | var (n : Nat) (c : V)
  | vec (e : TypeId) (c : V)
  | map (n : Nat) (c : MC)
  deriving Inhabited
def Blk.live : Blk → Bool
  | .dead => false
  | _ => true
abbrev Mem := List Blk
structure St where
  tmps : List V
  mem : Mem
  np : Nat
  killed : List Nat
  deriving Inhabited
structure Ret where
  v : V
  blks : List Blk
  kills : List Nat
  deriving Inhabited
inductive D where
  | bool
  | int (k : IntKind)
  | struct (fs : List (Nat × TypeId))
  | array (len : Nat) (elem : TypeId)
  | slice (e : TypeId)
  | map (k e : TypeId)
  | other
  deriving Inhabited
structure TI where
  d : D
  size : Nat
  bytes : Nat
  z : V
  deriving Inhabited
abbrev TT := List (TypeId × TI)
def look {α : Type} : List (Nat × α) → Nat → Option α
  | [], _ => none
  | (a, x) :: r, n => bif Nat.beq a n then some x else look r n
def D.agg : D → Bool
  | .struct _ | .array _ _ => true
  | _ => false
def inR (i : Int) (n : Nat) : Bool :=
  match i with
  | .ofNat k => Nat.blt k n
  | .negSucc _ => false
def inLe (i : Int) (n : Nat) : Bool :=
  match i with
  | .ofNat k => Nat.ble k n
  | .negSucc _ => false
def iget : List Int → Nat → Int
  | [], _ => 0
  | x :: _, 0 => x
  | _ :: r, n + 1 => iget r n
def bget : List Bool → Nat → Bool
  | [], _ => false
  | x :: _, 0 => x
  | _ :: r, n + 1 => bget r n
def rget : List (List Int) → Nat → List Int
  | [], _ => []
  | x :: _, 0 => x
  | _ :: r, n + 1 => rget r n
def vget : List V → Nat → V
  | [], _ => .any
  | x :: _, 0 => x
  | _ :: r, n + 1 => vget r n
def sub {α : Type} (xs : List α) (o s : Nat) : List α := (xs.drop o).take s
def subn {α : Type} (n : Nat) (xs : List α) (o s : Nat) : List α :=
  bif Nat.beq o 0 && Nat.beq s n then xs else sub xs o s
def u029 {α : Type} (xs : List α) (o : Nat) (ys : List α) (s : Nat) : List α := xs.take o ++ ys ++ xs.drop (o + s)
def u108 {α : Type} (n : Nat) (xs : List α) (o : Nat) (ys : List α) (s : Nat) : List α :=
  bif Nat.beq o 0 && Nat.beq s n then ys else u029 xs o ys s
def V.cnt : V → Nat
  | .ri _ xs => xs.length
  | .rb bs => bs.length
  | .rr _ xss => xss.length
  | .rl _ xss => xss.length
  | .rv vs => vs.length
  | _ => 0
def V.wd : V → Nat
  | .rr m _ => m
  | _ => 1
def anyL : List V → Bool → Bool
  | [], b => b
  | _, b => b
mutual
def V.hs : V → List Nat
  | .ptr h _ _ _ => [h]
  | .sl h _ _ => [h]
  | .asl h _ _ _ => [h]
  | .map h => [h]
  | .fn _ first caps => V.hsL first ++ V.hsL caps
  | .tup vs => V.hsL vs
  | .agg vs => V.hsL vs
  | .rv vs => V.hsL vs
  | .rp c _ _ _ => V.hs c
  | _ => []
def V.hsL : List V → List Nat
  | [] => []
  | v :: r => V.hs v ++ V.hsL r
end
def memb (n : Nat) : List Nat → Bool
  | [] => false
  | a :: r => bif Nat.beq a n then true else memb n r
def meets (ks : List Nat) : List Nat → Bool
  | [] => false
  | a :: r => bif memb a ks then true else meets ks r
def u191 (k : Nat) : List Nat → Bool
  | [] => true
  | a :: r => bif Nat.blt a k then u191 k r else false
def killV (ks : List Nat) (v : V) : V := bif meets ks v.hs then .any else v
def addK (np : Nat) : List Nat → List Nat → List Nat
  | [], acc => acc
  | h :: r, acc => addK np r (bif Nat.blt h np && !memb h acc then h :: acc else acc)
def St.upd (σ : St) (mem : Mem) (ks : List Nat) : St :=
  match ks with
  | [] => { σ with mem := mem }
  | ks => { tmps := σ.tmps.map (killV ks), mem := mem, np := σ.np, killed := addK σ.np ks σ.killed }
def cutV (k : Nat) (v : V) : V := bif u191 k v.hs then v else .any
def St.trunc (k : Nat) (σ : St) : St := { σ with tmps := σ.tmps.map (cutV k), mem := σ.mem.take k }
def mget : Mem → Nat → Blk
  | [], _ => .dead
  | b :: _, 0 => b
  | _ :: r, n + 1 => mget r n
def mset : Mem → Nat → Blk → Mem
  | [], _, _ => []
  | _ :: r, 0, b => b :: r
  | a :: r, n + 1, b => a :: mset r n b
def tset : List V → Nat → V → List V
  | [], _, _ => []
  | _ :: r, 0, b => b :: r
  | a :: r, n + 1, b => a :: tset r n b
def iset : List Int → Nat → Int → List Int
  | [], _, _ => []
  | _ :: r, 0, b => b :: r
  | a :: r, n + 1, b => a :: iset r n b
def bset : List Bool → Nat → Bool → List Bool
  | [], _, _ => []
  | _ :: r, 0, b => b :: r
  | a :: r, n + 1, b => a :: bset r n b
def rset : List (List Int) → Nat → List Int → List (List Int)
  | [], _, _ => []
  | _ :: r, 0, b => b :: r
  | a :: r, n + 1, b => a :: rset r n b
def V.part (c : V) (off n : Nat) : V :=
  match c with
  | .ri k xs => .ri k (subn xs.length xs off n)
  | .rb bs => .rb (subn bs.length bs off n)
  | .rr m xss => .rr m (subn xss.length xss off n)
  | .rl k xss => .rl k (subn xss.length xss off n)
  | .rv vs => .rv (subn vs.length vs off n)
  | v => v
def u260 (xs : List Int) (o s : Nat) : Nat → List (List Int)
  | 0 => []
  | n + 1 => sub xs o s :: u260 xs (o + s) s n
def V.g : V → Bool
  | .rv _ | .rl _ _ | .fn _ _ _ => false
  | _ => true
def V.okRo : V → Bool
  | .rv vs => vs.all V.g
  | _ => true
def V.view (mem : Mem) : V → Option V
  | .sl h off n => match mget mem h with
    | .vec _ c => some (c.part off n)
    | _ => none
  | .asl h o s n => match mget mem h with
    | .var _ (.ri .i64 xs) => some (bif Nat.beq s 1 then .ri .i64 (sub xs o n) else .rr s (u260 xs o s n))
    | _ => none
  | .ri k xs => some (.ri k xs)
  | .rb bs => some (.rb bs)
  | .rr m xss => some (.rr m xss)
  | .rl k xss => some (.rl k xss)
  | .rv vs => some (.rv vs)
  | .z0 => some .z0
  | _ => none
def V.len : V → Option Nat
  | .sl _ _ n => some n
  | .asl _ _ _ n => some n
  | .ri _ xs => some xs.length
  | .rb bs => some bs.length
  | .rr _ xss => some xss.length
  | .rl _ xss => some xss.length
  | .rv vs => some vs.length
  | .z0 => some 0
  | _ => none
def V.flat : V → Bool
  | .bool _ | .int _ _ | .ri _ _ | .rb _ | .rr _ _ | .rl _ _ | .z0 | .rv _ | .fn _ _ _ => true
  | _ => false
def V.flatG : V → Bool
  | .bool _ | .int _ _ | .ri _ _ | .rb _ | .rr _ _ | .z0 => true
  | _ => false
def rlL (k : IntKind) : List V → Option (List (List Int))
  | [] => some []
  | .ri k' xs :: r => bif decide (k = k') then (rlL k r).map (xs :: ·) else none
  | .z0 :: r => (rlL k r).map ([] :: ·)
  | _ => none
def V.tellL : V → V
  | .rv (.ri k xs :: r) => match rlL k (.ri k xs :: r) with
    | some yss => .rl k yss
    | none => .rv (.ri k xs :: r)
  | v => v
def llget : List (List (List Int)) → Nat → List (List Int)
  | [], _ => []
  | x :: _, 0 => x
  | _ :: r, n + 1 => llget r n
def rrL (m : Nat) : List V → Option (List (List (List Int)))
  | [] => some []
  | .rr m' xss :: r => bif Nat.beq m m' then (rrL m r).map (xss :: ·) else none
  | _ => none
def selV : List V → Nat → V
  | .rr m xss :: r, n => match rrL m (.rr m xss :: r) with
    | some l => .rr m (llget l n)
    | none => vget (.rr m xss :: r) n
  | vs, n => vget vs n
def V.cat : V → V → Option V
  | .ri k xs, .ri k' ys => bif decide (k = k') then some (.ri k (xs ++ ys)) else none
  | .rb xs, .rb ys => some (.rb (xs ++ ys))
  | .rr m xs, .rr m' ys => bif Nat.beq m m' then some (.rr m (xs ++ ys)) else none
  | .rv xs, .rv ys => some (.rv (xs ++ ys))
  | .rl k xss, .rl k' yss => bif decide (k = k') then some (.rl k (xss ++ yss)) else none
  | .rl k xss, .rv vs => match rlL k vs with
    | some yss => some (.rl k (xss ++ yss))
    | none => none
  | .z0, .z0 => none
  | .z0, c => some c
  | c, .z0 => some c
  | _, _ => none
def V.mt : V → Option V
  | .int k _ => some (.ri k [])
  | .bool _ => some (.rb [])
  | .ints m _ => some (.rr m [])
  | .z0 => some (.rv [])
  | .any => some (.rv [])
  | _ => none
def V.one : V → Option V
  | .int k n => some (.ri k [n])
  | .bool b => some (.rb [b])
  | .ints m xs => some (.rr m [xs])
  | v => bif v.flat then some (.rv [v]) else none
def fits (n bytes : Nat) : Bool := Nat.ble (n * bytes) 140737488355328 && Nat.ble n 140737488355328
def V.blk : V → Option Blk
  | .ints n xs => some (.var n (.ri .i64 xs))
  | .bools n bs => some (.var n (.rb bs))
  | .agg vs => some (.var vs.length (.rv vs))
  | .int k n => some (.var 1 (.ri k [n]))
  | .bool b => some (.var 1 (.rb [b]))
  | v => bif v.flat then some (.var 1 (.rv [v])) else none
def V.sz : V → Nat
  | .ints n _ => n
  | .bools n _ => n
  | .agg vs => vs.length
  | _ => 1
def V.hasRo : V → Bool
  | .ri _ _ | .rb _ | .rr _ _ | .rl _ _ | .rv _ | .rp _ _ _ _ => true
  | .tup vs => vs.any fun | .ri _ _ | .rb _ | .rr _ _ | .rl _ _ | .rv _ | .rp _ _ _ _ | .agg _ | .fn _ _ _ => true | _ => false
  | .agg _ | .fn _ _ _ => true
  | _ => false
def Blk.hasRo : Blk → Bool
  | .var _ (.rv _) | .vec _ (.rv _) | .var _ (.rl _ _) | .vec _ (.rl _ _) | .map _ _ => true
  | _ => false
def idx (n : Nat) : List Nat → Option Nat
  | [] => none
  | a :: r => bif Nat.beq a n then some 0 else (idx n r).map (· + 1)
mutual
def V.ren (f : Nat → Nat) : V → V
  | .ptr h i o s => .ptr (f h) i o s
  | .sl h off n => .sl (f h) off n
  | .asl h o s n => .asl (f h) o s n
  | .map h => .map (f h)
  | .fn g first caps => .fn g (V.renL f first) (V.renL f caps)
  | .tup vs => .tup (V.renL f vs)
  | .agg vs => .agg (V.renL f vs)
  | .rv vs => .rv (V.renL f vs)
  | .rp c i o s => .rp (V.ren f c) i o s
  | v => v
def V.renL (f : Nat → Nat) : List V → List V
  | [] => []
  | v :: r => V.ren f v :: V.renL f r
end
inductive Loud where
  | quiet
  | fresh
  | loud
  deriving DecidableEq, Inhabited
structure Ent where
  own : List Bool
  loud : Loud
  g : List V → Mem → Option (Bool × Ret)
abbrev Tab := List (FuncId × Ent)
inductive Out where
  | norm (σ : St)
  | exit (id : Nat) (σ : St)
  | ret (σ : St)
  deriving Inhabited
def evO (σ : St) : Operand → V
  | .tmp t => vget σ.tmps t
  | .const (.bool b) => .bool b
  | .const (.int k n) => .int k n
  | .const (.slice none 0 0) => .z0
  | .func f => .fn f [] []
  | _ => .any
def u107 (mem : Mem) : List V → List Bool → Option (List V)
  | [], _ => some []
  | v :: r, own =>
    bif own.headD false then (u107 mem r own.tail).map (v :: ·) else
    match v with
    | .sl .. | .asl .. => match v.view mem with
      | some c => bif c.okRo then (u107 mem r own.tail).map (c :: ·) else none
      | none => none
    | _ => (u107 mem r own.tail).map (v :: ·)
def lent : List V → List Bool → List Nat
  | [], _ => []
  | v :: r, own =>
    bif own.headD false then lent r own.tail else
    match v with
    | .sl h _ _ => h :: lent r own.tail
    | .asl h _ _ _ => h :: lent r own.tail
    | _ => lent r own.tail
def dedup : List Nat → List Nat
  | [] => []
  | a :: r => bif memb a r then dedup r else a :: dedup r
def nodupB : List Nat → Bool
  | [] => true
  | a :: r => !memb a r && nodupB r
def putGo (hs : List Nat) (bs : Mem) : Nat → Mem → Mem
  | _, [] => []
  | h, b :: r => (match idx h hs with
    | some i => mget bs i
    | none => b) :: putGo hs bs (h + 1) r
def u110 (mem : Mem) (hs : List Nat) (bs : Mem) : Mem := putGo hs bs 0 mem ++ bs.drop hs.length
def maskL : List Nat → Mem → Mem
  | [], mem => mem
  | s :: r, mem => maskL r (mset mem s .dead)
def isVar : Blk → Bool
  | .var _ _ => true
  | _ => false
def isVec : Blk → Bool
  | .vec _ _ => true
  | _ => false
section
variable {R : Type}
def loadV (c : V) (n : Nat) (o s : Nat) (d : D) (k : V → Option R) : Option R :=
  match c, d with
  | .ri kd xs, .int kd' => bif decide (kd = kd') then k (.int kd (iget xs o)) else none
  | .ri .i64 xs, .struct _ => k (.ints s (subn n xs o s))
  | .ri .i64 xs, .array _ _ => k (.ints s (subn n xs o s))
  | .rb bs, .bool => k (.bool (bget bs o))
  | .rb bs, .array _ _ => k (.bools s (subn n bs o s))
  | .rv vs, .struct _ => bif Nat.beq o 0 && Nat.beq s n then k (.agg vs) else none
  | .rv vs, .array _ _ => bif Nat.beq o 0 && Nat.beq s n then k (.agg vs) else none
  | .rv vs, .slice _ => k (selV vs o)
  | .rv vs, .int kd => match vget vs o with
    | .int kd' x => bif decide (kd = kd') then k (.int kd' x) else none
    | _ => none
  | .rv vs, .other => k (vget vs o)
  | _, _ => none
def loadE (c : V) (i o s : Nat) (d : D) (k : V → Option R) : Option R :=
  match c, d with
  | .ri kd xs, .int kd' => bif decide (kd = kd') then k (.int kd (iget xs i)) else none
  | .rb bs, .bool => k (.bool (bget bs i))
  | .rr _ xss, .int .i64 => k (.int .i64 (iget (rget xss i) o))
  | .rr m xss, .struct _ => k (.ints s (subn m (rget xss i) o s))
  | .rr m xss, .array _ _ => k (.ints s (subn m (rget xss i) o s))
  | .rl kd xss, .slice _ => k (.ri kd (rget xss i))
  | .rv vs, .slice _ => k (selV vs i)
  | .rv vs, .other => k (vget vs i)
  | _, _ => none
def storeV (c : V) (n : Nat) (o s : Nat) (v : V) : Option V :=
  match c, v with
  | .ri k xs, .int k' x => bif decide (k = k') then some (.ri k (iset xs o x)) else none
  | .ri .i64 xs, .ints s' ys => bif Nat.beq s s' then some (.ri .i64 (u108 n xs o ys s)) else none
  | .rb bs, .bool b => some (.rb (bset bs o b))
  | .rb _, .bools s' ys => bif Nat.beq s s' && Nat.beq o 0 && Nat.beq s n then some (.rb ys) else none
  | .rv _, .agg ys => bif Nat.beq o 0 && Nat.beq s n && Nat.beq ys.length s then some (.rv ys) else none
  | .rv vs, v => bif v.flat then some (.rv (tset vs o v)) else none
  | _, _ => none
def storeE (c : V) (i o s : Nat) (v : V) : Option V :=
  match c, v with
  | .ri k xs, .int k' x => bif decide (k = k') then some (.ri k (iset xs i x)) else none
  | .rb bs, .bool b => some (.rb (bset bs i b))
  | .rr m xss, .int .i64 x => some (.rr m (rset xss i (iset (rget xss i) o x)))
  | .rr m xss, .ints s' ys => bif Nat.beq s s' then some (.rr m (rset xss i (u108 m (rget xss i) o ys s))) else none
  | .rv vs, v => bif v.flat then some (.rv (tset vs i v)) else none
  | _, _ => none
def keepV (mem : Mem) (v : V) (k : V → Mem → List Nat → Option R) : Option R :=
  match v with
  | .sl h off n => match mget mem h with
    | .vec _ c => bif (c.part off n).okRo then k (c.part off n) (mset mem h .dead) [h] else none
    | _ => none
  | v => k v mem []
def ia (tt : TT) : Nat → TypeId → Option Nat
  | 0, _ => none
  | d + 1, t => match look tt t with
    | some { d := .int .i64, size := s, .. } => bif Nat.beq s 1 then some 1 else none
    | some { d := .array n e, size := s, .. } => match ia tt d e with
      | some m => bif Nat.beq s (n * m) then some (n * m) else none
      | none => none
    | some { d := .struct fs, size := s, .. } => match iaF (ia tt d) fs 0 with
      | some m => bif Nat.beq s m then some m else none
      | none => none
    | _ => none
where
  iaF (f : TypeId → Option Nat) : List (Nat × TypeId) → Nat → Option Nat
  | [], o => some o
  | (off, t) :: r, o => bif Nat.beq off o then
      match f t with
      | some m => iaF f r (o + m)
      | none => none
      else none
def eqT (tt : TT) (t : TypeId) (n : Nat) : Bool :=
  match look tt t with
  | some ti => ti.d.agg && (match ia tt 6 t with
    | some m => Nat.beq m n
    | none => false)
  | none => false
def cmpI (op : BinOp) (x y : Int) : Option Bool :=
  match op with
  | .eql => some (x == y)
  | .neq => some (!(x == y))
  | .lss => some (decide (x < y))
  | .leq => some (decide (x ≤ y))
  | .gtr => some (decide (y < x))
  | .geq => some (decide (y ≤ x))
  | _ => none
def bitsI (op : BinOp) (k : IntKind) (x y : Int) : Option Int :=
  let a := BitVec.ofInt k.bits x
  let b := BitVec.ofInt k.bits y
  match op with
  | .and => some (k.wrap (a &&& b).toNat)
  | .or => some (k.wrap (a ||| b).toNat)
  | .xor => some (k.wrap (a ^^^ b).toNat)
  | .andNot => some (k.wrap (a &&& ~~~b).toNat)
  | _ => none
def binK (tt : TT) (op : BinOp) (t : TypeId) (x y : V) (k : V → Option R) : Option R :=
  match x, y with
  | .int kd a, .int kd' b =>
    match op with
    | .shl => bif decide (b < 0) then none else k (.int kd (kd.wrap (a * 2 ^ (min b.toNat kd.bits))))
    | .shr => bif decide (b < 0) then none else k (.int kd (a.fdiv (2 ^ (min b.toNat kd.bits))))
    | _ => bif decide (kd = kd') then
      match op with
      | .add => k (.int kd (kd.wrap (a + b)))
      | .sub => k (.int kd (kd.wrap (a - b)))
      | .mul => k (.int kd (kd.wrap (a * b)))
      | .quo => bif b == 0 then none else k (.int kd (kd.wrap (a.tdiv b)))
      | .rem => bif b == 0 then none else k (.int kd (a.tmod b))
      | .and | .or | .xor | .andNot => match bitsI op kd a b with
        | some n => k (.int kd n)
        | none => none
      | _ => match cmpI op a b with
        | some t => k (.bool t)
        | none => none
      else none
  | .ints n xs, .ints n' ys =>
    match op with
    | .eql => bif Nat.beq n n' && eqT tt t n then k (.bool (xs == ys)) else none
    | .neq => bif Nat.beq n n' && eqT tt t n then k (.bool (!(xs == ys))) else none
    | _ => none
  | .bool a, .bool b =>
    match look tt t with
    | some { d := .bool, .. } => match op with
      | .eql => k (.bool (a == b))
      | .neq => k (.bool (!(a == b)))
      | _ => none
    | _ => none
  | _, _ => none
def unK (op : UnOp) (x : V) (k : V → Option R) : Option R :=
  match op, x with
  | .not, .bool b => k (.bool (!b))
  | .neg, .int kd n => k (.int kd (kd.wrap (0 - n)))
  | _, _ => none
def idxK (x : V) (n : Nat) (k : Nat → Option R) : Option R :=
  match x with
  | .int _ i => bif inR i n then k i.toNat else none
  | _ => none
def u098 (x : Option V) (dflt n : Nat) (k : Nat → Option R) : Option R :=
  match x with
  | none => k dflt
  | some (.int _ i) => bif inLe i n then k i.toNat else none
  | _ => none
def isZ : Option V → Bool
  | some (.int _ i) => i == 0
  | _ => false
variable (tt : TT)
def sizeT (t : TypeId) (k : TI → Option R) : Option R :=
  match look tt t with
  | some ti => k ti
  | none => none
def addrK (mem : Mem) (t : TypeId) (x ix : V) (k : V → Option R) : Option R :=
  match look tt t with
  | some { d := .array len e, .. } => match look tt e with
    | some te => match x with
      | .ptr h i o s => bif Nat.ble (len * te.size) s then idxK ix len fun j => k (.ptr h i (o + j * te.size) te.size) else none
      | .rp c i o s => bif Nat.ble (len * te.size) s then idxK ix len fun j => k (.rp c i (o + j * te.size) te.size) else none
      | _ => none
    | none => none
  | some { d := .slice e, .. } => match look tt e with
    | some te => match x with
      | .sl h off n => match mget mem h with
        | .vec _ c => bif Nat.beq te.size c.wd then idxK ix n fun j => k (.ptr h (off + j) 0 te.size) else none
        | _ => none
      | .asl h o s n => bif Nat.beq s te.size then idxK ix n fun j => k (.ptr h 0 (o + j * s) s) else none
      | .ri kd xs => bif Nat.beq te.size 1 then idxK ix xs.length fun j => k (.rp (.ri kd xs) j 0 1) else none
      | .rb bs => bif Nat.beq te.size 1 then idxK ix bs.length fun j => k (.rp (.rb bs) j 0 1) else none
      | .rr m xss => bif Nat.beq te.size m then idxK ix xss.length fun j => k (.rp (.rr m xss) j 0 m) else none
      | .rl kd xss => bif Nat.beq te.size 1 then idxK ix xss.length fun j => k (.rp (.rl kd xss) j 0 1) else none
      | .rv vs => bif Nat.beq te.size 1 then idxK ix vs.length fun j => k (.rp (.rv vs) j 0 1) else none
      | _ => none
    | none => none
  | _ => none
def fieldK (t : TypeId) (x : V) (f : Nat) (k : V → Option R) : Option R :=
  match look tt t with
  | some { d := .struct fs, .. } => match fs[f]? with
    | some (off, ft) => match look tt ft with
      | some tf => match x with
        | .ptr h i o s => bif Nat.ble (off + tf.size) s && Nat.blt 0 tf.size then k (.ptr h i (o + off) tf.size) else none
        | .rp c i o s => bif Nat.ble (off + tf.size) s && Nat.blt 0 tf.size then k (.rp c i (o + off) tf.size) else none
        | _ => none
      | none => none
    | none => none
  | _ => none
def partK (tf : TI) (x : V) (off : Nat) (k : V → Option R) : Option R :=
  match x with
  | .ints n xs => match tf.d with
    | .int .i64 => k (.int .i64 (iget xs off))
    | .struct _ => k (.ints tf.size (subn n xs off tf.size))
    | .array _ _ => k (.ints tf.size (subn n xs off tf.size))
    | _ => none
  | .bools _ bs => match tf.d with
    | .bool => k (.bool (bget bs off))
    | _ => none
  | .agg vs => bif tf.d.agg then none else k (selV vs off)
  | _ => none
def u087 (n : Nat) (z : V) (place : Nat → Option (Nat × Nat)) : List (Nat × V) → Option V
  | [] => some z
  | (i, v) :: rest =>
    match place i with
    | some (off, s) =>
      match z, v with
      | .ints m xs, .int .i64 x => bif Nat.beq s 1 && Nat.blt off m then u087 n (.ints m (iset xs off x)) place rest else none
      | .ints m xs, .ints s' ys => bif Nat.beq s s' && Nat.ble (off + s) m then u087 n (.ints m (u108 m xs off ys s)) place rest else none
      | .bools m xs, .bool x => bif Nat.beq s 1 && Nat.blt off m then u087 n (.bools m (bset xs off x)) place rest else none
      | .agg vs, v => bif Nat.beq s 1 && Nat.blt off vs.length && v.flat then u087 n (.agg (tset vs off v)) place rest else none
      | _, _ => none
    | none => none
def V.isAg : V → Bool
  | .ints _ _ | .bools _ _ | .agg _ => true
  | _ => false
def u083 : List (Nat × TypeId) → Option (List (Nat × Nat))
  | [] => some []
  | (off, ft) :: r => match look tt ft with
    | some tf => (u083 r).map ((off, tf.size) :: ·)
    | none => none
def u119 (c : V) : List (Nat × V) → Option V
  | [] => some c
  | (i, v) :: rest =>
    bif Nat.beq i c.cnt then
      match v.one with
      | some c1 => match c.cat c1 with
        | some c2 => u119 c2 rest
        | none => none
      | none => none
    else none
def mlook {α : Type} (key : List Int) : List (List Int × α) → Option α
  | [] => none
  | (x, v) :: r => bif key == x then some v else mlook key r
def mput {α : Type} (key : List Int) (v : α) : List (List Int × α) → List (List Int × α)
  | [] => [(key, v)]
  | (x, u) :: r => bif key == x then (x, v) :: r else (x, u) :: mput key v r
def MC.len : MC → Nat
  | .fl r => r.length
  | .ls _ r => r.length
def MC.vals : MC → List (List Int × V)
  | .fl r => r.map fun x => (x.1, .bool x.2)
  | .ls k r => r.map fun x => (x.1, .ri k x.2)
def MC.mt (te : TI) : Option MC :=
  match te.d, te.z with
  | .bool, .bool false => some (.fl [])
  | .slice _, .z0 => some (.ls .i64 [])
  | _, _ => none
variable {R : Type} in
def lookK (c : MC) (key : List Int) (ok : Bool) (k : V → Option R) : Option R :=
  match c with
  | .fl r => bif ok then k (.tup [.bool ((mlook key r).getD false), .bool (mlook key r).isSome]) else k (.bool ((mlook key r).getD false))
  | .ls kd r => bif ok then k (.tup [.ri kd ((mlook key r).getD []), .bool (mlook key r).isSome]) else k (.ri kd ((mlook key r).getD []))
def MC.fits (c : MC) (te : TI) : Bool :=
  match te.z, c with
  | .bool false, .fl _ => true
  | .z0, .ls _ _ => true
  | _, _ => false
def MC.put (c : MC) (key : List Int) (v : V) : Option MC :=
  match c, v with
  | .fl r, .bool b => some (.fl (mput key b r))
  | .ls k r, .ri k' xs => bif decide (k = k') then some (.ls k (mput key xs r)) else none
  | .ls k r, .z0 => some (.ls k (mput key [] r))
  | _, _ => none
def V.shown (mem : Mem) : V → Option V
  | .sl h off n => match (V.sl h off n).view mem with
    | some c => bif c.okRo then some c else none
    | none => none
  | .asl h o s n => match (V.asl h o s n).view mem with
    | some c => bif c.okRo then some c else none
    | none => none
  | v => some v
def shownL (mem : Mem) : List (Nat × V) → Option (List (Nat × V))
  | [] => some []
  | (i, v) :: r => match v.shown mem with
    | some c => (shownL mem r).map ((i, c) :: ·)
    | none => none
def V.given : V → List Nat
  | .sl h _ _ => [h]
  | .asl h _ _ _ => [h]
  | _ => []
def givenL : List (Nat × V) → List Nat
  | [] => []
  | (_, v) :: r => v.given ++ givenL r
variable (tab : Tab)
def Blk.hs : Blk → List Nat
  | .var _ c => c.hs
  | .vec _ c => c.hs
  | _ => []
def Blk.ren (f : Nat → Nat) : Blk → Blk
  | .var n c => .var n (c.ren f)
  | .vec e c => .vec e (c.ren f)
  | b => b
def hsMore (mem : Mem) (hs : List Nat) : List Nat := dedup (hs ++ hs.flatMap fun h => (mget mem h).hs)
def upH (hs : List Nat) (n : Nat) (i : Nat) : Nat :=
  match hs[i]? with
  | some h => h
  | none => n + (i - hs.length)
def dnH (hs : List Nat) (h : Nat) : Nat := (idx h hs).getD hs.length
def hsOf (mem : Mem) (args : List V) : List Nat := hsMore mem (hsMore mem (dedup (V.hsL args)))
def okHs (mem : Mem) (args1 : List V) (hs pub : List Nat) : Bool :=
  nodupB hs && hs.all (fun h => (mget mem h).live && (mget mem h).hs.all fun x => memb x hs) && (V.hsL args1).all (fun x => memb x hs) && pub.all fun h => !memb h hs
def outD (ent : Ent) (memD : Mem) (ret : Ret) : Mem :=
  match ent.loud with
  | .quiet => memD
  | .fresh => memD ++ ret.blks
  | .loud => ret.blks
def outK (ent : Ent) (ret : Ret) : List Nat :=
  match ent.loud with
  | .loud => ret.kills
  | _ => []
def callG (ent : Ent) (pub hs : List Nat) (args1 : List V) (mem : Mem) (k : V → Mem → List Nat → Option R) : Option R :=
  bif okHs mem args1 hs pub then
    match ent.g (args1.map (V.ren (dnH hs))) (hs.map fun h => (mget mem h).ren (dnH hs)) with
    | none => none
    | some (c, ret) => bif !(outK ent ret).all (fun i => !isVar (mget (hs.map fun h => (mget mem h).ren (dnH hs)) i)) then none else bif c then
        bif (pub.isEmpty || !(ret.v.hasRo || (outD ent (hs.map fun h => (mget mem h).ren (dnH hs)) ret).any Blk.hasRo)) then
        (match ent.loud with
         | .quiet => bif u191 hs.length ret.v.hs then k (ret.v.ren (upH hs 0)) mem [] else none
         | .fresh => k (ret.v.ren (upH hs mem.length)) (mem ++ ret.blks.map (Blk.ren (upH hs mem.length))) []
         | .loud => bif Nat.ble hs.length ret.blks.length then k (ret.v.ren (upH hs mem.length)) (u110 mem hs (ret.blks.map (Blk.ren (upH hs mem.length)))) (ret.kills.map (upH hs mem.length)) else none)
      else bif pub.all (fun h => isVec (mget mem h)) then
        (match ent.loud with
         | .loud => bif Nat.ble hs.length ret.blks.length then k (ret.v.ren (upH hs mem.length)) (maskL pub (u110 mem hs (ret.blks.map (Blk.ren (upH hs mem.length))))) (ret.kills.map (upH hs mem.length) ++ pub) else none
         | _ => none) else none
      else none
  else none
def callK (f : FuncId) (args : List V) (mem : Mem) (k : V → Mem → List Nat → Option R) : Option R :=
  match look tab f with
  | none => none
  | some ent =>
    match u107 mem args ent.own with
    | none => none
    | some args1 => callG ent (lent args ent.own) (hsOf mem args1) args1 mem k
def newB (mem : Mem) (slot : Option Nat) (b : Blk) (k : Nat → Mem → Option R) : Option R :=
  match slot with
  | none => k mem.length (mem ++ [b])
  | some s => match mget mem s with
    | .dead => bif Nat.blt s mem.length then k s (mset mem s b) else none
    | _ => none
def u057 (σ : St) (xs : Array Operand) : List V := xs.toList.map (evO σ)
def lenArgs : List V → List Nat → Nat := fun _ _ => 0
def u249 (e : TypeId) (te : TI) (mem : Mem) (s x : V) (k : V → Mem → List Nat → Option R) : Option R :=
  match x.view mem with
  | none => none
  | some ys =>
    match s with
    | .sl h 0 n => match mget mem h with
      | .vec e' c => bif Nat.beq e e' && Nat.beq c.wd te.size then
          match (c.part 0 n).cat ys with
          | some c' => bif fits c'.cnt te.bytes then k (.sl h 0 c'.cnt) (mset mem h (.vec e c')) [h] else none
          | none => none
          else none
      | _ => none
    | .z0 => match te.z.mt with
      | some m => match (m.cat ys).map V.tellL with
        | some c' => bif fits c'.cnt te.bytes && Nat.beq c'.wd te.size then k (.sl mem.length 0 c'.cnt) (mem ++ [.vec e c']) [] else none
        | none => none
      | none => none
    | _ => none
def sliceK (mem : Mem) (t : TypeId) (x : V) (lo hi mx : Option V) (k : V → Option R) : Option R :=
  match mx with
  | some m => bif isZ (some m) && isZ hi && (match lo with | none => true | l => isZ l) then
      (match look tt t with
       | some { d := .slice e, .. } => match look tt e with
         | some _ => match x.len with
           | some _ => k .z0
           | none => none
         | none => none
       | _ => none) else none
  | none =>
    match look tt t with
    | some { d := .slice e, .. } => match look tt e with
      | some te =>
        match x with
        | .sl h off n => match mget mem h with
          | .vec _ c => bif Nat.beq te.size c.wd then u098 hi n n fun b => u098 lo 0 b fun a => k (.sl h (off + a) (b - a)) else none
          | _ => none
        | .asl h o s n => bif Nat.beq te.size s then u098 hi n n fun b => u098 lo 0 b fun a => k (.asl h (o + a * s) s (b - a)) else none
        | .ri kd xs => bif Nat.beq te.size 1 then u098 hi xs.length xs.length fun b => u098 lo 0 b fun a => k (.ri kd (subn xs.length xs a (b - a))) else none
        | .rb xs => bif Nat.beq te.size 1 then u098 hi xs.length xs.length fun b => u098 lo 0 b fun a => k (.rb (subn xs.length xs a (b - a))) else none
        | .rr m xs => bif Nat.beq te.size m then u098 hi xs.length xs.length fun b => u098 lo 0 b fun a => k (.rr m (subn xs.length xs a (b - a))) else none
        | .rv xs => bif Nat.beq te.size 1 then u098 hi xs.length xs.length fun b => u098 lo 0 b fun a => k (.rv (subn xs.length xs a (b - a))) else none
        | .z0 => u098 hi 0 0 fun b => u098 lo 0 b fun _ => k .z0
        | _ => none
      | none => none
    | some { d := .array len e, .. } => match look tt e with
      | some te => match x with
        | .ptr h 0 o s => match mget mem h with
          | .var _ _ => bif Nat.ble (len * te.size) s && Nat.blt 0 te.size then u098 hi len len fun b => u098 lo 0 b fun a => k (.asl h (o + a * te.size) te.size (b - a)) else none
          | _ => none
        | _ => none
      | none => none
    | _ => none
def minmax (mx : Bool) (k : V → Option R) : V → List V → Option R
  | .int kd x, [] => k (.int kd x)
  | .int kd x, .int kd' y :: r => bif decide (kd = kd') then minmax mx k (.int kd (bif mx then (if y > x then y else x) else (if y < x then y else x))) r else none
  | _, _ => none
def V.zeroed (c z : V) (off n : Nat) : Option V :=
  match c, z with
  | .ri k xs, .int k' x => bif decide (k = k') then some (.ri k (u029 xs off (List.replicate n x) n)) else none
  | .rb bs, .bool b => some (.rb (u029 bs off (List.replicate n b) n))
  | .rr m xss, .ints m' zs => bif Nat.beq m m' then some (.rr m (u029 xss off (List.replicate n zs) n)) else none
  | _, _ => none
def V.repl (z : V) (n : Nat) : Option V :=
  match z with
  | .int k x => some (.ri k (List.replicate n x))
  | .bool b => some (.rb (List.replicate n b))
  | .ints m zs => some (.rr m (List.replicate n zs))
  | _ => none
def clearK (te : TI) (mem : Mem) (x : V) (k : V → Mem → List Nat → Option R) : Option R :=
  match x with
  | .sl h off n => match mget mem h with
    | .vec e c => match c.zeroed te.z off n with
      | some c' => k (.tup []) (mset mem h (.vec e c')) []
      | none => none
    | _ => none
  | .z0 => k (.tup []) mem []
  | _ => none
def u190 (e : TypeId) (te : TI) (n : Int) (mem : Mem) (k : V → Mem → List Nat → Option R) : Option R :=
  bif decide (1 ≤ n) && fits n.toNat te.bytes then
    match te.z.repl n.toNat with
    | some c => k (.sl mem.length 0 n.toNat) (mem ++ [.vec e c]) []
    | none => none
  else none
def isConst : Operand → Bool
  | .const _ => true
  | _ => false
def constB (t : TypeId) (len : Nat) (parts : Array (Nat × Operand)) : Bool :=
  Nat.ble 2 len && parts.toList.all (fun p => isConst p.2) && (match look tt t with
    | some { d := .slice e, .. } => match look tt e with
      | some { z := .int _ _, .. } => true
      | _ => false
    | _ => false)
def litK (mem : Mem) (slot : Option Nat) (e : TypeId) (te : TI) (m : V) (len : Nat) (vs : List (Nat × V)) (k : V → Mem → List Nat → Option R) : Option R :=
  match givenL vs with
  | [] => match u119 m vs with
    | some c => bif Nat.beq c.cnt len && Nat.beq c.wd te.size && Nat.ble (len * te.size) 16777216 then newB mem slot (.vec e c) (fun h mem => k (.sl h 0 len) mem []) else none
    | none => none
  | ks => match slot with
    | some _ => none
    | none => match shownL mem vs with
      | some ps => match u119 m ps with
        | some c => bif Nat.beq c.cnt len && Nat.beq c.wd te.size && Nat.ble (len * te.size) 16777216 && ps.all (fun p => !meets ks p.2.hs) && mem.all (fun b => !meets ks b.hs) then k (.sl mem.length 0 len) (maskL ks mem ++ [.vec e c]) ks else none
        | none => none
      | none => none
def putC (t : TypeId) (mem : Mem) (m ky v : V) (ks : List Nat) (k : V → Mem → List Nat → Option R) : Option R :=
  match look tt t with
  | some { d := .map kt _, .. } => match m, ky with
    | .map h, .ints n key => bif eqT tt kt n then (match mget mem h with
      | .map n' c => bif Nat.beq n n' then (match c.put key v with
        | some c' => k .undef (mset mem h (.map n' c')) ks
        | none => none) else none
      | _ => none) else none
    | _, _ => none
  | _ => none
def putK (t : TypeId) (mem : Mem) (m ky x : V) (k : V → Mem → List Nat → Option R) : Option R :=
  keepV mem x fun v mem ks => putC tt t mem m ky v ks k
def insK (t : TypeId) (mem : Mem) (m ky x : V) (k : V → Mem → List Nat → Option R) : Option R :=
  match x with
  | .sl _ _ n => bif Nat.beq n 0 then putC tt t mem m ky .z0 [] k else none
  | v => putC tt t mem m ky v [] k
def okCap (mem : Mem) : V → Bool
  | .ptr h _ _ _ => match mget mem h with
    | .var _ _ => true
    | _ => false
  | v => v.flatG
def opK (slot : Option Nat) (o : Oper) (σ : St) (k : V → Mem → List Nat → Option R) : Option R :=
  match o.op with
  | .move x => k (evO σ x) σ.mem []
  | .assign x => k (evO σ x) σ.mem []
  | .pick c a b => match evO σ c with
    | .bool t => match evO σ a, evO σ b with
      | .bool x, .bool y => k (.bool (bif t then x else y)) σ.mem []
      | u, v => bif t then k u σ.mem [] else k v σ.mem []
    | _ => none
  | .alloc t => match look tt t with
    | some ti => match ti.z.blk with
      | some b => newB σ.mem slot b fun h mem => k (.ptr h 0 0 ti.z.sz) mem []
      | none => none
    | none => none
  | .box _ x => match slot with
    | none => keepV σ.mem (evO σ x) fun v mem ks => match v.blk with
      | some b => k (.ptr mem.length 0 0 v.sz) (mem ++ [b]) ks
      | none => none
    | some s => match (evO σ x).blk with
      | some b => newB σ.mem (some s) b fun h mem => k (.ptr h 0 0 (evO σ x).sz) mem []
      | none => none
  | .build t parts => match look tt t with
    | some ti => bif !ti.z.isAg then none else match ti.d with
      | .struct fs => match u083 tt fs with
        | some ps => match u087 ti.size ti.z (fun i => ps[i]?) (parts.toList.map fun (i, x) => (i, evO σ x)) with
          | some v => k v σ.mem []
          | none => none
        | none => none
      | .array _ e => match look tt e with
        | some te => match u087 ti.size ti.z (fun i => some (i * te.size, te.size)) (parts.toList.map fun (i, x) => (i, evO σ x)) with
          | some v => k v σ.mem []
          | none => none
        | none => none
      | _ => none
    | none => none
  | .buildSlice t len parts => bif constB tt t len parts then (match look tt t with
    | some { d := .slice e, .. } => match look tt e with
      | some te => match te.z.mt with
        | some m => match u119 m (parts.toList.map fun (i, x) => (i, evO σ x)) with
          | some (.ri kd xs) => bif Nat.beq xs.length len && Nat.beq te.size 1 && Nat.ble len 16777216 then k (.ri kd xs) σ.mem [] else none
          | _ => none
        | none => none
      | none => none
    | _ => none) else match look tt t with
    | some { d := .slice e, .. } => match look tt e with
      | some te => match te.z.mt with
        | some m => litK σ.mem slot e te m len (parts.toList.map fun (i, x) => (i, evO σ x)) k
        | none => none
      | none => none
    | _ => none
  | .load t a => match look tt t with
    | some ti => match evO σ a with
      | .ptr h i o s => bif Nat.ble ti.size s then
          (match mget σ.mem h with
           | .var n c => loadV c n o ti.size ti.d fun v => k v σ.mem []
           | .vec _ c => loadE c i o ti.size ti.d fun v => k v σ.mem []
           | _ => none) else none
      | .rp c i o s => bif Nat.ble ti.size s then loadE c i o ti.size ti.d fun v => k v σ.mem [] else none
      | _ => none
    | none => none
  | .store t a x => match look tt t with
    | some ti => match evO σ a with
      | .ptr h i o s => keepV σ.mem (evO σ x) fun v mem ks => bif Nat.beq ti.size v.sz && Nat.ble ti.size s then
          (match mget mem h with
           | .var n c => match storeV c n o ti.size v with
             | some c' => k .undef (mset mem h (.var n c')) ks
             | none => none
           | .vec e c => match storeE c i o ti.size v with
             | some c' => k .undef (mset mem h (.vec e c')) ks
             | none => none
           | _ => none) else none
      | _ => none
    | none => none
  | .nilCheck x => match evO σ x with
    | .ptr h i o s => k (.ptr h i o s) σ.mem []
    | .rp c i o s => k (.rp c i o s) σ.mem []
    | _ => none
  | .binOp op t x y _ => binK tt op t (evO σ x) (evO σ y) fun v => k v σ.mem []
  | .unOp op _ x => unK op (evO σ x) fun v => k v σ.mem []
  | .convert src dst x => match look tt src with
    | some _ => match look tt dst with
      | some { d := .int kd, .. } => match evO σ x with
        | .int _ n => k (.int kd (kd.wrap n)) σ.mem []
        | _ => none
      | _ => none
    | none => none
  | .makeSlice t (.tmp i) (.tmp j) => bif Nat.beq i j then (match look tt t with
    | some { d := .slice e, .. } => match look tt e with
      | some te => match vget σ.tmps i with
        | .int _ n => bif decide (0 ≤ n) && fits n.toNat te.bytes then (match te.z.repl n.toNat with
          | some c => k (.sl σ.mem.length 0 n.toNat) (σ.mem ++ [.vec e c]) []
          | none => none) else none
        | _ => none
      | none => none
    | _ => none) else none
  | .makeFunc (.func f) first captured =>
    bif (u057 σ first).all (okCap σ.mem) && (u057 σ captured).all (okCap σ.mem) then k (.fn f (u057 σ first) (u057 σ captured)) σ.mem [] else none
  | .makeMap t none => match look tt t with
    | some { d := .map kt e, .. } => match look tt e with
      | some te => match MC.mt te, ia tt 6 kt with
        | some c, some n => newB σ.mem slot (.map n c) fun h mem => k (.map h) mem []
        | _, _ => none
      | none => none
    | _ => none
  | .lookup t x ix ok => match look tt t with
    | some { d := .map kt e, .. } => match look tt e with
      | some te => match evO σ x, evO σ ix with
        | .map h, .ints n key => bif eqT tt kt n then (match mget σ.mem h with
          | .map n' c => bif Nat.beq n n' && c.fits te then lookK c key ok fun v => k v σ.mem [] else none
          | _ => none) else none
        | _, _ => none
      | none => none
    | _ => none
  | .mapUpdate t m ky x => putK tt t σ.mem (evO σ m) (evO σ ky) (evO σ x) k
  | .insert t m ky x => insK tt t σ.mem (evO σ m) (evO σ ky) (evO σ x) k
  | .slice t x lo hi mx => sliceK tt σ.mem t (evO σ x) (lo.map (evO σ)) (hi.map (evO σ)) (mx.map (evO σ)) fun v => k v σ.mem []
  | .fieldAddr t x f => fieldK tt t (evO σ x) f fun v => k v σ.mem []
  | .field t x f => match look tt t with
    | some { d := .struct fs, .. } => match fs[f]? with
      | some (off, ft) => match look tt ft with
        | some tf => bif Nat.ble (off + tf.size) (evO σ x).sz then partK tf (evO σ x) off fun v => k v σ.mem [] else none
        | none => none
      | none => none
    | _ => none
  | .indexAddr t x ix => addrK tt σ.mem t (evO σ x) (evO σ ix) fun v => k v σ.mem []
  | .index t x ix => match look tt t with
    | some { d := .array len e, .. } => match look tt e with
      | some te => bif Nat.ble (len * te.size) (evO σ x).sz then idxK (evO σ ix) len fun j => partK te (evO σ x) (j * te.size) fun v => k v σ.mem [] else none
      | none => none
    | _ => none
  | .extract x ix => match evO σ x with
    | .tup vs => match vs[ix]? with
      | some v => k v σ.mem []
      | none => none
    | _ => none
  | .call c => match c.callee with
    | .value f => match evO σ f with
      | .fn g first caps => callK tab g (first ++ u057 σ c.args ++ caps) σ.mem k
      | _ => none
    | .builtin .len => match c.argTypes[0]? with
      | some t => match look tt t with
        | some { d := .array len _, .. } => match u057 σ c.args with
          | [_] => k (.int .i64 len) σ.mem []
          | _ => none
        | some { d := .slice _, .. } => match u057 σ c.args with
          | [x] => match x.len with
            | some n => k (.int .i64 n) σ.mem []
            | none => none
          | _ => none
        | some { d := .map _ _, .. } => match u057 σ c.args with
          | [.map h] => match mget σ.mem h with
            | .map _ c => k (.int .i64 c.len) σ.mem []
            | _ => none
          | _ => none
        | _ => none
      | none => none
    | .builtin .append => match c.argTypes.toList with
      | [t, t'] => bif Nat.beq t t' then
          match look tt t with
          | some { d := .slice e, .. } => match look tt e with
            | some te => match u057 σ c.args with
              | [s, x] => u249 e te σ.mem s x k
              | _ => none
            | none => none
          | _ => none
          else match look tt t, look tt t' with
          | some { d := .slice e, .. }, some { d := .int _, .. } => match look tt e with
            | some te => match u057 σ c.args with
              | [.z0, .int _ n] => u190 e te n σ.mem k
              | _ => none
            | none => none
          | _, _ => none
      | _ => none
    | .builtin .clear => match c.argTypes[0]? with
      | some t => match look tt t with
        | some { d := .slice e, .. } => match look tt e with
          | some te => match u057 σ c.args with
            | [x] => clearK te σ.mem x k
            | _ => none
          | none => none
        | _ => none
      | none => none
    | .builtin .cap => match c.argTypes[0]? with
      | some t => match look tt t with
        | some { d := .slice _, .. } => match u057 σ c.args with
          | [.z0] => k (.int .i64 0) σ.mem []
          | _ => none
        | _ => none
      | none => none
    | .builtin .max => match u057 σ c.args with
      | x :: r => minmax true (fun v => k v σ.mem []) x r
      | _ => none
    | .builtin .min => match u057 σ c.args with
      | x :: r => minmax false (fun v => k v σ.mem []) x r
      | _ => none
    | _ => none
  | _ => none
def putT (σ : St) (dst : Option Tmp) (v : V) : St :=
  match dst with
  | some d => { σ with tmps := tset σ.tmps d v }
  | none => σ
def u118 (ops : Array Oper) (σ : St) (g : Option (Nat × Bool)) (yes no : Option R) : Option R :=
  match g with
  | none => yes
  | some (j, want) => match (ops[j]?).bind (·.dst) with
    | none => none
    | some d => match vget σ.tmps d with
      | .bool b => match want with
        | true => bif b then yes else no
        | false => bif b then no else yes
      | .undef => no
      | _ => none
def guardR (ops : Array Oper) (σ : St) (g : Option (Nat × Bool)) (yes no : St → Option R) : Option R :=
  match g with
  | none => yes σ
  | some (j, want) => match (ops[j]?).bind (·.dst) with
    | none => none
    | some d => match vget σ.tmps d with
      | .bool b => match want with
        | true => bif b then yes { σ with tmps := tset σ.tmps d (.bool true) } else no { σ with tmps := tset σ.tmps d (.bool false) }
        | false => bif b then no { σ with tmps := tset σ.tmps d (.bool true) } else yes { σ with tmps := tset σ.tmps d (.bool false) }
      | .undef => no σ
      | _ => none
def opsK (ops : Array Oper) : List Oper → St → (St → Option R) → Option R
  | [], σ, k => k σ
  | o :: rest, σ, k =>
    guardR ops σ o.guard
      (fun σ => opK tt tab none o σ fun v mem ks => opsK ops rest (putT (σ.upd mem ks) o.dst v) k)
      (fun σ => opsK ops rest (putT σ o.dst .undef) k)
def cls (o : Oper) : Nat :=
  match o.op with
  | .move _ | .assign _ | .pick _ _ _ | .build _ _ | .nilCheck _ | .binOp .. | .unOp .. | .convert .. | .fieldAddr .. | .field .. | .index .. | .extract .. => 1
  | .indexAddr .. | .load _ _ | .lookup .. | .makeFunc .. | .slice .. => 1
  | .alloc _ | .box _ _ | .makeMap _ none => 2
  | .buildSlice t len parts => bif Nat.beq len 0 then 2 else bif constB tt t len parts then 1 else match look tt t with
    | some { d := .slice e, .. } => match look tt e with
      | some { z := .z0, .. } => 4
      | _ => 2
    | _ => 2
  | .call c => match c.callee with
    | .builtin .len => 1
    | .builtin .max | .builtin .min => 1
    | .value (.func f) => match look tab f with
      | some ent => match ent.loud with
        | .quiet => 1
        | .fresh => 3
        | .loud => 4
      | none => 4
    | _ => 4
  | _ => 4
def clsD (σ : St) (o : Oper) : Nat :=
  match cls tt tab o with
  | 4 => match o.op with
    | .store _ a _ => match evO σ a with
      | .ptr h _ _ _ => h + 5
      | _ => 4
    | _ => 4
  | c => c
def isSt (h : Nat) (o : Oper) (σ : St) : Bool :=
  match o.op with
  | .store _ a _ => match evO σ a with
    | .ptr h' _ _ _ => Nat.beq h' h
    | _ => false
  | .insert _ m _ _ => match evO σ m with
    | .map h' => Nat.beq h' h
    | _ => false
  | _ => false
def okCls (a b : Nat) : Bool :=
  Nat.ble a 1 || Nat.ble b 1 || (Nat.beq a 2 && Nat.ble b 3) || (Nat.beq b 2 && Nat.ble a 3)
def okCS (a s b s' : Nat) : Bool :=
  okCls a b || (Nat.beq a 2 && Nat.ble 5 b && !Nat.beq (s + 5) b) || (Nat.beq b 2 && Nat.ble 5 a && !Nat.beq (s' + 5) a)
def slotFor (t : Nat) : List Oper → List (Nat × Nat) → Option Nat
  | o :: r, c :: cs => match o.dst with
    | some d => bif Nat.beq d t && Nat.beq c.1 2 then some c.2 else slotFor t r cs
    | none => slotFor t r cs
  | _, _ => none
def appOf (t : Nat) : List Oper → Option Nat
  | [] => none
  | o :: r => match o.dst with
    | some d => bif Nat.beq d t then (match o.op with
        | .call c => match c.callee with
          | .builtin .append => match c.args.toList with
            | .tmp t' :: _ => some t'
            | _ => none
          | _ => none
        | _ => none) else appOf t r
    | none => appOf t r
def madeBy (t : Nat) : List Oper → List (Nat × Nat) → Bool
  | o :: r, c :: cs => match o.dst with
    | some d => bif Nat.beq d t then Nat.beq c.1 3 else madeBy t r cs
    | none => madeBy t r cs
  | _, _ => false
def rootOf (n0 : Nat) (ops : List Oper) (cs : List (Nat × Nat)) : Nat → Nat → Option Nat
  | 0, _ => none
  | f + 1, t => match slotFor t ops cs with
    | some s => some s
    | none => bif madeBy t ops cs then some n0 else match appOf t ops with
      | some t' => rootOf n0 ops cs f t'
      | none => none
def tell (c : Nat × Nat) : Nat × Nat := bif Nat.ble 5 c.1 then (c.1, 0) else c
def fixOne (n0 : Nat) (ops : List Oper) (cs : List (Nat × Nat)) (o : Oper) (c : Nat × Nat) : Nat × Nat :=
  match o.op with
  | .insert _ (.tmp t) _ _ => match slotFor t ops cs with
    | some s => (s + 5, 0)
    | none => tell c
  | .store _ (.tmp t) _ => match slotFor t ops cs with
    | some s => (s + 5, 0)
    | none => tell c
  | .call cl => match cl.callee with
    | .builtin .append => match cl.args.toList with
      | .tmp t :: _ => match rootOf n0 ops cs ops.length t with
        | some s => (s + 5, 1)
        | none => tell c
      | _ => tell c
    | _ => tell c
  | _ => tell c
def fixIns (n0 : Nat) (ops : List Oper) (cs : List (Nat × Nat)) : List (Nat × Nat) := (ops.zip cs).map fun x => fixOne n0 ops cs x.1 x.2
def mvOf (t : Nat) : List Oper → Option Nat
  | [] => none
  | o :: r => match o.dst with
    | some d => bif Nat.beq d t then (match o.op with
      | .move (.tmp t') => some t'
      | _ => none) else mvOf t r
    | none => mvOf t r
def ptrAt (σ : St) (ops : List Oper) (t : Nat) : Option Nat :=
  match vget σ.tmps ((mvOf t ops).getD t) with
  | .ptr h _ _ _ => some h
  | _ => none
def isLoad (o : Oper) : Bool :=
  match o.op with
  | .load _ _ => true
  | _ => false
def V.lone : V → Bool
  | .sl .. => false
  | .asl .. => false
  | _ => true
def uni : List Nat → List Nat → List Nat
  | [], b => b
  | a :: r, b => bif memb a b then uni r b else uni r (a :: b)
def lget : List (List Nat) → Nat → List Nat
  | [], _ => []
  | x :: _, 0 => x
  | _ :: r, n + 1 => lget r n
def ancOf (acc : List (List Nat)) : List Edge → List Nat
  | [] => []
  | e :: r => bif Region.binds .any e then uni (e.on :: lget acc e.on) (ancOf acc r) else ancOf acc r
def ancs : List Oper → List (List Nat) → List (List Nat)
  | [], acc => acc
  | o :: r, acc => ancs r (acc ++ [ancOf acc o.after.toList])
structure DI where
  cls : Nat
  slot : Nat
  ms : List Nat
  kl : List Nat
  mode : Nat
  iso : Bool
def u120 (an : List (List Nat)) (i j : Nat) : Bool := !Nat.beq i j && !memb j (lget an i) && !memb i (lget an j)
def crowd (an : List (List Nat)) (cs : List (Nat × Nat)) (ops : List Oper) (i : Nat) : Bool :=
  (cs.zip ops).zipIdx.any fun y => u120 an i y.2 && (Nat.beq y.1.1.1 2 || isLoad y.1.2)
def clOne (σ : St) (ops : List Oper) (an : List (List Nat)) (cs : List (Nat × Nat)) (i : Nat) (o : Oper) (c : Nat × Nat) : Nat × Nat :=
  match o.op with
  | .call cl => match cl.callee with
    | .value (.func _) => match cl.args.toList with
      | .tmp t :: _ => match ptrAt σ ops t with
        | some h => bif Nat.beq c.1 4 && crowd an cs ops i then (h + 5, 2) else c
        | none => c
      | _ => c
    | _ => c
  | _ => c
def fixCl (σ : St) (ops : List Oper) (an : List (List Nat)) (cs : List (Nat × Nat)) : List (Nat × Nat) := (ops.zip cs).zipIdx.map fun x => clOne σ ops an cs x.2 x.1.1 x.1.2
def isCl (h : Nat) (o : Oper) (σ : St) : Bool :=
  match o.op with
  | .call c => match c.callee with
    | .value (.func f) => match look tab f with
      | some ent => (match ent.loud with
        | .loud => true
        | _ => false) && (u057 σ c.args).all V.lone && (match dedup (V.hsL (u057 σ c.args)) with
        | [h'] => Nat.beq h' h
        | _ => false) && (mget σ.mem h).hs.isEmpty
      | none => false
    | _ => false
  | _ => false
def u162 (base : Nat) : List Nat → List (Nat × Nat)
  | [] => []
  | c :: r => (c, base) :: u162 (bif Nat.beq c 2 then base + 1 else base) r
def u259 (an : List (List Nat)) (cs : List (Nat × Nat)) (i : Nat) (c s : Nat) : DI :=
  let bs := (cs.zipIdx).filter fun x => u120 an i x.2
  { cls := c, slot := s, ms := ((bs.filter fun x => Nat.beq x.1.1 2).map (·.1.2)) ++ ((bs.filter fun x => Nat.ble 5 x.1.1).map fun x => x.1.1 - 5),
    kl := (bs.filter fun x => Nat.ble 5 x.1.1 && Nat.beq x.1.2 1).map fun x => x.1.1 - 5,
    mode := bif bs.any (fun x => Nat.beq x.1.1 4) then 2 else bif bs.any (fun x => Nat.beq x.1.1 3) then 1 else 0,
    iso := bs.isEmpty }
def infos (an : List (List Nat)) (cs : List (Nat × Nat)) : List DI := cs.zipIdx.map fun x => u259 an cs x.2 x.1.1 x.1.2
def drawOK (ops : Array Oper) (an : List (List Nat)) (cs : List (Nat × Nat)) : Bool :=
  Region.noSelect ops && ops.toList.zipIdx.all (fun x => x.1.after.toList.all fun e => !Region.binds .any e || Nat.blt e.on x.2) && (ops.toList.zip cs).zipIdx.all fun x => (ops.toList.zip cs).zipIdx.all fun y =>
    !Nat.blt x.2 y.2 || memb x.2 (lget an y.2) || (x.1.1.apart ops y.1.1 && okCS x.1.2.1 x.1.2.2 y.1.2.1 y.1.2.2)
def u172 (cs : List Nat) : Nat := (cs.filter fun c => Nat.beq c 2).length
def visM (d : DI) (n0 : Nat) (mem : Mem) : Mem :=
  match d.mode with
  | 0 => maskL d.ms mem
  | 1 => maskL d.ms (mem.take n0)
  | _ => []
def isAp (h : Nat) (o : Oper) (σ : St) : Bool :=
  match o.op with
  | .call c => match c.callee with
    | .builtin .append => match u057 σ c.args with
      | [.sl h' 0 _, _] => Nat.beq h' h
      | _ => false
    | _ => false
  | _ => false
def stays (kl : List Nat) (v : V) : Bool :=
  match v with
  | .any => false
  | v => !meets kl v.hs
def okKl (d : DI) (o : Oper) (σ : St) : Bool :=
  match d.kl with
  | [] => true
  | kl => Nat.ble d.cls 2 && o.op.operands.toList.all fun x => stays kl (evO σ x)
def dOp (n0 : Nat) (d : DI) (o : Oper) (σ : St) (k : V → Mem → List Nat → Option R) : Option R :=
  bif okKl d o σ then
  match d.cls with
  | 0 => none
  | 1 => opK tt tab none o { σ with mem := visM d n0 σ.mem } fun v _ _ => bif meets d.kl v.hs then none else k v σ.mem []
  | 2 => bif Nat.blt d.slot n0 then opK tt tab (some d.slot) o σ fun v m ks => bif meets d.kl v.hs then none else k v m ks else none
  | 3 => bif Nat.ble n0 σ.mem.length then opK tt tab none o { σ with mem := maskL d.ms σ.mem } fun v m _ => k v (σ.mem ++ m.drop σ.mem.length) [] else none
  | 4 => opK tt tab none o σ fun v m ks => match ks with
    | [] => k v m []
    | _ => bif d.iso then k v m ks else none
  | h + 5 => bif Nat.beq d.slot 1 then
      (bif isAp h o σ then opK tt tab none o { σ with mem := maskL d.ms σ.mem } fun v m _ => k v (mset σ.mem h (mget m h)) [h] else none)
    else bif Nat.beq d.slot 2 then
      (bif isCl tab h o σ then opK tt tab none o σ fun v m ks => (match ks with
      | [] => bif Nat.beq m.length σ.mem.length && (mget m h).live then k v m [] else none
      | _ => none) else none)
    else bif isSt h o σ then opK tt tab none o σ fun v m ks => match ks with
    | [] => k v m []
    | _ => bif d.iso then k v m ks else none
    else none
  else none
def dOps (ops : Array Oper) (n0 : Nat) : List (Oper × DI) → St → (St → Option R) → Option R
  | [], σ, k => k σ
  | (o, d) :: rest, σ, k =>
    guardR ops σ o.guard
      (fun σ => dOp tt tab n0 d o σ fun v mem ks => dOps ops n0 rest (putT (σ.upd mem ks) o.dst v) k)
      (fun σ => dOps ops n0 rest (putT σ o.dst .undef) k)
def drawK (ops : Array Oper) (σ : St) (k : St → Option R) : Option R :=
  let cl := ops.toList.map (clsD tt tab σ)
  let an := ancs ops.toList []
  let n0 := σ.mem.length + u172 cl
  let cs := fixCl σ ops.toList an (fixIns n0 ops.toList (u162 σ.mem.length cl))
  bif drawOK ops an cs then dOps tt tab ops n0 (ops.toList.zip (infos an cs)) { σ with mem := σ.mem ++ List.replicate (u172 cl) .dead } k else none
def iter (f : St → (Out → Option R) → Option R) : Nat → St → (Out → Option R) → Option R
  | 0, _, _ => none
  | n + 1, σ, k => f σ fun
    | .norm σ' => iter f n σ' k
    | o => k o
def ev (fuel : Nat) : Code → St → (Out → Option R) → Option R
  | .skip, σ, k => k (.norm σ)
  | .label _, σ, k => k (.norm σ)
  | .region _ ops draw, σ, k =>
    bif draw then drawK tt tab ops σ fun σ' => k (.norm σ')
    else opsK tt tab ops ops.toList σ fun σ' => k (.norm σ')
  | .seq a b, σ, k => ev fuel a σ fun
    | .norm σ' => ev fuel b σ' k
    | o => k o
  | .cond c x y, σ, k => match evO σ c with
    | .bool b => bif b then ev fuel x σ k else ev fuel y σ k
    | _ => none
  | .block id body, σ, k => ev fuel body σ fun
    | .exit id' σ' => bif Nat.beq id' id then k (.norm σ') else k (.exit id' σ')
    | o => k o
  | .loop body, σ, k => iter (ev fuel body) fuel σ k
  | .exit id, σ, k => k (.exit id σ)
  | .ret, σ, k => k (.ret σ)
  | _, _, _ => none
end
end Go.Lv
namespace Go.Lv
section
variable {A B : Type}
theorem u022 (b : Bool) (x : Option A) (k : A → Option B) : (bif b then x else none).bind k = bif b then x.bind k else none := by cases b <;> rfl
theorem u141 (b : Bool) (x : Option A) (k : A → Option B) : (bif b then none else x).bind k = bif b then none else x.bind k := by cases b <;> rfl
theorem u106 (b : Bool) (x y : Option A) (k : A → Option B) : (bif b then x else y).bind k = bif b then x.bind k else y.bind k := by cases b <;> rfl
variable (f : V → Option A) (k : A → Option B)
theorem loadV_bind (c : V) (n o s : Nat) (d : D) : (loadV c n o s d f).bind k = loadV c n o s d (fun v => (f v).bind k) := by
  unfold loadV
  split <;> (try simp only [u022, Option.bind_none])
  split <;> simp only [u022, Option.bind_none]
theorem loadE_bind (c : V) (i o s : Nat) (d : D) : (loadE c i o s d f).bind k = loadE c i o s d (fun v => (f v).bind k) := by
  unfold loadE
  split <;> simp only [u022, Option.bind_none]
theorem binK_bind (tt : TT) (op : BinOp) (t : TypeId) (x y : V) : (binK tt op t x y f).bind k = binK tt op t x y (fun v => (f v).bind k) := by
  unfold binK
  split
  · split <;> (try simp only [u022, u141, Option.bind_none])
    split <;> (try simp only [u022, u141, Option.bind_none])
    all_goals (congr 1; try (split <;> rfl))
  · split <;> simp only [u022, Option.bind_none]
  · split
    · split <;> rfl
    · rfl
  · rfl
theorem unK_bind (op : UnOp) (x : V) : (unK op x f).bind k = unK op x (fun v => (f v).bind k) := by
  unfold unK
  split <;> rfl
theorem u218 (f : Nat → Option A) (x : V) (n : Nat) : (idxK x n f).bind k = idxK x n (fun v => (f v).bind k) := by
  unfold idxK
  split <;> simp only [u022, Option.bind_none]
theorem u188 (f : Nat → Option A) (x : Option V) (d n : Nat) : (u098 x d n f).bind k = u098 x d n (fun v => (f v).bind k) := by
  unfold u098
  split <;> simp only [u022, Option.bind_none]
theorem addrK_bind (tt : TT) (mem : Mem) (t : TypeId) (x ix : V) : (addrK tt mem t x ix f).bind k = addrK tt mem t x ix (fun v => (f v).bind k) := by
  unfold addrK
  split
  · split
    · split <;> simp only [u022, u218, Option.bind_none]
    · rfl
  · split
    · split <;> (try simp only [u022, u218, Option.bind_none])
      split <;> simp only [u022, u218, Option.bind_none]
    · rfl
  · rfl
theorem fieldK_bind (tt : TT) (t : TypeId) (x : V) (j : Nat) : (fieldK tt t x j f).bind k = fieldK tt t x j (fun v => (f v).bind k) := by
  unfold fieldK
  split
  · split
    · split
      · split <;> simp only [u022, Option.bind_none]
      · rfl
    · rfl
  · rfl
theorem partK_bind (tf : TI) (x : V) (off : Nat) : (partK tf x off f).bind k = partK tf x off (fun v => (f v).bind k) := by
  unfold partK
  split
  · split <;> rfl
  · split <;> rfl
  · simp only [u141]
  · rfl
theorem u181 (mx : Bool) : ∀ (vs : List V) (v : V), (minmax mx f v vs).bind k = minmax mx (fun v => (f v).bind k) v vs
  | [], v => by cases v <;> rfl
  | u :: r, v => by
    cases v <;> cases u <;> try rfl
    simp only [minmax, u022]
    congr 1
    exact u181 mx r _
theorem sliceK_bind (tt : TT) (mem : Mem) (t : TypeId) (x : V) (lo hi mx : Option V) : (sliceK tt mem t x lo hi mx f).bind k = sliceK tt mem t x lo hi mx (fun v => (f v).bind k) := by
  unfold sliceK
  split
  · simp only [u022]
    congr 1
    split
    · split
      · split <;> rfl
      · rfl
    · rfl
  · split
    · split
      · split <;> (try simp only [u022, u188, Option.bind_none])
        split <;> simp only [u022, u188, Option.bind_none]
      · rfl
    · split
      · split
        · split <;> simp only [u022, u188, Option.bind_none]
        · rfl
      · rfl
    · rfl
variable (g : V → Mem → List Nat → Option A)
theorem u236 (mem : Mem) (v : V) : (keepV mem v g).bind k = keepV mem v (fun v m ks => (g v m ks).bind k) := by
  unfold keepV
  split
  · split <;> simp only [u022, Option.bind_none]
  · rfl
theorem u213 (g : Nat → Mem → Option A) (mem : Mem) (slot : Option Nat) (b : Blk) : (newB mem slot b g).bind k = newB mem slot b (fun h m => (g h m).bind k) := by
  unfold newB
  split
  · rfl
  · split <;> simp only [u022, Option.bind_none]
theorem clearK_bind (te : TI) (mem : Mem) (x : V) : (clearK te mem x g).bind k = clearK te mem x (fun v m ks => (g v m ks).bind k) := by
  unfold clearK
  split
  · split
    · split <;> rfl
    · rfl
  · rfl
  · rfl
theorem appendNK_bind (e : TypeId) (te : TI) (n : Int) (mem : Mem) : (u190 e te n mem g).bind k = u190 e te n mem (fun v m ks => (g v m ks).bind k) := by
  unfold u190
  simp only [u022]
  congr 1
  split <;> rfl
theorem appendK_bind (e : TypeId) (te : TI) (mem : Mem) (s x : V) : (u249 e te mem s x g).bind k = u249 e te mem s x (fun v m ks => (g v m ks).bind k) := by
  unfold u249
  split
  · rfl
  · split
    · split
      · simp only [u022]
        congr 1
        split <;> simp only [u022, Option.bind_none]
      · rfl
    · split
      · split <;> simp only [u022, Option.bind_none]
      · rfl
    · rfl
theorem litK_bind (mem : Mem) (slot : Option Nat) (e : TypeId) (te : TI) (m : V) (len : Nat) (vs : List (Nat × V)) : (litK mem slot e te m len vs g).bind k = litK mem slot e te m len vs (fun v m ks => (g v m ks).bind k) := by
  unfold litK
  split
  · split
    · simp only [u022]
      congr 1
      exact u213 _ _ _ _ _
    · rfl
  · split
    · rfl
    · split
      · split
        · simp only [u022]
        · rfl
      · rfl
theorem lookK_bind (g : V → Option A) (c : MC) (key : List Int) (ok : Bool) : (lookK c key ok g).bind k = lookK c key ok (fun v => (g v).bind k) := by
  unfold lookK
  split <;> cases ok <;> rfl
theorem putC_bind (tt : TT) (t : TypeId) (mem : Mem) (m ky v : V) (ks : List Nat) : (putC tt t mem m ky v ks g).bind k = putC tt t mem m ky v ks (fun v m ks => (g v m ks).bind k) := by
  unfold putC
  split
  · split
    · simp only [u022]
      congr 1
      split
      · simp only [u022]
        congr 1
        split <;> rfl
      · rfl
    · rfl
  · rfl
theorem putK_bind (tt : TT) (t : TypeId) (mem : Mem) (m ky x : V) : (putK tt t mem m ky x g).bind k = putK tt t mem m ky x (fun v m ks => (g v m ks).bind k) := by
  unfold putK
  rw [u236]
  congr 1
  funext v m ks
  exact putC_bind _ _ _ _ _ _ _ _ _
theorem insK_bind (tt : TT) (t : TypeId) (mem : Mem) (m ky x : V) : (insK tt t mem m ky x g).bind k = insK tt t mem m ky x (fun v m ks => (g v m ks).bind k) := by
  unfold insK
  split
  · simp only [u022, putC_bind]
  · exact putC_bind _ _ _ _ _ _ _ _ _
theorem callG_bind (ent : Ent) (pub hs : List Nat) (args1 : List V) (mem : Mem) : (callG ent pub hs args1 mem g).bind k = callG ent pub hs args1 mem (fun v m ks => (g v m ks).bind k) := by
  unfold callG
  simp only [u022]
  congr 1
  split
  · rfl
  · rename_i c ret _
    simp only [u141, u106, Option.bind_none]
    congr 3
    · cases ent.loud <;> simp only [u022, Option.bind_none]
    · cases ent.loud <;> simp only [u022, Option.bind_none]
theorem callK_bind (tab : Tab) (fn : FuncId) (args : List V) (mem : Mem) : (callK tab fn args mem g).bind k = callK tab fn args mem (fun v m ks => (g v m ks).bind k) := by
  unfold callK
  split
  · rfl
  · split
    · rfl
    · exact callG_bind _ _ _ _ _ _ _
theorem u090 (tt : TT) (tab : Tab) (slot : Option Nat) (o : Oper) (σ : St) : (opK tt tab slot o σ g).bind k = opK tt tab slot o σ (fun v m ks => (g v m ks).bind k) := by
  unfold opK
  split
  · rfl
  · rfl
  · split
    · split
      · rfl
      · simp only [u106]
    · rfl
  · split
    · split
      · exact u213 _ _ _ _ _
      · rfl
    · rfl
  · split
    · rw [u236]
      congr 1
      funext v m ks
      split <;> rfl
    · split
      · exact u213 _ _ _ _ _
      · rfl
  · split
    · simp only [u141]
      congr 1
      split
      · split
        · split <;> rfl
        · rfl
      · split
        · split <;> rfl
        · rfl
      · rfl
    · rfl
  · rw [u106]
    congr 1
    · split
      · split
        · split
          · split
            · rw [u022]
            · rfl
          · rfl
        · rfl
      · rfl
    · split
      · split
        · split
          · exact litK_bind _ _ _ _ _ _ _ _ _
          · rfl
        · rfl
      · rfl
  · split
    · split
      · simp only [u022]
        congr 1
        split
        · exact loadV_bind _ _ _ _ _ _ _
        · exact loadE_bind _ _ _ _ _ _ _
        · rfl
      · simp only [u022, loadE_bind]
      · rfl
    · rfl
  · split
    · split
      · rw [u236]
        congr 1
        funext v m ks
        simp only [u022]
        congr 1
        split
        · split <;> rfl
        · split <;> rfl
        · rfl
      · rfl
    · rfl
  · split <;> rfl
  · exact binK_bind _ _ _ _ _ _ _
  · exact unK_bind _ _ _ _
  · split
    · split
      · split <;> rfl
      · rfl
    · rfl
  · simp only [u022]
    congr 1
    split
    · split
      · split
        · simp only [u022]
          congr 1
          split <;> rfl
        · rfl
      · rfl
    · rfl
  · simp only [u022]
  · split
    · split
      · split
        · exact u213 _ _ _ _ _
        · rfl
      · rfl
    · rfl
  · split
    · split
      · split
        · simp only [u022]
          congr 1
          split
          · simp only [u022, lookK_bind]
          · rfl
        · rfl
      · rfl
    · rfl
  · exact putK_bind _ _ _ _ _ _ _ _
  · exact insK_bind _ _ _ _ _ _ _ _
  · exact sliceK_bind _ _ _ _ _ _ _ _ _
  · exact fieldK_bind _ _ _ _ _ _
  · split
    · split
      · split
        · simp only [u022, partK_bind]
        · rfl
      · rfl
    · rfl
  · exact addrK_bind _ _ _ _ _ _ _
  · split
    · split
      · simp only [u022, u218, partK_bind]
      · rfl
    · rfl
  · split
    · split <;> rfl
    · rfl
  · split
    · split
      · exact callK_bind _ _ _ _ _ _
      · rfl
    · split
      · split
        · split <;> rfl
        · split
          · split <;> rfl
          · rfl
        · split
          · split <;> rfl
          · rfl
        · rfl
      · rfl
    · split
      · rw [u106]
        congr 1
        · split
          · split
            · split
              · exact appendK_bind _ _ _ _ _ _ _
              · rfl
            · rfl
          · rfl
        · split
          · split
            · split
              · exact appendNK_bind _ _ _ _ _ _
              · rfl
            · rfl
          · rfl
      · rfl
    · split
      · split
        · split
          · split
            · exact clearK_bind _ _ _ _ _
            · rfl
          · rfl
        · rfl
      · rfl
    · split
      · split
        · split
          · rfl
          · rfl
        · rfl
      · rfl
    · split
      · exact u181 _ _ _ _ _
      · rfl
    · split
      · exact u181 _ _ _ _ _
      · rfl
    · rfl
  · rfl
end
end Go.Lv
namespace Go.Lv
open Go.RowKit
inductive All2 {α β : Type} (P : α → β → Prop) : List α → List β → Prop where
  | nil : All2 P [] []
  | cons {x : α} {y : β} {xs : List α} {ys : List β} : P x y → All2 P xs ys → All2 P (x :: xs) (y :: ys)
inductive Rl where
  | none
  | var (r : Nat)
  | vec (a : Option Addr) (cap : Nat)
  | map (r : Nat)
def Rl.blk : Rl → Option Nat
  | .none => .none
  | .var r => some r
  | .vec a cap => if cap = 0 then .none else a.map (·.block)
  | .map r => some r
abbrev Rho := List Rl
structure FrT where
  F : Nat → Prop
abbrev Fr := Inhabited FrT
def Fr.F [fr : Fr] (r : Nat) : Prop := fr.default.F r
abbrev Fr.of (F : Nat → Prop) : Fr := ⟨⟨F⟩⟩
variable [fr : Fr]
def LB (ρ : Rho) (mem : Mem) (r : Nat) : Prop := ∃ h rl, ρ[h]? = some rl ∧ (mget mem h).live = true ∧ rl.blk = some r
def NB (ρ : Rho) (mem : Mem) (r : Nat) : Prop := ¬ LB ρ mem r
def NL (ρ : Rho) (mem : Mem) (r : Nat) : Prop := NB ρ mem r ∧ ¬ Fr.F r
def iv (k : IntKind) (xs : List Int) : List Value := xs.map (Value.int k)
def bv (bs : List Bool) : List Value := bs.map Value.bool
def RoR (w : World) (ρ : Rho) (mem : Mem) (cells : List Value) (wd n : Nat) (r : Value) : Prop :=
  ∃ a cap, r = .slice a n cap ∧ n ≤ cap ∧ cells.length = n * wd ∧
    (n ≠ 0 → ∃ b off, a = some ⟨b, off, none⟩ ∧ NL ρ mem b ∧ b < w.heap.size ∧ ∀ j v, cells[j]? = some v → w.cell? ⟨b, off + j, none⟩ = some v)
def rowsOK (m : Nat) (xss : List (List Int)) : Prop := 1 ≤ m ∧ ∀ xs ∈ xss, xs.length = m
def PtrV (ρ : Rho) (mem : Mem) (h i o s : Nat) (r : Value) : Prop :=
  ∃ n c b, mget mem h = .var n c ∧ ρ[h]? = some (.var b) ∧ r = .pointer (some ⟨b, o, none⟩) ∧ i = 0 ∧ o + s ≤ n
def PtrR (ρ : Rho) (mem : Mem) (h i o s : Nat) (r : Value) : Prop :=
  PtrV ρ mem h i o s r ∨
  (∃ e c b cap, mget mem h = .vec e c ∧ ρ[h]? = some (.vec (some ⟨b, 0, none⟩) cap) ∧ 0 < cap ∧ r = .pointer (some ⟨b, i * c.wd + o, none⟩) ∧ i < c.cnt ∧ o + s ≤ c.wd)
def VG (w : World) (ρ : Rho) (mem : Mem) (v : V) (r : Value) : Prop :=
  match v with
  | .any => r.oneCell' = true
  | .bool b => r = .bool b
  | .int k n => r = .int k n
  | .z0 => ∃ a, r = .slice a 0 0
  | .ri k xs => RoR w ρ mem (iv k xs) 1 xs.length r
  | .rb bs => RoR w ρ mem (bv bs) 1 bs.length r
  | .rr m xss => rowsOK m xss ∧ RoR w ρ mem (iv .i64 xss.flatten) m xss.length r
  | .ptr h i o s => PtrV ρ mem h i o s r
  | _ => False
def VF (w : World) (ρ : Rho) (mem : Mem) (v : V) (r : Value) : Prop :=
  match v with
  | .rl k xss => ∃ rs : List Value, RoR w ρ mem rs 1 xss.length r ∧ All2 (fun xs q => RoR w ρ mem (iv k xs) 1 xs.length q) xss rs
  | .rv vs => ∃ rs : List Value, RoR w ρ mem rs 1 vs.length r ∧ All2 (VG w ρ mem) vs rs
  | .fn f first caps => ∃ fs cs : List Value, r = .func (.func f) fs.toArray cs.toArray ∧ All2 (VG w ρ mem) first fs ∧ All2 (VG w ρ mem) caps cs
  | v => VG w ρ mem v r
def CR (w : World) (ρ : Rho) (mem : Mem) (c : V) (rs : List Value) : Prop :=
  match c with
  | .ri k xs => rs = iv k xs
  | .rb bs => rs = bv bs
  | .rr m xss => rowsOK m xss ∧ rs = iv .i64 xss.flatten
  | .rl k xss => All2 (fun xs q => RoR w ρ mem (iv k xs) 1 xs.length q) xss rs
  | .rv vs => All2 (VF w ρ mem) vs rs
  | _ => False
def VR1 (w : World) (ρ : Rho) (mem : Mem) (v : V) (r : Value) : Prop :=
  match v with
  | .undef => r = Go.undef
  | .any => True
  | .ints n xs => xs.length = n ∧ r = .agg (iv .i64 xs).toArray
  | .bools n bs => bs.length = n ∧ r = .agg (bv bs).toArray
  | .agg vs => ∃ rs : List Value, r = .agg rs.toArray ∧ All2 (VF w ρ mem) vs rs
  | .rp c i o s => ∃ b off rs, r = .pointer (some ⟨b, off + (i * c.wd + o), none⟩) ∧ NL ρ mem b ∧ b < w.heap.size ∧ CR w ρ mem c rs ∧
      (∀ j u, rs[j]? = some u → w.cell? ⟨b, off + j, none⟩ = some u) ∧ i < c.cnt ∧ o + s ≤ c.wd
  | .sl h off n => ∃ e c a cap, mget mem h = .vec e c ∧ ρ[h]? = some (.vec a cap) ∧ off + n ≤ c.cnt ∧
      ((off = 0 ∧ r = .slice a n cap) ∨ (off ≠ 0 ∧ ∃ a' cap', r = .slice a' n cap' ∧ n ≤ cap' ∧ (n ≠ 0 → ∃ b, a = some ⟨b, 0, none⟩ ∧ a' = some ⟨b, off * c.wd, none⟩)))
  | .asl h o s n => ∃ m c b, mget mem h = .var m c ∧ ρ[h]? = some (.var b) ∧ o + n * s ≤ m ∧ 0 < s ∧
      ∃ a' cap', r = .slice a' n cap' ∧ n ≤ cap' ∧ (n ≠ 0 → a' = some ⟨b, o, none⟩)
  | .map h => ∃ n c b, mget mem h = .map n c ∧ ρ[h]? = some (.map b) ∧ r = .map (some b)
  | .ptr h i o s => PtrR ρ mem h i o s r
  | v => VF w ρ mem v r
def VR (w : World) (ρ : Rho) (mem : Mem) (v : V) (r : Value) : Prop :=
  match v with
  | .tup vs => ∃ rs : List Value, r = .tuple rs.toArray ∧ All2 (VR1 w ρ mem) vs rs
  | v => VR1 w ρ mem v r
def BlkR (w : World) (ρ : Rho) (mem : Mem) (b : Blk) (rl : Rl) : Prop :=
  match b with
  | .dead => True
  | .var n c => ∃ r e rs, rl = .var r ∧ w.heap[r]? = some (.cells (List.toArray rs) e (0, 0)) ∧ rs.length = n ∧ CR w ρ mem c rs ∧ c.wd = 1
  | .vec e c => ∃ a cap, rl = .vec a cap ∧ c.cnt ≤ cap ∧ ((cap = 0 ∧ CR w ρ mem c []) ∨
      ∃ r cur, 0 < cap ∧ a = some ⟨r, 0, none⟩ ∧ w.heap[r]? = some (.cells cur e (0, 0)) ∧ cap ≤ Go.maxLen ∧ cur.size = cap * c.wd ∧ CR w ρ mem c (cur.toList.take (c.cnt * c.wd)))
  | .map n c => ∃ r es clock, rl = .map r ∧ w.heap[r]? = some (.map es clock) ∧
      All2 (fun (kv : List Int × V) (e : MapEntry) => (e.key = .agg (iv .i64 kv.1).toArray ∧ kv.1.length = n) ∧ kv.2.flatG = true ∧ VG w ρ mem kv.2 e.val) c.vals es.toList
structure WR (w : World) (ρ : Rho) (mem : Mem) : Prop where
  len : ρ.length = mem.length
  blk : ∀ (h : Nat) (rl : Rl), ρ[h]? = some rl → BlkR w ρ mem (mget mem h) rl
  inj : ∀ (h h' : Nat) (rl rl' : Rl) (r : Nat), ρ[h]? = some rl → ρ[h']? = some rl' → (mget mem h).live = true → (mget mem h').live = true → rl.blk = some r → rl'.blk = some r → h = h'
  nf : ∀ r, LB ρ mem r → ¬ Fr.F r
  fb : ∀ r, Fr.F r → r < w.heap.size
def Shape (b b' : Blk) : Prop :=
  match b with
  | .dead => True
  | .var n c => ∃ c', b' = .var n c'
  | .vec e c => ∃ c', b' = .vec e c' ∧ c'.wd = c.wd ∧ c.cnt ≤ c'.cnt
  | .map n _ => ∃ c', b' = .map n c'
structure Step (w : World) (ρ : Rho) (mem : Mem) (w' : World) (ρ' : Rho) (mem' : Mem) (K : Nat → Prop) : Prop where
  os : w'.os = w.os
  tape : w'.tape = w.tape
  output : w'.output = w.output
  size : w.heap.size ≤ w'.heap.size
  old : ∀ r, r < w.heap.size → NB ρ mem r → w'.heap[r]? = w.heap[r]? ∧ NB ρ' mem' r
  hp : ∀ (h : Nat) (rl : Rl), ρ[h]? = some rl → (mget mem h).live = true → ¬ K h → ρ'[h]? = some rl ∧ Shape (mget mem h) (mget mem' h)
  drawn : w.drawn ≤ w'.drawn
theorem Shape.refl (b : Blk) : Shape b b := by
  cases b with
  | dead => trivial
  | var n c => exact ⟨c, rfl⟩
  | vec e c => exact ⟨c, rfl, rfl, Nat.le_refl _⟩
  | map n c => exact ⟨c, rfl⟩
theorem Shape.trans {a b c : Blk} (h : Shape a b) (h' : Shape b c) : Shape a c := by
  cases a with
  | dead => trivial
  | var n x => obtain ⟨y, rfl⟩ := h; exact h'
  | vec e x => obtain ⟨y, rfl, hw, hc⟩ := h; obtain ⟨z, rfl, hw', hc'⟩ := h'; exact ⟨z, rfl, hw'.trans hw, Nat.le_trans hc hc'⟩
  | map n c => obtain ⟨y, rfl⟩ := h; exact h'
theorem Shape.live {b b' : Blk} (h : Shape b b') (hl : b.live = true) : b'.live = true := by
  cases b with
  | dead => cases hl
  | var n c => obtain ⟨_, rfl⟩ := h; rfl
  | vec e c => obtain ⟨_, rfl, _⟩ := h; rfl
  | map n c => obtain ⟨_, rfl⟩ := h; rfl
theorem Step.refl (w : World) (ρ : Rho) (mem : Mem) (K : Nat → Prop) : Step w ρ mem w ρ mem K :=
  ⟨rfl, rfl, rfl, Nat.le_refl _, fun r _ h => ⟨rfl, h⟩, fun h rl hr _ _ => ⟨hr, Shape.refl _⟩, Nat.le_refl _⟩
theorem Step.trans {w w1 w2 : World} {ρ ρ1 ρ2 : Rho} {mem mem1 mem2 : Mem} {K K1 K2 : Nat → Prop} (h : Step w ρ mem w1 ρ1 mem1 K) (h' : Step w1 ρ1 mem1 w2 ρ2 mem2 K1)
    (hk : ∀ x, K x → K2 x) (hk' : ∀ x, x < ρ.length → K1 x → K2 x) : Step w ρ mem w2 ρ2 mem2 K2 := by
  refine ⟨h'.os.trans h.os, h'.tape.trans h.tape, h'.output.trans h.output, Nat.le_trans h.size h'.size, fun r hr hn => ?_, fun x rl hx hlx hnk => ?_, Nat.le_trans h.drawn h'.drawn⟩
  · obtain ⟨e1, n1⟩ := h.old r hr hn
    obtain ⟨e2, n2⟩ := h'.old r (Nat.lt_of_lt_of_le hr h.size) n1
    exact ⟨e2.trans e1, n2⟩
  · have hl : x < ρ.length := (List.getElem?_eq_some_iff.1 hx).1
    obtain ⟨e1, s1⟩ := h.hp x rl hx hlx (fun hk0 => hnk (hk x hk0))
    obtain ⟨e2, s2⟩ := h'.hp x rl e1 (s1.live hlx) (fun hk0 => hnk (hk' x hl hk0))
    exact ⟨e2, s1.trans s2⟩
section mono
variable {w w' : World} {ρ ρ' : Rho} {mem mem' : Mem} {K : Nat → Prop}
theorem Step.cell (h : Step w ρ mem w' ρ' mem' K) {b o : Nat} {v : Value} (hn : NB ρ mem b) (hb : b < w.heap.size) (hc : w.cell? ⟨b, o, none⟩ = some v) : w'.cell? ⟨b, o, none⟩ = some v := by
  rw [World.cell?_of_block (w := w) (w' := w') (a := ⟨b, o, none⟩) (h.old b hb hn).1]; exact hc
theorem RoR.step (h : Step w ρ mem w' ρ' mem' K) {cells : List Value} {wd n : Nat} {r : Value} (hr : RoR w ρ mem cells wd n r) : RoR w' ρ' mem' cells wd n r := by
  obtain ⟨a, cap, rfl, hnc, hl, hc⟩ := hr
  refine ⟨a, cap, rfl, hnc, hl, fun hn => ?_⟩
  obtain ⟨b, off, rfl, hnl, hb, hcell⟩ := hc hn
  exact ⟨b, off, rfl, ⟨(h.old b hb hnl.1).2, hnl.2⟩, Nat.lt_of_lt_of_le hb h.size, fun j v hv => h.cell hnl.1 hb (hcell j v hv)⟩
theorem PtrV.step (h : Step w ρ mem w' ρ' mem' K) {x i o s : Nat} {r : Value} (hk : ¬ K x) (hr : PtrV ρ mem x i o s r) : PtrV ρ' mem' x i o s r := by
  obtain ⟨n, c, b, hm, hρ, rfl, hi, ho⟩ := hr
  obtain ⟨h1, h2⟩ := h.hp x _ hρ (by rw [hm]; rfl) hk
  rw [hm] at h2
  obtain ⟨c', h2⟩ := h2
  exact ⟨n, c', b, h2, h1, rfl, hi, ho⟩
theorem PtrR.step (h : Step w ρ mem w' ρ' mem' K) {x i o s : Nat} {r : Value} (hk : ¬ K x) (hr : PtrR ρ mem x i o s r) : PtrR ρ' mem' x i o s r := by
  rcases hr with hr | ⟨e, c, b, cap, hm, hρ, hcap, rfl, hi, ho⟩
  · exact .inl (PtrV.step h hk hr)
  · obtain ⟨h1, h2⟩ := h.hp x _ hρ (by rw [hm]; rfl) hk
    rw [hm] at h2
    obtain ⟨c', h2, hw, hc⟩ := h2
    exact .inr ⟨e, c', b, cap, h2, h1, hcap, by rw [hw], Nat.lt_of_lt_of_le hi hc, by rw [hw]; exact ho⟩
theorem u026 {α β : Type} {P Q : α → β → Prop} {xs : List α} {ys : List β} (h : All2 P xs ys) (hpq : ∀ x y, x ∈ xs → P x y → Q x y) : All2 Q xs ys := by
  induction h with
  | nil => exact .nil
  | cons hp _ ih => exact .cons (hpq _ _ (by simp) hp) (ih fun x y hx => hpq x y (by simp [hx]))
theorem u134 {vs : List V} {v : V} (h : v ∈ vs) {x : Nat} (hx : x ∈ v.hs) : x ∈ V.hsL vs := by
  induction vs with
  | nil => cases h
  | cons a r ih =>
    simp only [V.hsL, List.mem_append]
    cases h with
    | head => exact .inl hx
    | tail _ h => exact .inr (ih h)
theorem VG.step (h : Step w ρ mem w' ρ' mem' K) {v : V} {r : Value} (hk : ∀ x ∈ v.hs, ¬ K x) (hr : VG w ρ mem v r) : VG w' ρ' mem' v r := by
  cases v with
  | any | bool | int | z0 => exact hr
  | ri k xs => exact RoR.step h hr
  | rb bs => exact RoR.step h hr
  | rr m xss => exact ⟨hr.1, RoR.step h hr.2⟩
  | ptr x i o s => exact PtrV.step h (hk x (by simp [V.hs])) hr
  | _ => exact hr.elim
theorem VF.step (h : Step w ρ mem w' ρ' mem' K) {v : V} {r : Value} (hk : ∀ x ∈ v.hs, ¬ K x) (hr : VF w ρ mem v r) : VF w' ρ' mem' v r := by
  cases v with
  | rl k xss =>
    obtain ⟨rs, h1, h2⟩ := hr
    exact ⟨rs, RoR.step h h1, u026 h2 fun x y _ => RoR.step h⟩
  | rv vs =>
    obtain ⟨rs, h1, h2⟩ := hr
    exact ⟨rs, RoR.step h h1, u026 h2 fun x y hx => VG.step h fun z hz => hk z (by simp only [V.hs]; exact u134 hx hz)⟩
  | fn f first caps =>
    obtain ⟨fs, cs, rfl, h1, h2⟩ := hr
    exact ⟨fs, cs, rfl, u026 h1 fun x y hx => VG.step h fun z hz => hk z (by simp only [V.hs, List.mem_append]; exact .inl (u134 hx hz)),
      u026 h2 fun x y hx => VG.step h fun z hz => hk z (by simp only [V.hs, List.mem_append]; exact .inr (u134 hx hz))⟩
  | any | bool | int | z0 | ri | rb | rr | ptr => exact VG.step h hk hr
  | _ => exact (hr : False).elim
theorem CR.step (h : Step w ρ mem w' ρ' mem' K) {c : V} {rs : List Value} (hk : ∀ x ∈ c.hs, ¬ K x) (hr : CR w ρ mem c rs) : CR w' ρ' mem' c rs := by
  cases c with
  | ri | rb | rr => exact hr
  | rl k xss => exact u026 hr fun x y _ => RoR.step h
  | rv vs => exact u026 hr fun x y hx => VF.step h fun z hz => hk z (by simp only [V.hs]; exact u134 hx hz)
  | _ => exact hr.elim
theorem VR1.step (h : Step w ρ mem w' ρ' mem' K) {v : V} {r : Value} (hk : ∀ x ∈ v.hs, ¬ K x) (hr : VR1 w ρ mem v r) : VR1 w' ρ' mem' v r := by
  cases v with
  | undef | any | ints | bools => exact hr
  | agg vs =>
    obtain ⟨rs, rfl, h2⟩ := hr
    exact ⟨rs, rfl, u026 h2 fun x y hx => VF.step h fun z hz => hk z (by simp only [V.hs]; exact u134 hx hz)⟩
  | rp c i o s =>
    obtain ⟨b, off, rs, rfl, hn, hb, hc, hcell, hi, ho⟩ := hr
    exact ⟨b, off, rs, rfl, ⟨(h.old b hb hn.1).2, hn.2⟩, Nat.lt_of_lt_of_le hb h.size, CR.step h (fun x hx => hk x (by simpa only [V.hs] using hx)) hc, fun j u hu => h.cell hn.1 hb (hcell j u hu), hi, ho⟩
  | sl x off n =>
    obtain ⟨e, c, a, cap, hm, hρ, hle, hv⟩ := hr
    obtain ⟨h1, h2⟩ := h.hp x _ hρ (by rw [hm]; rfl) (hk x (by simp [V.hs]))
    rw [hm] at h2
    obtain ⟨c', h2, hw, hc⟩ := h2
    refine ⟨e, c', a, cap, h2, h1, Nat.le_trans hle hc, ?_⟩
    rw [hw]; exact hv
  | asl x o s n =>
    obtain ⟨m, c, b, hm, hρ, hle, hs, hv⟩ := hr
    obtain ⟨h1, h2⟩ := h.hp x _ hρ (by rw [hm]; rfl) (hk x (by simp [V.hs]))
    rw [hm] at h2
    obtain ⟨c', h2⟩ := h2
    exact ⟨m, c', b, h2, h1, hle, hs, hv⟩
  | map x =>
    obtain ⟨n, c, b, hm, hρ, rfl⟩ := hr
    obtain ⟨h1, h2⟩ := h.hp x _ hρ (by rw [hm]; rfl) (hk x (by simp [V.hs]))
    rw [hm] at h2
    obtain ⟨c', h2⟩ := h2
    exact ⟨n, c', b, h2, h1, rfl⟩
  | tup vs => exact (hr : False).elim
  | ptr x i o s => exact PtrR.step h (hk x (by simp [V.hs])) hr
  | bool | int | z0 | ri | rb | rr | rl | rv | fn => exact VF.step h hk hr
theorem VR.step (h : Step w ρ mem w' ρ' mem' K) {v : V} {r : Value} (hk : ∀ x ∈ v.hs, ¬ K x) (hr : VR w ρ mem v r) : VR w' ρ' mem' v r := by
  cases v with
  | tup vs =>
    obtain ⟨rs, rfl, h2⟩ := hr
    exact ⟨rs, rfl, u026 h2 fun x y hx => VR1.step h fun z hz => hk z (by simp only [V.hs]; exact u134 hx hz)⟩
  | _ => exact VR1.step (r := r) h hk hr
end mono
theorem memb_iff {n : Nat} {l : List Nat} : memb n l = true ↔ n ∈ l := by
  induction l with
  | nil => simp [memb]
  | cons a r ih =>
    simp only [memb, List.mem_cons]
    by_cases h : a = n
    · subst h; simp
    · have : Nat.beq a n = false := by rw [← Bool.not_eq_true, Nat.beq_eq]; exact h
      rw [this]; simp only [cond_false, ih]
      constructor
      · exact .inr
      · rintro (e | e)
        · exact absurd e.symm h
        · exact e
theorem u182 {ks l : List Nat} (h : meets ks l = false) : ∀ x ∈ l, x ∉ ks := by
  induction l with
  | nil => intro x hx; cases hx
  | cons a r ih =>
    simp only [meets] at h
    by_cases ha : memb a ks = true
    · rw [ha] at h; cases h
    · rw [show memb a ks = false by simpa using ha] at h
      intro x hx
      cases hx with
      | head => exact fun hx => ha (memb_iff.2 hx)
      | tail _ hx => exact ih h x hx
theorem killV_step {w w' : World} {ρ ρ' : Rho} {mem mem' : Mem} {ks : List Nat} (h : Step w ρ mem w' ρ' mem' (· ∈ ks)) {v : V} {r : Value} (hr : VR w ρ mem v r) : VR w' ρ' mem' (killV ks v) r := by
  unfold killV
  by_cases hm : meets ks v.hs = true
  · rw [hm]; trivial
  · rw [show meets ks v.hs = false by simpa using hm]
    exact VR.step h (u182 (by simpa using hm)) hr
theorem u242 {α β γ : Type} {P : γ → β → Prop} {f : α → γ} {xs : List α} {ys : List β} (h : All2 (fun x y => P (f x) y) xs ys) : All2 P (xs.map f) ys := by
  induction h with
  | nil => exact .nil
  | cons hp _ ih => exact .cons hp ih
theorem mem_addK {np : Nat} {ks acc : List Nat} {x : Nat} : x ∈ addK np ks acc ↔ x ∈ acc ∨ (x < np ∧ x ∈ ks) := by
  induction ks generalizing acc with
  | nil => simp [addK]
  | cons a r ih =>
    simp only [addK, ih, List.mem_cons]
    by_cases h1 : a < np
    · by_cases h2 : memb a acc = true
      · have : (Nat.blt a np && !memb a acc) = false := by simp [h2]
        rw [this]; simp only [cond_false]
        have h3 := memb_iff.1 h2
        constructor
        · rintro (h | ⟨h, h'⟩)
          · exact .inl h
          · exact .inr ⟨h, .inr h'⟩
        · rintro (h | ⟨h, rfl | h'⟩)
          · exact .inl h
          · exact .inl h3
          · exact .inr ⟨h, h'⟩
      · have : (Nat.blt a np && !memb a acc) = true := by simp [h2, Nat.blt_eq, h1]
        rw [this]; simp only [cond_true, List.mem_cons]
        constructor
        · rintro ((rfl | h) | ⟨h, h'⟩)
          · exact .inr ⟨h1, .inl rfl⟩
          · exact .inl h
          · exact .inr ⟨h, .inr h'⟩
        · rintro (h | ⟨h, rfl | h'⟩)
          · exact .inl (.inr h)
          · exact .inl (.inl rfl)
          · exact .inr ⟨h, h'⟩
    · have : (Nat.blt a np && !memb a acc) = false := by
        have : Nat.blt a np = false := by rw [← Bool.not_eq_true]; simpa [Nat.blt_eq] using h1
        simp [this]
      rw [this]; simp only [cond_false]
      constructor
      · rintro (h | ⟨h, h'⟩)
        · exact .inl h
        · exact .inr ⟨h, .inr h'⟩
      · rintro (h | ⟨h, rfl | h'⟩)
        · exact .inl h
        · exact absurd h h1
        · exact .inr ⟨h, h'⟩
theorem all2_mem {α β : Type} {P : α → β → Prop} {xs : List α} {ys : List β} (h : All2 P xs ys) {x : α} (hx : x ∈ xs) : ∃ y, y ∈ ys ∧ P x y := by
  induction h with
  | nil => cases hx
  | cons hp _ ih =>
    cases hx with
    | head => exact ⟨_, by simp, hp⟩
    | tail _ hx => obtain ⟨y, hy, hp⟩ := ih hx; exact ⟨y, by simp [hy], hp⟩
theorem mem_hsL {vs : List V} {x : Nat} (h : x ∈ V.hsL vs) : ∃ v ∈ vs, x ∈ v.hs := by
  induction vs with
  | nil => simp [V.hsL] at h
  | cons a r ih =>
    simp only [V.hsL, List.mem_append] at h
    rcases h with h | h
    · exact ⟨a, by simp, h⟩
    · obtain ⟨v, hv, hx⟩ := ih h; exact ⟨v, by simp [hv], hx⟩
theorem VG.var {w : World} {ρ : Rho} {mem : Mem} {v : V} {r : Value} (h : VG w ρ mem v r) : ∀ x ∈ v.hs, ∃ n c, mget mem x = .var n c := by
  intro x hx
  cases v with
  | ptr y i o s =>
    simp only [V.hs, List.mem_singleton] at hx
    subst hx
    obtain ⟨n, c, b, hm, _⟩ := h
    exact ⟨n, c, hm⟩
  | any | bool | int | z0 | ri | rb | rr => simp [V.hs] at hx
  | _ => exact (h : False).elim
theorem VF.var {w : World} {ρ : Rho} {mem : Mem} {v : V} {r : Value} (h : VF w ρ mem v r) : ∀ x ∈ v.hs, ∃ n c, mget mem x = .var n c := by
  intro x hx
  cases v with
  | rv vs =>
    obtain ⟨rs, _, h2⟩ := h
    simp only [V.hs] at hx
    obtain ⟨u, hu, hx⟩ := mem_hsL hx
    obtain ⟨y, _, hp⟩ := all2_mem h2 hu
    exact VG.var hp x hx
  | fn f first caps =>
    obtain ⟨fs, cs, _, h1, h2⟩ := h
    simp only [V.hs, List.mem_append] at hx
    rcases hx with hx | hx
    · obtain ⟨u, hu, hx⟩ := mem_hsL hx
      obtain ⟨y, _, hp⟩ := all2_mem h1 hu
      exact VG.var hp x hx
    · obtain ⟨u, hu, hx⟩ := mem_hsL hx
      obtain ⟨y, _, hp⟩ := all2_mem h2 hu
      exact VG.var hp x hx
  | any => exact VG.var (v := .any) (w := w) (ρ := ρ) (mem := mem) (r := r) h x hx
  | bool b => exact VG.var (v := .bool b) (w := w) (ρ := ρ) (mem := mem) (r := r) h x hx
  | int k n => exact VG.var (v := .int k n) (w := w) (ρ := ρ) (mem := mem) (r := r) h x hx
  | z0 => exact VG.var (v := .z0) (w := w) (ρ := ρ) (mem := mem) (r := r) h x hx
  | ri k xs => exact VG.var (v := .ri k xs) (w := w) (ρ := ρ) (mem := mem) (r := r) h x hx
  | rb bs => exact VG.var (v := .rb bs) (w := w) (ρ := ρ) (mem := mem) (r := r) h x hx
  | rr m xss => exact VG.var (v := .rr m xss) (w := w) (ρ := ρ) (mem := mem) (r := r) h x hx
  | rl k xss => simp [V.hs] at hx
  | ptr h' i o s => exact VG.var (v := .ptr h' i o s) (w := w) (ρ := ρ) (mem := mem) (r := r) h x hx
  | _ => exact (h : False).elim
theorem CR.var {w : World} {ρ : Rho} {mem : Mem} {c : V} {rs : List Value} (h : CR w ρ mem c rs) : ∀ x ∈ c.hs, ∃ n c', mget mem x = .var n c' := by
  intro x hx
  cases c with
  | rv vs =>
    simp only [V.hs] at hx
    obtain ⟨u, hu, hx⟩ := mem_hsL hx
    obtain ⟨y, _, hp⟩ := all2_mem h hu
    exact VF.var hp x hx
  | ri | rb | rr | rl => simp [V.hs] at hx
  | _ => exact (h : False).elim
theorem u071 (mem : Mem) (b : Blk) (h : Nat) : mget (mem ++ [b]) h = if h = mem.length then b else mget mem h := by
  induction mem generalizing h with
  | nil => cases h <;> simp [mget]
  | cons a r ih =>
    cases h with
    | zero => simp [mget]
    | succ h => simp [mget, ih]
theorem mget_ge {mem : Mem} {h : Nat} (hl : mem.length ≤ h) : mget mem h = .dead := by
  induction mem generalizing h with
  | nil => rfl
  | cons a r ih =>
    cases h with
    | zero => simp at hl
    | succ h => exact ih (by simpa using hl)
theorem u034 (mem : Mem) (h : Nat) (b : Blk) : (mset mem h b).length = mem.length := by
  induction mem generalizing h with
  | nil => rfl
  | cons a r ih =>
    cases h with
    | zero => rfl
    | succ h => simp [mset, ih]
theorem u064 (mem : Mem) (h x : Nat) (b : Blk) (hl : h < mem.length) : mget (mset mem h b) x = if x = h then b else mget mem x := by
  induction mem generalizing h x with
  | nil => simp at hl
  | cons a r ih =>
    cases h with
    | zero => cases x <;> simp [mset, mget]
    | succ h =>
      cases x with
      | zero => simp [mset, mget]
      | succ x => simp [mset, mget, ih h x (by simpa using hl)]
theorem u068 {mem : Mem} {h : Nat} (hl : (mget mem h).live = true) : h < mem.length := by
  rcases Nat.lt_or_ge h mem.length with h1 | h1
  · exact h1
  · rw [mget_ge h1] at hl; cases hl
section steps
variable {w w' : World} {ρ : Rho} {mem : Mem}
theorem WR.lt (hw : WR w ρ mem) {r : Nat} (h : LB ρ mem r) : r < w.heap.size := by
  obtain ⟨x, rl, hx, hl, hb⟩ := h
  have hk := hw.blk x rl hx
  cases hm : mget mem x with
  | dead => rw [hm] at hl; cases hl
  | var n c =>
    rw [hm] at hk
    obtain ⟨r', e, rs, rfl, hh, _⟩ := hk
    simp only [Rl.blk, Option.some.injEq] at hb
    subst hb
    exact (Array.getElem?_eq_some_iff.1 hh).1
  | vec e c =>
    rw [hm] at hk
    obtain ⟨a, cap, rfl, _, ⟨h0, _⟩ | ⟨r', cur, hcap, rfl, hh, _⟩⟩ := hk
    · simp [Rl.blk, h0] at hb
    · simp only [Rl.blk, Nat.ne_of_gt hcap, if_false, Option.map_some, Option.some.injEq] at hb
      subst hb
      exact (Array.getElem?_eq_some_iff.1 hh).1
  | map kvs =>
    rw [hm] at hk
    obtain ⟨r', es, clock, rfl, hh, _⟩ := hk
    simp only [Rl.blk, Option.some.injEq] at hb
    subst hb
    exact (Array.getElem?_eq_some_iff.1 hh).1
theorem BlkR.step {ρ' : Rho} {mem' : Mem} {K : Nat → Prop} {b : Blk} {rl : Rl} (hs : Step w ρ mem w' ρ' mem' K) (hK : ∀ x n c, mget mem x = .var n c → ¬ K x)
    (hh : ∀ r, b.live = true → rl.blk = some r → w'.heap[r]? = w.heap[r]?) (h : BlkR w ρ mem b rl) : BlkR w' ρ' mem' b rl := by
  cases b with
  | dead => trivial
  | var n c =>
    obtain ⟨r, e, rs, rfl, hr, hl, hc, hwd⟩ := h
    exact ⟨r, e, rs, rfl, (hh r rfl rfl).trans hr, hl, CR.step hs (fun x hx => let ⟨n, c', hv⟩ := CR.var hc x hx; hK x n c' hv) hc, hwd⟩
  | vec e c =>
    obtain ⟨a, cap, rfl, hle, hc⟩ := h
    refine ⟨a, cap, rfl, hle, ?_⟩
    rcases hc with ⟨h0, hc⟩ | ⟨r, cur, hcap, rfl, hr, hm, hz, hc⟩
    · exact .inl ⟨h0, CR.step hs (fun x hx => let ⟨n, c', hv⟩ := CR.var hc x hx; hK x n c' hv) hc⟩
    · exact .inr ⟨r, cur, hcap, rfl, (hh r rfl (by simp [Rl.blk, Nat.ne_of_gt hcap])).trans hr, hm, hz, CR.step hs (fun x hx => let ⟨n, c', hv⟩ := CR.var hc x hx; hK x n c' hv) hc⟩
  | map kvs =>
    obtain ⟨r, es, clock, rfl, hr, hc⟩ := h
    exact ⟨r, es, clock, rfl, (hh r rfl rfl).trans hr, u026 hc fun x y _ ⟨h1, hg, h2⟩ => ⟨h1, hg, VG.step hs (fun z hz => let ⟨n, c', hv⟩ := VG.var h2 z hz; hK z n c' hv) h2⟩⟩
theorem WR.nf_step {ρ' : Rho} {mem' : Mem} {K : Nat → Prop} (hw : WR w ρ mem) (hs : Step w ρ mem w' ρ' mem' K) : ∀ r, LB ρ' mem' r → ¬ Fr.F r := fun r hl hf =>
  (hs.old r (hw.fb r hf) (fun h => hw.nf r h hf)).2 hl
theorem WR.fb_step {ρ' : Rho} {mem' : Mem} {K : Nat → Prop} (hw : WR w ρ mem) (hs : Step w ρ mem w' ρ' mem' K) : ∀ r, Fr.F r → r < w'.heap.size := fun r hf =>
  Nat.lt_of_lt_of_le (hw.fb r hf) hs.size
theorem u223 (hw : WR w ρ mem) (hsz : w.heap.size ≤ w'.heap.size) (hos : w'.os = w.os) (htape : w'.tape = w.tape) (hout : w'.output = w.output)
    (hheap : ∀ r, r < w.heap.size → w'.heap[r]? = w.heap[r]?) {rl : Rl} {b : Blk} (hb : ∀ r, rl.blk = some r → w.heap.size ≤ r) (hdr : w.drawn ≤ w'.drawn := by first | exact Nat.le_refl _ | exact Nat.le_succ _ | (simp only [World.drew, World.alloc]; omega) | (simp; done)) :
    Step w ρ mem w' (ρ ++ [rl]) (mem ++ [b]) (fun _ => False) := by
  refine ⟨hos, htape, hout, hsz, fun r hr hn => ⟨hheap r hr, ?_⟩, fun x rl' hx _ _ => ?_, hdr⟩
  · rintro ⟨x, rl', hx, hl, hbk⟩
    rw [u071] at hl
    by_cases hxl : x = mem.length
    · rw [hxl, ← hw.len, List.getElem?_append_right (Nat.le_refl _)] at hx
      simp only [Nat.sub_self, List.getElem?_cons_zero, Option.some.injEq] at hx
      subst hx
      have := hb r hbk
      omega
    · rw [if_neg hxl] at hl
      have hlt : x < ρ.length := by rw [hw.len]; exact u068 hl
      rw [List.getElem?_append_left hlt] at hx
      exact hn ⟨x, rl', hx, hl, hbk⟩
  · have hlt : x < ρ.length := (List.getElem?_eq_some_iff.1 hx).1
    refine ⟨by rw [List.getElem?_append_left hlt]; exact hx, ?_⟩
    rw [u071, if_neg (by rw [← hw.len]; omega)]
    exact Shape.refl _
theorem wr_new (hw : WR w ρ mem) {rl : Rl} {b : Blk} (hs : Step w ρ mem w' (ρ ++ [rl]) (mem ++ [b]) (fun _ => False))
    (hheap : ∀ r, r < w.heap.size → w'.heap[r]? = w.heap[r]?) (hb : ∀ r, rl.blk = some r → w.heap.size ≤ r) (hk : BlkR w' (ρ ++ [rl]) (mem ++ [b]) b rl) : WR w' (ρ ++ [rl]) (mem ++ [b]) := by
  have hget : ∀ x rl', (ρ ++ [rl])[x]? = some rl' → (x = mem.length ∧ rl' = rl) ∨ (x < mem.length ∧ ρ[x]? = some rl') := fun x rl' hx => by
    by_cases hxl : x < ρ.length
    · rw [List.getElem?_append_left hxl] at hx
      exact .inr ⟨by rw [← hw.len]; exact hxl, hx⟩
    · rw [List.getElem?_append_right (by omega)] at hx
      have h0 : x - ρ.length = 0 := by
        rcases Nat.eq_zero_or_pos (x - ρ.length) with h | h
        · exact h
        · rw [List.getElem?_eq_none (by simp only [List.length_cons, List.length_nil]; omega)] at hx; cases hx
      rw [h0] at hx
      simp only [List.getElem?_cons_zero, Option.some.injEq] at hx
      exact .inl ⟨by rw [← hw.len]; omega, hx.symm⟩
  refine ⟨by simp [hw.len], fun x rl' hx => ?_, fun x y rl1 rl2 r hx hy hlx hly hbx hby => ?_, hw.nf_step hs, hw.fb_step hs⟩
  · rw [u071]
    rcases hget x rl' hx with ⟨rfl, rfl⟩ | ⟨hlt, hx'⟩
    · rw [if_pos rfl]; exact hk
    · rw [if_neg (by omega)]
      refine BlkR.step hs (fun _ _ _ _ h => h) (fun r hl hbk => hheap r ?_) (hw.blk x rl' hx')
      exact hw.lt ⟨x, rl', hx', hl, hbk⟩
  · rw [u071] at hlx hly
    rcases hget x rl1 hx with ⟨rfl, rfl⟩ | ⟨hltx, hx'⟩
    · rcases hget y rl2 hy with ⟨rfl, rfl⟩ | ⟨hlty, hy'⟩
      · rfl
      · rw [if_neg (by omega)] at hly
        have := hw.lt ⟨y, rl2, hy', hly, hby⟩
        have := hb r hbx
        omega
    · rw [if_neg (by omega)] at hlx
      rcases hget y rl2 hy with ⟨rfl, rfl⟩ | ⟨hlty, hy'⟩
      · have := hw.lt ⟨x, rl1, hx', hlx, hbx⟩
        have := hb r hby
        omega
      · rw [if_neg (by omega)] at hly
        exact hw.inj x y rl1 rl2 r hx' hy' hlx hly hbx hby
theorem step_chg (hw : WR w ρ mem) {h : Nat} {rl rl' : Rl} {b' : Blk} {K : Nat → Prop} (hh : ρ[h]? = some rl) (hlive : (mget mem h).live = true)
    (hsz : w.heap.size ≤ w'.heap.size) (hos : w'.os = w.os) (htape : w'.tape = w.tape) (hout : w'.output = w.output)
    (hheap : ∀ r, r < w.heap.size → rl.blk ≠ some r → w'.heap[r]? = w.heap[r]?) (hb : ∀ r, rl'.blk = some r → rl.blk = some r ∨ w.heap.size ≤ r)
    (hK : ¬ K h → rl' = rl ∧ Shape (mget mem h) b') (hdr : w.drawn ≤ w'.drawn := by first | exact Nat.le_refl _ | exact Nat.le_succ _ | (simp only [World.drew, World.alloc]; omega) | (simp; done)) :
    Step w ρ mem w' (ρ.set h rl') (mset mem h b') K := by
  have hl := u068 hlive
  have hl' : h < ρ.length := by rw [hw.len]; exact hl
  refine ⟨hos, htape, hout, hsz, fun r hr hn => ⟨hheap r hr fun e => hn ⟨h, rl, hh, hlive, e⟩, ?_⟩, fun x rl2 hx hlx hnk => ?_, hdr⟩
  · rintro ⟨x, rl2, hx, hlx, hbk⟩
    rw [u064 _ _ _ _ hl] at hlx
    by_cases hxh : x = h
    · subst hxh
      rw [List.getElem?_set_self hl'] at hx
      simp only [Option.some.injEq] at hx
      subst hx
      rcases hb r hbk with e | e
      · exact hn ⟨x, rl, hh, hlive, e⟩
      · omega
    · rw [if_neg hxh] at hlx
      rw [List.getElem?_set_ne (Ne.symm hxh)] at hx
      exact hn ⟨x, rl2, hx, hlx, hbk⟩
  · rw [u064 _ _ _ _ hl]
    by_cases hxh : x = h
    · subst hxh
      obtain ⟨rfl, hsh⟩ := hK hnk
      rw [hh] at hx
      exact ⟨by rw [List.getElem?_set_self hl']; exact hx, by rw [if_pos rfl]; exact hsh⟩
    · rw [if_neg hxh, List.getElem?_set_ne (Ne.symm hxh)]
      exact ⟨hx, Shape.refl _⟩
theorem wr_chg (hw : WR w ρ mem) {h : Nat} {rl rl' : Rl} {b' : Blk} {K : Nat → Prop} (hh : ρ[h]? = some rl) (hlive : (mget mem h).live = true)
    (hs : Step w ρ mem w' (ρ.set h rl') (mset mem h b') K) (hKv : ∀ x n c, mget mem x = .var n c → ¬ K x)
    (hheap : ∀ r, r < w.heap.size → rl.blk ≠ some r → w'.heap[r]? = w.heap[r]?) (hb : ∀ r, rl'.blk = some r → rl.blk = some r ∨ w.heap.size ≤ r)
    (hk : BlkR w' (ρ.set h rl') (mset mem h b') b' rl') : WR w' (ρ.set h rl') (mset mem h b') := by
  have hl := u068 hlive
  have hl' : h < ρ.length := by rw [hw.len]; exact hl
  have hne : ∀ x rl2 r, x ≠ h → ρ[x]? = some rl2 → (mget mem x).live = true → rl2.blk = some r → rl.blk ≠ some r := fun x rl2 r hx hx2 hlx hbx e =>
    hx (hw.inj x h rl2 rl r hx2 hh hlx hlive hbx e)
  refine ⟨by rw [List.length_set, u034, hw.len], fun x rl2 hx => ?_, fun x y rl1 rl2 r hx hy hlx hly hbx hby => ?_, hw.nf_step hs, hw.fb_step hs⟩
  · rw [u064 _ _ _ _ hl]
    by_cases hxh : x = h
    · subst hxh
      rw [List.getElem?_set_self hl'] at hx
      simp only [Option.some.injEq] at hx
      subst hx
      rw [if_pos rfl]; exact hk
    · rw [if_neg hxh]
      rw [List.getElem?_set_ne (Ne.symm hxh)] at hx
      exact BlkR.step hs hKv (fun r hlx hbk => hheap r (hw.lt ⟨x, rl2, hx, hlx, hbk⟩) (hne x rl2 r hxh hx hlx hbk)) (hw.blk x rl2 hx)
  · rw [u064 _ _ _ _ hl] at hlx hly
    by_cases hxh : x = h
    · by_cases hyh : y = h
      · rw [hxh, hyh]
      · subst hxh
        rw [if_neg hyh] at hly
        rw [List.getElem?_set_self hl'] at hx
        rw [List.getElem?_set_ne (Ne.symm hyh)] at hy
        simp only [Option.some.injEq] at hx
        subst hx
        rcases hb r hbx with e | e
        · exact absurd e (hne y rl2 r hyh hy hly hby)
        · have := hw.lt ⟨y, rl2, hy, hly, hby⟩; omega
    · rw [if_neg hxh] at hlx
      rw [List.getElem?_set_ne (Ne.symm hxh)] at hx
      by_cases hyh : y = h
      · subst hyh
        rw [List.getElem?_set_self hl'] at hy
        simp only [Option.some.injEq] at hy
        subst hy
        rcases hb r hby with e | e
        · exact absurd e (hne x rl1 r hxh hx hlx hbx)
        · have := hw.lt ⟨x, rl1, hx, hlx, hbx⟩; omega
      · rw [if_neg hyh] at hly
        rw [List.getElem?_set_ne (Ne.symm hyh)] at hy
        exact hw.inj x y rl1 rl2 r hx hy hlx hly hbx hby
theorem step_fill (hw : WR w ρ mem) {h : Nat} {rl' : Rl} {b' : Blk} {K : Nat → Prop} (hl : h < mem.length) (hdead : mget mem h = .dead)
    (hsz : w.heap.size ≤ w'.heap.size) (hos : w'.os = w.os) (htape : w'.tape = w.tape) (hout : w'.output = w.output)
    (hheap : ∀ r, r < w.heap.size → w'.heap[r]? = w.heap[r]?) (hb : ∀ r, rl'.blk = some r → w.heap.size ≤ r) (hdr : w.drawn ≤ w'.drawn := by first | exact Nat.le_refl _ | exact Nat.le_succ _ | (simp only [World.drew, World.alloc]; omega) | (simp; done)) :
    Step w ρ mem w' (ρ.set h rl') (mset mem h b') K := by
  have hl' : h < ρ.length := by rw [hw.len]; exact hl
  refine ⟨hos, htape, hout, hsz, fun r hr hn => ⟨hheap r hr, ?_⟩, fun x rl2 hx hlx hnk => ?_, hdr⟩
  · rintro ⟨x, rl2, hx, hlx, hbk⟩
    rw [u064 _ _ _ _ hl] at hlx
    by_cases hxh : x = h
    · subst hxh
      rw [List.getElem?_set_self hl'] at hx
      simp only [Option.some.injEq] at hx
      subst hx
      have := hb r hbk
      omega
    · rw [if_neg hxh] at hlx
      rw [List.getElem?_set_ne (Ne.symm hxh)] at hx
      exact hn ⟨x, rl2, hx, hlx, hbk⟩
  · have hxh : x ≠ h := by rintro rfl; rw [hdead] at hlx; cases hlx
    rw [u064 _ _ _ _ hl, if_neg hxh, List.getElem?_set_ne (Ne.symm hxh)]
    exact ⟨hx, Shape.refl _⟩
theorem wr_fill (hw : WR w ρ mem) {h : Nat} {rl' : Rl} {b' : Blk} (hl : h < mem.length) (hdead : mget mem h = .dead)
    (hs : Step w ρ mem w' (ρ.set h rl') (mset mem h b') (fun _ => False))
    (hheap : ∀ r, r < w.heap.size → w'.heap[r]? = w.heap[r]?) (hb : ∀ r, rl'.blk = some r → w.heap.size ≤ r)
    (hk : BlkR w' (ρ.set h rl') (mset mem h b') b' rl') : WR w' (ρ.set h rl') (mset mem h b') := by
  have hl' : h < ρ.length := by rw [hw.len]; exact hl
  refine ⟨by rw [List.length_set, u034, hw.len], fun x rl2 hx => ?_, fun x y rl1 rl2 r hx hy hlx hly hbx hby => ?_, hw.nf_step hs, hw.fb_step hs⟩
  · rw [u064 _ _ _ _ hl]
    by_cases hxh : x = h
    · subst hxh
      rw [List.getElem?_set_self hl'] at hx
      simp only [Option.some.injEq] at hx
      subst hx
      rw [if_pos rfl]; exact hk
    · rw [if_neg hxh]
      rw [List.getElem?_set_ne (Ne.symm hxh)] at hx
      exact BlkR.step hs (fun _ _ _ _ h => h) (fun r hlx hbk => hheap r (hw.lt ⟨x, rl2, hx, hlx, hbk⟩)) (hw.blk x rl2 hx)
  · rw [u064 _ _ _ _ hl] at hlx hly
    by_cases hxh : x = h
    · by_cases hyh : y = h
      · rw [hxh, hyh]
      · subst hxh
        rw [if_neg hyh] at hly
        rw [List.getElem?_set_self hl'] at hx
        rw [List.getElem?_set_ne (Ne.symm hyh)] at hy
        simp only [Option.some.injEq] at hx
        subst hx
        have := hb r hbx
        have := hw.lt ⟨y, rl2, hy, hly, hby⟩
        omega
    · rw [if_neg hxh] at hlx
      rw [List.getElem?_set_ne (Ne.symm hxh)] at hx
      by_cases hyh : y = h
      · subst hyh
        rw [List.getElem?_set_self hl'] at hy
        simp only [Option.some.injEq] at hy
        subst hy
        have := hb r hby
        have := hw.lt ⟨x, rl1, hx, hlx, hbx⟩
        omega
      · rw [if_neg hyh] at hly
        rw [List.getElem?_set_ne (Ne.symm hyh)] at hy
        exact hw.inj x y rl1 rl2 r hx hy hlx hly hbx hby
theorem u214 (mem : Mem) (n h : Nat) : mget (mem ++ List.replicate n .dead) h = mget mem h := by
  rcases Nat.lt_or_ge h mem.length with hl | hl
  · induction mem generalizing h with
    | nil => simp at hl
    | cons a r ih => cases h with
      | zero => rfl
      | succ h => exact ih h (by simpa using hl)
  · rw [mget_ge hl]
    induction mem generalizing h with
    | nil =>
      clear hl
      induction n generalizing h with
      | zero => rfl
      | succ n ih => cases h with
        | zero => rfl
        | succ h => exact ih h
    | cons a r ih => cases h with
      | zero => simp at hl
      | succ h => exact ih h (by simpa using hl)
theorem u158 (hw : WR w ρ mem) (n : Nat) : Step w ρ mem w (ρ ++ List.replicate n .none) (mem ++ List.replicate n .dead) (fun _ => False) := by
  refine ⟨rfl, rfl, rfl, Nat.le_refl _, fun r hr hn => ⟨rfl, ?_⟩, fun x rl hx hlx _ => ?_, Nat.le_refl _⟩
  · rintro ⟨x, rl, hx, hlx, hb⟩
    rw [u214] at hlx
    have hlt : x < ρ.length := by rw [hw.len]; exact u068 hlx
    rw [List.getElem?_append_left hlt] at hx
    exact hn ⟨x, rl, hx, hlx, hb⟩
  · have hlt : x < ρ.length := (List.getElem?_eq_some_iff.1 hx).1
    rw [u214, List.getElem?_append_left hlt]
    exact ⟨hx, Shape.refl _⟩
theorem wr_slots (hw : WR w ρ mem) (n : Nat) : WR w (ρ ++ List.replicate n .none) (mem ++ List.replicate n .dead) := by
  have key : ∀ x rl, (ρ ++ List.replicate n Rl.none)[x]? = some rl → (mget mem x).live = true → ρ[x]? = some rl := fun x rl hx hl => by
    have hlt : x < ρ.length := by rw [hw.len]; exact u068 hl
    rwa [List.getElem?_append_left hlt] at hx
  refine ⟨by simp [hw.len], fun x rl hx => ?_, fun x y rl1 rl2 r hx hy hlx hly hbx hby => ?_, hw.nf_step (u158 hw n), hw.fb_step (u158 hw n)⟩
  · rw [u214]
    by_cases hl : (mget mem x).live = true
    · exact BlkR.step (u158 hw n) (fun _ _ _ _ h => h) (fun _ _ _ => rfl) (hw.blk x rl (key x rl hx hl))
    · cases hm : mget mem x with
      | dead => trivial
      | _ => rw [hm] at hl; exact absurd rfl hl
  · rw [u214] at hlx hly
    exact hw.inj x y rl1 rl2 r (key x rl1 hx hlx) (key y rl2 hy hly) hlx hly hbx hby
theorem u159 (hw : WR w ρ mem) (hb : Below w.heap.size w w') (hdr : w.drawn ≤ w'.drawn := by first | exact Nat.le_refl _ | exact Nat.le_succ _ | (simp only [World.drew, World.alloc]; omega) | (simp; done)) : Step w ρ mem w' ρ mem (fun _ => False) :=
  ⟨hb.os, hb.tape, hb.output, hb.size, fun r hr hn => ⟨hb.block r hr, hn⟩, fun x rl hx _ _ => ⟨hx, Shape.refl _⟩, hdr⟩
theorem wr_below (hw : WR w ρ mem) (hb : Below w.heap.size w w') (hdr : w.drawn ≤ w'.drawn := by first | exact Nat.le_refl _ | exact Nat.le_succ _ | (simp only [World.drew, World.alloc]; omega) | (simp; done)) : WR w' ρ mem :=
  ⟨hw.len, fun x rl hx => BlkR.step (u159 hw hb hdr) (fun _ _ _ _ h => h) (fun r hl hbk => hb.block r (hw.lt ⟨x, rl, hx, hl, hbk⟩)) (hw.blk x rl hx), hw.inj, hw.nf, hw.fb_step (u159 hw hb hdr)⟩
end steps
end Go.Lv
namespace Go.Lv
open Go.RowKit
variable [fr : Fr]
def ZR (z : V) (r : Value) : Prop :=
  match z with
  | .bool b => r = .bool b
  | .int k n => r = .int k n
  | .z0 => r = .slice none 0 0
  | .ints n xs => xs.length = n ∧ r = .agg (iv .i64 xs).toArray
  | .bools n bs => bs.length = n ∧ r = .agg (bv bs).toArray
  | .agg vs => ∃ rs : List Value, r = .agg rs.toArray ∧ All2 (fun v r => match v with
      | .bool b => r = .bool b
      | .int k n => r = .int k n
      | .z0 => r = .slice none 0 0
      | _ => False) vs rs
  | .any => r.oneCell' = true
  | _ => False
def DR (P : Program) (t : TypeId) (d : D) : Prop :=
  match d with
  | .bool => P.underlying t = some .bool
  | .int k => P.underlying t = some (.int k)
  | .struct fs => ∃ fields : Array Field, P.underlying t = some (.struct fields) ∧ fields.toList.map (fun (f : Field) => (f.offset, f.type)) = fs ∧ P.stoodInHeld t = false ∧ ∀ f ∈ fields.toList, f.name ≠ "_"
  | .array n e => P.underlying t = some (.array n e)
  | .slice e => P.underlying t = some (.slice e)
  | .map k e => P.underlying t = some (.map k e)
  | .other => ∃ u, P.underlying t = some u ∧ (match u with | .struct _ | .array _ _ => false | _ => true) = true
structure TIok (P : Program) (t : TypeId) (ti : TI) : Prop where
  info : ∃ i : TypeInfo, P.info? t = some i ∧ i.size = ti.size ∧ i.bytes = ti.bytes ∧ ∃ zv, i.zero = some zv ∧ ZR ti.z zv
  desc : DR P t ti.d
  one : ti.d.agg = false → ti.size = 1
  pos : 0 < ti.size
  zsz : ti.z.sz = ti.size
def TTok (P : Program) (tt : TT) : Prop := ∀ t ti, look tt t = some ti → TIok P t ti
structure Inv (σ : St) (a : Act) (w : World) (ρ : Rho) : Prop where
  defers : a.defers = []
  wr : WR w ρ σ.mem
  tmps : All2 (VR w ρ σ.mem) σ.tmps a.tmps.toList
theorem u194 {α β : Type} {P : α → β → Prop} {xs : List α} {ys : List β} (h : All2 P xs ys) : ∀ n : Nat, (∃ x y, xs[n]? = some x ∧ ys[n]? = some y ∧ P x y) ∨ (xs[n]? = none ∧ ys[n]? = none) := by
  induction h with
  | nil => intro n; exact .inr ⟨rfl, rfl⟩
  | cons hp _ ih =>
    intro n
    cases n with
    | zero => exact .inl ⟨_, _, rfl, rfl, hp⟩
    | succ n => simpa using ih n
theorem u043 {α β : Type} {P : α → β → Prop} {xs : List α} {ys : List β} (h : All2 P xs ys) : xs.length = ys.length := by
  induction h with
  | nil => rfl
  | cons _ _ ih => simp [ih]
theorem u263 (vs : List V) (n : Nat) : vget vs n = vs[n]?.getD .any := by
  induction vs generalizing n with
  | nil => rfl
  | cons a r ih => cases n <;> simp [vget, ih]
section
variable {P : Program} {tt : TT} {tab : Tab} {σ : St} {a : Act} {w : World} {ρ : Rho}
theorem Inv.tmp (h : Inv σ a w ρ) (t : Tmp) : VR w ρ σ.mem (vget σ.tmps t) (a.tmps.getD t Go.undef) := by
  rw [u263]
  rcases u194 h.tmps t with ⟨x, y, hx, hy, hp⟩ | ⟨hx, hy⟩
  · rw [hx]
    have : a.tmps.getD t Go.undef = y := by
      rw [Array.getElem?_toList] at hy
      simp [Array.getD_eq_getD_getElem?, hy]
    rw [this]; exact hp
  · rw [hx]; trivial
theorem Inv.op (h : Inv σ a w ρ) (x : Operand) : VR w ρ σ.mem (evO σ x) (a.eval x) := by
  cases x with
  | tmp t => exact h.tmp t
  | const v =>
    cases v with
    | bool b => exact rfl
    | int k n => exact rfl
    | slice ad len cap =>
      cases ad with
      | none =>
        cases len with
        | zero =>
          cases cap with
          | zero => exact ⟨none, rfl⟩
          | succ n => trivial
        | succ n => trivial
      | some p => trivial
    | _ => trivial
  | global g => trivial
  | func f => exact ⟨[], [], rfl, .nil, .nil⟩
theorem Inv.ops (h : Inv σ a w ρ) (xs : Array Operand) : All2 (VR w ρ σ.mem) (u057 σ xs) (xs.map a.eval).toList := by
  unfold u057
  rw [Array.toList_map]
  generalize xs.toList = l
  induction l with
  | nil => exact .nil
  | cons x r ih => exact .cons (h.op x) ih
def Gives (P : Program) (w : World) (s : Sem Value) (r : Value) : Prop := ∀ w', Below w.heap.size w w' → s.run P w' = .ok r w'
theorem Gives.pure (r : Value) : Gives P w (Pure.pure r) r := fun w' _ => rfl
theorem u050 {t : TypeId} {i : TypeInfo} (h : P.info? t = some i) (w : World) : (sizeOf t).run P w = .ok i.size w := by
  simp [sizeOf, typeInfo, h]
theorem u109 {t : TypeId} {i : TypeInfo} {z : Value} (h : P.info? t = some i) (hz : i.zero = some z) (w : World) : (zeroValue t).run P w = .ok z w := by
  simp [zeroValue, typeInfo, h, hz]
theorem u117 {t : TypeId} {d : D} (h : DR P t d) (w : World) : (isAgg t).run P w = .ok d.agg w := by
  unfold isAgg
  cases d with
  | bool => rw [Sem.run_bind, run_underlying h w]; rfl
  | int k => rw [Sem.run_bind, run_underlying h w]; rfl
  | struct fs => obtain ⟨f, h, _⟩ := h; rw [Sem.run_bind, run_underlying h w]; rfl
  | array n e => rw [Sem.run_bind, run_underlying h w]; rfl
  | slice e => rw [Sem.run_bind, run_underlying h w]; rfl
  | map k e => rw [Sem.run_bind, run_underlying h w]; rfl
  | other => obtain ⟨u, h, hu⟩ := h; rw [Sem.run_bind, run_underlying h w]; cases u <;> first | rfl | cases hu
theorem u039 {R : Type} {k k' : IntKind} {x : Option R} {y : R} (h : (bif decide (k = k') then x else none) = some y) : k = k' ∧ x = some y := by
  by_cases e : k = k'
  · simp [e] at h; exact ⟨e, h⟩
  · simp [e] at h
theorem u006 {R : Type} {b : Bool} {x : Option R} {y : R} (h : (bif b then x else none) = some y) : b = true ∧ x = some y := by
  cases b
  · cases h
  · exact ⟨rfl, h⟩
theorem u051 {R : Type} {b : Bool} {x : Option R} {y : R} (h : (bif b then none else x) = some y) : b = false ∧ x = some y := by
  cases b
  · exact ⟨rfl, h⟩
  · cases h
def u261 (d : D) (xs : List Int) : Value :=
  match d with
  | .int _ => .int .i64 (iget xs 0)
  | _ => .agg (iv .i64 xs).toArray
theorem u054 (k : IntKind) (xs : List Int) : (iv k xs).length = xs.length := by simp [iv]
theorem u097 (bs : List Bool) : (bv bs).length = bs.length := by simp [bv]
theorem iv_get (k : IntKind) (xs : List Int) (i : Nat) (h : i < xs.length) : (iv k xs)[i]? = some (.int k (iget xs i)) := by
  induction xs generalizing i with
  | nil => simp at h
  | cons x r ih =>
    cases i with
    | zero => rfl
    | succ i => simpa [iv, iget] using ih i (by simpa using h)
theorem bv_get (bs : List Bool) (i : Nat) (h : i < bs.length) : (bv bs)[i]? = some (.bool (bget bs i)) := by
  induction bs generalizing i with
  | nil => simp at h
  | cons x r ih =>
    cases i with
    | zero => rfl
    | succ i => simpa [bv, bget] using ih i (by simpa using h)
theorem u167 (k : IntKind) (xs : List Int) (o s : Nat) : iv k (sub xs o s) = sub (iv k xs) o s := by simp [iv, sub, List.map_take, List.map_drop]
theorem bv_sub (xs : List Bool) (o s : Nat) : bv (sub xs o s) = sub (bv xs) o s := by simp [bv, sub, List.map_take, List.map_drop]
theorem u024 {α : Type} (xs : List α) (o s : Nat) (h : o + s ≤ xs.length) : (sub xs o s).length = s := by simp [sub]; omega
theorem iget_sub (xs : List Int) (o s i : Nat) (h : i < s) : iget (sub xs o s) i = iget xs (o + i) := by
  have key : ∀ (xs : List Int) (i : Nat), iget xs i = xs[i]?.getD 0 := by
    intro xs
    induction xs with
    | nil => intro i; rfl
    | cons x r ih => intro i; cases i <;> simp [iget, ih]
  rw [key, key, sub, List.getElem?_take, if_pos h, List.getElem?_drop]
theorem u283 (vs : List Value) (o s : Nat) : (vs.toArray.extract o (o + s)) = (sub vs o s).toArray := by
  apply Array.ext'
  simp [sub, List.take_drop]
theorem u091 {α : Type} (xs : List α) (o s : Nat) : subn xs.length xs o s = sub xs o s := by
  unfold subn
  by_cases h1 : o = 0
  · by_cases h2 : s = xs.length
    · subst h1; subst h2; simp [sub]
    · have : Nat.beq s xs.length = false := by rw [← Bool.not_eq_true, Nat.beq_eq]; exact h2
      simp [this]
  · have : Nat.beq o 0 = false := by rw [← Bool.not_eq_true, Nat.beq_eq]; exact h1
    simp [this]
theorem u031 {m n : Nat} (h : Nat.beq m n = true) : m = n := Nat.eq_of_beq_eq_true h
section eqs
theorem ia_size {d : Nat} {t : TypeId} {n : Nat} (h : ia tt d t = some n) : ∃ ti, look tt t = some ti ∧ ti.size = n := by
  cases d with
  | zero => simp [ia] at h
  | succ d =>
    simp only [ia] at h
    split at h
    · rename_i hl
      obtain ⟨h1, h2⟩ := u006 h
      simp only [Option.some.injEq] at h2
      exact ⟨_, hl, by rw [← h2]; exact u031 h1⟩
    · rename_i hl
      split at h
      · obtain ⟨h1, h2⟩ := u006 h
        simp only [Option.some.injEq] at h2
        exact ⟨_, hl, by rw [← h2]; exact u031 h1⟩
      · cases h
    · rename_i hl
      split at h
      · obtain ⟨h1, h2⟩ := u006 h
        simp only [Option.some.injEq] at h2
        exact ⟨_, hl, by rw [← h2]; exact u031 h1⟩
      · cases h
    · cases h
def tyV (tt : TT) (t : TypeId) (xs : List Int) : Value :=
  match look tt t with
  | some ti => u261 ti.d xs
  | none => .agg (iv .i64 xs).toArray
theorem u099 (hT : TTok P tt) {d : Nat} {t : TypeId} {n : Nat} (h : ia tt d t = some n) (xs : List Int) (o : Nat) (ho : o + n ≤ xs.length) (w : World) :
    (part t (iv .i64 xs).toArray o).run P w = .ok (tyV tt t (sub xs o n)) w := by
  obtain ⟨ti, hl, hs⟩ := ia_size h
  obtain ⟨⟨i, hi, hsz, _⟩, hd, _, _⟩ := hT t ti hl
  unfold part
  rw [Sem.run_bind, u117 hd w, Result.andThen_ok]
  unfold tyV
  rw [hl]
  simp only
  cases d with
  | zero => simp [ia] at h
  | succ d =>
    simp only [ia, hl] at h
    cases hdd : ti.d with
    | int k =>
      rw [hdd] at hd
      have hn : n = 1 := by
        rcases ti with ⟨td, tsz, tb, tz⟩
        simp only at hdd
        subst hdd
        cases k <;> simp only at h <;> first | (obtain ⟨h1, h2⟩ := u006 h; simpa using h2.symm) | cases h
      subst hn
      simp only [D.agg, Bool.false_eq_true, if_false]
      have hk : k = .i64 := by
        rcases ti with ⟨td, tsz, tb, tz⟩
        simp only at hdd
        subst hdd
        cases k <;> simp only at h <;> first | rfl | cases h
      subst hk
      have h2 : (iv IntKind.i64 xs).toArray[o]? = some (.int .i64 (iget xs o)) := by simpa using iv_get .i64 xs o (by omega)
      rw [h2]
      simp only [u261, Sem.run_pure]
      rw [iget_sub _ _ _ _ (by omega)]
      rfl
    | array m e =>
      simp only [D.agg, if_true, Sem.run_bind, u050 hi w, Result.andThen_ok, Sem.run_pure, u261, hsz, hs]
      rw [u283, u167]
    | struct fs =>
      simp only [D.agg, if_true, Sem.run_bind, u050 hi w, Result.andThen_ok, Sem.run_pure, u261, hsz, hs]
      rw [u283, u167]
    | bool | slice | map | other =>
      rcases ti with ⟨td, tsz, tb, tz⟩
      simp only at hdd
      subst hdd
      simp only at h
      cases h
theorem beq_append {xs ys xs' ys' : List Int} (h : xs.length = ys.length) : (xs ++ xs' == ys ++ ys') = ((xs == ys) && (xs' == ys')) := by
  induction xs generalizing ys with
  | nil => cases ys with
    | nil => simp
    | cons y ys => simp at h
  | cons x xs ih => cases ys with
    | nil => simp at h
    | cons y ys =>
      simp only [List.cons_append, List.cons_beq_cons, ih (by simpa using h), Bool.and_assoc]
theorem sub_add {α : Type} (xs : List α) (o m n : Nat) : sub xs o (m + n) = sub xs o m ++ sub xs (o + m) n := by
  unfold sub
  rw [List.take_add, List.drop_drop]
theorem cellsOf_of {t : TypeId} {i : TypeInfo} (h : P.info? t = some i) : P.cellsOf t = i.size := by simp [Program.cellsOf, h]
theorem run_equalIn_ia (hT : TTok P tt) : ∀ (d : Nat) (t : TypeId) (n : Nat), ia tt d t = some n → ∀ (D : Nat), d ≤ D → ∀ (xs ys : List Int), xs.length = n → ys.length = n → ∀ w : World,
    (Op.equalIn D t (tyV tt t xs) (tyV tt t ys)).run P w = .ok (xs == ys) w := by
  intro d
  induction d with
  | zero => intro t n h; simp [ia] at h
  | succ d ih =>
    intro t n h D hD xs ys hx hy w
    obtain ⟨D, rfl⟩ : ∃ E, D = E + 1 := ⟨D - 1, by omega⟩
    have hD' : d ≤ D := by omega
    have h0 := h
    simp only [ia] at h
    split at h
    · rename_i hl
      obtain ⟨h1, h2⟩ := u006 h
      simp only [Option.some.injEq] at h2
      subst h2
      obtain ⟨_, hd, _, _⟩ := hT _ _ hl
      simp only [tyV, hl, u261]
      rw [run_equalIn_int w D t .i64 .i64 _ _ hd]
      match xs, ys, hx, hy with
      | [x], [y], _, _ =>
        congr 1
        simp [iget]
    · rename_i m e s _ _ hl
      split at h
      · rename_i c hc
        obtain ⟨h1, h2⟩ := u006 h
        simp only [Option.some.injEq] at h2
        subst h2
        obtain ⟨⟨i, hi, hsz, _⟩, hd, _, _⟩ := hT _ _ hl
        obtain ⟨te, hle, hse⟩ := ia_size hc
        obtain ⟨⟨ie, hie, hsze, _⟩, hde, _, _⟩ := hT _ _ hle
        simp only [tyV, hl, u261]
        rw [run_equalIn_array w D _ _ hd hie, cellsOf_of hie, hsze, hse, List.range_eq_range']
        have key : ∀ (k i : Nat), (i + k) * c ≤ xs.length → (i + k) * c ≤ ys.length →
            (Op.eqItems D e c (iv .i64 xs).toArray (iv .i64 ys).toArray (List.range' i k)).run P w = .ok (sub xs (i * c) (k * c) == sub ys (i * c) (k * c)) w := by
          intro k
          induction k with
          | zero => intro i _ _; simp [Op.eqItems, sub]
          | succ k ihk =>
            intro i hix hiy
            have e1 : (i + (k + 1)) * c = i * c + c + k * c := by rw [show i + (k + 1) = i + 1 + k by omega, Nat.add_mul, Nat.add_mul, Nat.one_mul]
            rw [e1] at hix hiy
            have hx1 : i * c + c ≤ xs.length := by omega
            have hy1 : i * c + c ≤ ys.length := by omega
            simp only [List.range'_succ, Op.eqItems, Sem.run_bind, u099 hT hc xs (i * c) hx1 w, u099 hT hc ys (i * c) hy1 w, Result.andThen_ok,
              ih e c hc D hD' _ _ (u024 xs _ _ hx1) (u024 ys _ _ hy1) w]
            have e2 : (k + 1) * c = c + k * c := by rw [Nat.add_mul, Nat.one_mul, Nat.add_comm]
            have e3 : i * c + c = (i + 1) * c := by rw [Nat.add_mul, Nat.one_mul]
            rw [e2, sub_add, sub_add, beq_append (by rw [u024 xs _ _ hx1, u024 ys _ _ hy1])]
            have hk := ihk (i + 1) (by rw [show i + 1 + k = i + (k + 1) by omega, e1]; exact hix) (by rw [show i + 1 + k = i + (k + 1) by omega, e1]; exact hiy)
            rw [← e3] at hk
            cases hb : (sub xs (i * c) c == sub ys (i * c) c)
            · simp
            · simpa using hk
        have hk := key m 0 (by rw [Nat.zero_add]; omega) (by rw [Nat.zero_add]; omega)
        rw [hk]
        simp only [Nat.zero_mul, sub, List.drop_zero]
        rw [List.take_of_length_le (by omega), List.take_of_length_le (by omega)]
      · cases h
    · rename_i fs s _ _ hl
      split at h
      · rename_i c hc
        obtain ⟨h1, h2⟩ := u006 h
        simp only [Option.some.injEq] at h2
        subst h2
        obtain ⟨⟨i, hi, hsz, _⟩, ⟨fields, hu, hfs, hst, hnm⟩, _, _⟩ := hT _ _ hl
        simp only [tyV, hl, u261]
        have hf : P.fieldsOf t = fields := by simp [Program.fieldsOf, hu]
        rw [run_equalIn_struct w D t _ _ (by rw [hf]; exact hu) hst, hf]
        have key : ∀ (gs : List Field) (o : Nat) (c : Nat), (∀ f ∈ gs, f.name ≠ "_") → ia.iaF (ia tt d) (gs.map fun f => (f.offset, f.type)) o = some c → c ≤ xs.length → c ≤ ys.length →
            o ≤ c ∧ (Op.eqFields D (iv .i64 xs).toArray (iv .i64 ys).toArray gs).run P w = .ok (sub xs o (c - o) == sub ys o (c - o)) w := by
          intro gs
          induction gs with
          | nil =>
            intro o c _ hc hcx hcy
            simp only [List.map_nil, ia.iaF, Option.some.injEq] at hc
            subst hc
            exact ⟨Nat.le_refl _, by simp [Op.eqFields, sub]⟩
          | cons f gs ihg =>
            intro o c hn hc hcx hcy
            simp only [List.map_cons, ia.iaF] at hc
            obtain ⟨g1, g2⟩ := u006 hc
            have g1 := u031 g1
            split at g2
            · rename_i m hm
              obtain ⟨hle, hrun⟩ := ihg (o + m) c (fun f hf => hn f (by simp [hf])) g2 hcx hcy
              refine ⟨by omega, ?_⟩
              have hx1 : o + m ≤ xs.length := by omega
              have hy1 : o + m ≤ ys.length := by omega
              simp only [Op.eqFields, hn f (by simp), ne_eq, not_false_eq_true, if_true, Sem.run_bind, g1, u099 hT hm xs o hx1 w, u099 hT hm ys o hy1 w, Result.andThen_ok,
                ih f.type m hm D hD' _ _ (u024 xs _ _ hx1) (u024 ys _ _ hy1) w]
              rw [show c - o = m + (c - (o + m)) by omega, sub_add, sub_add, beq_append (by rw [u024 xs _ _ hx1, u024 ys _ _ hy1])]
              cases hb : (sub xs o m == sub ys o m)
              · simp
              · simpa using hrun
            · cases g2
        have hk := (key fields.toList 0 c hnm (by rw [hfs]; exact hc) (by omega) (by omega)).2
        rw [hk]
        simp only [Nat.sub_zero, sub, List.drop_zero]
        rw [List.take_of_length_le (by omega), List.take_of_length_le (by omega)]
      · cases h
    · cases h
theorem eqGuardType_ia (hT : TTok P tt) : ∀ (d : Nat) (t : TypeId) (n : Nat), ia tt d t = some n → ∀ D, d ≤ D → P.eqGuardType D t = false := by
  intro d
  induction d with
  | zero => intro t n h; simp [ia] at h
  | succ d ih =>
    intro t n h D hD
    obtain ⟨D, rfl⟩ : ∃ E, D = E + 1 := ⟨D - 1, by omega⟩
    simp only [ia] at h
    split at h
    · rename_i hl
      have hd : P.underlying t = _ := (hT _ _ hl).desc
      simp [Program.eqGuardType, hd]
    · rename_i hl
      split at h
      · rename_i c hc
        have hd : P.underlying t = _ := (hT _ _ hl).desc
        simp only [Program.eqGuardType, hd]
        exact ih _ _ hc D (by omega)
      · cases h
    · rename_i fs s _ _ hl
      split at h
      · rename_i c hc
        obtain ⟨fields, hu, hfs, hst, hnm⟩ := (hT _ _ hl).desc
        simp only [Program.eqGuardType, hu]
        rw [Array.any_eq_false']
        have key : ∀ (gs : List Field) (o c : Nat), ia.iaF (ia tt d) (gs.map fun f => (f.offset, f.type)) o = some c → ∀ f ∈ gs, P.eqGuardType D f.type = false := by
          intro gs
          induction gs with
          | nil => intro o c _ f hf; cases hf
          | cons g gs ihg =>
            intro o c hc f hf
            simp only [List.map_cons, ia.iaF] at hc
            obtain ⟨g1, g2⟩ := u006 hc
            split at g2
            · rename_i m hm
              cases hf with
              | head => exact ih _ _ hm D (by omega)
              | tail _ hf => exact ihg _ _ g2 f hf
            · cases g2
        intro f hf
        rw [key fields.toList 0 c (by rw [hfs]; exact hc) f (by simpa using hf)]
        simp
      · cases h
    · cases h
end eqs
end
end Go.Lv
namespace Go.Lv
open Go.RowKit
variable [fr : Fr]
section
variable {P : Program} {tt : TT} {tab : Tab} {σ : St} {a : Act} {w : World} {ρ : Rho} {R : Type}
theorem wp_val {o : Oper} {next : Act → World → Prop} {Q : Exit → Act → World → Prop} {r : Value} {w' : World} (h : (execOp a.eval o).run P w = .ok (.value r) w') (hn : next (a.put o.dst r) w') :
    o.wp P a w next Q := by
  unfold Oper.wp
  rw [h]
  exact hn
theorem wp_skipv {o : Oper} {next : Act → World → Prop} {Q : Exit → Act → World → Prop} {w' : World} (h : (execOp a.eval o).run P w = .ok .skip w') (hn : next (a.put o.dst Go.undef) w') :
    o.wp P a w next Q := by
  unfold Oper.wp
  rw [h]
  exact hn
theorem u174 {mem : Mem} {n : Nat} {xs : List Int} {r : Value} (h : VR w ρ mem (.ints n xs) r) : xs.length = n ∧ r = .agg (iv .i64 xs).toArray := h
theorem VR_bools {mem : Mem} {n : Nat} {xs : List Bool} {r : Value} (h : VR w ρ mem (.bools n xs) r) : xs.length = n ∧ r = .agg (bv xs).toArray := h
theorem u262 {mem : Mem} {c : V} {rs : List Value} (h : CR w ρ mem c rs) : rs.length = c.cnt * c.wd := by
  cases c with
  | ri k xs => rw [show rs = iv k xs from h, u054]; simp [V.cnt, V.wd]
  | rb bs => rw [show rs = bv bs from h, u097]; simp [V.cnt, V.wd]
  | rr m xss =>
    obtain ⟨⟨hm, hl⟩, rfl⟩ := h
    rw [u054]
    simp only [V.cnt, V.wd]
    clear hm
    induction xss with
    | nil => simp
    | cons x r ih => rw [List.flatten_cons, List.length_append, ih (fun y hy => hl y (by simp [hy])), hl x (by simp), List.length_cons, Nat.add_mul, Nat.one_mul, Nat.add_comm]
  | rl k xss =>
    have h : All2 (fun xs q => RoR w ρ mem (iv k xs) 1 xs.length q) xss rs := h
    rw [← u043 h]; simp [V.cnt, V.wd]
  | rv vs => rw [← u043 h]; simp [V.cnt, V.wd]
  | _ => exact h.elim
theorem rget_eq (xss : List (List Int)) (i : Nat) : rget xss i = xss[i]?.getD [] := by
  induction xss generalizing i with
  | nil => rfl
  | cons x r ih => cases i <;> simp [rget, ih]
theorem u176 (m : Nat) (xss : List (List Int)) (h : ∀ xs ∈ xss, xs.length = m) (i : Nat) (hi : i < xss.length) : sub xss.flatten (i * m) m = rget xss i := by
  induction xss generalizing i with
  | nil => simp at hi
  | cons x r ih =>
    have hx : x.length = m := h x (by simp)
    cases i with
    | zero => simp [sub, rget, hx.symm]
    | succ i =>
      rw [List.flatten_cons, rget, ← ih (fun y hy => h y (by simp [hy])) i (by simpa using hi)]
      unfold sub
      rw [Nat.add_mul, Nat.one_mul, Nat.add_comm, ← List.drop_drop, ← hx, List.drop_left]
theorem rget_len {m : Nat} {xss : List (List Int)} (h : ∀ xs ∈ xss, xs.length = m) {i : Nat} (hi : i < xss.length) : (rget xss i).length = m := by
  rw [rget_eq, List.getElem?_eq_getElem hi]
  exact h _ (List.getElem_mem hi)
theorem sub_sub {α : Type} (xs : List α) (o s o' s' : Nat) (h : o' + s' ≤ s) : sub (sub xs o s) o' s' = sub xs (o + o') s' := by
  unfold sub
  rw [List.drop_take, List.take_take, List.drop_drop, Nat.min_eq_left (by omega)]
theorem u293 {vs : List V} {rs : List Value} {p : V → Value → Prop} (h : All2 p vs rs) {i : Nat} (hi : i < rs.length) : ∃ r, rs[i]? = some r ∧ p (vget vs i) r := by
  rcases u194 h i with ⟨x, y, hx, hy, hp⟩ | ⟨_, hy⟩
  · rw [u263, hx]; exact ⟨y, hy, hp⟩
  · rw [List.getElem?_eq_none_iff] at hy; omega
theorem rrL_get {m : Nat} : ∀ {vs : List V} {l : List (List (List Int))}, rrL m vs = some l → ∀ i, i < vs.length → vget vs i = .rr m (llget l i)
  | [], _, _, i, hi => by simp at hi
  | v :: r, l, h, i, hi => by
    unfold rrL at h
    split at h
    · rename_i heq; cases heq
    · rename_i m' xss r' heq
      cases heq
      obtain ⟨h1, h2⟩ := u006 h
      have := u031 h1
      subst this
      cases hr : rrL m r with
      | none => rw [hr] at h2; cases h2
      | some l' =>
        rw [hr] at h2
        cases h2
        cases i with
        | zero => rfl
        | succ i => exact rrL_get hr i (by simpa using hi)
    · cases h
theorem selV_eq (vs : List V) (i : Nat) (hi : i < vs.length) : selV vs i = vget vs i := by
  unfold selV
  split
  · split
    · rename_i h
      exact (rrL_get h i hi).symm
    · rfl
  · rfl
theorem selV_get {vs : List V} {rs : List Value} {p : V → Value → Prop} (h : All2 p vs rs) {i : Nat} (hi : i < rs.length) : ∃ r, rs[i]? = some r ∧ p (selV vs i) r := by
  rw [selV_eq vs i (by rw [u043 h]; exact hi)]
  exact u293 h hi
theorem u133 {mem : Mem} {v : V} {r : Value} (h : VF w ρ mem v r) : VR1 w ρ mem v r := by
  cases v with
  | ptr x i o s => exact .inl h
  | any => trivial
  | bool | int | z0 | ri | rb | rr | rl | rv | fn => exact h
  | _ => exact (h : False).elim
theorem VF_of_VG {mem : Mem} {v : V} {r : Value} (h : VG w ρ mem v r) : VF w ρ mem v r := by
  cases v with
  | rv vs => exact (h : False).elim
  | rl k xss => exact (h : False).elim
  | fn f x y => exact (h : False).elim
  | _ => exact h
theorem loadV_spec {mem : Mem} {c : V} {n o s : Nat} {d : D} {k : V → Option R} {x : R} (hc : loadV c n o s d k = some x) {rs : List Value} (hr : CR w ρ mem c rs)
    (hn : rs.length = n) (hw : c.wd = 1) (ho : o + s ≤ n) (hs1 : d.agg = false → s = 1) :
    ∃ v, k v = some x ∧ (d.agg = true → VR1 w ρ mem v (.agg (sub rs o s).toArray)) ∧ (d.agg = false → ∃ r, rs[o]? = some r ∧ VR1 w ρ mem v r) := by
  cases c with
  | ri kd xs =>
    have hrs : rs = iv kd xs := hr
    subst hrs
    rw [u054] at hn
    subst hn
    cases d with
    | int kd' =>
      obtain ⟨rfl, hk⟩ := u039 hc
      have := hs1 rfl
      exact ⟨_, hk, (fun h => by cases h), fun _ => ⟨_, iv_get _ _ _ (by omega), rfl⟩⟩
    | struct fs =>
      cases kd <;> simp only [loadV] at hc <;> try cases hc
      refine ⟨_, hc, fun _ => ?_, fun h => by cases h⟩
      rw [u091]
      exact ⟨u024 xs _ _ ho, by rw [u167]⟩
    | array m e =>
      cases kd <;> simp only [loadV] at hc <;> try cases hc
      refine ⟨_, hc, fun _ => ?_, fun h => by cases h⟩
      rw [u091]
      exact ⟨u024 xs _ _ ho, by rw [u167]⟩
    | _ => simp [loadV] at hc
  | rb bs =>
    have hrs : rs = bv bs := hr
    subst hrs
    rw [u097] at hn
    subst hn
    cases d with
    | bool =>
      have := hs1 rfl
      exact ⟨_, hc, (fun h => by cases h), fun _ => ⟨_, bv_get _ _ (by omega), rfl⟩⟩
    | array m e =>
      simp only [loadV] at hc
      refine ⟨_, hc, fun _ => ?_, fun h => by cases h⟩
      rw [u091]
      exact ⟨u024 bs _ _ ho, by rw [bv_sub]⟩
    | _ => simp [loadV] at hc
  | rr m xss => simp [loadV] at hc
  | rl k xss => simp [loadV] at hc
  | rv vs =>
    have h2 : All2 (VF w ρ mem) vs rs := hr
    have whole : ∀ {v : V}, (bif Nat.beq o 0 && Nat.beq s n then k v else none) = some x → k v = some x ∧ sub rs o s = rs := fun h => by
      obtain ⟨h1, h3⟩ := u006 h
      simp only [Bool.and_eq_true] at h1
      have := u031 h1.1
      have := u031 h1.2
      subst o; subst s; subst n
      exact ⟨h3, by simp [sub]⟩
    cases d with
    | struct fs =>
      obtain ⟨h1, h3⟩ := whole hc
      exact ⟨_, h1, fun _ => ⟨rs, by rw [h3], h2⟩, fun h => by cases h⟩
    | array m e =>
      obtain ⟨h1, h3⟩ := whole hc
      exact ⟨_, h1, fun _ => ⟨rs, by rw [h3], h2⟩, fun h => by cases h⟩
    | slice e =>
      have := hs1 rfl
      obtain ⟨r, hr1, hr2⟩ := selV_get h2 (i := o) (by omega)
      exact ⟨_, hc, (fun h => by cases h), fun _ => ⟨r, hr1, u133 hr2⟩⟩
    | other =>
      have := hs1 rfl
      obtain ⟨r, hr1, hr2⟩ := u293 h2 (i := o) (by omega)
      exact ⟨_, hc, (fun h => by cases h), fun _ => ⟨r, hr1, u133 hr2⟩⟩
    | int kd =>
      have := hs1 rfl
      obtain ⟨r, hr1, hr2⟩ := u293 h2 (i := o) (by omega)
      simp only [loadV] at hc
      split at hc
      · rename_i kd' y hv
        obtain ⟨rfl, hk⟩ := u039 hc
        rw [hv] at hr2
        exact ⟨_, hk, (fun h => by cases h), fun _ => ⟨r, hr1, u133 hr2⟩⟩
      · cases hc
    | _ => simp [loadV] at hc
  | _ => exact hr.elim
theorem sub_row {m : Nat} {xss : List (List Int)} (h : ∀ xs ∈ xss, xs.length = m) {i o s : Nat} (hi : i < xss.length) (ho : o + s ≤ m) : sub xss.flatten (i * m + o) s = sub (rget xss i) o s := by
  rw [← u176 m xss h i hi, sub_sub _ _ _ _ _ ho]
theorem loadE_spec {mem : Mem} {c : V} {i o s : Nat} {d : D} {k : V → Option R} {x : R} (hc : loadE c i o s d k = some x) {rs : List Value} (hr : CR w ρ mem c rs)
    (hi : i < c.cnt) (ho : o + s ≤ c.wd) (hs1 : d.agg = false → s = 1) :
    ∃ v, k v = some x ∧ (d.agg = true → VR1 w ρ mem v (.agg (sub rs (i * c.wd + o) s).toArray)) ∧ (d.agg = false → ∃ r, rs[i * c.wd + o]? = some r ∧ VR1 w ρ mem v r) := by
  have hlen := u262 hr
  cases c with
  | ri kd xs =>
    have hrs : rs = iv kd xs := hr
    subst hrs
    simp only [V.wd, V.cnt, Nat.mul_one] at *
    cases d with
    | int kd' =>
      obtain ⟨rfl, hk⟩ := u039 hc
      have := hs1 rfl
      have : o = 0 := by omega
      subst this
      exact ⟨_, hk, (fun h => by cases h), fun _ => ⟨_, iv_get _ _ _ (by omega), rfl⟩⟩
    | _ => simp [loadE] at hc
  | rb bs =>
    have hrs : rs = bv bs := hr
    subst hrs
    simp only [V.wd, V.cnt, Nat.mul_one] at *
    cases d with
    | bool =>
      have := hs1 rfl
      have : o = 0 := by omega
      subst this
      exact ⟨_, hc, (fun h => by cases h), fun _ => ⟨_, bv_get _ _ (by omega), rfl⟩⟩
    | _ => simp [loadE] at hc
  | rr m xss =>
    obtain ⟨⟨hm, hl⟩, rfl⟩ := hr
    simp only [V.wd, V.cnt] at *
    have hrl := rget_len hl hi
    cases d with
    | int kd =>
      cases kd <;> simp only [loadE] at hc <;> try cases hc
      have := hs1 rfl
      subst this
      refine ⟨_, hc, (fun h => by cases h), fun _ => ⟨.int .i64 (iget (rget xss i) o), ?_, rfl⟩⟩
      have h1 := sub_row hl hi ho
      have h2 : iget (sub xss.flatten (i * m + o) 1) 0 = iget (sub (rget xss i) o 1) 0 := by rw [h1]
      rw [iget_sub _ _ _ _ (by omega), iget_sub _ _ _ _ (by omega)] at h2
      simp only [Nat.add_zero] at h2
      rw [← h2]
      have hb : i * m + o < xss.flatten.length := by
        have : (i + 1) * m ≤ xss.length * m := Nat.mul_le_mul_right _ hi
        rw [Nat.add_mul, Nat.one_mul] at this
        rw [← u054 .i64, hlen]; omega
      exact iv_get _ _ _ hb
    | struct fs =>
      simp only [loadE] at hc
      refine ⟨_, hc, fun _ => ?_, fun h => by cases h⟩
      rw [← u167, sub_row hl hi ho]
      rw [show subn m (rget xss i) o s = subn (rget xss i).length (rget xss i) o s by rw [hrl], u091]
      exact ⟨u024 _ _ _ (by rw [hrl]; exact ho), rfl⟩
    | array q e =>
      simp only [loadE] at hc
      refine ⟨_, hc, fun _ => ?_, fun h => by cases h⟩
      rw [← u167, sub_row hl hi ho]
      rw [show subn m (rget xss i) o s = subn (rget xss i).length (rget xss i) o s by rw [hrl], u091]
      exact ⟨u024 _ _ _ (by rw [hrl]; exact ho), rfl⟩
    | _ => simp [loadE] at hc
  | rl kd xss =>
    have h2 : All2 (fun xs q => RoR w ρ mem (iv kd xs) 1 xs.length q) xss rs := hr
    simp only [V.wd, V.cnt, Nat.mul_one] at *
    cases d with
    | slice e =>
      have := hs1 rfl
      have : o = 0 := by omega
      subst this
      rcases u194 h2 i with ⟨y, q, hy, hq, hp⟩ | ⟨_, hq⟩
      · refine ⟨_, hc, (fun h => by cases h), fun _ => ⟨q, hq, ?_⟩⟩
        rw [rget_eq, hy]; exact hp
      · rw [List.getElem?_eq_none_iff] at hq
        have := u043 h2
        omega
    | _ => simp [loadE] at hc
  | rv vs =>
    have h2 : All2 (VF w ρ mem) vs rs := hr
    simp only [V.wd, V.cnt, Nat.mul_one] at *
    cases d with
    | slice e =>
      have := hs1 rfl
      have : o = 0 := by omega
      subst this
      obtain ⟨r, hr1, hr2⟩ := selV_get h2 (i := i) (by omega)
      exact ⟨_, hc, (fun h => by cases h), fun _ => ⟨r, hr1, u133 hr2⟩⟩
    | other =>
      have := hs1 rfl
      have : o = 0 := by omega
      subst this
      obtain ⟨r, hr1, hr2⟩ := u293 h2 (i := i) (by omega)
      exact ⟨_, hc, (fun h => by cases h), fun _ => ⟨r, hr1, u133 hr2⟩⟩
    | _ => simp [loadE] at hc
  | _ => exact hr.elim
theorem u069 (b o j : Nat) : (⟨b, o, none⟩ : Addr).add j = ⟨b, o + j, none⟩ := by
  unfold Addr.add
  split
  · rename_i h; subst h; rfl
  · rfl
theorem u257 {t : TypeId} {d : D} {i : TypeInfo} (hd : DR P t d) (hi : P.info? t = some i) (hag : d.agg = true) {b o : Nat} {rs : List Value} (hl : rs.length = i.size)
    (hc : ∀ j u, rs[j]? = some u → w.cell? ⟨b, o + j, none⟩ = some u) : (loadVar t ⟨b, o, none⟩).run P w = .ok (.agg rs.toArray) w := by
  unfold loadVar
  rw [Sem.run_bind, u117 hd w, Result.andThen_ok, hag]
  simp only [if_true, Sem.run_bind, u050 hi w, Result.andThen_ok]
  rw [← hl, run_loadCells_list w ⟨b, o, none⟩ rs (fun j v hv => by rw [u069]; exact hc j v hv)]
  rfl
theorem u256 {t : TypeId} {d : D} (hd : DR P t d) (hag : d.agg = false) {b o : Nat} {u : Value}
    (hc : w.cell? ⟨b, o, none⟩ = some u) : (loadVar t ⟨b, o, none⟩).run P w = .ok u w := by
  unfold loadVar
  rw [Sem.run_bind, u117 hd w, Result.andThen_ok, hag]
  simp [run_load, hc]
theorem var_cells {mem : Mem} (hw : WR w ρ mem) {h n b : Nat} {c : V} (hm : mget mem h = .var n c) (hρ : ρ[h]? = some (.var b)) :
    ∃ e rs, w.heap[b]? = some (.cells (List.toArray rs) e (0, 0)) ∧ rs.length = n ∧ CR w ρ mem c rs ∧ c.wd = 1 := by
  have hb := hw.blk h _ hρ
  rw [hm] at hb
  obtain ⟨r, e, rs, hrl, hr, hl, hc, hwd⟩ := hb
  cases hrl
  exact ⟨e, rs, hr, hl, hc, hwd⟩
theorem vec_cells {mem : Mem} (hw : WR w ρ mem) {h e b cap : Nat} {c : V} (hm : mget mem h = .vec e c) (hρ : ρ[h]? = some (.vec (some ⟨b, 0, none⟩) cap)) (hcap : 0 < cap) :
    ∃ cur, w.heap[b]? = some (.cells cur e (0, 0)) ∧ cap ≤ Go.maxLen ∧ cur.size = cap * c.wd ∧ c.cnt ≤ cap ∧ CR w ρ mem c (cur.toList.take (c.cnt * c.wd)) := by
  have hb := hw.blk h _ hρ
  rw [hm] at hb
  obtain ⟨a, cap', hrl, hle, hc⟩ := hb
  cases hrl
  rcases hc with ⟨h0, _⟩ | ⟨r, cur, _, ha, hr, hmx, hz, hc⟩
  · omega
  · cases ha
    exact ⟨cur, hr, hmx, hz, hle, hc⟩
theorem u286 {b : Nat} {cur : Array Value} {e : TypeId} {fr : Nat × Nat} (h : w.heap[b]? = some (.cells cur e fr)) (j : Nat) : w.cell? ⟨b, j, none⟩ = cur[j]? := cell_of_row w b j cur e fr h
theorem u222 {α : Type} (xs : List α) (o s j : Nat) (u : α) (h : (sub xs o s)[j]? = some u) : xs[o + j]? = some u := by
  unfold sub at h
  rw [List.getElem?_take] at h
  split at h
  · rwa [List.getElem?_drop] at h
  · cases h
def Val (P : Program) (o : Oper) (a : Act) (σ : St) (w : World) (ρ : Rho) (k : V → Mem → List Nat → Option R) (x : R) : Prop :=
  ∃ v r, k v σ.mem [] = some x ∧ (execOp a.eval o).run P w = .ok (.value r) w ∧ VR w ρ σ.mem v r
theorem u080 {mem : Mem} {v : V} {r : Value} (h : VR1 w ρ mem v r) : VR w ρ mem v r := by
  cases v with
  | tup vs => exact (h : False).elim
  | _ => exact h
theorem load_ok (hT : TTok P tt) {o : Oper} {t : TypeId} {ad : Operand} (ho : o.op = .load t ad) {slot : Option Nat} {k : V → Mem → List Nat → Option R} {x : R} (hI : Inv σ a w ρ)
    (hx : opK tt tab slot o σ k = some x) : Val P o a σ w ρ k x := by
  unfold opK at hx
  simp only [ho] at hx
  have hv := hI.op ad
  split at hx
  case h_2 => cases hx
  rename_i ti hti
  obtain ⟨⟨i, hi, hsz, hby, zv, hz, hzr⟩, hd, h1, hp⟩ := hT _ _ hti
  have fin : ∀ (b off : Nat) (rs : List Value) (v : V), a.eval ad = .pointer (some ⟨b, off, none⟩) → k v σ.mem [] = some x → rs.length = ti.size → (∀ j u, rs[j]? = some u → w.cell? ⟨b, off + j, none⟩ = some u) →
      (ti.d.agg = true → VR1 w ρ σ.mem v (.agg rs.toArray)) → (ti.d.agg = false → ∃ r, rs[0]? = some r ∧ VR1 w ρ σ.mem v r) → Val P o a σ w ρ k x := by
    intro b off rs v hev hk hl hc hA hB
    cases hag : ti.d.agg with
    | true =>
      refine ⟨v, _, hk, ?_, u080 (hA hag)⟩
      simp only [execOp, ho, Instr.loadAt, Instr.sureAddr, hev, Sem.run_bind, Sem.run_pure, Result.andThen_ok, u257 hd hi hag (hl.trans hsz.symm) hc]
    | false =>
      obtain ⟨r, hr, hvr⟩ := hB hag
      refine ⟨v, r, hk, ?_, u080 hvr⟩
      have := hc 0 r hr
      simp only [execOp, ho, Instr.loadAt, Instr.sureAddr, hev, Sem.run_bind, Sem.run_pure, Result.andThen_ok, u256 hd hag (by simpa using this)]
  split at hx
  · -- a pointer into a block
    rename_i h i' o' s he
    obtain ⟨hle, hx⟩ := u006 hx
    have hle := Nat.le_of_ble_eq_true hle
    rw [he] at hv
    split at hx
    · rename_i n c hm
      rcases (hv : PtrR ρ σ.mem h i' o' s _) with ⟨n', c', b, hm', hρ, hev, hi0, hos⟩ | ⟨e, c', b, cap, hm', _⟩
      · rw [hm] at hm'
        cases hm'
        obtain ⟨e, rs, hh, hl, hc, hwd⟩ := var_cells hI.wr hm hρ
        obtain ⟨v, hk, hA, hB⟩ := loadV_spec hx hc hl hwd (Nat.le_trans (Nat.add_le_add_left hle _) hos) h1
        refine fin b o' (sub rs o' ti.size) v hev hk (u024 _ _ _ (by omega)) (fun j u hu => ?_) hA (fun hag => ?_)
        · rw [u286 hh]; simpa using u222 rs o' ti.size j u hu
        · obtain ⟨r, hr, hvr⟩ := hB hag
          refine ⟨r, ?_, hvr⟩
          unfold sub
          rw [List.getElem?_take, if_pos (by rw [h1 hag]; omega), List.getElem?_drop]
          simpa using hr
      · rw [hm] at hm'; cases hm'
    · rename_i e c hm
      rcases (hv : PtrR ρ σ.mem h i' o' s _) with ⟨n', c', b, hm', _⟩ | ⟨e', c', b, cap, hm', hρ, hcap, hev, hi', hos⟩
      · rw [hm] at hm'; cases hm'
      · rw [hm] at hm'
        cases hm'
        obtain ⟨cur, hh, hmx, hz', hcl, hc⟩ := vec_cells hI.wr hm hρ hcap
        obtain ⟨v, hk, hA, hB⟩ := loadE_spec hx hc hi' (Nat.le_trans (Nat.add_le_add_left hle _) hos) h1
        have hlen := u262 hc
        have hpos : i' * c.wd + o' + ti.size ≤ (cur.toList.take (c.cnt * c.wd)).length := by
          rw [hlen]
          have : (i' + 1) * c.wd ≤ c.cnt * c.wd := Nat.mul_le_mul_right _ hi'
          rw [Nat.add_mul, Nat.one_mul] at this
          omega
        refine fin b (i' * c.wd + o') (sub (cur.toList.take (c.cnt * c.wd)) (i' * c.wd + o') ti.size) v hev hk (u024 _ _ _ hpos) (fun j u hu => ?_) hA (fun hag => ?_)
        · have h2 := u222 _ _ _ j u hu
          rw [List.getElem?_take] at h2
          split at h2
          · rw [u286 hh]; simpa using h2
          · cases h2
        · obtain ⟨r, hr, hvr⟩ := hB hag
          refine ⟨r, ?_, hvr⟩
          rw [show ∀ (l : List Value) (o s : Nat), (sub l o s)[0]? = if 0 < s then l[o]? else none from fun l o s => by unfold sub; rw [List.getElem?_take, List.getElem?_drop]; simp, if_pos (by rw [h1 hag]; omega)]
          exact hr
    · cases hx
  · rename_i c i' o' s he
    obtain ⟨hle, hx⟩ := u006 hx
    have hle := Nat.le_of_ble_eq_true hle
    rw [he] at hv
    obtain ⟨b, off, rs, hev, hnl, hb, hc, hcell, hi', hos⟩ := hv
    obtain ⟨v, hk, hA, hB⟩ := loadE_spec hx hc hi' (Nat.le_trans (Nat.add_le_add_left hle _) hos) h1
    have hlen := u262 hc
    have hpos : i' * c.wd + o' + ti.size ≤ rs.length := by
      rw [hlen]
      have : (i' + 1) * c.wd ≤ c.cnt * c.wd := Nat.mul_le_mul_right _ hi'
      rw [Nat.add_mul, Nat.one_mul] at this
      omega
    refine fin b (off + (i' * c.wd + o')) (sub rs (i' * c.wd + o') ti.size) v hev hk (u024 _ _ _ hpos) (fun j u hu => ?_) hA (fun hag => ?_)
    · rw [Nat.add_assoc]
      exact hcell _ u (u222 _ _ _ j u hu)
    · obtain ⟨r, hr, hvr⟩ := hB hag
      refine ⟨r, ?_, hvr⟩
      rw [show ∀ (l : List Value) (o s : Nat), (sub l o s)[0]? = if 0 < s then l[o]? else none from fun l o s => by unfold sub; rw [List.getElem?_take, List.getElem?_drop]; simp, if_pos (by rw [h1 hag]; omega)]
      exact hr
  · cases hx
theorem move_ok {o : Oper} {y : Operand} (ho : o.op = .move y ∨ o.op = .assign y) {slot : Option Nat} {k : V → Mem → List Nat → Option R} {x : R} (hI : Inv σ a w ρ)
    (hx : opK tt tab slot o σ k = some x) : Val P o a σ w ρ k x := by
  rcases ho with ho | ho
  all_goals
    unfold opK at hx
    simp only [ho] at hx
    exact ⟨_, _, hx, by simp only [execOp, ho] <;> rfl, hI.op y⟩
theorem pick_ok {o : Oper} {c y z : Operand} (ho : o.op = .pick c y z) {slot : Option Nat} {k : V → Mem → List Nat → Option R} {x : R} (hI : Inv σ a w ρ)
    (hx : opK tt tab slot o σ k = some x) : Val P o a σ w ρ k x := by
  unfold opK at hx
  simp only [ho] at hx
  have hv := hI.op c
  split at hx
  · rename_i t he
    rw [he] at hv
    have hv : a.eval c = .bool t := hv
    have hx : (bif t then k (evO σ y) σ.mem [] else k (evO σ z) σ.mem []) = some x := by
      split at hx
      · rename_i h1 h2
        rw [h1, h2]
        cases t <;> exact hx
      · exact hx
    cases t
    · exact ⟨_, _, hx, by simp only [execOp, ho, hv, asBool, Sem.run_bind, Sem.run_pure, Result.andThen_ok] <;> rfl, hI.op z⟩
    · exact ⟨_, _, hx, by simp only [execOp, ho, hv, asBool, Sem.run_bind, Sem.run_pure, Result.andThen_ok] <;> rfl, hI.op y⟩
  · cases hx
theorem u277 {o : Oper} {y : Operand} (ho : o.op = .nilCheck y) {slot : Option Nat} {k : V → Mem → List Nat → Option R} {x : R} (hI : Inv σ a w ρ)
    (hx : opK tt tab slot o σ k = some x) : Val P o a σ w ρ k x := by
  unfold opK at hx
  simp only [ho] at hx
  have hv := hI.op y
  split at hx
  · rename_i h i' o' s he
    rw [he] at hv
    have hp : ∃ p, a.eval y = .pointer (some p) := by
      rcases (hv : PtrR ρ σ.mem h i' o' s _) with ⟨n', c', b, hm', hρ, hev, _⟩ | ⟨e', c', b, cap, hm', hρ, hcap, hev, _⟩
      · exact ⟨_, hev⟩
      · exact ⟨_, hev⟩
    obtain ⟨p, hp⟩ := hp
    refine ⟨_, _, hx, ?_, hv⟩
    simp only [execOp, ho, hp] <;> rfl
  · rename_i c i' o' s he
    rw [he] at hv
    obtain ⟨b, off, rs, hev, hrest⟩ := hv
    refine ⟨_, _, hx, ?_, ⟨b, off, rs, hev, hrest⟩⟩
    simp only [execOp, ho, hev] <;> rfl
  · cases hx
theorem extract_ok {o : Oper} {y : Operand} {ix : Nat} (ho : o.op = .extract y ix) {slot : Option Nat} {k : V → Mem → List Nat → Option R} {x : R} (hI : Inv σ a w ρ)
    (hx : opK tt tab slot o σ k = some x) : Val P o a σ w ρ k x := by
  unfold opK at hx
  simp only [ho] at hx
  have hv := hI.op y
  split at hx
  · rename_i vs he
    rw [he] at hv
    obtain ⟨rs, hr, h2⟩ := hv
    split at hx
    · rename_i v hvs
      rcases u194 h2 ix with ⟨x', y', hx', hy', hp⟩ | ⟨hx', _⟩
      · rw [hvs] at hx'
        cases hx'
        refine ⟨_, _, hx, ?_, u080 hp⟩
        have hy2 : (rs.toArray)[ix]? = some y' := by simpa using hy'
        simp only [execOp, ho, hr, Instr.extract, hy2, Sem.run_bind, Sem.run_pure, Result.andThen_ok]
      · rw [hvs] at hx'; cases hx'
    · cases hx
  · cases hx
theorem eqT_run (hT : TTok P tt) (hD : 6 ≤ P.depth) {t : TypeId} {n : Nat} (h : eqT tt t n = true) {xs ys : List Int} (hxl : xs.length = n) (hyl : ys.length = n) (w : World) :
    (Op.equalIn 10000 t (.agg (iv .i64 xs).toArray) (.agg (iv .i64 ys).toArray)).run P w = .ok (xs == ys) w ∧ P.eqGuardType P.depth t = false := by
  unfold eqT at h
  split at h
  · rename_i ti hti
    simp only [Bool.and_eq_true] at h
    obtain ⟨hag, h⟩ := h
    split at h
    · rename_i m hm
      have h := u031 h
      subst h
      have hq := run_equalIn_ia hT 6 t m hm 10000 (by omega) xs ys hxl hyl w
      have htv : ∀ zs : List Int, tyV tt t zs = .agg (iv .i64 zs).toArray := fun zs => by
        unfold tyV
        rw [hti]
        rcases ti with ⟨td, s1, s2, s3⟩
        cases td <;> first | rfl | cases hag
      rw [htv, htv] at hq
      exact ⟨hq, eqGuardType_ia hT 6 t m hm _ hD⟩
    · cases h
  · cases h
theorem binK_ok (hT : TTok P tt) (hD : 6 ≤ P.depth) {op : BinOp} {t : TypeId} {u v : V} {k : V → Option R} {x : R} (hx : binK tt op t u v k = some x) {ro so : Operand} {r s : Value} (hr : VR w ρ σ.mem u r) (hs : VR w ρ σ.mem v s) :
    ∃ z q, k z = some x ∧ ((do eqGuard op t ro so r s; binOp op t r s : Sem Value)).run P w = .ok q w ∧ VR w ρ σ.mem z q := by
  unfold binK at hx
  split at hx
  · rename_i kd y kd' z
    have hr : r = .int kd y := hr
    have hs : s = .int kd' z := hs
    subst hr; subst hs
    have hg : (eqGuard op t ro so (.int kd y) (.int kd' z)).run P w = .ok () w := by
      cases op <;> simp [eqGuard]
    split at hx
    · obtain ⟨h1, hx⟩ := u051 hx
      have h1 : ¬ z < 0 := by simpa using h1
      exact ⟨_, _, hx, by simp only [Sem.run_bind, hg, Result.andThen_ok, binOp, Op.shift, h1, if_false, Sem.run_pure] <;> rfl, rfl⟩
    · obtain ⟨h1, hx⟩ := u051 hx
      have h1 : ¬ z < 0 := by simpa using h1
      exact ⟨_, _, hx, by simp only [Sem.run_bind, hg, Result.andThen_ok, binOp, Op.shift, h1, if_false, Sem.run_pure] <;> rfl, rfl⟩
    · rename_i hnl hnr
      obtain ⟨ek, hx2⟩ := u039 hx
      clear hx
      subst ek
      have hx := hx2
      clear hx2
      cases op
      case shl => exact absurd rfl hnl
      case shr => exact absurd rfl hnr
      case add => exact ⟨_, _, hx, by simp only [Sem.run_bind, hg, Result.andThen_ok, binOp, Op.intArith, ne_eq, not_true_eq_false, if_false, Sem.run_pure] <;> rfl, rfl⟩
      case sub => exact ⟨_, _, hx, by simp only [Sem.run_bind, hg, Result.andThen_ok, binOp, Op.intArith, ne_eq, not_true_eq_false, if_false, Sem.run_pure] <;> rfl, rfl⟩
      case mul => exact ⟨_, _, hx, by simp only [Sem.run_bind, hg, Result.andThen_ok, binOp, Op.intArith, ne_eq, not_true_eq_false, if_false, Sem.run_pure] <;> rfl, rfl⟩
      case quo =>
        obtain ⟨h1, hx⟩ := u051 hx
        have h1 : ¬ z = 0 := by simpa using h1
        exact ⟨_, _, hx, by simp only [Sem.run_bind, hg, Result.andThen_ok, binOp, Op.intDiv, h1, ne_eq, not_true_eq_false, if_false, Sem.run_pure] <;> rfl, rfl⟩
      case rem =>
        obtain ⟨h1, hx⟩ := u051 hx
        have h1 : ¬ z = 0 := by simpa using h1
        exact ⟨_, _, hx, by simp only [Sem.run_bind, hg, Result.andThen_ok, binOp, Op.intDiv, h1, ne_eq, not_true_eq_false, if_false, Sem.run_pure] <;> rfl, rfl⟩
      case and => exact ⟨_, _, hx, by simp only [Sem.run_bind, hg, Result.andThen_ok, binOp, Op.intBits, ne_eq, not_true_eq_false, if_false, Sem.run_pure] <;> rfl, rfl⟩
      case or => exact ⟨_, _, hx, by simp only [Sem.run_bind, hg, Result.andThen_ok, binOp, Op.intBits, ne_eq, not_true_eq_false, if_false, Sem.run_pure] <;> rfl, rfl⟩
      case xor => exact ⟨_, _, hx, by simp only [Sem.run_bind, hg, Result.andThen_ok, binOp, Op.intBits, ne_eq, not_true_eq_false, if_false, Sem.run_pure] <;> rfl, rfl⟩
      case andNot => exact ⟨_, _, hx, by simp only [Sem.run_bind, hg, Result.andThen_ok, binOp, Op.intBits, ne_eq, not_true_eq_false, if_false, Sem.run_pure] <;> rfl, rfl⟩
      case eql => exact ⟨_, _, hx, by simp only [Sem.run_bind, hg, Result.andThen_ok, binOp, Op.intCmp, ne_eq, not_true_eq_false, if_false, Sem.run_pure] <;> rfl, rfl⟩
      case neq => exact ⟨_, _, hx, by simp only [Sem.run_bind, hg, Result.andThen_ok, binOp, Op.intCmp, ne_eq, not_true_eq_false, if_false, Sem.run_pure] <;> rfl, rfl⟩
      case lss => exact ⟨_, _, hx, by simp only [Sem.run_bind, hg, Result.andThen_ok, binOp, Op.intCmp, ne_eq, not_true_eq_false, if_false, Sem.run_pure] <;> rfl, rfl⟩
      case leq => exact ⟨_, _, hx, by simp only [Sem.run_bind, hg, Result.andThen_ok, binOp, Op.intCmp, ne_eq, not_true_eq_false, if_false, Sem.run_pure] <;> rfl, rfl⟩
      case gtr => exact ⟨_, _, hx, by simp only [Sem.run_bind, hg, Result.andThen_ok, binOp, Op.intCmp, ne_eq, not_true_eq_false, if_false, Sem.run_pure] <;> rfl, rfl⟩
      case geq => exact ⟨_, _, hx, by simp only [Sem.run_bind, hg, Result.andThen_ok, binOp, Op.intCmp, ne_eq, not_true_eq_false, if_false, Sem.run_pure] <;> rfl, rfl⟩
  · rename_i n xs n' ys
    obtain ⟨hxl, hr⟩ := u174 hr
    obtain ⟨hyl, hs⟩ := u174 hs
    subst hr; subst hs
    have key : (Nat.beq n n' && eqT tt t n) = true → (Op.equalIn 10000 t (.agg (iv .i64 xs).toArray) (.agg (iv .i64 ys).toArray)).run P w = .ok (xs == ys) w ∧ P.eqGuardType P.depth t = false := by
      intro h
      simp only [Bool.and_eq_true] at h
      exact eqT_run hT hD h.2 hxl (hyl.trans (u031 h.1).symm) w
    split at hx
    · obtain ⟨h1, hx⟩ := u006 hx
      obtain ⟨h2, h3⟩ := key h1
      refine ⟨_, _, hx, ?_, rfl⟩
      simp only [Sem.run_bind, run_eqGuard_agg w _ _ _ _ _ _ h3, Result.andThen_ok, run_eql_struct, h2]
    · obtain ⟨h1, hx⟩ := u006 hx
      obtain ⟨h2, h3⟩ := key h1
      refine ⟨_, _, hx, ?_, rfl⟩
      simp only [Sem.run_bind, run_eqGuard_agg w _ _ _ _ _ _ h3, Result.andThen_ok, run_neq_struct, h2]
    · cases hx
  · rename_i y z
    have hr : r = .bool y := hr
    have hs : s = .bool z := hs
    subst hr; subst hs
    split at hx
    · rename_i hl
      have hd : P.underlying t = some .bool := (hT _ _ hl).desc
      split at hx
      · refine ⟨_, _, hx, ?_, rfl⟩
        simp [eqGuard, binOp, Op.equal, Op.maxDepth, run_equalIn_bool' w 9999 t y z hd]
      · refine ⟨_, _, hx, ?_, rfl⟩
        simp [eqGuard, binOp, Op.equal, Op.maxDepth, run_equalIn_bool' w 9999 t y z hd]
      · cases hx
    · cases hx
  · cases hx
theorem binOp_ok (hT : TTok P tt) (hD : 6 ≤ P.depth) {o : Oper} {op : BinOp} {t t' : TypeId} {y z : Operand} (ho : o.op = .binOp op t y z t') {slot : Option Nat} {k : V → Mem → List Nat → Option R} {x : R} (hI : Inv σ a w ρ)
    (hx : opK tt tab slot o σ k = some x) : Val P o a σ w ρ k x := by
  unfold opK at hx
  simp only [ho] at hx
  obtain ⟨v, q, hk, hr, hv⟩ := binK_ok (P := P) (ro := y) (so := z) hT hD hx (hI.op y) (hI.op z)
  refine ⟨v, q, hk, ?_, hv⟩
  simp only [execOp, ho]
  rw [Sem.run_bind, hr]
  rfl
theorem unOp_ok {o : Oper} {op : UnOp} {t : TypeId} {y : Operand} (ho : o.op = .unOp op t y) {slot : Option Nat} {k : V → Mem → List Nat → Option R} {x : R} (hI : Inv σ a w ρ)
    (hx : opK tt tab slot o σ k = some x) : Val P o a σ w ρ k x := by
  unfold opK at hx
  simp only [ho] at hx
  have hv := hI.op y
  unfold unK at hx
  split at hx
  · rename_i b he
    rw [he] at hv
    have hv : a.eval y = .bool b := hv
    exact ⟨_, _, hx, by simp only [execOp, ho, hv, Op.unary, Sem.run_bind, Sem.run_pure, Result.andThen_ok] <;> rfl, rfl⟩
  · rename_i kd n he
    rw [he] at hv
    have hv : a.eval y = .int kd n := hv
    exact ⟨_, _, hx, by simp only [execOp, ho, hv, Op.unary, Op.intArith, Sem.run_bind, Sem.run_pure, Result.andThen_ok] <;> rfl, rfl⟩
  · cases hx
theorem DR_some {t : TypeId} {d : D} (h : DR P t d) : ∃ u, P.underlying t = some u := by
  cases d with
  | struct fs => obtain ⟨f, h, _⟩ := h; exact ⟨_, h⟩
  | other => obtain ⟨u, h, _⟩ := h; exact ⟨_, h⟩
  | _ => exact ⟨_, h⟩
theorem convert_ok (hT : TTok P tt) {o : Oper} {src dst : TypeId} {y : Operand} (ho : o.op = .convert src dst y) {slot : Option Nat} {k : V → Mem → List Nat → Option R} {x : R} (hI : Inv σ a w ρ)
    (hx : opK tt tab slot o σ k = some x) : Val P o a σ w ρ k x := by
  unfold opK at hx
  simp only [ho] at hx
  have hv := hI.op y
  split at hx
  · rename_i hls
    obtain ⟨u, hu⟩ := DR_some (hT _ _ hls).desc
    split at hx
    · rename_i hl
      have hd : P.underlying dst = _ := (hT _ _ hl).desc
      split at hx
      · rename_i kd' n he
        rw [he] at hv
        have hv : a.eval y = .int kd' n := hv
        refine ⟨_, _, hx, ?_, rfl⟩
        simp only [execOp, ho, hv, convert, Sem.run_bind, run_underlying hu w, run_underlying hd w, Result.andThen_ok, Conv.intToInt, Sem.run_pure]
      · cases hx
    · cases hx
  · cases hx
theorem inR_spec {i : Int} {n : Nat} (h : inR i n = true) : 0 ≤ i ∧ i < n ∧ i.toNat < n := by
  unfold inR at h
  split at h
  · rename_i k
    have := Nat.blt_eq.mp h
    refine ⟨by simp, ?_, ?_⟩
    · show ((k : Int) < (n : Int)); omega
    · simpa using this
  · cases h
theorem inLe_spec {i : Int} {n : Nat} (h : inLe i n = true) : 0 ≤ i ∧ i ≤ n ∧ i.toNat ≤ n := by
  unfold inLe at h
  split at h
  · rename_i k
    have := Nat.le_of_ble_eq_true h
    refine ⟨by simp, ?_, ?_⟩
    · show ((k : Int) ≤ (n : Int)); omega
    · simpa using this
  · cases h
theorem u085 {v : V} {n : Nat} {k : Nat → Option R} {x : R} (h : idxK v n k = some x) : ∃ kd i, v = .int kd i ∧ 0 ≤ i ∧ i < n ∧ i.toNat < n ∧ k i.toNat = some x := by
  unfold idxK at h
  split at h
  · rename_i kd i
    obtain ⟨h1, h2⟩ := u006 h
    obtain ⟨a, b, c⟩ := inR_spec h1
    exact ⟨kd, i, rfl, a, b, c, h2⟩
  · cases h
theorem u089 {t e : TypeId} {n : Nat} {i : TypeInfo} (hu : P.underlying t = some (.array n e)) (hi : P.info? e = some i) (ad : Addr) (kd : IntKind) (j : Int) (h0 : 0 ≤ j) (h1 : j < n) :
    (Instr.indexAt t (.pointer (some ad)) (.int kd j)).run P w = .ok (.pointer (some (ad.add (j.toNat * i.size)))) w := by
  simp [Instr.indexAt, asIntOf, run_underlying hu, Instr.sureAddr, h0, h1, u050 hi]
theorem u048 {t e : TypeId} {i : TypeInfo} (hu : P.underlying t = some (.slice e)) (hi : P.info? e = some i) (ad : Addr) (n c : Nat) (kd : IntKind) (j : Int) (h0 : 0 ≤ j) (h1 : j < n) :
    (Instr.indexAt t (.slice (some ad) n c) (.int kd j)).run P w = .ok (.pointer (some (ad.add (j.toNat * i.size)))) w := by
  simp [Instr.indexAt, asIntOf, run_underlying hu, Instr.sureAddr, h0, h1, u050 hi]
theorem u127 {j n s : Nat} (h : j < n) : j * s + s ≤ n * s := by
  have : (j + 1) * s ≤ n * s := Nat.mul_le_mul_right _ h
  rwa [Nat.add_mul, Nat.one_mul] at this
theorem RoR_ptr {mem : Mem} {c : V} {rs : List Value} {r : Value} (hcr : CR w ρ mem c rs) (hro : RoR w ρ mem rs c.wd c.cnt r) {j : Nat} (hj : j < c.cnt) :
    ∃ ad n cap, r = .slice (some ad) n cap ∧ n = c.cnt ∧ ∀ s, s ≤ c.wd → VR1 w ρ mem (.rp c j 0 s) (.pointer (some (ad.add (j * c.wd)))) := by
  obtain ⟨ao, cap, rfl, hnc, hl, hc⟩ := hro
  obtain ⟨b, off, rfl, hn, hb, hcell⟩ := hc (by omega)
  refine ⟨_, _, _, rfl, rfl, fun s hs => ?_⟩
  rw [u069]
  exact ⟨b, off, rs, by simp, hn, hb, hcr, hcell, hj, by simpa using hs⟩
theorem u239 (hT : TTok P tt) {o : Oper} {t : TypeId} {y z : Operand} (ho : o.op = .indexAddr t y z) {slot : Option Nat} {k : V → Mem → List Nat → Option R} {x : R} (hI : Inv σ a w ρ)
    (hx : opK tt tab slot o σ k = some x) : Val P o a σ w ρ k x := by
  unfold opK at hx
  simp only [ho] at hx
  have hv := hI.op y
  have hz := hI.op z
  unfold addrK at hx
  split at hx
  · rename_i len e s0 b0 zz hl
    have hu : P.underlying t = _ := (hT _ _ hl).desc
    split at hx
    · rename_i te hle
      obtain ⟨⟨ie, hie, hsz, _⟩, hde, _, hpos⟩ := hT _ _ hle
      split at hx
      · rename_i h i' o' s he
        obtain ⟨hb, hx⟩ := u006 hx
        have hb := Nat.le_of_ble_eq_true hb
        obtain ⟨kd, j, hzi, h0, h1, h2, hk⟩ := u085 hx
        rw [hzi] at hz
        have hz : a.eval z = .int kd j := hz
        rw [he] at hv
        have hmb := u127 (s := te.size) h2
        rcases (hv : PtrR ρ σ.mem h i' o' s _) with ⟨n, c, b, hm, hρ, hev, hi0, hos⟩ | ⟨e', c, b, cap, hm, hρ, hcap, hev, hi', hos⟩
        · refine ⟨_, _, hk, by simp only [execOp, ho, hev, hz, Sem.run_bind, u089 hu hie _ _ _ h0 h1, Result.andThen_ok, Sem.run_pure] <;> rfl, ?_⟩
          rw [u069, hsz]
          exact .inl ⟨n, c, b, hm, hρ, rfl, hi0, by omega⟩
        · refine ⟨_, _, hk, by simp only [execOp, ho, hev, hz, Sem.run_bind, u089 hu hie _ _ _ h0 h1, Result.andThen_ok, Sem.run_pure] <;> rfl, ?_⟩
          rw [u069, hsz, Nat.add_assoc]
          exact .inr ⟨e', c, b, cap, hm, hρ, hcap, rfl, hi', by omega⟩
      · rename_i c i' o' s he
        obtain ⟨hb, hx⟩ := u006 hx
        have hb := Nat.le_of_ble_eq_true hb
        obtain ⟨kd, j, hzi, h0, h1, h2, hk⟩ := u085 hx
        rw [hzi] at hz
        have hz : a.eval z = .int kd j := hz
        rw [he] at hv
        have hmb := u127 (s := te.size) h2
        obtain ⟨b, off, rs, hev, hn, hbb, hcr, hcell, hi', hos⟩ := hv
        refine ⟨_, _, hk, by simp only [execOp, ho, hev, hz, Sem.run_bind, u089 hu hie _ _ _ h0 h1, Result.andThen_ok, Sem.run_pure] <;> rfl, ?_⟩
        rw [u069, hsz]
        exact ⟨b, off, rs, by rw [Nat.add_assoc, Nat.add_assoc], hn, hbb, hcr, hcell, hi', by omega⟩
      · cases hx
    · cases hx
  · rename_i e s0 b0 zz hl
    have hu : P.underlying t = _ := (hT _ _ hl).desc
    split at hx
    · rename_i te hle
      obtain ⟨⟨ie, hie, hsz, _⟩, hde, _, hpos⟩ := hT _ _ hle
      split at hx
      · rename_i h off n he
        split at hx
        · rename_i e' c hm
          obtain ⟨hb, hx⟩ := u006 hx
          have hb := u031 hb
          obtain ⟨kd, j, hzi, h0, h1, h2, hk⟩ := u085 hx
          rw [hzi] at hz
          have hz : a.eval z = .int kd j := hz
          rw [he] at hv
          obtain ⟨e'', c', ao, cap, hm', hρ, hle', hvv⟩ := hv
          rw [hm] at hm'
          cases hm'
          have hbk := hI.wr.blk h _ hρ
          rw [hm] at hbk
          obtain ⟨a2, cap2, hrl, hcl, hc⟩ := hbk
          cases hrl
          have hcap : 0 < cap := by omega
          rcases hc with ⟨h00, _⟩ | ⟨r, cur, _, rfl, hr, _⟩
          · omega
          have hres : ∃ ad n2 c2, a.eval y = .slice (some ad) n2 c2 ∧ n2 = n ∧ ad = ⟨r, off * c.wd, none⟩ := by
            rcases hvv with ⟨rfl, hev⟩ | ⟨_, a', cap', hev, hnc', hh⟩
            · exact ⟨_, _, _, hev, rfl, by simp⟩
            · obtain ⟨b, hb1, hb2⟩ := hh (by omega)
              cases hb1
              rw [hb2] at hev
              exact ⟨_, _, _, hev, rfl, rfl⟩
          obtain ⟨ad, n2, c2, hev, rfl, rfl⟩ := hres
          refine ⟨_, _, hk, by simp only [execOp, ho, hev, hz, Sem.run_bind, u048 hu hie _ _ _ _ _ h0 h1, Result.andThen_ok, Sem.run_pure] <;> rfl, ?_⟩
          rw [u069, hsz, hb]
          refine .inr ⟨e', c, r, cap, hm, hρ, hcap, ?_, by omega, by simp⟩
          rw [Nat.add_mul, Nat.add_zero]
        · cases hx
      · rename_i h oo s n he
        obtain ⟨hb, hx⟩ := u006 hx
        have hb := u031 hb
        obtain ⟨kd, j, hzi, h0, h1, h2, hk⟩ := u085 hx
        rw [hzi] at hz
        have hz : a.eval z = .int kd j := hz
        rw [he] at hv
        obtain ⟨m, c, b, hm, hρ, hle', hs0, a', cap', hev, hnc', hh⟩ := hv
        have ha' := hh (by omega)
        subst ha'
        have hmb := u127 (s := s) h2
        refine ⟨_, _, hk, by simp only [execOp, ho, hev, hz, Sem.run_bind, u048 hu hie _ _ _ _ _ h0 h1, Result.andThen_ok, Sem.run_pure] <;> rfl, ?_⟩
        rw [u069, hsz, ← hb]
        exact .inl ⟨m, c, b, hm, hρ, rfl, rfl, by omega⟩
      · rename_i kd xs he
        obtain ⟨hb, hx⟩ := u006 hx
        have hte := u031 hb
        obtain ⟨kd', j, hzi, h0, h1, h2, hk⟩ := u085 hx
        rw [hzi] at hz
        have hz : a.eval z = .int kd' j := hz
        rw [he] at hv
        have hro : RoR w ρ σ.mem (iv kd xs) 1 xs.length (a.eval y) := hv
        have hcr : CR w ρ σ.mem (.ri kd xs) (iv kd xs) := rfl
        obtain ⟨ad, n2, c2, hev, hn2, hp⟩ := RoR_ptr hcr hro (j := j.toNat) h2
        have hj2 : j < (n2 : Int) := by rw [hn2]; exact h1
        refine ⟨_, _, hk, by simp only [execOp, ho, hev, hz, Sem.run_bind, u048 hu hie _ _ _ _ _ h0 hj2, Result.andThen_ok, Sem.run_pure] <;> rfl, ?_⟩
        have h3 := hp 1 (Nat.le_refl _)
        refine u080 ?_
        simpa [hsz, hte, V.wd] using h3
      · rename_i bs he
        obtain ⟨hb, hx⟩ := u006 hx
        have hte := u031 hb
        obtain ⟨kd', j, hzi, h0, h1, h2, hk⟩ := u085 hx
        rw [hzi] at hz
        have hz : a.eval z = .int kd' j := hz
        rw [he] at hv
        have hro : RoR w ρ σ.mem (bv bs) 1 bs.length (a.eval y) := hv
        have hcr : CR w ρ σ.mem (.rb bs) (bv bs) := rfl
        obtain ⟨ad, n2, c2, hev, hn2, hp⟩ := RoR_ptr hcr hro (j := j.toNat) h2
        have hj2 : j < (n2 : Int) := by rw [hn2]; exact h1
        refine ⟨_, _, hk, by simp only [execOp, ho, hev, hz, Sem.run_bind, u048 hu hie _ _ _ _ _ h0 hj2, Result.andThen_ok, Sem.run_pure] <;> rfl, ?_⟩
        have h3 := hp 1 (Nat.le_refl _)
        refine u080 ?_
        simpa [hsz, hte, V.wd] using h3
      · rename_i m xss he
        obtain ⟨hb, hx⟩ := u006 hx
        have hte := u031 hb
        obtain ⟨kd', j, hzi, h0, h1, h2, hk⟩ := u085 hx
        rw [hzi] at hz
        have hz : a.eval z = .int kd' j := hz
        rw [he] at hv
        obtain ⟨hrows, hro⟩ := hv
        have hcr : CR w ρ σ.mem (.rr m xss) (iv .i64 xss.flatten) := ⟨hrows, rfl⟩
        obtain ⟨ad, n2, c2, hev, hn2, hp⟩ := RoR_ptr hcr hro (j := j.toNat) h2
        have hj2 : j < (n2 : Int) := by rw [hn2]; exact h1
        refine ⟨_, _, hk, by simp only [execOp, ho, hev, hz, Sem.run_bind, u048 hu hie _ _ _ _ _ h0 hj2, Result.andThen_ok, Sem.run_pure] <;> rfl, ?_⟩
        have h3 := hp m (Nat.le_refl _)
        refine u080 ?_
        simpa [hsz, hte, V.wd] using h3
      · rename_i kd xss he
        obtain ⟨hb, hx⟩ := u006 hx
        have hte := u031 hb
        obtain ⟨kd', j, hzi, h0, h1, h2, hk⟩ := u085 hx
        rw [hzi] at hz
        have hz : a.eval z = .int kd' j := hz
        rw [he] at hv
        obtain ⟨rs, hro, h22⟩ := hv
        have hcr : CR w ρ σ.mem (.rl kd xss) rs := h22
        obtain ⟨ad, n2, c2, hev, hn2, hp⟩ := RoR_ptr hcr hro (j := j.toNat) h2
        have hj2 : j < (n2 : Int) := by rw [hn2]; exact h1
        refine ⟨_, _, hk, by simp only [execOp, ho, hev, hz, Sem.run_bind, u048 hu hie _ _ _ _ _ h0 hj2, Result.andThen_ok, Sem.run_pure] <;> rfl, ?_⟩
        have h3 := hp 1 (Nat.le_refl _)
        refine u080 ?_
        simpa [hsz, hte, V.wd] using h3
      · rename_i vs he
        obtain ⟨hb, hx⟩ := u006 hx
        have hte := u031 hb
        obtain ⟨kd', j, hzi, h0, h1, h2, hk⟩ := u085 hx
        rw [hzi] at hz
        have hz : a.eval z = .int kd' j := hz
        rw [he] at hv
        obtain ⟨rs, hro, h22⟩ := hv
        have hcr : CR w ρ σ.mem (.rv vs) rs := u026 h22 fun x y _ h => VF_of_VG h
        obtain ⟨ad, n2, c2, hev, hn2, hp⟩ := RoR_ptr hcr hro (j := j.toNat) h2
        have hj2 : j < (n2 : Int) := by rw [hn2]; exact h1
        refine ⟨_, _, hk, by simp only [execOp, ho, hev, hz, Sem.run_bind, u048 hu hie _ _ _ _ _ h0 hj2, Result.andThen_ok, Sem.run_pure] <;> rfl, ?_⟩
        have h3 := hp 1 (Nat.le_refl _)
        refine u080 ?_
        simpa [hsz, hte, V.wd] using h3
      · cases hx
    · cases hx
  · cases hx
end
end Go.Lv
namespace Go.Lv
open Go.RowKit
variable [fr : Fr]
section
variable {P : Program} {tt : TT} {tab : Tab} {σ : St} {a : Act} {w : World} {ρ : Rho} {R : Type}
theorem field_get {fields : Array Field} {fs : List (Nat × TypeId)} (h : fields.toList.map (fun (f : Field) => (f.offset, f.type)) = fs) {j : Nat} {off : Nat} {ft : TypeId} (hj : fs[j]? = some (off, ft)) :
    ∃ f, fields[j]? = some f ∧ f.offset = off ∧ f.type = ft := by
  rw [← h, List.getElem?_map] at hj
  cases hf : fields.toList[j]? with
  | none => rw [hf] at hj; cases hj
  | some f =>
    rw [hf] at hj
    simp only [Option.map_some, Option.some.injEq, Prod.mk.injEq] at hj
    exact ⟨f, by rw [Array.getElem?_toList] at hf; exact hf, hj.1, hj.2⟩
theorem u178 {t : TypeId} {fields : Array Field} (hu : P.underlying t = some (.struct fields)) {j : Nat} {f : Field} (hf : fields[j]? = some f) {i : TypeInfo} (hi : P.info? f.type = some i) (hpos : i.size ≠ 0) (ad : Addr) :
    (Instr.fieldAt t (.pointer (some ad)) j).run P w = .ok (.pointer (some (ad.add f.offset))) w := by
  simp [Instr.fieldAt, run_underlying hu, hf, Instr.sureAddr, fieldPlace, u050 hi, hpos]
theorem u244 (hT : TTok P tt) {o : Oper} {t : TypeId} {y : Operand} {j : Nat} (ho : o.op = .fieldAddr t y j) {slot : Option Nat} {k : V → Mem → List Nat → Option R} {x : R} (hI : Inv σ a w ρ)
    (hx : opK tt tab slot o σ k = some x) : Val P o a σ w ρ k x := by
  unfold opK at hx
  simp only [ho] at hx
  have hv := hI.op y
  unfold fieldK at hx
  split at hx
  · rename_i fs s0 b0 zz hl
    obtain ⟨fields, hu, hfs, _⟩ := (hT _ _ hl).desc
    split at hx
    · rename_i off ft hj
      obtain ⟨f, hf, rfl, rfl⟩ := field_get hfs hj
      split at hx
      · rename_i tf hlf
        obtain ⟨⟨i, hi, hsz, _⟩, _, _, hpos⟩ := hT _ _ hlf
        have hne : i.size ≠ 0 := by omega
        split at hx
        · rename_i h i' o' s he
          obtain ⟨hb, hx⟩ := u006 hx
          simp only [Bool.and_eq_true] at hb
          have hb1 := Nat.le_of_ble_eq_true hb.1
          rw [he] at hv
          rcases (hv : PtrR ρ σ.mem h i' o' s _) with ⟨n, c, b, hm, hρ, hev, hi0, hos⟩ | ⟨e', c, b, cap, hm, hρ, hcap, hev, hi', hos⟩
          · refine ⟨_, _, hx, by simp only [execOp, ho, hev, Sem.run_bind, u178 hu hf hi hne, Result.andThen_ok, Sem.run_pure] <;> rfl, ?_⟩
            rw [u069]
            exact .inl ⟨n, c, b, hm, hρ, rfl, hi0, by omega⟩
          · refine ⟨_, _, hx, by simp only [execOp, ho, hev, Sem.run_bind, u178 hu hf hi hne, Result.andThen_ok, Sem.run_pure] <;> rfl, ?_⟩
            rw [u069, Nat.add_assoc]
            exact .inr ⟨e', c, b, cap, hm, hρ, hcap, rfl, hi', by omega⟩
        · rename_i c i' o' s he
          obtain ⟨hb, hx⟩ := u006 hx
          simp only [Bool.and_eq_true] at hb
          have hb1 := Nat.le_of_ble_eq_true hb.1
          rw [he] at hv
          obtain ⟨b, off, rs, hev, hn, hbb, hcr, hcell, hi', hos⟩ := hv
          refine ⟨_, _, hx, by simp only [execOp, ho, hev, Sem.run_bind, u178 hu hf hi hne, Result.andThen_ok, Sem.run_pure] <;> rfl, ?_⟩
          rw [u069]
          exact ⟨b, off, rs, by rw [Nat.add_assoc, Nat.add_assoc], hn, hbb, hcr, hcell, hi', by omega⟩
        · cases hx
      · cases hx
    · cases hx
  · cases hx
theorem extract_bv {α : Type} (vs : List α) (o s : Nat) : (vs.toArray.extract o (o + s)) = (sub vs o s).toArray := by
  apply Array.ext'
  simp [sub, List.take_drop]
theorem u229 {t : TypeId} {d : D} {i : TypeInfo} (hd : DR P t d) (hi : P.info? t = some i) (hag : d.agg = true) (vs : List Value) (off : Nat) :
    (part t vs.toArray off).run P w = .ok (.agg (sub vs off i.size).toArray) w := by
  unfold part
  rw [Sem.run_bind, u117 hd w, Result.andThen_ok, hag]
  simp only [if_true, Sem.run_bind, u050 hi w, Result.andThen_ok, Sem.run_pure, extract_bv]
theorem u151 {t : TypeId} {d : D} (hd : DR P t d) (hag : d.agg = false) (vs : List Value) (off : Nat) {r : Value} (hr : vs[off]? = some r) :
    (part t vs.toArray off).run P w = .ok r w := by
  unfold part
  rw [Sem.run_bind, u117 hd w, Result.andThen_ok, hag]
  have : vs.toArray[off]? = some r := by simpa using hr
  simp [this]
theorem partK_ok (hT : TTok P tt) {ft : TypeId} {tf : TI} (hl : look tt ft = some tf) {u : V} {off : Nat} {k : V → Option R} {x : R} (hx : partK tf u off k = some x) {r : Value} (hv : VR w ρ σ.mem u r) (hb : off + tf.size ≤ u.sz) :
    ∃ z q cs, k z = some x ∧ r = .agg cs ∧ (part ft cs off).run P w = .ok q w ∧ VR w ρ σ.mem z q := by
  obtain ⟨⟨i, hi, hsz, _⟩, hd, h1, hpos⟩ := hT _ _ hl
  unfold partK at hx
  split at hx
  · rename_i n xs
    obtain ⟨hln, rfl⟩ := u174 hv
    have hbb : off + tf.size ≤ n := hb
    split at hx
    · rename_i hdd
      rw [hdd] at hd
      refine ⟨_, _, _, hx, rfl, u151 hd rfl _ _ (iv_get .i64 xs off ?_), rfl⟩
      omega
    · rename_i fs hdd
      rw [hdd] at hd
      refine ⟨_, _, _, hx, rfl, u229 hd hi rfl _ _, ?_⟩
      rw [hsz, ← hln, u091]
      exact ⟨u024 xs _ _ (by omega), by rw [u167]⟩
    · rename_i m e hdd
      rw [hdd] at hd
      refine ⟨_, _, _, hx, rfl, u229 hd hi rfl _ _, ?_⟩
      rw [hsz, ← hln, u091]
      exact ⟨u024 xs _ _ (by omega), by rw [u167]⟩
    · cases hx
  · rename_i n bs
    obtain ⟨hln, rfl⟩ := VR_bools hv
    have hbb : off + tf.size ≤ n := hb
    split at hx
    · rename_i hdd
      rw [hdd] at hd
      refine ⟨_, _, _, hx, rfl, u151 hd rfl _ _ (bv_get bs off ?_), rfl⟩
      omega
    · cases hx
  · rename_i vs
    obtain ⟨rs, rfl, h2⟩ := hv
    obtain ⟨ha, hx⟩ := u051 hx
    have hlt : off < vs.length := by have : off + tf.size ≤ vs.length := hb; omega
    obtain ⟨q, hq, hvq⟩ := selV_get h2 (i := off) (by rw [← u043 h2]; exact hlt)
    exact ⟨_, _, _, hx, rfl, u151 hd ha _ _ hq, u080 (u133 hvq)⟩
  · cases hx
theorem field_ok (hT : TTok P tt) {o : Oper} {t : TypeId} {y : Operand} {j : Nat} (ho : o.op = .field t y j) {slot : Option Nat} {k : V → Mem → List Nat → Option R} {x : R} (hI : Inv σ a w ρ)
    (hx : opK tt tab slot o σ k = some x) : Val P o a σ w ρ k x := by
  unfold opK at hx
  simp only [ho] at hx
  have hv := hI.op y
  split at hx
  · rename_i fs s0 b0 zz hl
    obtain ⟨fields, hu, hfs, _⟩ := (hT _ _ hl).desc
    split at hx
    · rename_i off ft hj
      obtain ⟨f, hf, rfl, rfl⟩ := field_get hfs hj
      split at hx
      · rename_i tf hlf
        obtain ⟨hb, hx⟩ := u006 hx
        obtain ⟨z, q, cs, hk, hr, hrun, hvq⟩ := partK_ok hT hlf hx hv (Nat.le_of_ble_eq_true hb)
        refine ⟨z, q, hk, ?_, hvq⟩
        simp only [execOp, ho, hr, Instr.field, Sem.run_bind, run_underlying hu, hf, asAgg, Sem.run_pure, Result.andThen_ok, hrun]
      · cases hx
    · cases hx
  · cases hx
theorem index_ok (hT : TTok P tt) {o : Oper} {t : TypeId} {y z : Operand} (ho : o.op = .index t y z) {slot : Option Nat} {k : V → Mem → List Nat → Option R} {x : R} (hI : Inv σ a w ρ)
    (hx : opK tt tab slot o σ k = some x) : Val P o a σ w ρ k x := by
  unfold opK at hx
  simp only [ho] at hx
  have hv := hI.op y
  have hz := hI.op z
  split at hx
  · rename_i len e s0 b0 zz hl
    have hu : P.underlying t = _ := (hT _ _ hl).desc
    split at hx
    · rename_i te hle
      obtain ⟨hb, hx⟩ := u006 hx
      have hb := Nat.le_of_ble_eq_true hb
      obtain ⟨kd, j, hzi, h0, h1, h2, hk⟩ := u085 hx
      rw [hzi] at hz
      have hz : a.eval z = .int kd j := hz
      have hmb := u127 (s := te.size) h2
      obtain ⟨v, q, cs, hk2, hr, hrun, hvq⟩ := partK_ok hT hle hk hv (by omega)
      obtain ⟨⟨ie, hie, hsz, _⟩, _, _, _⟩ := hT _ _ hle
      refine ⟨v, q, hk2, ?_, hvq⟩
      simp only [execOp, ho, hr, hz, Instr.index, asIntOf, Sem.run_bind, run_underlying hu, Sem.run_pure, Result.andThen_ok, Sem.run_ite, h0, h1, and_self, if_true, u050 hie, hsz, hrun]
    · cases hx
  · cases hx
theorem VG_okCap {mem : Mem} {v : V} {r : Value} (h : VR w ρ mem v r) (hf : okCap mem v = true) : VG w ρ mem v r := by
  cases v with
  | ptr x i o s =>
    unfold okCap at hf
    simp only at hf
    split at hf
    · rename_i n c hm
      rcases (h : PtrR ρ mem x i o s r) with h | ⟨e, c', b, cap, hm', _⟩
      · exact h
      · rw [hm] at hm'; cases hm'
    · cases hf
  | bool b => exact h
  | int k n => exact h
  | ri k xs => exact h
  | rb bs => exact h
  | rr m xss => exact h
  | z0 => exact h
  | _ => simp [okCap, V.flatG] at hf
theorem all_okCap {mem : Mem} {vs : List V} {rs : List Value} (h : All2 (VR w ρ mem) vs rs) (hf : vs.all (okCap mem) = true) : All2 (VG w ρ mem) vs rs := by
  rw [List.all_eq_true] at hf
  exact u026 h fun x y hx hp => VG_okCap hp (hf x hx)
theorem u279 {o : Oper} {f : Fn} {y z : Array Operand} (ho : o.op = .makeFunc f y z) {slot : Option Nat} {k : V → Mem → List Nat → Option R} {x : R} (hI : Inv σ a w ρ)
    (hx : opK tt tab slot o σ k = some x) : Val P o a σ w ρ k x := by
  unfold opK at hx
  cases f with
  | func g =>
    simp only [ho] at hx
    obtain ⟨hb, hx⟩ := u006 hx
    simp only [Bool.and_eq_true] at hb
    refine ⟨_, .func (.func g) (y.map a.eval) (z.map a.eval), hx, ?_, ⟨(y.map a.eval).toList, (z.map a.eval).toList, ?_, all_okCap (hI.ops y) hb.1, all_okCap (hI.ops z) hb.2⟩⟩
    · simp only [execOp, ho, Instr.makeFunc, Sem.run_bind, Sem.run_pure, Result.andThen_ok]
    · rw [Array.toArray_toList, Array.toArray_toList]
  | _ => simp [ho] at hx
theorem len_spec {mem : Mem} {v : V} {n : Nat} (hl : v.len = some n) {r : Value} (h : VR w ρ mem v r) : ∃ ad c, r = .slice ad n c := by
  cases v with
  | sl x off m =>
    simp only [V.len, Option.some.injEq] at hl
    subst hl
    obtain ⟨e, c, ao, cap, _, _, _, hv⟩ := h
    rcases hv with ⟨_, rfl⟩ | ⟨_, a', cap', rfl, _⟩
    · exact ⟨_, _, rfl⟩
    · exact ⟨_, _, rfl⟩
  | asl x o s m =>
    simp only [V.len, Option.some.injEq] at hl
    subst hl
    obtain ⟨_, _, _, _, _, _, _, a', cap', rfl, _⟩ := h
    exact ⟨_, _, rfl⟩
  | z0 =>
    simp only [V.len, Option.some.injEq] at hl
    subst hl
    obtain ⟨a', rfl⟩ := h
    exact ⟨_, _, rfl⟩
  | ri k xs =>
    simp only [V.len, Option.some.injEq] at hl
    subst hl
    obtain ⟨a', cap', rfl, _⟩ := h
    exact ⟨_, _, rfl⟩
  | rb xs =>
    simp only [V.len, Option.some.injEq] at hl
    subst hl
    obtain ⟨a', cap', rfl, _⟩ := h
    exact ⟨_, _, rfl⟩
  | rr m xs =>
    simp only [V.len, Option.some.injEq] at hl
    subst hl
    obtain ⟨_, a', cap', rfl, _⟩ := h
    exact ⟨_, _, rfl⟩
  | rl k xs =>
    simp only [V.len, Option.some.injEq] at hl
    subst hl
    obtain ⟨rs, ⟨a', cap', rfl, _⟩, _⟩ := h
    exact ⟨_, _, rfl⟩
  | rv xs =>
    simp only [V.len, Option.some.injEq] at hl
    subst hl
    obtain ⟨rs, ⟨a', cap', rfl, _⟩, _⟩ := h
    exact ⟨_, _, rfl⟩
  | _ => simp [V.len] at hl
theorem u137 {xs : Array Operand} {v : V} (h : u057 σ xs = [v]) : ∃ y, xs = #[y] ∧ evO σ y = v := by
  unfold u057 at h
  rcases hl : xs.toList with _ | ⟨y, _ | ⟨z, r⟩⟩
  · rw [hl] at h; cases h
  · rw [hl] at h
    simp only [List.map_cons, List.map_nil, List.cons.injEq, and_true] at h
    exact ⟨y, by apply Array.ext'; simpa using hl, h⟩
  · rw [hl] at h; simp at h
theorem opVals_two {xs : Array Operand} {u v : V} (h : u057 σ xs = [u, v]) : ∃ y z, xs = #[y, z] ∧ evO σ y = u ∧ evO σ z = v := by
  unfold u057 at h
  rcases hl : xs.toList with _ | ⟨y, _ | ⟨z, _ | ⟨q, r⟩⟩⟩
  · rw [hl] at h; cases h
  · rw [hl] at h; simp at h
  · rw [hl] at h
    simp only [List.map_cons, List.map_nil, List.cons.injEq, and_true] at h
    exact ⟨y, z, by apply Array.ext'; simpa using hl, h.1, h.2⟩
  · rw [hl] at h; simp at h
theorem u077 {o : Oper} {c : Call} (ho : o.op = .call c) {b : Builtin} (hb : c.callee = .builtin b) (w : World) :
    (execOp a.eval o).run P w = (builtin b c.argTypes o.type (c.args.map fun | .const _ => true | _ => false) (c.args.map a.eval)).run P w := by
  simp only [execOp, ho, resolve, hb, Sem.run_bind, Sem.run_pure, Result.andThen_ok, invoke]
  rfl
theorem vals_len (c : MC) : c.vals.length = c.len := by cases c <;> simp [MC.vals, MC.len]
theorem len_ok (hT : TTok P tt) {o : Oper} {c : Call} (ho : o.op = .call c) (hb : c.callee = .builtin .len) {slot : Option Nat} {k : V → Mem → List Nat → Option R} {x : R} (hI : Inv σ a w ρ)
    (hx : opK tt tab slot o σ k = some x) : Val P o a σ w ρ k x := by
  unfold opK at hx
  simp only [ho, hb] at hx
  split at hx
  · rename_i t ht
    split at hx
    · -- an array
      rename_i len e s0 b0 zz hl
      have hu : P.underlying t = _ := (hT _ _ hl).desc
      split at hx
      · rename_i v hv
        obtain ⟨y, hy, rfl⟩ := u137 hv
        refine ⟨_, _, hx, ?_, rfl⟩
        rw [u077 ho hb, hy]
        simp [builtin, Builtin.len_, ht, run_underlying hu, goInt]
      · cases hx
    · rename_i e s0 b0 zz hl
      have hu : P.underlying t = _ := (hT _ _ hl).desc
      split at hx
      · rename_i v hv
        obtain ⟨y, hy, rfl⟩ := u137 hv
        split at hx
        · rename_i n hn
          obtain ⟨ad, cc, hev⟩ := len_spec hn (hI.op y)
          refine ⟨_, _, hx, ?_, rfl⟩
          rw [u077 ho hb, hy]
          simp [builtin, Builtin.len_, ht, run_underlying hu, goInt, hev]
        · cases hx
      · cases hx
    · rename_i kt e s0 b0 zz hl
      have hu : P.underlying t = _ := (hT _ _ hl).desc
      split at hx
      · rename_i h hv
        obtain ⟨y, hy, hye⟩ := u137 hv
        split at hx
        · rename_i n' kvs hm
          have hvy := hI.op y
          rw [hye] at hvy
          obtain ⟨n'', kvs', b, hm', hρ, hev⟩ := hvy
          rw [hm] at hm'
          cases hm'
          have hbk := hI.wr.blk h _ hρ
          rw [hm] at hbk
          obtain ⟨r, es, clock, hrl, hheap, h2⟩ := hbk
          cases hrl
          refine ⟨_, _, hx, ?_, rfl⟩
          rw [u077 ho hb, hy]
          have hlen : es.size = kvs.len := by rw [← vals_len kvs]; simpa using (u043 h2).symm
          have hg : (getObj b).run P w = .ok (.map es clock) w := by simp [getObj, Sem.run, hheap]
          simp [builtin, Builtin.len_, ht, run_underlying hu, goInt, hev, hg, hlen]
        · cases hx
      · cases hx
    · cases hx
  · cases hx
theorem minmax_ok {mx : Bool} {k : V → Option R} {x : R} : ∀ {vs : List V} {v : V} {rs : List Value} {r : Value}, minmax mx k v vs = some x → VR w ρ σ.mem v r → All2 (VR w ρ σ.mem) vs rs →
    ∃ z q, k z = some x ∧ (rs.foldlM (bif mx then Builtin.max2 else Builtin.min2) r).run P w = .ok q w ∧ VR w ρ σ.mem z q := by
  intro vs
  induction vs with
  | nil =>
    intro v rs r h hv h2
    cases h2
    unfold minmax at h
    split at h
    · exact ⟨_, _, h, by simp, hv⟩
    · simp_all
    · cases h
  | cons u vs ih =>
    intro v rs r h hv h2
    unfold minmax at h
    cases h2 with
    | cons hp h2 =>
      rename_i yv ys'
      split at h
      · simp_all
      · rename_i kd y kd' z rr heq
        simp only [List.cons.injEq] at heq
        obtain ⟨e1, e2⟩ := heq
        subst e1
        subst e2
        obtain ⟨ek, h3⟩ := u039 h
        subst ek
        have hv : r = .int kd y := hv
        have hp : yv = .int kd z := hp
        subst hv; subst hp
        obtain ⟨q, q', hk, hrun, hvq⟩ := ih (r := .int kd (bif mx then (if z > y then z else y) else (if z < y then z else y))) h3 rfl h2
        refine ⟨q, q', hk, ?_, hvq⟩
        rw [List.foldlM_cons]
        cases mx
        · simpa [Builtin.min2] using hrun
        · simpa [Builtin.max2] using hrun
      · cases h
theorem mm_ok {o : Oper} {c : Call} (ho : o.op = .call c) (hb : c.callee = .builtin .max ∨ c.callee = .builtin .min) {slot : Option Nat} {k : V → Mem → List Nat → Option R} {x : R} (hI : Inv σ a w ρ)
    (hx : opK tt tab slot o σ k = some x) : Val P o a σ w ρ k x := by
  unfold opK at hx
  have h2 := hI.ops c.args
  rcases hb with hb | hb
  all_goals
    simp only [ho, hb] at hx
    split at hx
    · rename_i v r hv
      rw [hv] at h2
      generalize hrs : (c.args.map a.eval).toList = rs at h2
      cases h2 with
      | cons hp h2 =>
        rename_i ys y
        obtain ⟨z, q, hk, hrun, hvq⟩ := minmax_ok (P := P) hx hp h2
        refine ⟨z, q, hk, ?_, hvq⟩
        rw [u077 ho hb]
        simp only [builtin, Builtin.max_, Builtin.min_, hrs, Sem.run_bind, Sem.run_pure, Result.andThen_ok]
        simp only [cond_true, cond_false] at hrun
        rw [hrun]
        rfl
    · cases hx
theorem u287 {v : Option V} {dflt n : Nat} {k : Nat → Option R} {x : R} (h : u098 v dflt n k = some x) :
    (v = none ∧ k dflt = some x) ∨ ∃ kd i, v = some (.int kd i) ∧ 0 ≤ i ∧ i ≤ n ∧ i.toNat ≤ n ∧ k i.toNat = some x := by
  unfold u098 at h
  split at h
  · exact .inl ⟨rfl, h⟩
  · rename_i kd i
    obtain ⟨h1, h2⟩ := u006 h
    obtain ⟨a, b, c⟩ := inLe_spec h1
    exact .inr ⟨kd, i, rfl, a, b, c, h2⟩
  · cases h
theorem u079 {sl : Bool} {n cap : Nat} {lo hi : Option Operand} (hI : Inv σ a w ρ) (hnn : n ≤ cap)
    {k : Nat → Nat → Option R} {x : R} (hx : (u098 (hi.map (evO σ)) n n fun b => u098 (lo.map (evO σ)) 0 b fun aa => k aa b) = some x) :
    ∃ l h, l ≤ h ∧ h ≤ n ∧ k l h = some x ∧ (Instr.sliceBounds sl n cap (lo.map a.eval) (hi.map a.eval) none).run P w = .ok (l, h, cap) w := by
  have lower : ∀ (b : Nat), b ≤ n → (u098 (lo.map (evO σ)) 0 b fun aa => k aa b) = some x → ∃ l, l ≤ b ∧ k l b = some x ∧
      ((lo = none ∧ l = 0) ∨ ∃ y kd, ∃ i : Int, lo = some y ∧ a.eval y = .int kd i ∧ 0 ≤ i ∧ i ≤ (b : Int) ∧ i.toNat = l) := by
    intro b hb h
    rcases u287 h with ⟨h1, h2⟩ | ⟨kd, i, h1, h2, h3, h4, h5⟩
    · cases lo with
      | none => exact ⟨0, Nat.zero_le _, h2, .inl ⟨rfl, rfl⟩⟩
      | some y => simp at h1
    · cases lo with
      | none => simp at h1
      | some y =>
        simp only [Option.map_some, Option.some.injEq] at h1
        have hv := hI.op y
        rw [h1] at hv
        have hv : a.eval y = .int kd i := hv
        exact ⟨i.toNat, h4, h5, .inr ⟨y, kd, i, rfl, hv, h2, h3, rfl⟩⟩
  have fin : ∀ (hv : Option Value) (b l : Nat), ((hv = none ∧ b = n) ∨ ∃ kd, ∃ i : Int, hv = some (.int kd i) ∧ 0 ≤ i ∧ i ≤ (cap : Int) ∧ i.toNat = b) →
      ((lo = none ∧ l = 0) ∨ ∃ y kd, ∃ i : Int, lo = some y ∧ a.eval y = .int kd i ∧ 0 ≤ i ∧ i ≤ (b : Int) ∧ i.toNat = l) →
      (Instr.sliceBounds sl n cap (lo.map a.eval) hv none).run P w = .ok (l, b, cap) w := by
    intro hv b l h1 h2
    rcases h1 with ⟨rfl, rfl⟩ | ⟨kd, i, rfl, g1, g2, rfl⟩
    · rcases h2 with ⟨rfl, rfl⟩ | ⟨y, kd, i, rfl, g3, g4, g5, rfl⟩
      · simp [Instr.sliceBounds]
      · simp [Instr.sliceBounds, Instr.sliceBound, g3, asIntOf, g4, g5]
    · rcases h2 with ⟨rfl, rfl⟩ | ⟨y, kd', i', rfl, g3, g4, g5, rfl⟩
      · simp [Instr.sliceBounds, Instr.sliceBound, asIntOf, g1, g2]
      · have : i' ≤ (i.toNat : Int) := g5
        simp [Instr.sliceBounds, Instr.sliceBound, asIntOf, g1, g2, g3, g4]
        omega
  rcases u287 hx with ⟨h1, h2⟩ | ⟨kd, i, h1, h2, h3, h4, h5⟩
  · cases hi with
    | some y => simp at h1
    | none =>
      obtain ⟨l, hl, hk, hr⟩ := lower n (Nat.le_refl _) h2
      exact ⟨l, n, hl, Nat.le_refl _, hk, fin _ n l (.inl ⟨rfl, rfl⟩) hr⟩
  · cases hi with
    | none => simp at h1
    | some y =>
      simp only [Option.map_some, Option.some.injEq] at h1
      have hv := hI.op y
      rw [h1] at hv
      have hv : a.eval y = .int kd i := hv
      obtain ⟨l, hl, hk, hr⟩ := lower i.toNat h4 h5
      exact ⟨l, i.toNat, hl, h4, hk, fin _ i.toNat l (.inr ⟨kd, i, by rw [Option.map_some, hv], h2, by omega, rfl⟩) hr⟩
theorem RoR_part {mem : Mem} {cells : List Value} {wd n : Nat} {ao : Option Addr} {cap : Nat} (h : RoR w ρ mem cells wd n (.slice ao n cap)) {l b : Nat} (hl : l ≤ b) (hb : b ≤ n) :
    RoR w ρ mem (sub cells (l * wd) ((b - l) * wd)) wd (b - l) (.slice (if cap = l then ao else ao.map (·.add (l * wd))) (b - l) (cap - l)) := by
  obtain ⟨a', cap', he, hnc, hlen, hc⟩ := h
  cases he
  have hle : l * wd + (b - l) * wd ≤ cells.length := by
    rw [hlen, ← Nat.add_mul]
    exact Nat.mul_le_mul_right _ (by omega)
  refine ⟨_, _, rfl, by omega, u024 _ _ _ hle, fun hne => ?_⟩
  obtain ⟨bb, off, rfl, hn, hbb, hcell⟩ := hc (by omega)
  rw [if_neg (by omega)]
  refine ⟨bb, off + l * wd, by rw [Option.map_some, u069], hn, hbb, fun j v hv => ?_⟩
  have := hcell _ v (u222 _ _ _ j v hv)
  rwa [Nat.add_assoc]
theorem u052 {t e : TypeId} {i : TypeInfo} (hu : P.underlying t = some (.slice e)) (hi : P.info? e = some i) {ao : Option Addr} {n cap l h : Nat} {lo hi' : Option Value}
    (hb : (Instr.sliceBounds true n cap lo hi' none).run P w = .ok (l, h, cap) w) :
    (Instr.sliceAt t (.slice ao n cap) lo hi' none).run P w = .ok (.slice (if cap = l then ao else ao.map (·.add (l * i.size))) (h - l) (cap - l)) w := by
  simp only [Instr.sliceAt, Sem.run_bind, run_underlying hu, Result.andThen_ok, Instr.slice, hb, u050 hi, Sem.run_pure]
theorem u255 {t e : TypeId} {i : TypeInfo} {m : Nat} (hu : P.underlying t = some (.array m e)) (hi : P.info? e = some i) {ad : Addr} {l h : Nat} {lo hi' : Option Value}
    (hb : (Instr.sliceBounds false m m lo hi' none).run P w = .ok (l, h, m) w) :
    (Instr.sliceAt t (.pointer (some ad)) lo hi' none).run P w = .ok (.slice (some (if m = l then ad else ad.add (l * i.size))) (h - l) (m - l)) w := by
  simp only [Instr.sliceAt, Sem.run_bind, run_underlying hu, Result.andThen_ok, Instr.sureAddr, hb, u050 hi, Sem.run_pure]
theorem u149 (m : Nat) (xss : List (List Int)) (h : ∀ xs ∈ xss, xs.length = m) (l n : Nat) : (sub xss l n).flatten = sub xss.flatten (l * m) (n * m) := by
  have hd : ∀ (xss : List (List Int)), (∀ xs ∈ xss, xs.length = m) → ∀ l, (xss.drop l).flatten = xss.flatten.drop (l * m) := by
    intro xss
    induction xss with
    | nil => intro _ l; simp
    | cons x r ih =>
      intro h l
      cases l with
      | zero => simp
      | succ l =>
        rw [List.drop_succ_cons, ih (fun y hy => h y (by simp [hy])), List.flatten_cons, Nat.add_mul, Nat.one_mul, Nat.add_comm, ← List.drop_drop, ← h x (by simp), List.drop_left]
  have ht : ∀ (xss : List (List Int)), (∀ xs ∈ xss, xs.length = m) → ∀ l, (xss.take l).flatten = xss.flatten.take (l * m) := by
    intro xss
    induction xss with
    | nil => intro _ l; simp
    | cons x r ih =>
      intro h l
      cases l with
      | zero => simp
      | succ l =>
        have hx := h x (by simp)
        rw [List.take_succ_cons, List.flatten_cons, List.flatten_cons, ih (fun y hy => h y (by simp [hy])), Nat.add_mul, Nat.one_mul, Nat.add_comm, ← hx, List.take_append, List.take_of_length_le (Nat.le_add_right _ _), Nat.add_sub_cancel_left]
  unfold sub
  rw [ht _ (fun xs hx => h xs (List.mem_of_mem_drop hx)), hd _ h]
theorem all2_drop {α β : Type} {p : α → β → Prop} {xs : List α} {ys : List β} (h : All2 p xs ys) : ∀ n, All2 p (xs.drop n) (ys.drop n) := by
  induction h with
  | nil => intro n; simp; exact .nil
  | cons hp h ih => intro n; cases n with
    | zero => exact .cons hp h
    | succ n => exact ih n
theorem all2_take {α β : Type} {p : α → β → Prop} {xs : List α} {ys : List β} (h : All2 p xs ys) : ∀ n, All2 p (xs.take n) (ys.take n) := by
  induction h with
  | nil => intro n; simp; exact .nil
  | cons hp h ih => intro n; cases n with
    | zero => exact .nil
    | succ n => exact .cons hp (ih n)
theorem all2_sub {α β : Type} {p : α → β → Prop} {xs : List α} {ys : List β} (h : All2 p xs ys) (o s : Nat) : All2 p (sub xs o s) (sub ys o s) := all2_take (all2_drop h o) s
theorem isZ_spec {v : Option V} (h : isZ v = true) : ∃ kd, v = some (.int kd 0) := by
  unfold isZ at h
  split at h
  · rename_i kd i
    have : i = 0 := by simpa using h
    subst this
    exact ⟨kd, rfl⟩
  · cases h
theorem isZ_op {y : Option Operand} (hI : Inv σ a w ρ) (h : isZ (y.map (evO σ)) = true) : ∃ kd, y.map a.eval = some (.int kd 0) := by
  obtain ⟨kd, hk⟩ := isZ_spec h
  cases y with
  | none => simp at hk
  | some y =>
    simp only [Option.map_some, Option.some.injEq] at hk
    have hv := hI.op y
    rw [hk] at hv
    exact ⟨kd, congrArg some hv⟩
theorem u073 {o : Oper} {t : TypeId} {y : Operand} {lo hi mx : Option Operand} (ho : o.op = .slice t y lo hi mx) {r : Value} (h : (Instr.sliceAt t (a.eval y) (lo.map a.eval) (hi.map a.eval) (mx.map a.eval)).run P w = .ok r w) :
    (execOp a.eval o).run P w = .ok (.value r) w := by
  simp only [execOp, ho, Sem.run_bind, h, Result.andThen_ok, Sem.run_pure]
theorem slice_ok (hT : TTok P tt) {o : Oper} {t : TypeId} {y : Operand} {lo hi mx : Option Operand} (ho : o.op = .slice t y lo hi mx) {slot : Option Nat} {k : V → Mem → List Nat → Option R} {x : R} (hI : Inv σ a w ρ)
    (hx : opK tt tab slot o σ k = some x) : Val P o a σ w ρ k x := by
  unfold opK at hx
  simp only [ho] at hx
  have hv := hI.op y
  unfold sliceK at hx
  split at hx
  · -- three indexes, all 0
    rename_i m hmx
    obtain ⟨hb, hx⟩ := u006 hx
    simp only [Bool.and_eq_true] at hb
    obtain ⟨⟨hz1, hz2⟩, hz3⟩ := hb
    rw [← hmx] at hz1
    split at hx
    · rename_i e s0 b0 zz hl
      have hu : P.underlying t = _ := (hT _ _ hl).desc
      split at hx
      case h_2 => cases hx
      rename_i te hle
      split at hx
      · rename_i n hn
        obtain ⟨ad, cc, hev⟩ := len_spec hn hv
        obtain ⟨k1, h1⟩ := isZ_op hI hz1
        obtain ⟨k2, h2⟩ := isZ_op hI hz2
        obtain ⟨⟨i, hi', hsz, _⟩, _, _, _⟩ := hT _ _ hle
        have hlo : lo.map a.eval = none ∨ ∃ k3, lo.map a.eval = some (.int k3 0) := by
          cases lo with
          | none => exact .inl rfl
          | some q =>
            have hz3' : isZ ((some q : Option Operand).map (evO σ)) = true := hz3
            exact .inr (isZ_op hI hz3')
        refine ⟨.z0, .slice (if (0 : Nat) = 0 then ad else none) 0 0, hx, u073 ho ?_, ⟨ad, by simp⟩⟩
        rcases hlo with h3 | ⟨k3, h3⟩
        · simp [h1, h2, h3, hev, Instr.sliceAt, run_underlying hu, Instr.slice, Instr.sliceBounds, Instr.sliceBound, asIntOf, u050 hi']
        · simp [h1, h2, h3, hev, Instr.sliceAt, run_underlying hu, Instr.slice, Instr.sliceBounds, Instr.sliceBound, asIntOf, u050 hi']
      · cases hx
    · cases hx
  · rename_i hmx
    have hmx : mx = none := by cases mx <;> simp at hmx ⊢
    subst hmx
    split at hx
    · rename_i e s0 b0 zz hl
      have hu : P.underlying t = _ := (hT _ _ hl).desc
      split at hx
      · rename_i te hle
        obtain ⟨⟨i, hi', hsz, _⟩, _, _, hpos⟩ := hT _ _ hle
        split at hx
        · rename_i h off n he
          rw [he] at hv
          split at hx
          · rename_i e' c hm
            obtain ⟨hb, hx⟩ := u006 hx
            have hb := u031 hb
            obtain ⟨e'', c', ao, cap, hm', hρ, hle', hvv⟩ := hv
            rw [hm] at hm'
            cases hm'
            have hbk := hI.wr.blk h _ hρ
            rw [hm] at hbk
            obtain ⟨a2, cap2, hrl, hcl, hc⟩ := hbk
            cases hrl
            have hbase : cap ≠ 0 → ∃ r, ao = some ⟨r, 0, none⟩ := fun hne => by
              rcases hc with ⟨h0, _⟩ | ⟨r, cur, _, rfl, _⟩
              · exact absurd h0 hne
              · exact ⟨r, rfl⟩
            rcases hvv with ⟨rfl, hev⟩ | ⟨hoff, a', cap', hev, hnc', hh⟩
            · obtain ⟨l, b, h1, h2, hk, hrun⟩ := u079 (P := P) (sl := true) hI (n := n) (cap := cap) (by omega) hx
              refine ⟨_, _, hk, u073 ho (by rw [hev]; exact u052 hu hi' hrun), ?_⟩
              refine ⟨e', c, ao, cap, hm, hρ, by omega, ?_⟩
              by_cases hl0 : l = 0
              · subst hl0
                refine .inl ⟨by simp, ?_⟩
                congr 1
                · split
                  · rfl
                  · rename_i hc0
                    obtain ⟨r, rfl⟩ := hbase hc0
                    simp [Addr.add]
              · refine .inr ⟨by simpa using hl0, _, _, rfl, by omega, fun hne => ?_⟩
                obtain ⟨r, rfl⟩ := hbase (by omega)
                refine ⟨r, rfl, ?_⟩
                rw [if_neg (by omega), Option.map_some, u069, hsz, hb]
                simp
            · obtain ⟨l, b, h1, h2, hk, hrun⟩ := u079 (P := P) (sl := true) hI (n := n) (cap := cap') hnc' hx
              refine ⟨_, _, hk, u073 ho (by rw [hev]; exact u052 hu hi' hrun), ?_⟩
              refine ⟨e', c, ao, cap, hm, hρ, by omega, .inr ⟨by omega, (if cap' = l then a' else a'.map (·.add (l * i.size))), cap' - l, rfl, Nat.sub_le_sub_right (Nat.le_trans h2 hnc') l, ?_⟩⟩
              intro hne
              have hn0 : n ≠ 0 := by clear hc hbase; omega
              obtain ⟨r, rfl, ha'⟩ := hh hn0
              refine ⟨r, rfl, ?_⟩
              have hcl0 : cap' ≠ l := by clear hc hbase; omega
              rw [ha', if_neg hcl0, Option.map_some, u069, hsz, hb, Nat.add_mul]
          · cases hx
        · rename_i h oo s n he
          rw [he] at hv
          obtain ⟨hb, hx⟩ := u006 hx
          have hb := u031 hb
          obtain ⟨m, c, bb, hm, hρ, hle', hs0, a', cap', hev, hnc', hh⟩ := hv
          obtain ⟨l, b, h1, h2, hk, hrun⟩ := u079 (P := P) (sl := true) hI (n := n) (cap := cap') hnc' hx
          refine ⟨_, _, hk, u073 ho (by rw [hev]; exact u052 hu hi' hrun), ?_⟩
          have hmul : l * s + (b - l) * s ≤ n * s := by rw [← Nat.add_mul]; exact Nat.mul_le_mul_right _ (by omega)
          refine ⟨m, c, bb, hm, hρ, by omega, hs0, _, _, rfl, by omega, fun hne => ?_⟩
          have ha' := hh (by omega)
          rw [ha', if_neg (by omega), Option.map_some, u069, hsz, hb]
        · rename_i kd xs he
          rw [he] at hv
          obtain ⟨hb, hx⟩ := u006 hx
          have hb := u031 hb
          have hro : RoR w ρ σ.mem (iv kd xs) 1 xs.length (a.eval y) := hv
          obtain ⟨ao, cap, hev, hnc, hrest⟩ := hro
          obtain ⟨l, b, h1, h2, hk, hrun⟩ := u079 (P := P) (sl := true) hI (n := xs.length) (cap := cap) hnc hx
          refine ⟨_, _, hk, u073 ho (by rw [hev]; exact u052 hu hi' hrun), ?_⟩
          have := RoR_part (w := w) (ρ := ρ) (mem := σ.mem) (l := l) (b := b) (ao := ao) (cap := cap) (wd := 1) (n := xs.length) (cells := iv kd xs) ⟨ao, cap, rfl, hnc, hrest⟩ h1 h2
          rw [u091, hsz, hb]
          show RoR w ρ σ.mem (iv kd (sub xs l (b - l))) 1 (sub xs l (b - l)).length _
          rw [u024 xs _ _ (by omega), u167]
          simpa using this
        · rename_i xs he
          rw [he] at hv
          obtain ⟨hb, hx⟩ := u006 hx
          have hb := u031 hb
          have hro : RoR w ρ σ.mem (bv xs) 1 xs.length (a.eval y) := hv
          obtain ⟨ao, cap, hev, hnc, hrest⟩ := hro
          obtain ⟨l, b, h1, h2, hk, hrun⟩ := u079 (P := P) (sl := true) hI (n := xs.length) (cap := cap) hnc hx
          refine ⟨_, _, hk, u073 ho (by rw [hev]; exact u052 hu hi' hrun), ?_⟩
          have := RoR_part (w := w) (ρ := ρ) (mem := σ.mem) (l := l) (b := b) (ao := ao) (cap := cap) (wd := 1) (n := xs.length) (cells := bv xs) ⟨ao, cap, rfl, hnc, hrest⟩ h1 h2
          rw [u091, hsz, hb]
          show RoR w ρ σ.mem (bv (sub xs l (b - l))) 1 (sub xs l (b - l)).length _
          rw [u024 xs _ _ (by omega), bv_sub]
          simpa using this
        · rename_i m xs he
          rw [he] at hv
          obtain ⟨hb, hx⟩ := u006 hx
          have hb := u031 hb
          obtain ⟨hrows, hro⟩ := hv
          obtain ⟨ao, cap, hev, hnc, hrest⟩ := hro
          obtain ⟨l, b, h1, h2, hk, hrun⟩ := u079 (P := P) (sl := true) hI (n := xs.length) (cap := cap) hnc hx
          refine ⟨_, _, hk, u073 ho (by rw [hev]; exact u052 hu hi' hrun), ?_⟩
          have := RoR_part (w := w) (ρ := ρ) (mem := σ.mem) (l := l) (b := b) (ao := ao) (cap := cap) (wd := m) (n := xs.length) (cells := iv .i64 xs.flatten) ⟨ao, cap, rfl, hnc, hrest⟩ h1 h2
          rw [u091, hsz, hb]
          refine ⟨⟨hrows.1, fun q hq => hrows.2 q ?_⟩, ?_⟩
          · exact List.mem_of_mem_drop (List.mem_of_mem_take hq)
          · rw [u024 xs _ _ (by omega), u149 m xs hrows.2, u167]
            exact this
        · rename_i xs he
          rw [he] at hv
          obtain ⟨hb, hx⟩ := u006 hx
          have hb := u031 hb
          obtain ⟨rs, hro, h22⟩ := hv
          obtain ⟨ao, cap, hev, hnc, hrest⟩ := hro
          obtain ⟨l, b, h1, h2, hk, hrun⟩ := u079 (P := P) (sl := true) hI (n := xs.length) (cap := cap) hnc hx
          refine ⟨_, _, hk, u073 ho (by rw [hev]; exact u052 hu hi' hrun), ?_⟩
          have := RoR_part (w := w) (ρ := ρ) (mem := σ.mem) (l := l) (b := b) (ao := ao) (cap := cap) (wd := 1) (n := xs.length) (cells := rs) ⟨ao, cap, rfl, hnc, hrest⟩ h1 h2
          rw [u091, hsz, hb]
          refine ⟨sub rs l (b - l), ?_, ?_⟩
          · rw [u024 xs _ _ (by omega)]
            simpa using this
          · exact all2_sub h22 _ _
        · rename_i he
          rw [he] at hv
          obtain ⟨ao, hev⟩ := hv
          obtain ⟨l, b, h1, h2, hk, hrun⟩ := u079 (P := P) (sl := true) hI (n := 0) (cap := 0) (Nat.le_refl _) hx
          refine ⟨_, _, hk, u073 ho (by rw [hev]; exact u052 hu hi' hrun), ?_⟩
          have hb0 : b = 0 := by omega
          have hl0 : l = 0 := by omega
          subst hb0; subst hl0
          exact ⟨ao, by simp⟩
        · cases hx
      · cases hx
    · rename_i m e s0 b0 zz hl
      have hu : P.underlying t = _ := (hT _ _ hl).desc
      split at hx
      · rename_i te hle
        obtain ⟨⟨i, hi', hsz, _⟩, _, _, hpos⟩ := hT _ _ hle
        split at hx
        · rename_i h oo s he
          rw [he] at hv
          split at hx
          · rename_i N c hm
            obtain ⟨hb, hx⟩ := u006 hx
            simp only [Bool.and_eq_true] at hb
            have hb1 := Nat.le_of_ble_eq_true hb.1
            rcases (hv : PtrR ρ σ.mem h 0 oo s _) with ⟨n', c', bb, hm', hρ, hev, _, hos⟩ | ⟨e', c', bb, cap, hm', _⟩
            · rw [hm] at hm'
              cases hm'
              obtain ⟨l, b, h1, h2, hk, hrun⟩ := u079 (P := P) (sl := false) hI (n := m) (cap := m) (Nat.le_refl _) hx
              refine ⟨_, _, hk, u073 ho (by rw [hev]; exact u255 hu hi' hrun), ?_⟩
              have hmul : l * te.size + (b - l) * te.size ≤ m * te.size := by rw [← Nat.add_mul]; exact Nat.mul_le_mul_right _ (by omega)
              refine ⟨N, c, bb, hm, hρ, by omega, hpos, _, _, rfl, by omega, fun hne => ?_⟩
              rw [if_neg (by omega), u069, hsz]
            · rw [hm] at hm'; cases hm'
          · cases hx
        · cases hx
      · cases hx
    · cases hx
end
end Go.Lv
namespace Go.Lv
open Go.RowKit
variable [fr : Fr]
section
variable {P : Program} {tt : TT} {tab : Tab} {σ : St} {a : Act} {w : World} {ρ : Rho} {R : Type}
theorem u076 {α : Type} (xs : List α) (o : Nat) (ys : List α) (s : Nat) (h : o + s ≤ xs.length) (hy : ys.length = s) : (u029 xs o ys s).length = xs.length := by
  simp [u029]; omega
theorem u203 (xs : List Int) (o : Nat) (v : Int) : iset xs o v = xs.set o v := by
  induction xs generalizing o with
  | nil => rfl
  | cons x r ih => cases o <;> simp [iset, ih]
theorem bset_eq (xs : List Bool) (o : Nat) (v : Bool) : bset xs o v = xs.set o v := by
  induction xs generalizing o with
  | nil => rfl
  | cons x r ih => cases o <;> simp [bset, ih]
theorem u270 (xs : List (List Int)) (o : Nat) (v : List Int) : rset xs o v = xs.set o v := by
  induction xs generalizing o with
  | nil => rfl
  | cons x r ih => cases o <;> simp [rset, ih]
theorem tset_eq (xs : List V) (o : Nat) (v : V) : tset xs o v = xs.set o v := by
  induction xs generalizing o with
  | nil => rfl
  | cons x r ih => cases o <;> simp [tset, ih]
theorem u074 {α : Type} (xs : List α) (o : Nat) (v : α) (h : o < xs.length) : xs.set o v = u029 xs o [v] 1 := by
  unfold u029
  rw [List.set_eq_take_append_cons_drop, if_pos h]
  simp
theorem u096 (k : IntKind) (xs : List Int) (o : Nat) (ys : List Int) (s : Nat) : iv k (u029 xs o ys s) = u029 (iv k xs) o (iv k ys) s := by
  simp [iv, u029, List.map_take, List.map_drop]
theorem u221 (xs : List Bool) (o : Nat) (ys : List Bool) (s : Nat) : bv (u029 xs o ys s) = u029 (bv xs) o (bv ys) s := by
  simp [bv, u029, List.map_take, List.map_drop]
theorem u224 {α : Type} (xs : List α) (o : Nat) (ys : List α) (s : Nat) (hy : ys.length = s) : u108 xs.length xs o ys s = u029 xs o ys s := by
  unfold u108
  by_cases h1 : o = 0
  · by_cases h2 : s = xs.length
    · subst h1; subst h2; simp [u029]
    · have : Nat.beq s xs.length = false := by rw [← Bool.not_eq_true, Nat.beq_eq]; exact h2
      simp [this]
  · have : Nat.beq o 0 = false := by rw [← Bool.not_eq_true, Nat.beq_eq]; exact h1
    simp [this]
theorem u062 {α β : Type} {p : α → β → Prop} {xs xs' : List α} {ys ys' : List β} (h : All2 p xs ys) (h' : All2 p xs' ys') : All2 p (xs ++ xs') (ys ++ ys') := by
  induction h with
  | nil => exact h'
  | cons hp _ ih => exact .cons hp ih
theorem u192 {α β : Type} {p : α → β → Prop} {xs : List α} {ys : List β} {us : List α} {vs : List β} (h : All2 p xs ys) (h' : All2 p us vs) (o s : Nat) : All2 p (u029 xs o us s) (u029 ys o vs s) :=
  u062 (u062 (all2_take h o) h') (all2_drop h (o + s))
theorem u243 (off : Nat) : ∀ (vs : List Value) (i : Nat) (cs : Array Value), off + i + vs.length ≤ cs.size →
    ((vs.zipIdx i).foldl (fun (cs : Array Value) (c : Value × Nat) => cs.setIfInBounds (off + c.2) c.1) cs).toList = u029 cs.toList (off + i) vs vs.length
  | [], i, cs, h => by simp [u029]
  | v :: vs, i, cs, h => by
    have hl : off + i < cs.toList.length := by simp at h ⊢; omega
    rw [List.zipIdx_cons, List.foldl_cons, u243 off vs (i + 1) _ (by simp at h ⊢; omega)]
    simp only [Array.toList_setIfInBounds]
    unfold u029
    rw [← Nat.add_assoc]
    have e1 : (cs.toList.set (off + i) v).take (off + i + 1) = cs.toList.take (off + i) ++ [v] := by
      rw [List.set_eq_take_append_cons_drop, if_pos hl, List.take_append, List.take_take]
      simp only [List.length_take]
      rw [Nat.min_eq_right (by omega), Nat.min_eq_left (by omega), show off + i + 1 - (off + i) = 1 by omega]
      simp
    have e2 : (cs.toList.set (off + i) v).drop (off + i + 1 + vs.length) = cs.toList.drop (off + i + (v :: vs).length) := by
      rw [List.drop_set_of_lt (by omega)]
      congr 1
      simp only [List.length_cons]; omega
    rw [e1, e2]
    simp
def HB (w : World) (ρ : Rho) (mem : Mem) (z : V) (cs : Array Value) : Prop :=
  match z with
  | .ints n xs => xs.length = n ∧ cs = (iv .i64 xs).toArray
  | .bools n bs => bs.length = n ∧ cs = (bv bs).toArray
  | .agg vs => All2 (VF w ρ mem) vs cs.toList
  | _ => False
theorem VF_flat {mem : Mem} {v : V} {r : Value} (h : VR w ρ mem v r) (hf : v.flat = true) : VF w ρ mem v r := by
  cases v with
  | bool b => exact h
  | int k n => exact h
  | ri k xs => exact h
  | rb bs => exact h
  | rr m xss => exact h
  | z0 => exact h
  | rl k xss => exact h
  | rv vs => exact h
  | fn f x y => exact h
  | _ => cases hf
theorem VF_one {mem : Mem} {v : V} {r : Value} (h : VF w ρ mem v r) : r.cells = #[r] ∧ r.oneCell' = true := by
  have slc : ∀ a n c, (Value.slice a n c).cells = #[.slice a n c] ∧ (Value.slice a n c).oneCell' = true := fun _ _ _ => ⟨rfl, rfl⟩
  cases v with
  | any =>
    have h : r.oneCell' = true := h
    refine ⟨?_, h⟩
    cases r <;> first | rfl | cases h
  | bool b => rw [show r = _ from h]; exact ⟨rfl, rfl⟩
  | int k n => rw [show r = _ from h]; exact ⟨rfl, rfl⟩
  | z0 => obtain ⟨a', rfl⟩ := h; exact slc _ _ _
  | ri k xs => obtain ⟨a', c', rfl, _⟩ := h; exact slc _ _ _
  | rb bs => obtain ⟨a', c', rfl, _⟩ := h; exact slc _ _ _
  | rr m xss => obtain ⟨_, a', c', rfl, _⟩ := h; exact slc _ _ _
  | rl k xss => obtain ⟨_, ⟨a', c', rfl, _⟩, _⟩ := h; exact slc _ _ _
  | rv vs => obtain ⟨_, ⟨a', c', rfl, _⟩, _⟩ := h; exact slc _ _ _
  | fn f x y => obtain ⟨_, _, rfl, _⟩ := h; exact ⟨rfl, rfl⟩
  | ptr x i o s => obtain ⟨_, _, _, _, _, rfl, _⟩ := h; exact ⟨rfl, rfl⟩
  | _ => exact h.elim
theorem u171 {v : Value} {vs : List Value} (hv : v.cells = vs.toArray) {off s : Nat} (hs : vs.length = s) {cs : Array Value} (hb : off + s ≤ cs.size) {place : Nat → Option (Nat × Nat)} {i : Nat} (hp : place i = some (off, s)) (rest : List (Nat × Value)) :
    Instr.fill place cs ((i, v) :: rest) = Instr.fill place (u029 cs.toList off vs s).toArray rest := by
  rw [Instr.fill, hp]
  simp only
  have h1 : v.cells.size = s := by rw [hv]; simpa using hs
  rw [if_neg (by simp [h1]; omega)]
  congr 1
  apply Array.ext'
  rw [hv]
  have := u243 off vs 0 cs (by omega)
  simp only [Nat.add_zero] at this
  subst hs
  rw [← this, ← Array.foldl_toList, Array.toList_zipIdx]
theorem HB_size {mem : Mem} {z : V} {cs : Array Value} (h : HB w ρ mem z cs) : cs.size = z.sz := by
  cases z with
  | ints n xs => obtain ⟨h1, rfl⟩ := h; simpa [iv, V.sz] using h1
  | bools n bs => obtain ⟨h1, rfl⟩ := h; simpa [bv, V.sz] using h1
  | agg vs => have := u043 (show All2 _ _ _ from h); simpa [V.sz] using this.symm
  | _ => exact h.elim
theorem fill_ok {N : Nat} {place : Nat → Option (Nat × Nat)} (hI : Inv σ a w ρ) : ∀ {ps : List (Nat × Operand)} {z v : V} {cs : Array Value},
    u087 N z place (ps.map fun (i, x) => (i, evO σ x)) = some v → HB w ρ σ.mem z cs →
    ∃ cs', Instr.fill place cs (ps.map fun (i, x) => (i, a.eval x)) = some cs' ∧ HB w ρ σ.mem v cs' := by
  intro ps
  induction ps with
  | nil =>
    intro z v cs h hz
    simp only [List.map_nil, u087, Option.some.injEq] at h
    subst h
    exact ⟨cs, rfl, hz⟩
  | cons p ps ih =>
    intro z v cs h hz
    obtain ⟨i, y⟩ := p
    have hv := hI.op y
    simp only [List.map_cons, u087] at h
    split at h
    case h_2 => cases h
    rename_i off s hp
    have hsz := HB_size hz
    split at h
    · rename_i m xs x heq
      obtain ⟨hb, hh⟩ := u006 h
      clear h
      simp only [Bool.and_eq_true] at hb
      have h1 := u031 hb.1
      have h2 := Nat.blt_eq.mp hb.2
      subst h1
      rw [heq] at hv
      have hv : a.eval y = .int .i64 x := hv
      obtain ⟨hl, rfl⟩ := hz
      obtain ⟨cs', hf, hH⟩ := ih hh (cs := (iv .i64 (iset xs off x)).toArray) ⟨by rw [u203]; simpa using hl, rfl⟩
      refine ⟨cs', ?_, hH⟩
      simp only [List.map_cons]
      rw [u171 (vs := [.int .i64 x]) (by rw [hv]; rfl) rfl (by simp [iv]; omega) hp, ← hf]
      congr 2
      rw [u203, u074 _ _ _ (by omega), u096]
      rfl
    · rename_i m xs s' ys heq
      obtain ⟨hb, hh⟩ := u006 h
      clear h
      simp only [Bool.and_eq_true] at hb
      have h1 := u031 hb.1
      have h2 := Nat.le_of_ble_eq_true hb.2
      subst h1
      rw [heq] at hv
      obtain ⟨hyl, hv⟩ := u174 hv
      obtain ⟨hl, rfl⟩ := hz
      subst hl
      rw [u224 _ _ _ _ hyl] at hh
      obtain ⟨cs', hf, hH⟩ := ih hh (cs := (iv .i64 (u029 xs off ys s)).toArray) ⟨u076 _ _ _ _ h2 hyl, rfl⟩
      refine ⟨cs', ?_, hH⟩
      simp only [List.map_cons]
      rw [u171 (vs := iv .i64 ys) (by rw [hv]; rfl) (by rw [u054]; exact hyl) (by simp [iv]; omega) hp, ← hf, u096]
    · rename_i m xs x heq
      obtain ⟨hb, hh⟩ := u006 h
      clear h
      simp only [Bool.and_eq_true] at hb
      have h1 := u031 hb.1
      have h2 := Nat.blt_eq.mp hb.2
      subst h1
      rw [heq] at hv
      have hv : a.eval y = .bool x := hv
      obtain ⟨hl, rfl⟩ := hz
      obtain ⟨cs', hf, hH⟩ := ih hh (cs := (bv (bset xs off x)).toArray) ⟨by rw [bset_eq]; simpa using hl, rfl⟩
      refine ⟨cs', ?_, hH⟩
      simp only [List.map_cons]
      rw [u171 (vs := [.bool x]) (by rw [hv]; rfl) rfl (by simp [bv]; omega) hp, ← hf]
      congr 2
      rw [bset_eq, u074 _ _ _ (by omega), u221]
      rfl
    · rename_i vs
      have hsz' : cs.size = vs.length := hsz
      obtain ⟨hb, hh⟩ := u006 h
      clear h
      simp only [Bool.and_eq_true] at hb
      have h1 := u031 hb.1.1
      have h2 := Nat.blt_eq.mp hb.1.2
      subst h1
      have hvf := VF_flat hv hb.2
      obtain ⟨hc1, hc2⟩ := VF_one hvf
      have hz2 : All2 (VF w ρ σ.mem) vs cs.toList := hz
      have hcl : off < cs.toList.length := by rw [← u043 hz2]; exact h2
      obtain ⟨cs', hf, hH⟩ := ih hh (cs := (u029 cs.toList off [a.eval y] 1).toArray) (by
        show All2 _ _ _
        rw [tset_eq, u074 _ _ _ h2]
        exact u192 hz2 (.cons hvf .nil) off 1)
      refine ⟨cs', ?_, hH⟩
      simp only [List.map_cons]
      rw [u171 (vs := [a.eval y]) (s := 1) hc1 rfl (by rw [hsz']; omega) hp, ← hf]
    · cases h
theorem HB_zero {mem : Mem} {z : V} {zv : Value} (h : ZR z zv) (hz : (∃ n xs, z = .ints n xs) ∨ (∃ n bs, z = .bools n bs) ∨ ∃ vs, z = .agg vs) : ∃ cs, zv = .agg cs ∧ HB w ρ mem z cs := by
  rcases hz with ⟨n, xs, rfl⟩ | ⟨n, bs, rfl⟩ | ⟨vs, rfl⟩
  · obtain ⟨h1, rfl⟩ := h; exact ⟨_, rfl, h1, rfl⟩
  · obtain ⟨h1, rfl⟩ := h; exact ⟨_, rfl, h1, rfl⟩
  · obtain ⟨rs, rfl, h2⟩ := h
    refine ⟨_, rfl, ?_⟩
    show All2 _ _ rs
    refine u026 h2 fun x y _ hp => ?_
    cases x <;> first | exact hp | exact hp.elim | exact ⟨none, hp⟩
theorem VR_HB {mem : Mem} {z : V} {cs : Array Value} (h : HB w ρ mem z cs) : VR w ρ mem z (.agg cs) := by
  cases z with
  | ints n xs => obtain ⟨h1, rfl⟩ := h; exact ⟨h1, rfl⟩
  | bools n xs => obtain ⟨h1, rfl⟩ := h; exact ⟨h1, rfl⟩
  | agg vs => exact ⟨cs.toList, by simp, h⟩
  | _ => exact h.elim
end
end Go.Lv
