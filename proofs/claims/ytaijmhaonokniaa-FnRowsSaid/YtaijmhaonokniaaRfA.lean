/- The evaluator: types, abstract values, operations as reading programs, code with checkpoints. Definitions alone. -/
import Derived.Control
namespace Go.Rf
set_option linter.unusedVariables false
set_option linter.unusedSimpArgs false

/-! ### types and their data -/

inductive Ty where
  | int (k : IntKind)
  | bool
  | str
  | sl (m : Bool) (t : Ty)
  | pair (a b : Ty)
  | box (g : Option Nat) (t : Ty)

def Ty.den : Ty → Type
  | .int _ => Int
  | .bool => Bool
  | .str => List UInt8
  | .sl _ t => List t.den
  | .pair a b => a.den × b.den
  | .box _ t => t.den

def Ty.size : Ty → Nat
  | .pair a b => a.size + b.size
  | _ => 1

def Ty.zero : (t : Ty) → t.den
  | .int _ => (0 : Int)
  | .bool => false
  | .str => ([] : List UInt8)
  | .sl _ _ => []
  | .pair a b => (a.zero, b.zero)
  | .box _ t => t.zero

def kEq : IntKind → IntKind → Bool
  | .i8, .i8 | .i16, .i16 | .i32, .i32 | .i64, .i64 | .u8, .u8 | .u16, .u16 | .u32, .u32 | .u64, .u64 => true
  | _, _ => false

def gEq : Option Nat → Option Nat → Bool
  | none, none => true
  | some a, some b => Nat.beq a b
  | _, _ => false

theorem prod_eq {A B C D : Type} (h : A = C) (h' : B = D) : (A × B) = (C × D) := by subst h; subst h'; rfl

/-- The same shape but for the modes: then the data are the same. -/
def Ty.same : (a b : Ty) → Option (PLift (a.den = b.den))
  | .int k, .int k' => bif kEq k k' then some ⟨rfl⟩ else none
  | .bool, .bool => some ⟨rfl⟩
  | .str, .str => some ⟨rfl⟩
  | .sl _ a, .sl _ b => match Ty.same a b with | some ⟨h⟩ => some ⟨congrArg List h⟩ | none => none
  | .pair a b, .pair c d => match Ty.same a c, Ty.same b d with | some ⟨h⟩, some ⟨h'⟩ => some ⟨prod_eq h h'⟩ | _, _ => none
  | .box g a, .box g' b => bif gEq g g' then (match Ty.same a b with | some ⟨h⟩ => some ⟨h⟩ | none => none) else none
  | _, _ => none

/-- Are the modes of the second no stronger than those of the first: owned may become readable. -/
def Ty.leM : Ty → Ty → Bool
  | .sl m a, .sl m' b => (m || !m') && Ty.leM a b
  | .pair a b, .pair c d => Ty.leM a c && Ty.leM b d
  | _, _ => true

/-- Does it hold an owned row? -/
def Ty.owns : Ty → Bool
  | .sl m t => m || t.owns
  | .pair a b => a.owns || b.owns
  | _ => false

/-- Does it hold a slice? -/
def Ty.flat : Ty → Bool
  | .sl _ _ => false
  | .box _ _ => false
  | .pair a b => a.flat && b.flat
  | _ => true

/-- Does it hold no fixed variable and no function? -/
def Ty.plain : Ty → Bool
  | .sl _ t => t.plain
  | .pair a b => a.plain && b.plain
  | .box _ _ => false
  | _ => true

/-- Is an owned row in it, whose elements lead to owned rows? -/
def Ty.deep : Ty → Bool
  | .sl m t => (m && t.owns) || t.deep
  | .pair a b => a.deep || b.deep
  | _ => false

def rdA {α : Type} (z : α) (xs : List α) (i : Int) : α := xs.getD i.toNat z

def bAt (s : List UInt8) (i : Int) : Int := ((s.getD i.toNat 0).toNat : Int)

def inB (i : Int) (n : Nat) : Bool := decide (0 ≤ i) && decide (i < (n : Int))

/-! ### abstract values -/

inductive Sc where
  | undef
  | skip
  | int (k : IntKind) (n : Int)
  | bool (b : Bool)
  | str (s : List UInt8)
  | nilsl
  | nilif
  | err (some : Bool)
  | rd (soft : Bool) (t : Ty) (xs : List t.den)
  | own (id : Nat)
  | vw (id : Nat) (lo hi : Option Nat)
  | pv (id off : Nat)
  | pe (id : Nat) (i : Int) (off : Nat)
  | pr (soft : Bool) (t : Ty) (xs : List t.den) (i : Int) (off : Nat)
  | bx (soft : Bool) (g : Option Nat) (t : Ty) (x : t.den)

inductive AV where
  | one (s : Sc)
  | agg (l : List Sc)
  | tup (l : List (Bool × List Sc))

inductive Obj where
  | row (t : Ty) (xs : List t.den)
  | var (l : List Sc)

structure St where
  sl : Nat → AV
  ob : Nat → Option Obj

def nEq (a b : Nat) : Bool := Nat.beq a b

def upd {α : Type} (f : Nat → α) (i : Nat) (v : α) : Nat → α := fun j => bif nEq j i then v else f j

def updS {α : Type} : (Nat → α) → List (Nat × α) → (Nat → α)
  | f, [] => f
  | f, (i, v) :: r => updS (upd f i v) r

def St.app (s : St) (ss : List (Nat × AV)) (os : List (Nat × Option Obj)) : St := ⟨updS s.sl ss, updS s.ob os⟩

/-! ### reading programs -/

inductive Key where
  | s (i : Nat)
  | o (id : Nat)

inductive RP (α : Type) : Type 1 where
  | ret (a : α)
  | fail
  | slot (i : Nat) (k : AV → RP α)
  | obj (id : Nat) (k : Option Obj → RP α)
  | chk (b : Bool) (k : RP α)
  | split (b : Bool) (k1 k2 : RP α)
  | bnd {β : Type} (o : Option β) (k : β → RP α)

structure Upd where
  ss : List (Nat × AV)
  os : List (Nat × Option Obj)

abbrev OP := RP Upd

def RP.run {α ρ : Type} (s : St) (K : α → List Key → Option ρ) : RP α → List Key → Option ρ
  | .ret a, rs => K a rs
  | .fail, _ => none
  | .slot i k, rs => (k (s.sl i)).run s K (.s i :: rs)
  | .obj id k, rs => (k (s.ob id)).run s K (.o id :: rs)
  | .chk b k, rs => bif b then k.run s K rs else none
  | .split b k1 k2, rs => bif b then k1.run s K rs else k2.run s K rs
  | .bnd o k, rs => o.bind fun a => (k a).run s K rs

/-! ### tables -/

structure TD where
  ty : Ty
  agg : Bool
  flds : List (Nat × Nat × Bool)
  elem : Option Nat
  bytes : Nat
  eq : Bool

def lkp {α : Type} : List (Nat × α) → Nat → Option α
  | [], _ => none
  | (i, a) :: r, j => bif nEq i j then some a else lkp r j

abbrev Tab := List (Nat × TD)

inductive PK where
  | val (t : Ty)
  | io (t : Ty)
  | ptr (t : Ty)

def PK.ty : PK → Ty
  | .val t | .io t | .ptr t => t

inductive RK where
  | val (t : Ty)
  | ptr (t : Ty)

def RK.ty : RK → Ty
  | .val t | .ptr t => t

def Tys : List Ty → Type
  | [] => Unit
  | [t] => t.den
  | t :: u :: r => t.den × Tys (u :: r)

structure Sig where
  ps : List PK
  rs : List RK

def Sig.ins (g : Sig) : List Ty := g.ps.map PK.ty

def ioOf : List PK → List Ty
  | [] => []
  | .io t :: r | .ptr t :: r => t :: ioOf r
  | _ :: r => ioOf r

def Sig.outs (g : Sig) : List Ty := g.rs.map RK.ty ++ ioOf g.ps

structure Ctr where
  g : Sig
  fn : Tys g.ins → Option (Tys g.outs)

abbrev Env := List (Nat × List Ctr)

/-! ### values in and out -/

/-- A value's cells: 'c': out of an owned container, 's0': out of a soft view. -/
def explode (c s0 : Bool) : (t : Ty) → t.den → List Sc
  | .int k, n => [.int k n]
  | .bool, b => [.bool b]
  | .str, s => [.str s]
  | .sl m t, xs => [.rd (s0 || (c && m)) t xs]
  | .pair a b, x => explode c s0 a x.1 ++ explode c s0 b x.2
  | .box g t, x => [.bx s0 g t x]

/-- A value's cells, its owned rows as new objects from number f on. -/
def explodeO : (t : Ty) → t.den → Nat → List Sc × List (Nat × Option Obj) × Nat
  | .int k, n, f => ([.int k n], [], f)
  | .bool, b, f => ([.bool b], [], f)
  | .str, s, f => ([.str s], [], f)
  | .sl true t, xs, f => ([.own f], [(f, some (.row t xs))], f + 1)
  | .sl false t, xs, f => ([.rd false t xs], [], f)
  | .box g t, x, f => ([.bx false g t x], [], f)
  | .pair a b, x, f =>
    match explodeO a x.1 f with
    | (l, o, f1) => match explodeO b x.2 f1 with
      | (l', o', f2) => (l ++ l', o ++ o', f2)

def castL {a b : Ty} (h : a.den = b.den) (xs : List a.den) : List b.den := cast (congrArg List h) xs

def imp {α : Type} : (t : Ty) → List Sc → (t.den → List Sc → List Nat → RP α) → RP α
  | .int k, c :: r, K => match c with
    | .int k' n => bif kEq k k' then K n r [] else .fail
    | _ => .fail
  | .bool, c :: r, K => match c with
    | .bool b => K b r []
    | _ => .fail
  | .str, c :: r, K => match c with
    | .str s => K s r []
    | _ => .fail
  | .sl m t, c :: r, K => match c with
    | .nilsl => K [] r []
    | .own id => .obj id fun
      | some (.row t' xs) => match Ty.same t' t with
        | some ⟨h⟩ => bif Ty.leM t' t then K (castL h xs) r [id] else .fail
        | none => .fail
      | _ => .fail
    | .rd soft t' xs => bif m || soft then .fail else match Ty.same t' t with
        | some ⟨h⟩ => K (castL h xs) r []
        | none => .fail
    | _ => .fail
  | .box g t, c :: r, K => match c with
    | .bx soft g' t' x => bif soft || !gEq g' g then .fail else match Ty.same t' t with
        | some ⟨h⟩ => K (cast h x) r []
        | none => .fail
    | _ => .fail
  | .pair a b, cs, K => imp a cs fun x r i => imp b r fun y r' j => K (x, y) r' (i ++ j)
  | _, [], _ => .fail

def cut {α : Type} (lo hi : Option Nat) (xs : List α) : List α :=
  match lo, hi with
  | none, none => xs
  | some l, none => xs.drop l
  | none, some h => xs.take h
  | some l, some h => (xs.take h).drop l

/-- For reading alone: nothing is taken away. With the numbers of what is read, and: was a soft view among it? -/
def see {α : Type} : (t : Ty) → List Sc → (t.den → List Sc → List Nat → Bool → RP α) → RP α
  | .int k, c :: r, K => match c with
    | .int k' n => bif kEq k k' then K n r [] false else .fail
    | _ => .fail
  | .bool, c :: r, K => match c with
    | .bool b => K b r [] false
    | _ => .fail
  | .str, c :: r, K => match c with
    | .str s => K s r [] false
    | _ => .fail
  | .sl _ t, c :: r, K => match c with
    | .nilsl => K [] r [] false
    | .own id => .obj id fun
      | some (.row t' xs) => match Ty.same t' t with
        | some ⟨h⟩ => K (castL h xs) r [id] false
        | none => .fail
      | _ => .fail
    | .vw id lo hi => .obj id fun
      | some (.row t' xs) => match Ty.same t' t with
        | some ⟨h⟩ => K (castL h (cut lo hi xs)) r [id] false
        | none => .fail
      | _ => .fail
    | .rd soft t' xs => match Ty.same t' t with
        | some ⟨h⟩ => K (castL h xs) r [] soft
        | none => .fail
    | _ => .fail
  | .box g t, c :: r, K => match c with
    | .bx soft g' t' x => bif !gEq g' g then .fail else match Ty.same t' t with
        | some ⟨h⟩ => K (cast h x) r [] soft
        | none => .fail
    | _ => .fail
  | .pair a b, cs, K => see a cs fun x r i p => see b r fun y r' j q => K (x, y) r' (i ++ j) (p || q)
  | _, [], _ => .fail

def cells : AV → List Sc
  | .one s => [s]
  | .agg l => l
  | .tup _ => []

def ofConst : Value → Option Sc
  | .int k n => some (.int k n)
  | .bool b => some (.bool b)
  | .string s => some (.str s.data.toList)
  | .slice none 0 0 => some .nilsl
  | .nilIface => some .nilif
  | _ => none

def opd {α : Type} (x : Operand) (k : AV → RP α) : RP α :=
  match x with
  | .tmp t => .slot t k
  | .const v => match ofConst v with
    | some s => k (.one s)
    | none => match v with
      | .pointer none => k (.one .undef)
      | _ => .fail
  | _ => .fail

def opds {α : Type} : List Operand → (List AV → RP α) → RP α
  | [], k => k []
  | x :: r, k => opd x fun v => opds r fun vs => k (v :: vs)

def out (d : Option Nat) (r : AV) : OP :=
  match d with
  | some d => .ret ⟨[(d, r)], []⟩
  | none => .ret ⟨[], []⟩

def outO (d : Option Nat) (r : AV) (os : List (Nat × Option Obj)) : OP :=
  match d with
  | some d => .ret ⟨[(d, r)], os⟩
  | none => .ret ⟨[], os⟩

def mkAV {α : Type} (agg : Bool) (n : Nat) (l : List Sc) (k : AV → RP α) : RP α :=
  bif nEq l.length n then (bif agg then k (.agg l) else match l with
    | [s] => k (.one s)
    | _ => .fail) else .fail

def zeroCells : Ty → List Sc
  | .int k => [.int k 0]
  | .bool => [.bool false]
  | .str => [.str []]
  | .sl _ _ => [.nilsl]
  | .pair a b => zeroCells a ++ zeroCells b
  | .box _ _ => [.undef]

def defined : List Sc → Bool
  | [] => true
  | .undef :: _ => false
  | .skip :: _ => false
  | _ :: r => defined r

def setRange (l : List Sc) (off : Nat) (vs : List Sc) : List Sc := l.take off ++ vs ++ l.drop (off + vs.length)

/-- A part of a value written anew. -/
def wr {α : Type} : (t : Ty) → t.den → (off : Nat) → List Sc → (t.den → List Nat → RP α) → RP α
  | .pair a b, x, off, vs, K =>
    bif nEq off 0 && nEq vs.length (a.size + b.size) then imp (.pair a b) vs fun y _ i => K y i
    else bif Nat.ble (off + vs.length) a.size then wr a x.1 off vs fun y i => K (y, x.2) i
    else bif Nat.ble a.size off then wr b x.2 (off - a.size) vs fun y i => K (x.1, y) i
    else .fail
  | t, _, off, vs, K => bif nEq off 0 && nEq vs.length 1 then imp t vs fun y _ i => K y i else .fail

/-! ### operations -/

def w64 (n : Int) : Int := IntKind.i64.wrap n

def eqCells : List Sc → List Sc → Option Bool
  | [], [] => some true
  | [a], [b] => eqSc a b
  | a :: r, b :: r' => match eqSc a b, eqCells r r' with
    | some x, some y => some (x && y)
    | _, _ => none
  | _, _ => none
where
  eqSc : Sc → Sc → Option Bool
  | .int k a, .int k' b => bif kEq k k' then some (a == b) else none
  | .bool a, .bool b => some (a == b)
  | .str a, .str b => some (a == b)
  | _, _ => none

def bits (f : (n : Nat) → BitVec n → BitVec n → BitVec n) (k : IntKind) (x y : Int) : Int :=
  k.wrap (f k.bits (BitVec.ofInt k.bits x) (BitVec.ofInt k.bits y)).toNat

def arith (op : BinOp) (k : IntKind) (x y : Int) (d : Option Nat) : OP :=
  match op with
  | .add => out d (.one (.int k (k.wrap (x + y))))
  | .sub => out d (.one (.int k (k.wrap (x - y))))
  | .mul => out d (.one (.int k (k.wrap (x * y))))
  | .quo => .chk (y != 0) (out d (.one (.int k (k.wrap (x.tdiv y)))))
  | .rem => .chk (y != 0) (out d (.one (.int k (x.tmod y))))
  | .eql => out d (.one (.bool (x == y)))
  | .neq => out d (.one (.bool (x != y)))
  | .lss => out d (.one (.bool (decide (x < y))))
  | .leq => out d (.one (.bool (decide (x ≤ y))))
  | .gtr => out d (.one (.bool (decide (x > y))))
  | .geq => out d (.one (.bool (decide (x ≥ y))))
  | .and => out d (.one (.int k (bits (fun _ a b => a &&& b) k x y)))
  | .or => out d (.one (.int k (bits (fun _ a b => a ||| b) k x y)))
  | .xor => out d (.one (.int k (bits (fun _ a b => a ^^^ b) k x y)))
  | .andNot => out d (.one (.int k (bits (fun _ a b => a &&& ~~~b) k x y)))
  | .shl => .chk (decide (0 ≤ y)) (out d (.one (.int k (k.wrap (x * 2 ^ (min y.toNat k.bits))))))
  | .shr => .chk (decide (0 ≤ y)) (out d (.one (.int k (x.fdiv (2 ^ (min y.toNat k.bits))))))

def strOp (op : BinOp) (x y : List UInt8) (d : Option Nat) : OP :=
  match op with
  | .add => .chk (decide (x.length + y.length ≤ 9223372036854775807)) (out d (.one (.str (x ++ y))))
  | .eql => out d (.one (.bool (x == y)))
  | .neq => out d (.one (.bool (!(x == y))))
  | .lss => out d (.one (.bool (Op.bytesLess x y)))
  | .leq => out d (.one (.bool (Op.bytesLess x y || x == y)))
  | .gtr => out d (.one (.bool (!(Op.bytesLess x y || x == y))))
  | .geq => out d (.one (.bool (!Op.bytesLess x y)))
  | _ => .fail

def strOf (xs : List Int) : List UInt8 := xs.map fun n => UInt8.ofNat n.toNat

def isShift : BinOp → Bool
  | .shl | .shr => true
  | _ => false

def kindS : Sc → Nat
  | .int _ _ => 0
  | .bool _ => 1
  | .str _ => 2
  | _ => 4

def kindsOf : List Sc → List Nat
  | [] => []
  | c :: r => kindS c :: kindsOf r

def flatK : Ty → List Nat
  | .int _ => [0]
  | .bool => [1]
  | .str => [2]
  | .sl _ _ => [3]
  | .pair a b => flatK a ++ flatK b
  | .box _ _ => [4]

def sameNs : List Nat → List Nat → Bool
  | [], [] => true
  | a :: r, b :: r' => nEq a b && sameNs r r'
  | _, _ => false

def binop (T : Tab) (op : BinOp) (t : TypeId) (x y : AV) (d : Option Nat) : OP :=
  match x, y with
  | .one (.int k a), .one (.int k' b) => bif isShift op || kEq k k' then arith op k a b d else .fail
  | .one (.str a), .one (.str b) => strOp op a b d
  | .one (.bool a), .one (.bool b) => match lkp T t with
    | some td => match td.ty with
      | .bool => match op with
        | .eql => out d (.one (.bool (a == b)))
        | .neq => out d (.one (.bool (!(a == b))))
        | _ => .fail
      | _ => .fail
    | none => .fail
  | .agg l, .agg l' => match lkp T t with
    | some td => bif td.eq && sameNs (kindsOf l) (flatK td.ty) then match eqCells l l' with
        | some b => match op with
          | .eql => out d (.one (.bool b))
          | .neq => out d (.one (.bool (!b)))
          | _ => .fail
        | none => .fail
      else .fail
    | none => .fail
  | _, _ => .fail

def sliceBounds {α : Type} (n : Nat) (lo hi : Option Int) (k : RP α) : RP α :=
  match lo, hi with
  | none, none => k
  | none, some h => .chk (decide (0 ≤ h) && decide (h ≤ (n : Int))) k
  | some l, none => .chk (decide (0 ≤ l) && decide (l ≤ (n : Int))) k
  | some l, some h => .chk (decide (0 ≤ h) && decide (h ≤ (n : Int))) (.chk (decide (0 ≤ l) && decide (l ≤ h)) k)

def optInt {α : Type} (x : Option Operand) (k : Option Int → RP α) : RP α :=
  match x with
  | none => k none
  | some o => opd o fun
    | .one (.int _ n) => k (some n)
    | _ => .fail

def elemTy (T : Tab) (t : TypeId) : Option Ty :=
  match lkp T t with
  | some td => match td.ty with
    | .sl _ e => some e
    | _ => none
  | none => none

def isStr (T : Tab) (t : TypeId) : Bool :=
  match lkp T t with
  | some td => match td.ty with
    | .str => true
    | _ => false
  | none => false

def isU8 (T : Tab) (e : Option Nat) : Bool :=
  match e with
  | some e => match lkp T e with
    | some td => match td.ty with
      | .int .u8 => true
      | _ => false
    | none => false
  | none => false

def elemBytes (T : Tab) (t : TypeId) : Nat :=
  match lkp T t with
  | some td => match td.elem with
    | some e => match lkp T e with
      | some te => te.bytes
      | none => 0
    | none => 0
  | none => 0

def isConsec : Nat → List (Nat × Operand) → Bool
  | _, [] => true
  | i, (j, _) :: r => nEq i j && isConsec (i + 1) r

/-- Elements out of operands. -/
def elems {α : Type} (t : Ty) : List AV → (List t.den → List Nat → RP α) → RP α
  | [], K => K [] []
  | v :: r, K => imp t (cells v) fun x rest i => match rest with
    | [] => elems t r fun xs j => K (x :: xs) (i ++ j)
    | _ => .fail

def okSc : Ty → Sc → Bool
  | .sl true _, .own _ | .sl true _, .nilsl => true
  | .sl true _, _ => false
  | .sl false _, .rd _ _ _ | .sl false _, .own _ | .sl false _, .vw _ _ _ | .sl false _, .nilsl => true
  | .sl false _, _ => false
  | .box g _, .bx _ g' _ _ => gEq g' g
  | .box _ _, _ => false
  | _, _ => true

def okCells : Ty → List Sc → Bool × List Sc
  | .pair a b, l => match okCells a l with
    | (x, r) => match okCells b r with
      | (y, r') => (x && y, r')
  | t, c :: r => (okSc t c, r)
  | _, [] => (false, [])

def isPair : Ty → Bool
  | .pair _ _ => true
  | _ => false

/-- A struct's value is one of several cells. -/
def shp (t : Ty) : AV → Bool
  | .agg _ => isPair t
  | .one _ => !isPair t
  | .tup _ => false

def okArg : PK → AV → Bool
  | .val t, v => shp t v && (okCells t (cells v)).1
  | .io t, v => shp t v && (okCells t (cells v)).1
  | .ptr _, .one (.pv _ off) => nEq off 0
  | .ptr _, _ => false

def okArgs : List PK → List AV → Bool
  | [], [] => true
  | p :: ps, v :: vs => okArg p v && okArgs ps vs
  | _, _ => false

def pickC : List Ctr → List AV → Option Ctr
  | [], _ => none
  | c :: r, vs => bif okArgs c.g.ps vs then some c else pickC r vs

def consTy (t : Ty) (ts : List Ty) (x : t.den) (xs : Tys ts) : Tys (t :: ts) :=
  match ts, xs with
  | [], _ => x
  | _ :: _, xs => (x, xs)

def headTy (t : Ty) (ts : List Ty) (x : Tys (t :: ts)) : t.den :=
  match ts, x with
  | [], x => x
  | _ :: _, x => x.1

def tailTy (t : Ty) (ts : List Ty) (x : Tys (t :: ts)) : Tys ts :=
  match ts, x with
  | [], _ => ()
  | _ :: _, x => x.2

/-- Does it hold a readable slice? -/
def needR : Ty → Bool
  | .sl m t => !m || needR t
  | .pair a b => needR a || needR b
  | .box _ _ => true
  | _ => false

def anyR : List Ty → Bool
  | [] => false
  | t :: r => needR t || anyR r

/-- The numbers of the rows to which a value's slices lead, in order; 'none': an empty one that leads to none. -/
def leads : Ty → List Sc → List (Option Nat) × List Sc
  | .sl true _, c :: r => (match c with
    | .own id => ([some id], r)
    | _ => ([none], r))
  | .pair a b, cs => match leads a cs with
    | (l, r) => match leads b r with
      | (l', r') => (l ++ l', r')
  | _, cs => ([], cs.drop 1)

/-- Where an in-and-out parameter's content lies: rows, or a variable. -/
inductive Plc where
  | rows (l : List (Option Nat))
  | var (id : Nat)

/-- The arguments: their data, what is taken away, what is seen, is a soft view among that, the places of what comes back. 'hard': what is handed over for reading may come back: so it is taken away, too. -/
def argsIn {α : Type} (hard : Bool) : (ps : List PK) → List AV → (Tys (ps.map PK.ty) → List Nat → List Nat → Bool → List Plc → RP α) → RP α
  | [], [], K => K () [] [] false []
  | .val t :: ps, v :: vs, K =>
    bif hard || t.owns then
      imp t (cells v) fun x rest i => match rest with
        | [] => argsIn hard ps vs fun xs j sn sf l => K (consTy t (ps.map PK.ty) x xs) (i ++ j) sn sf l
        | _ => .fail
    else
      see t (cells v) fun x rest sn0 sf0 => match rest with
        | [] => argsIn hard ps vs fun xs j sn sf l => K (consTy t (ps.map PK.ty) x xs) j (sn0 ++ sn) (sf0 || sf) l
        | _ => .fail
  | .io t :: ps, v :: vs, K =>
      imp t (cells v) fun x rest i => match rest with
        | [] => argsIn hard ps vs fun xs j sn sf l => K (consTy t (ps.map PK.ty) x xs) (i ++ j) sn sf (.rows (leads t (cells v)).1 :: l)
        | _ => .fail
  | .ptr t :: ps, v :: vs, K => match v with
    | .one (.pv id _) => .obj id fun
      | some (.var cs) => imp t cs fun x rest i => match rest with
        | [] => argsIn hard ps vs fun xs j sn sf l => K (consTy t (ps.map PK.ty) x xs) (id :: (i ++ j)) sn sf (.var id :: l)
        | _ => .fail
      | _ => .fail
    | _ => .fail
  | _, _, _ => .fail

/-- The rows' new contents, in order. -/
def backRows : (t : Ty) → t.den → List (Option Nat) → List (Nat × Option Obj) × List (Option Nat)
  | .sl true t, xs, some id :: l => ([(id, some (.row t xs))], l)
  | .sl true _, _, none :: l => ([], l)
  | .pair a b, x, l => match backRows a x.1 l with
    | (o, l') => match backRows b x.2 l' with
      | (o', l'') => (o ++ o', l'')
  | _, _, l => ([], l)

/-- What comes back into the places. -/
def outsBack : (ps : List PK) → List Plc → Tys (ioOf ps) → Nat → Option (List (Nat × Option Obj) × Nat)
  | [], [], _, f => some ([], f)
  | .val _ :: ps, l, x, f => outsBack ps l x f
  | .io t :: ps, p :: l, x, f => match p with
    | .rows ids => match outsBack ps l (tailTy t (ioOf ps) x) f with
      | some (os, f') => some ((backRows t (headTy t (ioOf ps) x) ids).1 ++ os, f')
      | none => none
    | _ => none
  | .ptr t :: ps, p :: l, x, f => match p with
    | .var id => match explodeO t (headTy t (ioOf ps) x) f with
      | (cs, o, f1) => match outsBack ps l (tailTy t (ioOf ps) x) f1 with
        | some (os, f2) => some ((id, some (.var cs)) :: (o ++ os), f2)
        | none => none
    | _ => none
  | _, _, _, _ => none

def hasN (n : Nat) : List Nat → Bool
  | [] => false
  | m :: r => nEq n m || hasN n r

def nodupB : List Nat → Bool
  | [] => true
  | m :: r => !hasN m r && nodupB r

def gone (ids : List Nat) : List (Nat × Option Obj) := ids.map fun i => (i, none)

def meets : List Nat → List Nat → Bool
  | [], _ => false
  | a :: r, l => hasN a l || meets r l

def deepAny : List Ty → Bool
  | [] => false
  | t :: r => t.deep || deepAny r

/-- The results' cells. -/
def resOut : (rs : List RK) → Tys (rs.map RK.ty) → Nat → List (Bool × List Sc) × List (Nat × Option Obj) × Nat
  | [], _, f => ([], [], f)
  | .val t :: rs, x, f => match explodeO t (headTy t (rs.map RK.ty) x) f with
    | (cs, o, f1) => match resOut rs (tailTy t (rs.map RK.ty) x) f1 with
      | (l, os, f2) => ((isPair t, cs) :: l, o ++ os, f2)
  | .ptr t :: rs, x, f => match explodeO t (headTy t (rs.map RK.ty) x) (f + 1) with
    | (cs, o, f1) => match resOut rs (tailTy t (rs.map RK.ty) x) f1 with
      | (l, os, f2) => ((false, [.pv f 0]) :: l, (f, some (.var cs)) :: (o ++ os), f2)

def splitTys : (a b : List Ty) → Tys (a ++ b) → Tys a × Tys b
  | [], _, x => ((), x)
  | [_], [], x => (x, ())
  | [_], _ :: _, x => x
  | _ :: u :: r, b, x => match splitTys (u :: r) b x.2 with
    | (p, q) => ((x.1, p), q)

def mkRes : List (Bool × List Sc) → AV
  | [(true, l)] => .agg l
  | [(false, [s])] => .one s
  | l => .tup l

def idW : Nat := 64

def callC (c : Ctr) (vs : List AV) (d : Option Nat) (f : Nat) : OP :=
  argsIn (anyR c.g.outs) c.g.ps vs fun x ids sn sf pl =>
    bif nodupB ids && !meets ids sn && !(sf && deepAny (c.g.ps.map PK.ty)) then .bnd (c.fn x) fun r =>
      match splitTys (c.g.rs.map RK.ty) (ioOf c.g.ps) r with
      | (a, b) => match resOut c.g.rs a f with
        | (l, os, f1) => match outsBack c.g.ps pl b f1 with
          | some (os', f2) => bif Nat.ble f2 (f + idW) then outO d (mkRes l) (gone ids ++ os ++ os') else .fail
          | none => .fail
    else .fail

def appendC (t : Ty) (bytes : Nat) (xs : List t.den) (y : Sc) (d : Option Nat) (f : Nat) (ids : List Nat) : OP :=
  let fin (ys : List t.den) (ids : List Nat) : OP :=
    .chk (decide ((xs.length + ys.length) * bytes ≤ 140737488355328)) (bif nodupB ids then outO d (.one (.own f)) (gone ids ++ [(f, some (.row t (xs ++ ys)))]) else .fail)
  bif Nat.beq bytes 0 then .fail else bif t.flat then see (.sl false t) [y] fun ys rest _ _ => match rest with
    | [] => fin ys ids
    | _ => .fail
  else bif t.owns then imp (.sl true t) [y] fun ys rest i => match rest with
    | [] => fin ys (ids ++ i)
    | _ => .fail
  else imp (.sl false t) [y] fun ys rest i => match rest with
    | [] => fin ys (ids ++ i)
    | _ => .fail

/-- A slice that is cut. -/
def cutSc (T : Tab) (t : TypeId) (d : Option Nat) (lo hi : Option Int) : Sc → OP
  | .str s => bif isStr T t then sliceBounds s.length lo hi (out d (.one (.str (cut (lo.map Int.toNat) (hi.map Int.toNat) s)))) else .fail
  | .rd soft t' xs => match elemTy T t with
    | some e => bif nEq e.size t'.size then sliceBounds xs.length lo hi (out d (.one (.rd soft t' (cut (lo.map Int.toNat) (hi.map Int.toNat) xs)))) else .fail
    | none => .fail
  | .own id => .obj id fun
    | some (.row t' xs) => match elemTy T t with
      | some e => bif nEq e.size t'.size then sliceBounds xs.length lo hi (out d (.one (.vw id (lo.map Int.toNat) (hi.map Int.toNat)))) else .fail
      | none => .fail
    | _ => .fail
  | _ => .fail

/-- A variable that turns no more: what it holds. -/
def frz1 {α : Type} (v : AV) (K : (t : Ty) → t.den → Nat → RP α) : RP α :=
  match v with
  | .one (.pv id off) => bif nEq off 0 then .obj id fun
    | some (.var [.int k n]) => K (.int k) n id
    | some (.var [.str s]) => K .str s id
    | some (.var [.bool b]) => K .bool b id
    | _ => .fail
    else .fail
  | _ => .fail

def frz {α : Type} : List AV → ((t : Ty) → t.den → List Nat → RP α) → RP α
  | [], _ => .fail
  | [v], K => frz1 v fun t x id => K (.box none t) x [id]
  | v :: u :: r, K => frz1 v fun t x id => frz (u :: r) fun t' x' ids => K (.pair (.box none t) t') (x, x') (id :: ids)

def step (T : Tab) (E : Env) (o : Oper) (f : Nat) : OP :=
  let d := o.dst
  match o.op with
  | .move x | .assign x => opd x fun v => out d v
  | .pick c a b => opd c fun
    | .one (.bool c) => .split c (opd a fun v => out d v) (opd b fun v => out d v)
    | _ => .fail
  | .alloc t => match lkp T t with
    | some td => outO d (.one (.pv f 0)) [(f, some (.var (zeroCells td.ty)))]
    | none => .fail
  | .box t x => match lkp T t with
    | some td => opd x fun v => bif nEq (cells v).length td.ty.size && defined (cells v) then outO d (.one (.pv f 0)) [(f, some (.var (cells v)))] else .fail
    | none => .fail
  | .build t parts => match lkp T t with
    | some td => bif !td.agg then .fail else opds (parts.toList.map (·.2)) fun vs => fillC td.flds (parts.toList.map (·.1)) vs (zeroCells td.ty) fun l => out d (.agg l)
    | none => .fail
  | .buildSlice t n parts => match elemTy T t with
    | some e => bif isConsec 0 parts.toList && nEq parts.size n && Nat.ble (n * e.size) 16777216 then
        opds (parts.toList.map (·.2)) fun vs => elems e vs fun xs i => .chk (nodupB i) (outO d (.one (.own f)) (gone i ++ [(f, some (.row e xs))]))
      else .fail
    | none => .fail
  | .load t a => match lkp T t with
    | some td => opd a fun
      | .one (.pv id off) => .obj id fun
        | some (.var l) => mkAV td.agg td.ty.size ((l.drop off).take td.ty.size) fun v => out d v
        | _ => .fail
      | .one (.pe id i off) => .obj id fun
        | some (.row t' xs) => mkAV td.agg td.ty.size (((explode true false t' (xs.getD i.toNat t'.zero)).drop off).take td.ty.size) fun v => out d v
        | _ => .fail
      | .one (.pr soft t' xs i off) => mkAV td.agg td.ty.size (((explode false soft t' (xs.getD i.toNat t'.zero)).drop off).take td.ty.size) fun v => out d v
      | .one (.bx soft none t' x) => mkAV td.agg td.ty.size ((explode false soft t' x).take td.ty.size) fun v => out d v
      | _ => .fail
    | none => .fail
  | .store t a x => match lkp T t with
    | some td => opd a fun p => opd x fun v =>
      bif nEq (cells v).length td.ty.size && defined (cells v) then match p with
        | .one (.pv id off) => .obj id fun
          | some (.var l) => bif Nat.ble (off + td.ty.size) l.length then outO d (.one .undef) [(id, some (.var (setRange l off (cells v))))] else .fail
          | _ => .fail
        | .one (.pe id i off) => .obj id fun
          | some (.row t' xs) => wr t' (xs.getD i.toNat t'.zero) off (cells v) fun y ids =>
            .chk (nodupB (id :: ids)) (outO d (.one .undef) (gone ids ++ [(id, some (.row t' (xs.set i.toNat y)))]))
          | _ => .fail
        | _ => .fail
      else .fail
    | none => .fail
  | .nilCheck x => opd x fun
    | .one (.pv id off) => out d (.one (.pv id off))
    | .one (.pe id i off) => out d (.one (.pe id i off))
    | .one (.pr s t xs i off) => out d (.one (.pr s t xs i off))
    | .one (.bx s none t x) => out d (.one (.bx s none t x))
    | _ => .fail
  | .makeFunc fn first caps => match fn with
    | .func g => bif !Nat.beq first.size 0 then .fail else opds caps.toList fun vs => frz vs fun t x ids => .chk (nodupB ids) (outO d (.one (.bx false (some g) t x)) (gone ids))
    | _ => .fail
  | .binOp op t x y _ => opd x fun a => opd y fun b => binop T op t a b d
  | .unOp op _ x => opd x fun
    | .one (.bool b) => match op with
      | .not => out d (.one (.bool (!b)))
      | _ => .fail
    | .one (.int k n) => match op with
      | .neg => out d (.one (.int k (k.wrap (0 - n))))
      | .xor => out d (.one (.int k (bits (fun _ a b => a ^^^ b) k (if k.signed then -1 else k.max) n)))
      | _ => .fail
    | _ => .fail
  | .convert s t x => match lkp T s, lkp T t with
    | some ts, some tt => opd x fun v => match v, tt.ty with
      | .one (.int _ n), .int k => out d (.one (.int k (k.wrap n)))
      | .one (.str b), .str => out d (.one (.str b))
      | .one c, .str => match ts.ty with
        | .sl _ (.int .u8) => bif !isU8 T ts.elem then .fail else see (.sl false (.int .u8)) [c] fun xs rest _ _ => match rest with
          | [] => out d (.one (.str (strOf xs)))
          | _ => .fail
        | _ => .fail
      | _, _ => .fail
    | _, _ => .fail
  | .slice t x lo hi none => opd x fun
    | .one s => optInt lo fun l => optInt hi fun h => cutSc T t d l h s
    | _ => .fail
  | .fieldAddr t x j => match lkp T t with
    | some td => match td.flds[j]? with
      | some (o, _, _) => opd x fun
        | .one (.pv id off) => out d (.one (.pv id (off + o)))
        | .one (.pe id i off) => out d (.one (.pe id i (off + o)))
        | .one (.pr s t xs i off) => out d (.one (.pr s t xs i (off + o)))
        | _ => .fail
      | none => .fail
    | none => .fail
  | .field t x j => match lkp T t with
    | some td => match td.flds[j]? with
      | some (o, n, g) => opd x fun
        | .agg l => mkAV g n ((l.drop o).take n) fun v => out d v
        | _ => .fail
      | none => .fail
    | none => .fail
  | .indexAddr t x j => match elemTy T t with
    | some e => opd x fun v => opd j fun
      | .one (.int _ i) => match v with
        | .one (.own id) => .obj id fun
          | some (.row t' xs) => bif nEq e.size t'.size then .chk (inB i xs.length) (out d (.one (.pe id i 0))) else .fail
          | _ => .fail
        | .one (.rd s t' xs) => bif nEq e.size t'.size then .chk (inB i xs.length) (out d (.one (.pr s t' xs i 0))) else .fail
        | _ => .fail
      | _ => .fail
    | none => .fail
  | .index t x j => bif !isStr T t then .fail else opd x fun v => opd j fun
    | .one (.int _ i) => match v with
      | .one (.str s) => .chk (inB i s.length) (out d (.one (.int .u8 ((s.getD i.toNat 0).toNat : Int))))
      | _ => .fail
    | _ => .fail
  | .extract x j => opd x fun
    | .tup l => match l[j]? with
      | some (true, cs) => out d (.agg cs)
      | some (false, [s]) => out d (.one s)
      | _ => .fail
    | _ => .fail
  | .makeSlice t n m => match elemTy T t with
    | some e => bif Nat.beq (elemBytes T t) 0 then .fail else opd n fun a => opd m fun b => match a, b with
      | .one (.int _ a), .one (.int _ b) => .chk (a == b) (.chk (decide (0 ≤ a) && decide (elemBytes T t * a ≤ 140737488355328)) (outO d (.one (.own f)) [(f, some (.row e (List.replicate a.toNat e.zero)))]))
      | _, _ => .fail
    | none => .fail
  | .call c => opds c.args.toList fun vs => match c.callee with
    | .builtin .len => match c.argTypes[0]? with
      | some t => match vs with
        | [.one (.str s)] => bif isStr T t then out d (.one (.int .i64 s.length)) else .fail
        | [.one v] => match elemTy T t with
          | some _ => match v with
            | .rd _ _ xs => out d (.one (.int .i64 xs.length))
            | .nilsl => out d (.one (.int .i64 0))
            | .own id => .obj id fun
              | some (.row _ xs) => out d (.one (.int .i64 xs.length))
              | _ => .fail
            | .vw id lo hi => .obj id fun
              | some (.row _ xs) => out d (.one (.int .i64 (cut lo hi xs).length))
              | _ => .fail
            | _ => .fail
          | none => .fail
        | _ => .fail
      | none => .fail
    | .builtin .append => match c.argTypes.toList with
      | [t, t2] => bif !nEq t t2 then .fail else match vs with
        | [x, .one y] => match x with
          | .one (.own id) => .obj id fun
            | some (.row e xs) => match elemTy T t with
              | some e' => match Ty.same e e' with
                | some _ => appendC e (elemBytes T t) xs y d f [id]
                | none => .fail
              | none => .fail
            | _ => .fail
          | .one .nilsl => match elemTy T t with
            | some e => appendC e (elemBytes T t) [] y d f []
            | none => .fail
          | _ => .fail
        | _ => .fail
      | _ => .fail
    | .builtin .min => match vs with
      | [.one (.int k a), .one (.int k' b)] => bif kEq k k' then out d (.one (.int k (if b < a then b else a))) else .fail
      | _ => .fail
    | .builtin .max => match vs with
      | [.one (.int k a), .one (.int k' b)] => bif kEq k k' then out d (.one (.int k (if b > a then b else a))) else .fail
      | _ => .fail
    | .value (.func g) => match lkp E g with
      | some cs => match pickC cs vs with
        | some ct => callC ct vs d f
        | none => .fail
      | none => .fail
    | .value (.tmp i) => .slot i fun
      | .one (.bx false (some g) t x) => match lkp E g with
        | some cs => match pickC cs (vs ++ (explode false false t x).map .one) with
          | some ct => callC ct (vs ++ (explode false false t x).map .one) d f
          | none => .fail
        | none => .fail
      | _ => .fail
    | _ => .fail
  | _ => .fail
where
  fillC (flds : List (Nat × Nat × Bool)) : List Nat → List AV → List Sc → (List Sc → OP) → OP
  | [], [], l, K => K l
  | j :: js, v :: vs, l, K => match flds[j]? with
    | some (o, n, _) => bif nEq (cells v).length n && defined (cells v) && Nat.ble (o + n) l.length then fillC flds js vs (setRange l o (cells v)) K else .fail
    | none => .fail
  | _, _, _, _ => .fail

/-! ### regions -/

/-- A value told constructor by constructor, so that it is reckoned once. -/
def nSc {ρ : Type} (s : Sc) (K : Sc → ρ) : ρ :=
  match s with
  | .undef => K .undef
  | .skip => K .skip
  | .int k n => K (.int k n)
  | .bool b => K (.bool b)
  | .str s => K (.str s)
  | .nilsl => K .nilsl
  | .nilif => K .nilif
  | .err b => K (.err b)
  | .rd s t xs => K (.rd s t xs)
  | .own i => K (.own i)
  | .vw i a b => K (.vw i a b)
  | .pv i o => K (.pv i o)
  | .pe i j o => K (.pe i j o)
  | .pr s t xs i o => K (.pr s t xs i o)
  | .bx s g t x => K (.bx s g t x)

def nL {ρ : Type} : List Sc → (List Sc → ρ) → ρ
  | [], K => K []
  | s :: r, K => nSc s fun s => nL r fun r => K (s :: r)

def nT {ρ : Type} : List (Bool × List Sc) → (List (Bool × List Sc) → ρ) → ρ
  | [], K => K []
  | (b, l) :: r, K => nL l fun l => nT r fun r => K ((b, l) :: r)

def nAV {ρ : Type} (v : AV) (K : AV → ρ) : ρ :=
  match v with
  | .one s => nSc s fun s => K (.one s)
  | .agg l => nL l fun l => K (.agg l)
  | .tup l => nT l fun l => K (.tup l)

def nObj {ρ : Type} (o : Option Obj) (K : Option Obj → ρ) : ρ :=
  match o with
  | none => K none
  | some (.row t xs) => K (some (.row t xs))
  | some (.var l) => nL l fun l => K (some (.var l))

def nSS {ρ : Type} : List (Nat × AV) → (List (Nat × AV) → ρ) → ρ
  | [], K => K []
  | (i, v) :: r, K => nAV v fun v => nSS r fun r => K ((i, v) :: r)

def nOS {ρ : Type} : List (Nat × Option Obj) → (List (Nat × Option Obj) → ρ) → ρ
  | [], K => K []
  | (i, v) :: r, K => nObj v fun v => nOS r fun r => K ((i, v) :: r)

def nU {ρ : Type} (u : Upd) (K : Upd → ρ) : ρ := nSS u.ss fun ss => nOS u.os fun os => K ⟨ss, os⟩

/-- One operation's entry in the book: its number, what it read, what it wrote. -/
structure Ent where
  i : Nat
  rs : List Key
  ss : List Nat
  os : List Nat

def guardOf (ops : Array Oper) (o : Oper) : Option (Option Nat × Bool) :=
  match o.guard with
  | none => none
  | some (j, b) => some ((ops[j]?).bind (·.dst), b)

/-- The operations from number i on, in the text's order. -/
def evOps {ρ : Type} (T : Tab) (E : Env) (ops : Array Oper) (f0 : Nat) : List Oper → Nat → St → List Ent → (St → List Ent → Option ρ) → Option ρ
  | [], _, s, bk, K => K s bk
  | o :: r, i, s, bk, K =>
    let go (s : St) (rs : List Key) : Option ρ :=
      (step T E o (f0 + i * idW)).run s (fun u rs' => nU u fun u => evOps T E ops f0 r (i + 1) (s.app u.ss u.os) (⟨i, rs', u.ss.map (·.1), u.os.map (·.1)⟩ :: bk) K) rs
    let off (s : St) (rs : List Key) : Option ρ := match o.dst with
      | some d => evOps T E ops f0 r (i + 1) (s.app [(d, .one .skip)] []) (⟨i, rs, [d], []⟩ :: bk) K
      | none => evOps T E ops f0 r (i + 1) s (⟨i, rs, [], []⟩ :: bk) K
    match guardOf ops o with
    | none => go s []
    | some (some g, want) => match s.sl g with
      | .one (.bool b) =>
        bif b then (let s' : St := ⟨upd s.sl g (.one (.bool true)), s.ob⟩; bif want then go s' [.s g] else off s' [.s g])
        else (let s' : St := ⟨upd s.sl g (.one (.bool false)), s.ob⟩; bif want then off s' [.s g] else go s' [.s g])
      | .one .skip => off s [.s g]
      | _ => none
    | some (none, _) => none

def hasKey (ss os : List Nat) : List Key → Bool
  | [] => false
  | .s i :: r => hasN i ss || hasKey ss os r
  | .o i :: r => hasN i os || hasKey ss os r

/-- Do two entries stay out of each other's way? -/
def apart (a b : Ent) : Bool :=
  !hasKey a.ss a.os b.rs && !hasKey b.ss b.os a.rs && !meets a.ss b.ss && !meets a.os b.os

/-- All that an operation stands behind, as the bits of a number. -/
def behindO (acc : List Nat) : List Edge → Nat
  | [] => 0
  | e :: r => bif Region.binds .any e then (2 ^ e.on ||| acc.getD e.on 0) ||| behindO acc r else behindO acc r

def behind : List Oper → List Nat → List Nat
  | [], acc => acc
  | o :: r, acc => behind r (acc ++ [behindO acc o.after.toList])

def edgesOk (i : Nat) : List Edge → Bool
  | [] => true
  | e :: r => (!Region.binds .any e || Nat.blt e.on i) && edgesOk i r

def edgesAll : Nat → List Oper → Bool
  | _, [] => true
  | i, o :: r => edgesOk i o.after.toList && edgesAll (i + 1) r

def apartAll (bh : List Nat) : List Ent → Bool
  | [] => true
  | b :: r => r.all (fun a => Nat.testBit (bh.getD b.i 0) a.i || apart a b) && apartAll bh r

def evRegion {ρ : Type} (T : Tab) (E : Env) (ops : Array Oper) (draw : Bool) (s : St) (f : Nat) (K : St → Nat → Option ρ) : Option ρ :=
  evOps T E ops f ops.toList 0 s [] fun s' bk => bif !draw || (edgesAll 0 ops.toList && apartAll (behind ops.toList []) bk) then K s' (f + ops.size * idW) else none

/-! ### shapes -/

inductive SK where
  | val (t : Ty)
  | ptr (t : Ty)
  | dup (j : Nat)

abbrev Sh := List (Nat × SK)

def shTys : Sh → List Ty
  | [] => []
  | (_, .val t) :: h | (_, .ptr t) :: h => t :: shTys h
  | (_, .dup _) :: h => shTys h

def sameAV : AV → AV → Bool
  | .one (.own i), .one (.own j) => nEq i j
  | .one (.pv i o), .one (.pv j p) => nEq i j && nEq o p
  | _, _ => false

def ext {α : Type} : (h : Sh) → (Tys (shTys h) → List Nat → RP α) → RP α
  | [], K => K () []
  | (i, .val t) :: h, K => .slot i fun v => bif !shp t v then .fail else imp t (cells v) fun x rest ids => match rest with
    | [] => ext h fun xs ids' => K (consTy t (shTys h) x xs) (ids ++ ids')
    | _ => .fail
  | (i, .ptr t) :: h, K => .slot i fun
    | .one (.pv id off) => bif nEq off 0 then .obj id fun
        | some (.var cs) => imp t cs fun x rest ids => match rest with
          | [] => ext h fun xs ids' => K (consTy t (shTys h) x xs) (id :: (ids ++ ids'))
          | _ => .fail
        | _ => .fail
      else .fail
    | _ => .fail
  | (i, .dup j) :: h, K => .slot i fun v => .slot j fun u => bif sameAV v u then (match v with
    | .one (.own id) => .obj id fun
      | some (.row _ _) => ext h K
      | _ => .fail
    | .one (.pv id _) => .obj id fun
      | some (.var _) => ext h K
      | _ => .fail
    | _ => .fail) else .fail

/-- A shape's data, read off a state. -/
def extS {ρ : Type} (h : Sh) (s : St) (K : Tys (shTys h) → Option ρ) : Option ρ :=
  (ext h fun x ids => .ret (x, ids)).run s (fun p _ => bif nodupB p.2 then K p.1 else none) []

/-- A state out of a shape's data. -/
def rest {ρ : Type} : (h : Sh) → Tys (shTys h) → St → Nat → (St → Nat → Option ρ) → Option ρ
  | [], _, s, f, K => K s f
  | (i, .val t) :: h, x, s, f, K => match explodeO t (headTy t (shTys h) x) f with
    | (cs, o, f1) => rest h (tailTy t (shTys h) x) (s.app [(i, mkRes [(isPair t, cs)])] o) f1 K
  | (i, .ptr t) :: h, x, s, f, K => match explodeO t (headTy t (shTys h) x) (f + 1) with
    | (cs, o, f1) => rest h (tailTy t (shTys h) x) (s.app [(i, .one (.pv f 0))] ((f, some (.var cs)) :: o)) f1 K
  | (i, .dup j) :: h, x, s, f, K => rest h x (s.app [(i, s.sl j)] []) f K

def St.empty : St := ⟨fun _ => .one .undef, fun _ => none⟩

/-! ### code -/

inductive Ex where
  | normal
  | exit (n : Nat)
  | ret

def exEq : Ex → Ex → Bool
  | .normal, .normal | .ret, .ret => true
  | .exit n, .exit m => nEq n m
  | _, _ => false

structure Ann where
  loops : List (Nat × (Sh × List (Ex × Sh)))
  blocks : List (Nat × List (Ex × Sh))
  joins : List (Nat × List (Ex × Sh))

def Outs : List (Ex × Sh) → Type
  | [] => Empty
  | [(_, h)] => Tys (shTys h)
  | (_, h) :: x :: r => Tys (shTys h) ⊕ Outs (x :: r)

def injO {ρ : Type} (s : St) (e : Ex) : (l : List (Ex × Sh)) → (Outs l → Option ρ) → Option ρ
  | [], _ => none
  | [(e', h)], K => bif exEq e e' then extS h s K else none
  | (e', h) :: x :: r, K => bif exEq e e' then extS h s (fun t => K (.inl t)) else injO s e (x :: r) (fun t => K (.inr t))

noncomputable def caseS {A B C : Type} (o : A ⊕ B) (f : A → C) (g : B → C) : C := Sum.rec f g o

noncomputable def elimO {ρ : Type} : (l : List (Ex × Sh)) → Outs l → (Ex → St → Nat → Option ρ) → Option ρ
  | [], _, _ => none
  | [(e, h)], t, K => rest h t St.empty 0 (fun s f => K e s f)
  | (e, h) :: x :: r, o, K => caseS o (fun t => rest h t St.empty 0 (fun s f => K e s f)) (fun o => elimO (x :: r) o K)

def loopF {A B : Type} (step : (A → Option B) → A → Option B) : Nat → A → Option B
  | 0, _ => none
  | n + 1, a => step (loopF step n) a

/-- How many rounds a loop may take: no number that anything could count up. -/
noncomputable def FUEL : Nat := Classical.choose (⟨2 ^ 62, Nat.le_refl _⟩ : ∃ n, 2 ^ 62 ≤ n)
theorem fuel_le : 2 ^ 62 ≤ FUEL := Classical.choose_spec (⟨2 ^ 62, Nat.le_refl _⟩ : ∃ n, 2 ^ 62 ≤ n)

noncomputable def lp {A B : Type} (step : (A → Option B) → A → Option B) (a : A) : Option B := loopF step FUEL a

def unblock (id : Nat) : Ex → Ex
  | .exit n => bif nEq n id then .normal else .exit n
  | e => e

def joinOf (A : Ann) : Code → Code → Option (List (Ex × Sh))
  | .region r _ _, .cond _ _ _ => lkp A.joins r
  | _, _ => none

def condOf {ρ : Type} (s : St) (c : Operand) (K : Bool → Option ρ) : Option ρ :=
  match c with
  | .tmp t => match s.sl t with
    | .one (.bool b) => K b
    | _ => none
  | .const (.bool b) => K b
  | _ => none

noncomputable def evC (T : Tab) (E : Env) (A : Ann) : Code → {ρ : Type} → St → Nat → (Ex → St → Nat → Option ρ) → Option ρ
  | .skip, _, s, f, K => K .normal s f
  | .region _ ops dr, _, s, f, K => evRegion T E ops dr s f (fun s' f' => K .normal s' f')
  | .seq a b, _, s, f, K => match joinOf A a b with
    | none => evC T E A a s f (fun e s' f' => match e with
      | .normal => evC T E A b s' f' K
      | .exit n => K (.exit n) s' f'
      | .ret => K .ret s' f')
    | some exs => (evC T E A a s f (fun e s' f' => match e with
      | .normal => evC T E A b s' f' (fun e2 s2 _ => injO s2 e2 exs some)
      | .exit n => injO s' (.exit n) exs some
      | .ret => injO s' .ret exs some)).bind fun o => elimO exs o K
  | .cond c a b, _, s, f, K => condOf s c fun t => bif t then evC T E A a s f K else evC T E A b s f K
  | .block id (.loop bd), _, s, _, K => match lkp A.loops id with
    | some (h, exs) =>
      (extS h s fun t0 => lp (fun rec t => rest h t St.empty 0 fun s1 f1 => evC T E A bd s1 f1 (fun e s2 _ => match e with
        | .normal => extS h s2 rec
        | .exit n => injO s2 (.exit n) exs some
        | .ret => injO s2 .ret exs some)) t0).bind fun o => elimO exs o (fun e s' f' => K (unblock id e) s' f')
    | none => none
  | .block id body, _, s, f, K => match lkp A.blocks id with
    | none => evC T E A body s f (fun e s' f' => K (unblock id e) s' f')
    | some exs => (evC T E A body s f (fun e s' _ => injO s' (unblock id e) exs some)).bind fun o => elimO exs o K
  | .exit id, _, s, f, K => K (.exit id) s f
  | .ret, _, s, f, K => K .ret s f
  | _, _, _, _, _ => none

/-! ### functions -/

def initP {ρ : Type} : (ps : List PK) → Tys (ps.map PK.ty) → Nat → St → Nat → (St → Nat → Option ρ) → Option ρ
  | [], _, _, s, f, K => K s f
  | .val t :: ps, x, i, s, f, K => match explodeO t (headTy t (ps.map PK.ty) x) f with
    | (cs, o, f1) => initP ps (tailTy t (ps.map PK.ty) x) (i + 1) (s.app [(i, mkRes [(isPair t, cs)])] o) f1 K
  | .io t :: ps, x, i, s, f, K => match explodeO t (headTy t (ps.map PK.ty) x) f with
    | (cs, o, f1) => initP ps (tailTy t (ps.map PK.ty) x) (i + 1) (s.app [(i, mkRes [(isPair t, cs)])] o) f1 K
  | .ptr t :: ps, x, i, s, f, K => match explodeO t (headTy t (ps.map PK.ty) x) (f + 1) with
    | (cs, o, f1) => initP ps (tailTy t (ps.map PK.ty) x) (i + 1) (s.app [(i, .one (.pv f 0))] ((f, some (.var cs)) :: o)) f1 K

def appTys : (a b : List Ty) → Tys a → Tys b → Tys (a ++ b)
  | [], _, _, y => y
  | [_], [], x, _ => x
  | [_], _ :: _, x, y => (x, y)
  | _ :: u :: r, b, x, y => (x.1, appTys (u :: r) b x.2 y)

def finRes {α : Type} (T : Tab) : (rs : List RK) → List ResultVar → (Tys (rs.map RK.ty) → List Nat → RP α) → RP α
  | [], [], K => K () []
  | .val t :: rs, v :: vs, K => match v with
    | .tmp a => .slot a fun v => bif !shp t v then .fail else imp t (cells v) fun x rst i => match rst with
      | [] => finRes T rs vs fun xs j => K (consTy t (rs.map RK.ty) x xs) (i ++ j)
      | _ => .fail
    | .cell a ty => match lkp T ty with
      | some td => bif !(nEq td.ty.size t.size && (td.agg == isPair t)) then .fail else .slot a fun
        | .one (.pv id off) => .obj id fun
          | some (.var l) => imp t ((l.drop off).take t.size) fun x rst i => match rst with
            | [] => finRes T rs vs fun xs j => K (consTy t (rs.map RK.ty) x xs) (i ++ j)
            | _ => .fail
          | _ => .fail
        | _ => .fail
      | none => .fail
  | .ptr t :: rs, v :: vs, K => match v with
    | .tmp a => .slot a fun
      | .one (.pv id off) => bif nEq off 0 then .obj id fun
        | some (.var l) => imp t l fun x rst i => match rst with
          | [] => finRes T rs vs fun xs j => K (consTy t (rs.map RK.ty) x xs) (id :: (i ++ j))
          | _ => .fail
        | _ => .fail
        else .fail
      | _ => .fail
    | _ => .fail
  | _, _, _ => .fail

def finIo {α : Type} : (ps : List PK) → Nat → (Tys (ioOf ps) → List Nat → RP α) → RP α
  | [], _, K => K () []
  | .val _ :: ps, n, K => finIo ps (n + 1) K
  | .io t :: ps, n, K => .slot n fun v => bif !shp t v then .fail else imp t (cells v) fun x rst i => match rst with
    | [] => finIo ps (n + 1) fun xs j => K (consTy t (ioOf ps) x xs) (i ++ j)
    | _ => .fail
  | .ptr t :: ps, n, K => .slot n fun
    | .one (.pv id off) => bif nEq off 0 then .obj id fun
      | some (.var cs) => imp t cs fun x rst i => match rst with
        | [] => finIo ps (n + 1) fun xs j => K (consTy t (ioOf ps) x xs) (id :: (i ++ j))
        | _ => .fail
      | _ => .fail
      else .fail
    | _ => .fail

def writes : Code → List Nat
  | .region _ ops _ => ops.toList.filterMap (·.dst)
  | .seq a b => writes a ++ writes b
  | .cond _ a b => writes a ++ writes b
  | .block _ b => writes b
  | .loop b => writes b
  | _ => []

/-- Parameters whose content comes back keep their slots. -/
def pinsOk (ws : List Nat) : List PK → Nat → Bool
  | [], _ => true
  | .val _ :: ps, n => pinsOk ws ps (n + 1)
  | _ :: ps, n => !hasN n ws && pinsOk ws ps (n + 1)

def ltAll (n : Nat) : List Nat → Bool
  | [] => true
  | m :: r => Nat.blt m n && ltAll n r

/-- What a body comes to. -/
noncomputable def evF (T : Tab) (E : Env) (A : Ann) (g : Sig) (nt : Nat) (rv : List ResultVar) (body : Code) (x : Tys g.ins) : Option (Tys g.outs) :=
  bif !(pinsOk (writes body) g.ps 0 && ltAll nt (writes body) && Nat.ble g.ps.length nt) then none else
  initP g.ps x 0 St.empty 0 fun s f => evC T E A body s f fun e s' _ => match e with
    | .exit _ => none
    | .normal | .ret => (finRes T g.rs rv fun a i => finIo g.ps 0 fun b j => .ret (appTys (g.rs.map RK.ty) (ioOf g.ps) a b, i ++ j)).run s' (fun p _ => bif nodupB p.2 then some p.1 else none) []

end Go.Rf
