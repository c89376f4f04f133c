import Derived.Control
import Derived.Below
import Derived.Orders
import Derived.Laws.Cells
import Derived.Laws.CopyRow
import Derived.Laws.Tables
import Derived.Laws.StructEq
namespace Go.Rf
theorem cT{α:Type _}(a b:α):cond true a b=a:=rfl
theorem cF{α:Type _}(a b:α):cond false a b=b:=rfl
theorem dT(h:Decidable True):@decide True h=true:=decide_true h
theorem dF(h:Decidable False):@decide False h=false:=decide_false h
end Go.Rf
open Option renaming bind_some→bS
open List renaming length_append→lA,append_assoc→aA,mem_cons_of_mem→mC,mem_append→mA,mem_append_right→mR,mem_append_left→mL,mem_cons→mc,drop_eq_getElem_cons→dG,length_take→lT,length_drop→lD,mem_map→mM,length_map→lM,length_cons→lC,length_nil→lN,getElem_mem→gM,map_append→mp,mem_singleton→mZ,take_succ_eq_append_getElem→κ0,nodup_append→κ2,mem_cons_self→κ3,append_nil→κ5,flatMap_append→κ8,replicate→κA,take_length→κB,nodup_cons→κC,range'→κE,cons_append→κG,map_cons→κH,take_append_drop→κJ
open Bool renaming and_eq_true→bA,eq_false_or_eq_true→bE,not_true→nZ,not_false→nF,true_and→tA,not_not→nn,or_eq_false_iff→κ6,not_eq_true'→κF,false_eq_true→κI
open Int renaming toNat_natCast→tN,ofNat_lt→oL
open Nat renaming eq_of_beq_eq_true→κ1,lt_or_ge→κ4,lt_of_lt_of_le→κ7,le_of_ble_eq_true→κ9,le_refl→κD,zero_le→κL
open Array renaming length_toList→κK
set_option linter.unusedVariables false
set_option linter.unusedSimpArgs false
namespace Go.Rf
inductive Ty where
 | int (k:IntKind)
 | bool
 | str
 | sl (m:Bool) (t:Ty)
 | pair (a b:Ty)
 | box (g:Option Nat) (t:Ty)
def Ty.den:Ty→Type
 | .int _=>Int
 | .bool=>Bool
 | .str=>List UInt8
 | .sl _ t=>List t.den
 | .pair a b=>a.den×b.den
 | .box _ t=>t.den
def Ty.size:Ty→Nat
 | .pair a b=>a.size+b.size
 | _=>1
def Ty.zero:(t:Ty)→t.den
 | .int _=>(0:Int)
 | .bool=>false
 | .str=>([]:List UInt8)
 | .sl _ _=>[]
 | .pair a b=>(a.zero,b.zero)
 | .box _ t=>t.zero
def kEq:IntKind→IntKind→Bool
 | .i8,.i8 | .i16,.i16 | .i32,.i32 | .i64,.i64 | .u8,.u8 | .u16,.u16 | .u32,.u32 | .u64,.u64=>true
 | _,_=>false
def gEq:Option Nat→Option Nat→Bool
 | none,none=>true
 | some a,some b=>Nat.beq a b
 | _,_=>false
theorem φ41 {A B C D:Type} (h:A=C) (h':B=D):(A×B)=(C×D):=by subst h;subst h';rfl
def Ty.same:(a b:Ty)→Option (PLift (a.den=b.den))
 | .int k,.int k'=>bif kEq k k' then some ⟨rfl⟩ else none
 | .bool,.bool=>some ⟨rfl⟩
 | .str,.str=>some ⟨rfl⟩
 | .sl _ a,.sl _ b=>match Ty.same a b with | some ⟨h⟩=>some ⟨congrArg List h⟩ | none=>none
 | .pair a b,.pair c d=>match Ty.same a c,Ty.same b d with | some ⟨h⟩,some ⟨h'⟩=>some ⟨φ41 h h'⟩ | _,_=>none
 | .box g a,.box g' b=>bif gEq g g' then (match Ty.same a b with | some ⟨h⟩=>some ⟨h⟩ | none=>none) else none
 | _,_=>none
def Ty.leM:Ty→Ty→Bool
 | .sl m a,.sl m' b=>(m || !m') && Ty.leM a b
 | .pair a b,.pair c d=>Ty.leM a c && Ty.leM b d
 | _,_=>true
def Ty.owns:Ty→Bool
 | .sl m t=>m || t.owns
 | .pair a b=>a.owns || b.owns
 | _=>false
def Ty.flat:Ty→Bool
 | .sl _ _=>false
 | .box _ _=>false
 | .pair a b=>a.flat && b.flat
 | _=>true
def Ty.plain:Ty→Bool
 | .sl _ t=>t.plain
 | .pair a b=>a.plain && b.plain
 | .box _ _=>false
 | _=>true
def Ty.deep:Ty→Bool
 | .sl m t=>(m && t.owns) || t.deep
 | .pair a b=>a.deep || b.deep
 | _=>false
def rdA {α:Type} (z:α) (xs:List α) (i:Int):α:=xs.getD i.toNat z
def bAt (s:List UInt8) (i:Int):Int:=((s.getD i.toNat 0).toNat:Int)
def inB (i:Int) (n:Nat):Bool:=decide (0≤i) && decide (i<(n:Int))
inductive Sc where
 | undef
 | skip
 | int (k:IntKind) (n:Int)
 | bool (b:Bool)
 | str (s:List UInt8)
 | nilsl
 | nilif
 | err (some:Bool)
 | rd (soft:Bool) (t:Ty) (xs:List t.den)
 | own (id:Nat)
 | vw (id:Nat) (lo hi:Option Nat)
 | pv (id off:Nat)
 | pe (id:Nat) (i:Int) (off:Nat)
 | pr (soft:Bool) (t:Ty) (xs:List t.den) (i:Int) (off:Nat)
 | bx (soft:Bool) (g:Option Nat) (t:Ty) (x:t.den)
 | so (id:Nat) (i:Int) (off:Nat)
inductive AV where
 | one (s:Sc)
 | agg (l:List Sc)
 | tup (l:List (Bool×List Sc))
inductive Obj where
 | row (t:Ty) (xs:List t.den)
 | var (l:List Sc)
structure St where
 sl:Nat→AV
 ob:Nat→Option Obj
def nEq (a b:Nat):Bool:=Nat.beq a b
def upd {α:Type} (f:Nat→α) (i:Nat) (v:α):Nat→α:=fun j=>bif nEq j i then v else f j
def updS {α:Type}:(Nat→α)→List (Nat×α)→(Nat→α)
 | f,[]=>f
 | f,(i,v)::r=>updS (upd f i v) r
def St.app (s:St) (ss:List (Nat×AV)) (os:List (Nat×Option Obj)):St:=⟨updS s.sl ss,updS s.ob os⟩
inductive Key where
 | s (i:Nat)
 | o (id:Nat)
inductive RP (α:Type):Type 1 where
 | ret (a:α)
 | fail
 | slot (i:Nat) (k:AV→RP α)
 | obj (id:Nat) (k:Option Obj→RP α)
 | chk (b:Bool) (k:RP α)
 | split (b:Bool) (k1 k2:RP α)
 | bnd {β:Type} (o:Option β) (k:β→RP α)
structure Upd where
 ss:List (Nat×AV)
 os:List (Nat×Option Obj)
abbrev OP:=RP Upd
def RP.run {α ρ:Type} (s:St) (K:α→List Key→Option ρ):RP α→List Key→Option ρ
 | .ret a,rs=>K a rs
 | .fail,_=>none
 | .slot i k,rs=>(k (s.sl i)).run s K (.s i::rs)
 | .obj id k,rs=>(k (s.ob id)).run s K (.o id::rs)
 | .chk b k,rs=>bif b then k.run s K rs else none
 | .split b k1 k2,rs=>bif b then k1.run s K rs else k2.run s K rs
 | .bnd o k,rs=>o.bind fun a=>(k a).run s K rs
structure TD where
 ty:Ty
 agg:Bool
 flds:List (Nat×Nat×Bool)
 elem:Option Nat
 bytes:Nat
 eq:Bool
def lkp {α:Type}:List (Nat×α)→Nat→Option α
 | [],_=>none
 | (i,a)::r,j=>bif nEq i j then some a else lkp r j
abbrev Tab:=List (Nat×TD)
inductive PK where
 | val (t:Ty)
 | io (t:Ty)
 | ptr (t:Ty)
def PK.ty:PK→Ty
 | .val t | .io t | .ptr t=>t
inductive RK where
 | val (t:Ty)
 | ptr (t:Ty)
 | err
def RK.ty:RK→Ty
 | .val t | .ptr t=>t
 | .err=>.bool
def Tys:List Ty→Type
 | []=>Unit
 | [t]=>t.den
 | t::u::r=>t.den×Tys (u::r)
structure Sig where
 ps:List PK
 rs:List RK
 dw:Bool
 sv:Bool
def Sig.ins (g:Sig):List Ty:=g.ps.map PK.ty
def ioOf:List PK→List Ty
 | []=>[]
 | .io t::r | .ptr t::r=>t::ioOf r
 | _::r=>ioOf r
def Sig.outs (g:Sig):List Ty:=g.rs.map RK.ty++ioOf g.ps
structure Ctr where
 g:Sig
 fn:Tys g.ins→Option (Tys g.outs)
abbrev Env:=List (Nat×List Ctr)
def φY (c s0:Bool):(t:Ty)→t.den→List Sc
 | .int k,n=>[.int k n]
 | .bool,b=>[.bool b]
 | .str,s=>[.str s]
 | .sl m t,xs=>[.rd (s0 || (c && m)) t xs]
 | .pair a b,x=>φY c s0 a x.1++φY c s0 b x.2
 | .box g t,x=>[.bx s0 g t x]
def φ5:(t:Ty)→t.den→Nat→List Sc×List (Nat×Option Obj)×Nat
 | .int k,n,f=>([.int k n],[],f)
 | .bool,b,f=>([.bool b],[],f)
 | .str,s,f=>([.str s],[],f)
 | .sl true t,xs,f=>([.own f],[(f,some (.row t xs))],f+1)
 | .sl false t,xs,f=>([.rd false t xs],[],f)
 | .box g t,x,f=>([.bx false g t x],[],f)
 | .pair a b,x,f=>
  match φ5 a x.1 f with
  | (l,o,f1)=>match φ5 b x.2 f1 with
   | (l',o',f2)=>(l++l',o++o',f2)
def φ1a {a b:Ty} (h:a.den=b.den) (xs:List a.den):List b.den:=cast (congrArg List h) xs
def cut {α:Type} (lo hi:Option Nat) (xs:List α):List α:=
 match lo,hi with
 | none,none=>xs
 | some l,none=>xs.drop l
 | none,some h=>xs.take h
 | some l,some h=>(xs.take h).drop l
def imp {α:Type}:(t:Ty)→List Sc→(t.den→List Sc→List Nat→RP α)→RP α
 | .int k,c::r,K=>match c with
  | .int k' n=>bif kEq k k' then K n r [] else .fail
  | _=>.fail
 | .bool,c::r,K=>match c with
  | .bool b=>K b r []
  | _=>.fail
 | .str,c::r,K=>match c with
  | .str s=>K s r []
  | _=>.fail
 | .sl m t,c::r,K=>match c with
  | .nilsl=>K [] r []
  | .own id=>.obj id fun
   | some (.row t' xs)=>match Ty.same t' t with
    | some ⟨h⟩=>bif Ty.leM t' t then K (φ1a h xs) r [id] else .fail
    | none=>.fail
   | _=>.fail
  | .rd soft t' xs=>bif m || soft then .fail else match Ty.same t' t with
    | some ⟨h⟩=>K (φ1a h xs) r []
    | none=>.fail
  | .vw id lo hi=>bif m then .fail else .obj id fun
   | some (.row t' xs)=>match Ty.same t' t with
    | some ⟨h⟩=>K (φ1a h (cut lo hi xs)) r [id]
    | none=>.fail
   | _=>.fail
  | _=>.fail
 | .box g t,c::r,K=>match c with
  | .bx soft g' t' x=>bif soft || !gEq g' g then .fail else match Ty.same t' t with
    | some ⟨h⟩=>K (cast h x) r []
    | none=>.fail
  | _=>.fail
 | .pair a b,cs,K=>imp a cs fun x r i=>imp b r fun y r' j=>K (x,y) r' (i++j)
 | _,[],_=>.fail
def φ25:(t:Ty)→t.den→List Sc
 | .int k,n=>[.int k n]
 | .bool,b=>[.bool b]
 | .str,s=>[.str s]
 | .sl _ _,_=>[.undef]
 | .box _ _,_=>[.undef]
 | .pair a b,x=>φ25 a x.1++φ25 b x.2
def impW {α:Type}:(t:Ty)→List Sc→(t.den→List Sc→RP α)→RP α
 | .int k,c::r,K=>match c with
  | .int k' n=>bif kEq k k' then K n r else .fail
  | _=>.fail
 | .bool,c::r,K=>match c with
  | .bool b=>K b r
  | _=>.fail
 | .str,c::r,K=>match c with
  | .str s=>K s r
  | _=>.fail
 | .sl _ _,_::r,K=>K [] r
 | .pair a b,cs,K=>impW a cs fun x r=>impW b r fun y r'=>K (x,y) r'
 | _,_,_=>.fail
def see {α:Type}:(t:Ty)→List Sc→(t.den→List Sc→List Nat→Bool→RP α)→RP α
 | .int k,c::r,K=>match c with
  | .int k' n=>bif kEq k k' then K n r [] false else .fail
  | _=>.fail
 | .bool,c::r,K=>match c with
  | .bool b=>K b r [] false
  | _=>.fail
 | .str,c::r,K=>match c with
  | .str s=>K s r [] false
  | _=>.fail
 | .sl _ t,c::r,K=>match c with
  | .nilsl=>K [] r [] false
  | .own id=>.obj id fun
   | some (.row t' xs)=>match Ty.same t' t with
    | some ⟨h⟩=>K (φ1a h xs) r [id] false
    | none=>.fail
   | _=>.fail
  | .vw id lo hi=>.obj id fun
   | some (.row t' xs)=>match Ty.same t' t with
    | some ⟨h⟩=>K (φ1a h (cut lo hi xs)) r [id] false
    | none=>.fail
   | _=>.fail
  | .rd soft t' xs=>match Ty.same t' t with
    | some ⟨h⟩=>K (φ1a h xs) r [] soft
    | none=>.fail
  | _=>.fail
 | .box g t,c::r,K=>match c with
  | .bx soft g' t' x=>bif !gEq g' g then .fail else match Ty.same t' t with
    | some ⟨h⟩=>K (cast h x) r [] soft
    | none=>.fail
  | _=>.fail
 | .pair a b,cs,K=>see a cs fun x r i p=>see b r fun y r' j q=>K (x,y) r' (i++j) (p || q)
 | _,[],_=>.fail
def cells:AV→List Sc
 | .one s=>[s]
 | .agg l=>l
 | .tup _=>[]
def φ22:Value→Option Sc
 | .int k n=>some (.int k n)
 | .bool b=>some (.bool b)
 | .string s=>some (.str s.data.toList)
 | .slice none 0 0=>some .nilsl
 | .nilIface=>some .nilif
 | _=>none
def opd {α:Type} (x:Operand) (k:AV→RP α):RP α:=
 match x with
 | .tmp t=>.slot t k
 | .const v=>match φ22 v with
  | some s=>k (.one s)
  | none=>match v with
   | .pointer none=>k (.one .undef)
   | _=>.fail
 | _=>.fail
def opds {α:Type}:List Operand→(List AV→RP α)→RP α
 | [],k=>k []
 | x::r,k=>opd x fun v=>opds r fun vs=>k (v::vs)
def out (d:Option Nat) (r:AV):OP:=
 match d with
 | some d=>.ret ⟨[(d,r)],[]⟩
 | none=>.ret ⟨[],[]⟩
def outO (d:Option Nat) (r:AV) (os:List (Nat×Option Obj)):OP:=
 match d with
 | some d=>.ret ⟨[(d,r)],os⟩
 | none=>.ret ⟨[],os⟩
def mkAV {α:Type} (agg:Bool) (n:Nat) (l:List Sc) (k:AV→RP α):RP α:=
 bif nEq l.length n then (bif agg then k (.agg l) else match l with
  | [s]=>k (.one s)
  | _=>.fail) else .fail
def zeroCells:Ty→List Sc
 | .int k=>[.int k 0]
 | .bool=>[.bool false]
 | .str=>[.str []]
 | .sl _ _=>[.nilsl]
 | .pair a b=>zeroCells a++zeroCells b
 | .box _ _=>[.nilif]
def φ1Q:List Sc→Bool
 | []=>true
 | .undef::_=>false
 | .skip::_=>false
 | _::r=>φ1Q r
def φ29 (l:List Sc) (off:Nat) (vs:List Sc):List Sc:=l.take off++vs++l.drop (off+vs.length)
def wr {α:Type}:(t:Ty)→t.den→(off:Nat)→List Sc→(t.den→List Nat→RP α)→RP α
 | .pair a b,x,off,vs,K=>
  bif nEq off 0 && nEq vs.length (a.size+b.size) then imp (.pair a b) vs fun y _ i=>K y i
  else bif Nat.ble (off+vs.length) a.size then wr a x.1 off vs fun y i=>K (y,x.2) i
  else bif Nat.ble a.size off then wr b x.2 (off - a.size) vs fun y i=>K (x.1,y) i
  else .fail
 | t,_,off,vs,K=>bif nEq off 0 && nEq vs.length 1 then imp t vs fun y _ i=>K y i else .fail
def w64 (n:Int):Int:=IntKind.i64.wrap n
def φI:List Sc→List Sc→Option Bool
 | [],[]=>some true
 | [a],[b]=>eqSc a b
 | a::r,b::r'=>match eqSc a b,φI r r' with
  | some x,some y=>some (x && y)
  | _,_=>none
 | _,_=>none
where
 eqSc:Sc→Sc→Option Bool
 | .int k a,.int k' b=>bif kEq k k' then some (a==b) else none
 | .bool a,.bool b=>some (a==b)
 | .str a,.str b=>some (a==b)
 | _,_=>none
def bits (f:(n:Nat)→BitVec n→BitVec n→BitVec n) (k:IntKind) (x y:Int):Int:=
 k.wrap (f k.bits (BitVec.ofInt k.bits x) (BitVec.ofInt k.bits y)).toNat
def φ7Z (op:BinOp) (k:IntKind) (x y:Int) (d:Option Nat):OP:=
 match op with
 | .add=>out d (.one (.int k (k.wrap (x+y))))
 | .sub=>out d (.one (.int k (k.wrap (x - y))))
 | .mul=>out d (.one (.int k (k.wrap (x * y))))
 | .quo=>.chk (y != 0) (out d (.one (.int k (k.wrap (x.tdiv y)))))
 | .rem=>.chk (y != 0) (out d (.one (.int k (x.tmod y))))
 | .eql=>out d (.one (.bool (x==y)))
 | .neq=>out d (.one (.bool (x != y)))
 | .lss=>out d (.one (.bool (decide (x<y))))
 | .leq=>out d (.one (.bool (decide (x≤y))))
 | .gtr=>out d (.one (.bool (decide (x > y))))
 | .geq=>out d (.one (.bool (decide (x≥y))))
 | .and=>out d (.one (.int k (bits (fun _ a b=>a &&& b) k x y)))
 | .or=>out d (.one (.int k (bits (fun _ a b=>a ||| b) k x y)))
 | .xor=>out d (.one (.int k (bits (fun _ a b=>a ^^^ b) k x y)))
 | .andNot=>out d (.one (.int k (bits (fun _ a b=>a &&& ~~~b) k x y)))
 | .shl=>.chk (decide (0≤y)) (out d (.one (.int k (k.wrap (x * 2 ^ (min y.toNat k.bits))))))
 | .shr=>.chk (decide (0≤y)) (out d (.one (.int k (x.fdiv (2 ^ (min y.toNat k.bits))))))
def φ6r (op:BinOp) (x y:List UInt8) (d:Option Nat):OP:=
 match op with
 | .add=>.chk (decide (x.length+y.length≤9223372036854775807)) (out d (.one (.str (x++y))))
 | .eql=>out d (.one (.bool (x==y)))
 | .neq=>out d (.one (.bool (!(x==y))))
 | .lss=>out d (.one (.bool (Op.bytesLess x y)))
 | .leq=>out d (.one (.bool (Op.bytesLess x y || x==y)))
 | .gtr=>out d (.one (.bool (!(Op.bytesLess x y || x==y))))
 | .geq=>out d (.one (.bool (!Op.bytesLess x y)))
 | _=>.fail
def φ1L (xs:List Int):List UInt8:=xs.map fun n=>UInt8.ofNat n.toNat
def φ5T:BinOp→Bool
 | .shl | .shr=>true
 | _=>false
def φ2i:Sc→Nat
 | .int _ _=>0
 | .bool _=>1
 | .str _=>2
 | _=>4
def φ1A:List Sc→List Nat
 | []=>[]
 | c::r=>φ2i c::φ1A r
def φ2y:Ty→List Nat
 | .int _=>[0]
 | .bool=>[1]
 | .str=>[2]
 | .sl _ _=>[3]
 | .pair a b=>φ2y a++φ2y b
 | .box _ _=>[4]
def φ1q:List Nat→List Nat→Bool
 | [],[]=>true
 | a::r,b::r'=>nEq a b && φ1q r r'
 | _,_=>false
def litO:Operand→Bool
 | .const _=>true
 | _=>false
def φ5i (T:Tab) (op:BinOp) (t:TypeId) (x y:AV) (d:Option Nat) (lit:Bool):OP:=
 match x,y with
 | .one (.int k a),.one (.int k' b)=>bif φ5T op || kEq k k' then φ7Z op k a b d else .fail
 | .one (.str a),.one (.str b)=>φ6r op a b d
 | .one (.bool a),.one (.bool b)=>match lkp T t with
  | some td=>match td.ty with
   | .bool=>match op with
    | .eql=>out d (.one (.bool (a==b)))
    | .neq=>out d (.one (.bool (!(a==b))))
    | _=>.fail
   | _=>.fail
  | none=>.fail
 | .agg l,.agg l'=>match lkp T t with
  | some td=>bif td.eq && φ1q (φ1A l) (φ2y td.ty) then match φI l l' with
    | some b=>match op with
     | .eql=>out d (.one (.bool b))
     | .neq=>out d (.one (.bool (!b)))
     | _=>.fail
    | none=>.fail
   else .fail
  | none=>.fail
 | .one (.err b),.one .nilif=>bif lit then (match lkp T t with
  | some td=>match td.ty with
   | .box _ _=>match op with
    | .eql=>out d (.one (.bool (!b)))
    | .neq=>out d (.one (.bool b))
    | _=>.fail
   | _=>.fail
  | none=>.fail) else .fail
 | _,_=>.fail
def sliceBounds {α:Type} (n:Nat) (lo hi:Option Int) (k:RP α):RP α:=
 match lo,hi with
 | none,none=>k
 | none,some h=>.chk (decide (0≤h) && decide (h≤(n:Int))) k
 | some l,none=>.chk (decide (0≤l) && decide (l≤(n:Int))) k
 | some l,some h=>.chk (decide (0≤h) && decide (h≤(n:Int))) (.chk (decide (0≤l) && decide (l≤h)) k)
def φ3R {α:Type} (x:Option Operand) (k:Option Int→RP α):RP α:=
 match x with
 | none=>k none
 | some o=>opd o fun
  | .one (.int _ n)=>k (some n)
  | _=>.fail
def φk (T:Tab) (t:TypeId):Option Ty:=
 match lkp T t with
 | some td=>match td.ty with
  | .sl _ e=>some e
  | _=>none
 | none=>none
def φ2Y (T:Tab) (t:TypeId):Bool:=
 match lkp T t with
 | some td=>match td.ty with
  | .str=>true
  | _=>false
 | none=>false
def isU8 (T:Tab) (e:Option Nat):Bool:=
 match e with
 | some e=>match lkp T e with
  | some td=>match td.ty with
   | .int .u8=>true
   | _=>false
  | none=>false
 | none=>false
def φ1E (T:Tab) (t:TypeId):Nat:=
 match lkp T t with
 | some td=>match td.elem with
  | some e=>match lkp T e with
   | some te=>te.bytes
   | none=>0
  | none=>0
 | none=>0
def φ3T:Nat→List (Nat×Operand)→Bool
 | _,[]=>true
 | i,(j,_)::r=>nEq i j && φ3T (i+1) r
def φ1K {α:Type} (t:Ty):List AV→(List t.den→List Nat→RP α)→RP α
 | [],K=>K [] []
 | v::r,K=>imp t (cells v) fun x rest i=>match rest with
  | []=>φ1K t r fun xs j=>K (x::xs) (i++j)
  | _=>.fail
def okSc:Ty→Sc→Bool
 | .sl true _,.own _ | .sl true _,.nilsl=>true
 | .sl true _,_=>false
 | .sl false _,.rd _ _ _ | .sl false _,.own _ | .sl false _,.vw _ _ _ | .sl false _,.nilsl=>true
 | .sl false _,_=>false
 | .box g _,.bx _ g' _ _=>gEq g' g
 | .box _ _,_=>false
 | _,_=>true
def φv:Ty→List Sc→Bool×List Sc
 | .pair a b,l=>match φv a l with
  | (x,r)=>match φv b r with
   | (y,r')=>(x && y,r')
 | t,c::r=>(okSc t c,r)
 | _,[]=>(false,[])
def φU:Ty→Bool
 | .pair _ _=>true
 | _=>false
def shp (t:Ty):AV→Bool
 | .agg _=>φU t
 | .one _=>!φU t
 | .tup _=>false
def φ3c:PK→AV→Bool
 | .val t,v=>shp t v && (φv t (cells v)).1
 | .io t,v=>shp t v && (φv t (cells v)).1
 | .ptr _,.one (.pv _ off)=>nEq off 0
 | .ptr _,_=>false
def φ1b:List PK→List AV→Bool
 | [],[]=>true
 | p::ps,v::vs=>φ3c p v && φ1b ps vs
 | _,_=>false
def φ1g:List Ctr→List AV→Option Ctr
 | [],_=>none
 | c::r,vs=>bif φ1b c.g.ps vs then some c else φ1g r vs
def φS (t:Ty) (ts:List Ty) (x:t.den) (xs:Tys ts):Tys (t::ts):=
 match ts,xs with
 | [],_=>x
 | _::_,xs=>(x,xs)
def φ4 (t:Ty) (ts:List Ty) (x:Tys (t::ts)):t.den:=
 match ts,x with
 | [],x=>x
 | _::_,x=>x.1
def φF (t:Ty) (ts:List Ty) (x:Tys (t::ts)):Tys ts:=
 match ts,x with
 | [],_=>()
 | _::_,x=>x.2
def φX:Ty→Bool
 | .sl m t=>!m || φX t
 | .pair a b=>φX a || φX b
 | .box _ _=>true
 | _=>false
def anyR:List Ty→Bool
 | []=>false
 | t::r=>φX t || anyR r
def φ13:Ty→List Sc→List (Option Nat)×List Sc
 | .sl true _,c::r=>(match c with
  | .own id=>([some id],r)
  | _=>([none],r))
 | .pair a b,cs=>match φ13 a cs with
  | (l,r)=>match φ13 b r with
   | (l',r')=>(l++l',r')
 | _,cs=>([],cs.drop 1)
inductive Plc where
 | rows (l:List (Option Nat))
 | var (id:Nat)
def φ1X {α:Type} (hard:Bool):(ps:List PK)→List AV→(Tys (ps.map PK.ty)→List Nat→List Nat→Bool→List Plc→RP α)→RP α
 | [],[],K=>K () [] [] false []
 | .val t::ps,v::vs,K=>
  bif hard || t.owns then
   imp t (cells v) fun x rest i=>match rest with
    | []=>φ1X hard ps vs fun xs j sn sf l=>K (φS t (ps.map PK.ty) x xs) (i++j) sn sf l
    | _=>.fail
  else
   see t (cells v) fun x rest sn0 sf0=>match rest with
    | []=>φ1X hard ps vs fun xs j sn sf l=>K (φS t (ps.map PK.ty) x xs) j (sn0++sn) (sf0 || sf) l
    | _=>.fail
 | .io t::ps,v::vs,K=>
   imp t (cells v) fun x rest i=>match rest with
    | []=>φ1X hard ps vs fun xs j sn sf l=>K (φS t (ps.map PK.ty) x xs) (i++j) sn sf (.rows (φ13 t (cells v)).1::l)
    | _=>.fail
 | .ptr t::ps,v::vs,K=>match v with
  | .one (.pv id _)=>.obj id fun
   | some (.var cs)=>imp t cs fun x rest i=>match rest with
    | []=>φ1X hard ps vs fun xs j sn sf l=>K (φS t (ps.map PK.ty) x xs) (id::(i++j)) sn sf (.var id::l)
    | _=>.fail
   | _=>.fail
  | _=>.fail
 | _,_,_=>.fail
def φ2V:(t:Ty)→t.den→List (Option Nat)→List (Nat×Option Obj)×List (Option Nat)
 | .sl true t,xs,some id::l=>([(id,some (.row t xs))],l)
 | .sl true _,_,none::l=>([],l)
 | .pair a b,x,l=>match φ2V a x.1 l with
  | (o,l')=>match φ2V b x.2 l' with
   | (o',l'')=>(o++o',l'')
 | _,_,l=>([],l)
def φ1Y:(ps:List PK)→List Plc→Tys (ioOf ps)→Nat→Option (List (Nat×Option Obj)×Nat)
 | [],[],_,f=>some ([],f)
 | .val _::ps,l,x,f=>φ1Y ps l x f
 | .io t::ps,p::l,x,f=>match p with
  | .rows ids=>match φ1Y ps l (φF t (ioOf ps) x) f with
   | some (os,f')=>some ((φ2V t (φ4 t (ioOf ps) x) ids).1++os,f')
   | none=>none
  | _=>none
 | .ptr t::ps,p::l,x,f=>match p with
  | .var id=>match φ5 t (φ4 t (ioOf ps) x) f with
   | (cs,o,f1)=>match φ1Y ps l (φF t (ioOf ps) x) f1 with
    | some (os,f2)=>some ((id,some (.var cs))::(o++os),f2)
    | none=>none
  | _=>none
 | _,_,_,_=>none
def hasN (n:Nat):List Nat→Bool
 | []=>false
 | m::r=>nEq n m || hasN n r
def φ18:List Nat→Bool
 | []=>true
 | m::r=>!hasN m r && φ18 r
def gone (ids:List Nat):List (Nat×Option Obj):=ids.map fun i=>(i,none)
def φ1i:List Nat→List Nat→Bool
 | [],_=>false
 | a::r,l=>hasN a l || φ1i r l
def φ1w:List Ty→Bool
 | []=>false
 | t::r=>t.deep || φ1w r
def φc:(rs:List RK)→Tys (rs.map RK.ty)→Nat→List (Bool×List Sc)×List (Nat×Option Obj)×Nat
 | [],_,f=>([],[],f)
 | .val t::rs,x,f=>match φ5 t (φ4 t (rs.map RK.ty) x) f with
  | (cs,o,f1)=>match φc rs (φF t (rs.map RK.ty) x) f1 with
   | (l,os,f2)=>((φU t,cs)::l,o++os,f2)
 | .ptr t::rs,x,f=>match φ5 t (φ4 t (rs.map RK.ty) x) (f+1) with
  | (cs,o,f1)=>match φc rs (φF t (rs.map RK.ty) x) f1 with
   | (l,os,f2)=>((false,[.pv f 0])::l,(f,some (.var cs))::(o++os),f2)
 | .err::rs,x,f=>match φc rs (φF .bool (rs.map RK.ty) x) f with
  | (l,os,f1)=>((false,[.err (φ4 .bool (rs.map RK.ty) x)])::l,os,f1)
def φ1C:(a b:List Ty)→Tys (a++b)→Tys a×Tys b
 | [],_,x=>((),x)
 | [_],[],x=>(x,())
 | [_],_::_,x=>x
 | _::u::r,b,x=>match φ1C (u::r) b x.2 with
  | (p,q)=>((x.1,p),q)
def φs:List (Bool×List Sc)→AV
 | [(true,l)]=>.agg l
 | [(false,[s])]=>.one s
 | l=>.tup l
def idW:Nat:=64
def φ3s (ns:Bool) (c:Ctr) (vs:List AV) (d:Option Nat) (f:Nat):OP:=
 bif c.g.dw && !ns then .fail else φ1X (anyR c.g.outs) c.g.ps vs fun x ids sn sf pl=>
  bif φ18 ids && !φ1i ids sn && !(sf && (φ1w (c.g.ps.map PK.ty) && !c.g.sv)) then .bnd (c.fn x) fun r=>
   match φ1C (c.g.rs.map RK.ty) (ioOf c.g.ps) r with
   | (a,b)=>match φc c.g.rs a f with
    | (l,os,f1)=>match φ1Y c.g.ps pl b f1 with
     | some (os',f2)=>bif Nat.ble f2 (f+idW) then outO d (φs l) (gone ids++os++os') else .fail
     | none=>.fail
  else .fail
def φ2x (t:Ty) (bytes:Nat) (xs:List t.den) (y:Sc) (d:Option Nat) (f:Nat) (ids:List Nat):OP:=
 let fin (ys:List t.den) (ids:List Nat):OP:=
  .chk (decide ((xs.length+ys.length) * bytes≤140737488355328)) (bif φ18 ids then outO d (.one (.own f)) (gone ids++[(f,some (.row t (xs++ys)))]) else .fail)
 bif Nat.beq bytes 0 then .fail else bif t.flat then see (.sl false t) [y] fun ys rest _ _=>match rest with
  | []=>fin ys ids
  | _=>.fail
 else bif t.owns then imp (.sl true t) [y] fun ys rest i=>match rest with
  | []=>fin ys (ids++i)
  | _=>.fail
 else imp (.sl false t) [y] fun ys rest i=>match rest with
  | []=>fin ys (ids++i)
  | _=>.fail
def φ3z (T:Tab) (t:TypeId) (d:Option Nat) (lo hi:Option Int):Sc→OP
 | .str s=>bif φ2Y T t then sliceBounds s.length lo hi (out d (.one (.str (cut (lo.map Int.toNat) (hi.map Int.toNat) s)))) else .fail
 | .rd soft t' xs=>match φk T t with
  | some e=>bif nEq e.size t'.size then sliceBounds xs.length lo hi (out d (.one (.rd soft t' (cut (lo.map Int.toNat) (hi.map Int.toNat) xs)))) else .fail
  | none=>.fail
 | .own id=>.obj id fun
  | some (.row t' xs)=>match φk T t with
   | some e=>bif nEq e.size t'.size then sliceBounds xs.length lo hi (out d (.one (.vw id (lo.map Int.toNat) (hi.map Int.toNat)))) else .fail
   | none=>.fail
  | _=>.fail
 | _=>.fail
def frz1 {α:Type} (v:AV) (K:(t:Ty)→t.den→Nat→RP α):RP α:=
 match v with
 | .one (.pv id off)=>bif nEq off 0 then .obj id fun
  | some (.var [.int k n])=>K (.int k) n id
  | some (.var [.str s])=>K .str s id
  | some (.var [.bool b])=>K .bool b id
  | _=>.fail
  else .fail
 | _=>.fail
def frz {α:Type}:List AV→((t:Ty)→t.den→List Nat→RP α)→RP α
 | [],_=>.fail
 | [v],K=>frz1 v fun t x id=>K (.box none t) x [id]
 | v::u::r,K=>frz1 v fun t x id=>frz (u::r) fun t' x' ids=>K (.pair (.box none t) t') (x,x') (id::ids)
def φO:Ty→Nat→Bool
 | .sl true _,off=>nEq off 0
 | .pair a b,off=>bif Nat.blt off a.size then φO a off else φO b (off - a.size)
 | _,_=>false
def getN (te:Ty):(t:Ty)→t.den→Nat→Option (List te.den)
 | .sl true t',xs,off=>bif nEq off 0 then (match Ty.same t' te with | some ⟨h⟩=>some (φ1a h xs) | none=>none) else none
 | .pair a b,x,off=>bif Nat.blt off a.size then getN te a x.1 off else getN te b x.2 (off - a.size)
 | _,_,_=>none
def putN (te:Ty) (ys:List te.den):(t:Ty)→t.den→Nat→t.den
 | .sl true t',xs,_=>match Ty.same t' te with | some ⟨h⟩=>φ1a h.symm ys | none=>xs
 | .pair a b,x,off=>bif Nat.blt off a.size then (putN te ys a x.1 off,x.2) else (x.1,putN te ys b x.2 (off - a.size))
 | _,x,_=>x
def scal:List Sc→Bool
 | []=>true
 | .int _ _::r | .bool _::r | .str _::r=>scal r
 | _=>false
def holE (E:Env):Bool:=match lkp E 1000000007 with
 | some _=>true
 | none=>false
def nsE (E:Env):Bool:=match lkp E 1000000008 with
 | some _=>true
 | none=>false
def φ2 (T:Tab) (E:Env) (o:Oper) (f:Nat):OP:=
 let d:=o.dst
 match o.op with
 | .move x | .assign x=>opd x fun v=>out d v
 | .pick c a b=>opd c fun
  | .one (.bool c)=>.split c (opd a fun v=>out d v) (opd b fun v=>out d v)
  | _=>.fail
 | .alloc t=>match lkp T t with
  | some td=>outO d (.one (.pv f 0)) [(f,some (.var (zeroCells td.ty)))]
  | none=>.fail
 | .box t x=>match lkp T t with
  | some td=>opd x fun v=>bif nEq (cells v).length td.ty.size && φ1Q (cells v) then outO d (.one (.pv f 0)) [(f,some (.var (cells v)))] else .fail
  | none=>.fail
 | .build t parts=>match lkp T t with
  | some td=>bif !td.agg then .fail else opds (parts.toList.map (·.2)) fun vs=>fillC td.flds (parts.toList.map (·.1)) vs (zeroCells td.ty) fun l=>out d (.agg l)
  | none=>.fail
 | .buildSlice t n parts=>match φk T t with
  | some e=>bif φ3T 0 parts.toList && nEq parts.size n && Nat.ble (n * e.size) 16777216 then
    opds (parts.toList.map (·.2)) fun vs=>φ1K e vs fun xs i=>.chk (φ18 i) (outO d (.one (.own f)) (gone i++[(f,some (.row e xs))]))
   else .fail
  | none=>.fail
 | .load t a=>match lkp T t with
  | some td=>opd a fun
   | .one (.pv id off)=>.obj id fun
    | some (.var l)=>mkAV td.agg td.ty.size ((l.drop off).take td.ty.size) fun v=>out d v
    | _=>.fail
   | .one (.pe id i off)=>.obj id fun
    | some (.row t' xs)=>bif nsE E && t'.owns then .fail else mkAV td.agg td.ty.size (((φY true false t' (xs.getD i.toNat t'.zero)).drop off).take td.ty.size) fun v=>out d v
    | _=>.fail
   | .one (.pr soft t' xs i off)=>mkAV td.agg td.ty.size (((φY false soft t' (xs.getD i.toNat t'.zero)).drop off).take td.ty.size) fun v=>out d v
   | .one (.bx soft none t' x)=>mkAV td.agg td.ty.size ((φY false soft t' x).take td.ty.size) fun v=>out d v
   | _=>.fail
  | none=>.fail
 | .store t a x=>match lkp T t with
  | some td=>opd a fun p=>opd x fun v=>
   bif nEq (cells v).length td.ty.size && φ1Q (cells v) then match p with
    | .one (.pv id off)=>.obj id fun
     | some (.var l)=>bif Nat.ble (off+td.ty.size) l.length then outO d (.one .undef) [(id,some (.var (φ29 l off (cells v))))] else .fail
     | _=>.fail
    | .one (.pe id i off)=>.obj id fun
     | some (.row t' xs)=>wr t' (xs.getD i.toNat t'.zero) off (cells v) fun y ids=>
      .chk (φ18 (id::ids)) (outO d (.one .undef) (gone ids++[(id,some (.row t' (xs.set i.toNat y)))]))
     | _=>.fail
    | _=>.fail
   else .fail
  | none=>.fail
 | .nilCheck x=>opd x fun
  | .one (.pv id off)=>out d (.one (.pv id off))
  | .one (.pe id i off)=>out d (.one (.pe id i off))
  | .one (.pr s t xs i off)=>out d (.one (.pr s t xs i off))
  | .one (.bx s none t x)=>out d (.one (.bx s none t x))
  | _=>.fail
 | .makeFunc fn first caps=>match fn with
  | .func g=>bif !Nat.beq first.size 0 then .fail else opds caps.toList fun vs=>frz vs fun t x ids=>.chk (φ18 ids) (outO d (.one (.bx false (some g) t x)) (gone ids))
  | _=>.fail
 | .binOp op t x y _=>opd x fun a=>opd y fun b=>φ5i T op t a b d (litO y)
 | .unOp op _ x=>opd x fun
  | .one (.bool b)=>match op with
   | .not=>out d (.one (.bool (!b)))
   | _=>.fail
  | .one (.int k n)=>match op with
   | .neg=>out d (.one (.int k (k.wrap (0 - n))))
   | .xor=>out d (.one (.int k (bits (fun _ a b=>a ^^^ b) k (if k.signed then -1 else k.max) n)))
   | _=>.fail
  | _=>.fail
 | .convert s t x=>match lkp T s,lkp T t with
  | some ts,some tt=>opd x fun v=>match v,tt.ty with
   | .one (.int _ n),.int k=>out d (.one (.int k (k.wrap n)))
   | .one (.str b),.str=>out d (.one (.str b))
   | .one c,.str=>match ts.ty with
    | .sl _ (.int .u8)=>bif !isU8 T ts.elem then .fail else see (.sl false (.int .u8)) [c] fun xs rest _ _=>match rest with
     | []=>out d (.one (.str (φ1L xs)))
     | _=>.fail
    | _=>.fail
   | _,_=>.fail
  | _,_=>.fail
 | .slice t x lo hi none=>opd x fun
  | .one s=>φ3R lo fun l=>φ3R hi fun h=>φ3z T t d l h s
  | _=>.fail
 | .fieldAddr t x j=>match lkp T t with
  | some td=>match td.flds[j]? with
   | some (o,_,_)=>opd x fun
    | .one (.pv id off)=>out d (.one (.pv id (off+o)))
    | .one (.pe id i off)=>out d (.one (.pe id i (off+o)))
    | .one (.pr s t xs i off)=>out d (.one (.pr s t xs i (off+o)))
    | _=>.fail
   | none=>.fail
  | none=>.fail
 | .field t x j=>match lkp T t with
  | some td=>match td.flds[j]? with
   | some (o,n,g)=>opd x fun
    | .agg l=>mkAV g n ((l.drop o).take n) fun v=>out d v
    | _=>.fail
   | none=>.fail
  | none=>.fail
 | .indexAddr t x j=>match φk T t with
  | some e=>opd x fun v=>opd j fun
   | .one (.int _ i)=>match v with
    | .one (.own id)=>.obj id fun
     | some (.row t' xs)=>bif nEq e.size t'.size then .chk (inB i xs.length) (out d (.one (.pe id i 0))) else .fail
     | _=>.fail
    | .one (.rd s t' xs)=>bif nEq e.size t'.size then .chk (inB i xs.length) (out d (.one (.pr s t' xs i 0))) else .fail
    | _=>.fail
   | _=>.fail
  | none=>.fail
 | .index t x j=>bif !φ2Y T t then .fail else opd x fun v=>opd j fun
  | .one (.int _ i)=>match v with
   | .one (.str s)=>.chk (inB i s.length) (out d (.one (.int .u8 ((s.getD i.toNat 0).toNat:Int))))
   | _=>.fail
  | _=>.fail
 | .extract x j=>opd x fun
  | .tup l=>match l[j]? with
   | some (true,cs)=>out d (.agg cs)
   | some (false,[s])=>out d (.one s)
   | _=>.fail
  | _=>.fail
 | .makeSlice t n m=>match φk T t with
  | some e=>bif Nat.beq (φ1E T t) 0 then .fail else opd n fun a=>opd m fun b=>match a,b with
   | .one (.int _ a),.one (.int _ b)=>.chk (a==b) (.chk (decide (0≤a) && decide (φ1E T t * a≤140737488355328)) (outO d (.one (.own f)) [(f,some (.row e (κA a.toNat e.zero)))]))
   | _,_=>.fail
  | none=>.fail
 | .call c=>opds c.args.toList fun vs=>match c.callee with
  | .builtin .len=>match c.argTypes[0]? with
   | some t=>match vs with
    | [.one (.str s)]=>bif φ2Y T t then out d (.one (.int .i64 s.length)) else .fail
    | [.one v]=>match φk T t with
     | some _=>match v with
      | .rd _ _ xs=>out d (.one (.int .i64 xs.length))
      | .nilsl=>out d (.one (.int .i64 0))
      | .own id=>.obj id fun
       | some (.row _ xs)=>out d (.one (.int .i64 xs.length))
       | _=>.fail
      | .vw id lo hi=>.obj id fun
       | some (.row _ xs)=>out d (.one (.int .i64 (cut lo hi xs).length))
       | _=>.fail
      | _=>.fail
     | none=>.fail
    | _=>.fail
   | none=>.fail
  | .builtin .append=>match c.argTypes.toList with
   | [t,t2]=>bif !nEq t t2 then .fail else match vs with
    | [x,.one y]=>match x with
     | .one (.own id)=>.obj id fun
      | some (.row e xs)=>match φk T t with
       | some e'=>match Ty.same e e' with
        | some _=>φ2x e (φ1E T t) xs y d f [id]
        | none=>.fail
       | none=>.fail
      | _=>.fail
     | .one .nilsl=>match φk T t with
      | some e=>φ2x e (φ1E T t) [] y d f []
      | none=>.fail
     | _=>.fail
    | _=>.fail
   | _=>.fail
  | .builtin .min=>match vs with
   | [.one (.int k a),.one (.int k' b)]=>bif kEq k k' then out d (.one (.int k (if b<a then b else a))) else .fail
   | _=>.fail
  | .builtin .max=>match vs with
   | [.one (.int k a),.one (.int k' b)]=>bif kEq k k' then out d (.one (.int k (if b > a then b else a))) else .fail
   | _=>.fail
  | .value (.func g)=>match lkp E g with
   | some cs=>match φ1g cs vs with
    | some ct=>φ3s (nsE E) ct vs d f
    | none=>.fail
   | none=>.fail
  | .value (.tmp i)=>.slot i fun
   | .one (.bx false (some g) t x)=>match lkp E g with
    | some cs=>match φ1g cs (vs++(φY false false t x).map .one) with
     | some ct=>φ3s (nsE E) ct (vs++(φY false false t x).map .one) d f
     | none=>.fail
    | none=>.fail
   | _=>.fail
  | _=>.fail
 | _=>.fail
where
 fillC (flds:List (Nat×Nat×Bool)):List Nat→List AV→List Sc→(List Sc→OP)→OP
 | [],[],l,K=>K l
 | j::js,v::vs,l,K=>match flds[j]? with
  | some (o,n,_)=>bif nEq (cells v).length n && φ1Q (cells v) && Nat.ble (o+n) l.length then fillC flds js vs (φ29 l o (cells v)) K else .fail
  | none=>.fail
 | _,_,_,_=>.fail
def φ6o (ct:Ctr) (vs:List AV) (d:Option Nat):OP:=
 match ct with
 | ⟨⟨[.io (.sl true te),.val (.int .i64)],[.val (.int .i64)],false,false⟩,fn⟩=>(match vs with
  | [.one (.so id i off),.one (.int .i64 k)]=>.obj id fun
   | some (.row t xs)=>bif te.flat then (match getN te t (xs.getD i.toNat t.zero) off with
    | some ys=>.bnd (fn (ys,k)) fun r=>outO d (.one (.int .i64 r.1)) [(id,some (.row t (xs.set i.toNat (putN te r.2 t (xs.getD i.toNat t.zero) off))))]
    | none=>.fail) else .fail
   | _=>.fail
  | _=>.fail)
 | ⟨⟨[.val (.int .i64)],[.val .str],false,false⟩,fn⟩=>(match vs with
  | [.one (.int .i64 k)]=>.bnd (fn k) fun r=>out d (.one (.str r))
  | _=>.fail)
 | _=>.fail
def φj (T:Tab) (E:Env) (o:Oper) (f:Nat):OP:=
 match o.op with
 | .move _ | .assign _ | .nilCheck _ | .fieldAddr _ _ _ | .indexAddr _ _ _ | .binOp _ _ _ _ _ | .unOp _ _ _ | .convert _ _ _=>φ2 T E o f
 | .load t a=>match lkp T t with
  | some td=>opd a fun
   | .one (.pe id i off)=>.obj id fun
    | some (.row t' _)=>bif φO t' off && (nEq td.ty.size 1 && !td.agg) then out o.dst (.one (.so id i off)) else .fail
    | _=>.fail
   | _=>.fail
  | none=>.fail
 | .store _ _ x=>opd x fun v=>bif scal (cells v) then φ2 T E o f else .fail
 | .call c=>match c.callee with
  | .builtin .len=>φ2 T E o f
  | .value (.func g)=>opds c.args.toList fun vs=>match lkp E g with
   | some [ct]=>φ6o ct vs o.dst
   | _=>.fail
  | _=>.fail
 | _=>.fail
def step (T:Tab) (E:Env) (o:Oper) (f:Nat):OP:=bif holE E then φj T E o f else φ2 T E o f
def nSc {ρ:Type} (s:Sc) (K:Sc→ρ):ρ:=
 match s with
 | .undef=>K .undef
 | .skip=>K .skip
 | .int k n=>K (.int k n)
 | .bool b=>K (.bool b)
 | .str s=>K (.str s)
 | .nilsl=>K .nilsl
 | .nilif=>K .nilif
 | .err b=>K (.err b)
 | .rd s t xs=>K (.rd s t xs)
 | .own i=>K (.own i)
 | .vw i a b=>K (.vw i a b)
 | .pv i o=>K (.pv i o)
 | .pe i j o=>K (.pe i j o)
 | .pr s t xs i o=>K (.pr s t xs i o)
 | .bx s g t x=>K (.bx s g t x)
 | .so i j o=>K (.so i j o)
def nL {ρ:Type}:List Sc→(List Sc→ρ)→ρ
 | [],K=>K []
 | s::r,K=>nSc s fun s=>nL r fun r=>K (s::r)
def nT {ρ:Type}:List (Bool×List Sc)→(List (Bool×List Sc)→ρ)→ρ
 | [],K=>K []
 | (b,l)::r,K=>nL l fun l=>nT r fun r=>K ((b,l)::r)
def nAV {ρ:Type} (v:AV) (K:AV→ρ):ρ:=
 match v with
 | .one s=>nSc s fun s=>K (.one s)
 | .agg l=>nL l fun l=>K (.agg l)
 | .tup l=>nT l fun l=>K (.tup l)
def nObj {ρ:Type} (o:Option Obj) (K:Option Obj→ρ):ρ:=
 match o with
 | none=>K none
 | some (.row t xs)=>K (some (.row t xs))
 | some (.var l)=>nL l fun l=>K (some (.var l))
def nSS {ρ:Type}:List (Nat×AV)→(List (Nat×AV)→ρ)→ρ
 | [],K=>K []
 | (i,v)::r,K=>nAV v fun v=>nSS r fun r=>K ((i,v)::r)
def nOS {ρ:Type}:List (Nat×Option Obj)→(List (Nat×Option Obj)→ρ)→ρ
 | [],K=>K []
 | (i,v)::r,K=>nObj v fun v=>nOS r fun r=>K ((i,v)::r)
def nU {ρ:Type} (u:Upd) (K:Upd→ρ):ρ:=nSS u.ss fun ss=>nOS u.os fun os=>K ⟨ss,os⟩
structure Ent where
 i:Nat
 rs:List Key
 ss:List Nat
 os:List Nat
def φ2F (ops:Array Oper) (o:Oper):Option (Option Nat×Bool):=
 match o.guard with
 | none=>none
 | some (j,b)=>some ((ops[j]?).bind (·.dst),b)
def φ1W {ρ:Type} (T:Tab) (E:Env) (ops:Array Oper) (f0:Nat):List Oper→Nat→St→List Ent→(St→List Ent→Option ρ)→Option ρ
 | [],_,s,bk,K=>K s bk
 | o::r,i,s,bk,K=>
  let go (s:St) (rs:List Key):Option ρ:=
   (step T E o (f0+i * idW)).run s (fun u rs'=>nU u fun u=>φ1W T E ops f0 r (i+1) (s.app u.ss u.os) (⟨i,rs',u.ss.map (·.1),u.os.map (·.1)⟩::bk) K) rs
  let off (s:St) (rs:List Key):Option ρ:=match o.dst with
   | some d=>φ1W T E ops f0 r (i+1) (s.app [(d,.one .skip)] []) (⟨i,rs,[d],[]⟩::bk) K
   | none=>φ1W T E ops f0 r (i+1) s (⟨i,rs,[],[]⟩::bk) K
  match φ2F ops o with
  | none=>go s []
  | some (some g,want)=>match s.sl g with
   | .one (.bool b)=>
    bif b then (let s':St:=⟨upd s.sl g (.one (.bool true)),s.ob⟩;bif want then go s' [.s g] else off s' [.s g])
    else (let s':St:=⟨upd s.sl g (.one (.bool false)),s.ob⟩;bif want then off s' [.s g] else go s' [.s g])
   | .one .skip=>off s [.s g]
   | _=>none
  | some (none,_)=>none
def φ1o (ss os:List Nat):List Key→Bool
 | []=>false
 | .s i::r=>hasN i ss || φ1o ss os r
 | .o i::r=>hasN i os || φ1o ss os r
def φw (a b:Ent):Bool:=
 !φ1o a.ss a.os b.rs && !φ1o b.ss b.os a.rs && !φ1i a.ss b.ss && !φ1i a.os b.os
def φ1e (acc:List Nat):List Edge→Nat
 | []=>0
 | e::r=>bif Region.binds .any e then (2 ^ e.on ||| acc.getD e.on 0) ||| φ1e acc r else φ1e acc r
def φr:List Oper→List Nat→List Nat
 | [],acc=>acc
 | o::r,acc=>φr r (acc++[φ1e acc o.after.toList])
def φ3E (i:Nat):List Edge→Bool
 | []=>true
 | e::r=>(!Region.binds .any e || Nat.blt e.on i) && φ3E i r
def φ1k:Nat→List Oper→Bool
 | _,[]=>true
 | i,o::r=>φ3E i o.after.toList && φ1k (i+1) r
def φ26 (bh:List Nat):List Ent→Bool
 | []=>true
 | b::r=>r.all (fun a=>Nat.testBit (bh.getD b.i 0) a.i || φw a b) && φ26 bh r
def φ4v {ρ:Type} (T:Tab) (E:Env) (ops:Array Oper) (draw:Bool) (s:St) (f:Nat) (K:St→Nat→Option ρ):Option ρ:=
 φ1W T E ops f ops.toList 0 s [] fun s' bk=>bif !draw || (φ1k 0 ops.toList && φ26 (φr ops.toList []) bk) then K s' (f+ops.size * idW) else none
inductive SK where
 | val (t:Ty)
 | ptr (t:Ty)
 | dup (j:Nat)
 | ptw (t:Ty)
 | lnk (off j off2:Nat)
abbrev Sh:=List (Nat×SK)
def φG:Sh→List Ty
 | []=>[]
 | (_,.val t)::h | (_,.ptr t)::h | (_,.ptw t)::h=>t::φG h
 | (_,.dup _)::h=>φG h
 | (_,.lnk _ _ _)::h=>φG h
def φ1s:AV→AV→Bool
 | .one (.own i),.one (.own j)=>nEq i j
 | .one (.pv i o),.one (.pv j p)=>nEq i j && nEq o p
 | _,_=>false
def ext {α:Type}:(h:Sh)→(Tys (φG h)→List Nat→RP α)→RP α
 | [],K=>K () []
 | (i,.val t)::h,K=>.slot i fun v=>bif !shp t v then .fail else imp t (cells v) fun x rest ids=>match rest with
  | []=>ext h fun xs ids'=>K (φS t (φG h) x xs) (ids++ids')
  | _=>.fail
 | (i,.ptr t)::h,K=>.slot i fun
  | .one (.pv id off)=>bif nEq off 0 then .obj id fun
    | some (.var cs)=>imp t cs fun x rest ids=>match rest with
     | []=>ext h fun xs ids'=>K (φS t (φG h) x xs) (id::(ids++ids'))
     | _=>.fail
    | _=>.fail
   else .fail
  | _=>.fail
 | (i,.ptw t)::h,K=>.slot i fun
  | .one (.pv id off)=>bif nEq off 0 then .obj id fun
    | some (.var cs)=>impW t cs fun x rest=>match rest with
     | []=>ext h fun xs ids'=>K (φS t (φG h) x xs) (id::ids')
     | _=>.fail
    | _=>.fail
   else .fail
  | _=>.fail
 | (i,.dup j)::h,K=>.slot i fun v=>.slot j fun u=>bif φ1s v u then (match v with
  | .one (.own id)=>.obj id fun
   | some (.row _ _)=>ext h K
   | _=>.fail
  | .one (.pv id _)=>.obj id fun
   | some (.var _)=>ext h K
   | _=>.fail
  | _=>.fail) else .fail
 | (i,.lnk off j off2)::h,K=>.slot i fun
  | .one (.pv id o1)=>.slot j fun
   | .one (.pv id2 o2)=>bif nEq o1 0 && nEq o2 0 then .obj id fun
    | some (.var l)=>.obj id2 fun
     | some (.var l2)=>(match l[off]?,l2[off2]? with
      | some (.own k),some (.own k2)=>bif nEq k k2 then .obj k fun
       | some (.row _ _)=>ext h K
       | _=>.fail
       else .fail
      | _,_=>.fail)
     | _=>.fail
    | _=>.fail
    else .fail
   | _=>.fail
  | _=>.fail
def extS {ρ:Type} (h:Sh) (s:St) (K:Tys (φG h)→Option ρ):Option ρ:=
 (ext h fun x ids=>.ret (x,ids)).run s (fun p _=>bif φ18 p.2 then K p.1 else none) []
def rest {ρ:Type}:(h:Sh)→Tys (φG h)→St→Nat→(St→Nat→Option ρ)→Option ρ
 | [],_,s,f,K=>K s f
 | (i,.val t)::h,x,s,f,K=>match φ5 t (φ4 t (φG h) x) f with
  | (cs,o,f1)=>rest h (φF t (φG h) x) (s.app [(i,φs [(φU t,cs)])] o) f1 K
 | (i,.ptr t)::h,x,s,f,K=>match φ5 t (φ4 t (φG h) x) (f+1) with
  | (cs,o,f1)=>rest h (φF t (φG h) x) (s.app [(i,.one (.pv f 0))] ((f,some (.var cs))::o)) f1 K
 | (i,.ptw t)::h,x,s,f,K=>rest h (φF t (φG h) x) (s.app [(i,.one (.pv f 0))] [(f,some (.var (φ25 t (φ4 t (φG h) x))))]) (f+1) K
 | (i,.dup j)::h,x,s,f,K=>rest h x (s.app [(i,s.sl j)] []) f K
 | (i,.lnk off j off2)::h,x,s,f,K=>match s.sl i,s.sl j with
  | .one (.pv id _),.one (.pv id2 _)=>(match s.ob id,s.ob id2 with
   | some (.var l),some (.var l2)=>(match l2[off2]? with
    | some (.own k)=>rest h x (s.app [] [(id,some (.var (l.set off (.own k))))]) f K
    | _=>none)
   | _,_=>none)
  | _,_=>none
def St.empty:St:=⟨fun _=>.one .undef,fun _=>none⟩
inductive Ex where
 | normal
 | exit (n:Nat)
 | ret
def exEq:Ex→Ex→Bool
 | .normal,.normal | .ret,.ret=>true
 | .exit n,.exit m=>nEq n m
 | _,_=>false
structure Ann where
 loops:List (Nat×(Sh×List (Ex×Sh)))
 blocks:List (Nat×List (Ex×Sh))
 joins:List (Nat×List (Ex×Sh))
def Outs:List (Ex×Sh)→Type
 | []=>Empty
 | [(_,h)]=>Tys (φG h)
 | (_,h)::x::r=>Tys (φG h) ⊕ Outs (x::r)
def injO {ρ:Type} (s:St) (e:Ex):(l:List (Ex×Sh))→(Outs l→Option ρ)→Option ρ
 | [],_=>none
 | [(e',h)],K=>bif exEq e e' then extS h s K else none
 | (e',h)::x::r,K=>bif exEq e e' then extS h s (fun t=>K (.inl t)) else injO s e (x::r) (fun t=>K (.inr t))
noncomputable def φD {A B C:Type} (o:A ⊕ B) (f:A→C) (g:B→C):C:=Sum.rec f g o
noncomputable def φ2Q {ρ:Type}:(l:List (Ex×Sh))→Outs l→(Ex→St→Nat→Option ρ)→Option ρ
 | [],_,_=>none
 | [(e,h)],t,K=>rest h t St.empty 0 (fun s f=>K e s f)
 | (e,h)::x::r,o,K=>φD o (fun t=>rest h t St.empty 0 (fun s f=>K e s f)) (fun o=>φ2Q (x::r) o K)
def φ19 {A B:Type} (step:(A→Option B)→A→Option B):Nat→A→Option B
 | 0,_=>none
 | n+1,a=>step (φ19 step n) a
noncomputable def FUEL:Nat:=Classical.choose (⟨2 ^ 62,κD _⟩:∃n,2 ^ 62≤n)
theorem φ3k:2 ^ 62≤FUEL:=Classical.choose_spec (⟨2 ^ 62,κD _⟩:∃n,2 ^ 62≤n)
noncomputable def lp {A B:Type} (step:(A→Option B)→A→Option B) (a:A):Option B:=φ19 step FUEL a
def φ1h (id:Nat):Ex→Ex
 | .exit n=>bif nEq n id then .normal else .exit n
 | e=>e
def φ8b (A:Ann):Code→Code→Option (List (Ex×Sh))
 | .region r _ _,.cond _ _ _=>lkp A.joins r
 | _,_=>none
def φ66 {ρ:Type} (s:St) (c:Operand) (K:Bool→Option ρ):Option ρ:=
 match c with
 | .tmp t=>match s.sl t with
  | .one (.bool b)=>K b
  | _=>none
 | .const (.bool b)=>K b
 | _=>none
noncomputable def evC (T:Tab) (E:Env) (A:Ann):Code→{ρ:Type}→St→Nat→(Ex→St→Nat→Option ρ)→Option ρ
 | .skip,_,s,f,K=>K .normal s f
 | .region _ ops dr,_,s,f,K=>φ4v T E ops dr s f (fun s' f'=>K .normal s' f')
 | .seq a b,_,s,f,K=>match φ8b A a b with
  | none=>evC T E A a s f (fun e s' f'=>match e with
   | .normal=>evC T E A b s' f' K
   | .exit n=>K (.exit n) s' f'
   | .ret=>K .ret s' f')
  | some exs=>(evC T E A a s f (fun e s' f'=>match e with
   | .normal=>evC T E A b s' f' (fun e2 s2 _=>injO s2 e2 exs some)
   | .exit n=>injO s' (.exit n) exs some
   | .ret=>injO s' .ret exs some)).bind fun o=>φ2Q exs o K
 | .cond c a b,_,s,f,K=>φ66 s c fun t=>bif t then evC T E A a s f K else evC T E A b s f K
 | .block id (.loop bd),_,s,_,K=>match lkp A.loops id with
  | some (h,exs)=>
   (extS h s fun t0=>lp (fun rec t=>rest h t St.empty 0 fun s1 f1=>evC T E A bd s1 f1 (fun e s2 _=>match e with
    | .normal=>extS h s2 rec
    | .exit n=>injO s2 (.exit n) exs some
    | .ret=>injO s2 .ret exs some)) t0).bind fun o=>φ2Q exs o (fun e s' f'=>K (φ1h id e) s' f')
  | none=>none
 | .block id body,_,s,f,K=>match lkp A.blocks id with
  | none=>evC T E A body s f (fun e s' f'=>K (φ1h id e) s' f')
  | some exs=>(evC T E A body s f (fun e s' _=>injO s' (φ1h id e) exs some)).bind fun o=>φ2Q exs o K
 | .exit id,_,s,f,K=>K (.exit id) s f
 | .ret,_,s,f,K=>K .ret s f
 | _,_,_,_,_=>none
def entO (sv:Bool) (t:Ty) (x:t.den) (f:Nat):List Sc×List (Nat×Option Obj)×Nat:=
 bif sv && !t.owns then (φY false true t x,[],f) else φ5 t x f
def φ1r {ρ:Type} (sv:Bool):(ps:List PK)→Tys (ps.map PK.ty)→Nat→St→Nat→(St→Nat→Option ρ)→Option ρ
 | [],_,_,s,f,K=>K s f
 | .val t::ps,x,i,s,f,K=>match entO sv t (φ4 t (ps.map PK.ty) x) f with
  | (cs,o,f1)=>φ1r sv ps (φF t (ps.map PK.ty) x) (i+1) (s.app [(i,φs [(φU t,cs)])] o) f1 K
 | .io t::ps,x,i,s,f,K=>match φ5 t (φ4 t (ps.map PK.ty) x) f with
  | (cs,o,f1)=>φ1r sv ps (φF t (ps.map PK.ty) x) (i+1) (s.app [(i,φs [(φU t,cs)])] o) f1 K
 | .ptr t::ps,x,i,s,f,K=>match φ5 t (φ4 t (ps.map PK.ty) x) (f+1) with
  | (cs,o,f1)=>φ1r sv ps (φF t (ps.map PK.ty) x) (i+1) (s.app [(i,.one (.pv f 0))] ((f,some (.var cs))::o)) f1 K
def φ2g:(a b:List Ty)→Tys a→Tys b→Tys (a++b)
 | [],_,_,y=>y
 | [_],[],x,_=>x
 | [_],_::_,x,y=>(x,y)
 | _::u::r,b,x,y=>(x.1,φ2g (u::r) b x.2 y)
def φy {α:Type} (T:Tab):(rs:List RK)→List ResultVar→(Tys (rs.map RK.ty)→List Nat→RP α)→RP α
 | [],[],K=>K () []
 | .val t::rs,v::vs,K=>match v with
  | .tmp a=>.slot a fun v=>bif !shp t v then .fail else imp t (cells v) fun x rst i=>match rst with
   | []=>φy T rs vs fun xs j=>K (φS t (rs.map RK.ty) x xs) (i++j)
   | _=>.fail
  | .cell a ty=>match lkp T ty with
   | some td=>bif !(nEq td.ty.size t.size && (td.agg==φU t)) then .fail else .slot a fun
    | .one (.pv id off)=>.obj id fun
     | some (.var l)=>imp t ((l.drop off).take t.size) fun x rst i=>match rst with
      | []=>φy T rs vs fun xs j=>K (φS t (rs.map RK.ty) x xs) (i++j)
      | _=>.fail
     | _=>.fail
    | _=>.fail
   | none=>.fail
 | .ptr t::rs,v::vs,K=>match v with
  | .tmp a=>.slot a fun
   | .one (.pv id off)=>bif nEq off 0 then .obj id fun
    | some (.var l)=>imp t l fun x rst i=>match rst with
     | []=>φy T rs vs fun xs j=>K (φS t (rs.map RK.ty) x xs) (id::(i++j))
     | _=>.fail
    | _=>.fail
    else .fail
   | _=>.fail
  | _=>.fail
 | _,_,_=>.fail
def φ1V {α:Type}:(ps:List PK)→Nat→(Tys (ioOf ps)→List Nat→RP α)→RP α
 | [],_,K=>K () []
 | .val _::ps,n,K=>φ1V ps (n+1) K
 | .io t::ps,n,K=>.slot n fun v=>bif !shp t v then .fail else imp t (cells v) fun x rst i=>match rst with
  | []=>φ1V ps (n+1) fun xs j=>K (φS t (ioOf ps) x xs) (i++j)
  | _=>.fail
 | .ptr t::ps,n,K=>.slot n fun
  | .one (.pv id off)=>bif nEq off 0 then .obj id fun
   | some (.var cs)=>imp t cs fun x rst i=>match rst with
    | []=>φ1V ps (n+1) fun xs j=>K (φS t (ioOf ps) x xs) (id::(i++j))
    | _=>.fail
   | _=>.fail
   else .fail
  | _=>.fail
def writes:Code→List Nat
 | .region _ ops _=>ops.toList.filterMap (·.dst)
 | .seq a b=>writes a++writes b
 | .cond _ a b=>writes a++writes b
 | .block _ b=>writes b
 | .loop b=>writes b
 | _=>[]
def φ1U (ws:List Nat):List PK→Nat→Bool
 | [],_=>true
 | .val _::ps,n=>φ1U ws ps (n+1)
 | _::ps,n=>!hasN n ws && φ1U ws ps (n+1)
def φ35 (n:Nat):List Nat→Bool
 | []=>true
 | m::r=>Nat.blt m n && φ35 n r
def dwOk (E:Env) (g:Sig):Bool:=
 (!holE E || nsE E) && (bif g.dw then nsE E else !nsE E || !φ1w (g.ps.map PK.ty))
def φ1P:List PK→Bool
 | []=>true
 | .val t::r=>(!t.owns || !φX t) && φ1P r
 | .io t::r=>!φX t && φ1P r
 | .ptr t::r=>!φX t && φ1P r
def svOk (E:Env) (g:Sig):Bool:=!g.sv || (!nsE E && (!anyR g.outs && φ1P g.ps))
noncomputable def evF (T:Tab) (E:Env) (A:Ann) (g:Sig) (nt:Nat) (rv:List ResultVar) (body:Code) (x:Tys g.ins):Option (Tys g.outs):=
 bif !(φ1U (writes body) g.ps 0 && φ35 nt (writes body) && Nat.ble g.ps.length nt && dwOk E g && svOk E g) then none else
 φ1r g.sv g.ps x 0 St.empty 0 fun s f=>evC T E A body s f fun e s' _=>match e with
  | .exit _=>none
  | .normal | .ret=>(φy T g.rs rv fun a i=>φ1V g.ps 0 fun b j=>.ret (φ2g (g.rs.map RK.ty) (ioOf g.ps) a b,i++j)).run s' (fun p _=>bif φ18 p.2 then some p.1 else none) []
end Go.Rf
namespace Go.Rf
def Ch {α:Type} (R:α→List Value→Prop):List α→List Value→Prop
 | [],cs=>cs=[]
 | x::xs,cs=>∃c1 c2,cs=c1++c2∧R x c1∧Ch R xs c2
def ChO {α:Type} (R:α→List Value→List Nat→Prop):List α→List Value→List Nat→Prop
 | [],cs,fp=>cs=[]∧fp=[]
 | x::xs,cs,fp=>∃c1 c2 f1 f2,cs=c1++c2∧fp=f1++f2∧R x c1 f1∧ChO R xs c2 f2
def φ1n {α:Type} (w:World) (I:Nat→Prop) (R:α→List Value→Prop) (xs:List α) (A:Option Addr):Prop:=
 xs=[]∨∃a C e fr pre ces post,A=some a∧a.spot=none∧I a.block∧w.heap[a.block]?=some (.cells C e fr) ∧
  C.toList=pre++(ces++post)∧pre.length=a.off∧Ch R xs ces
def Rd (w:World) (I:Nat→Prop):(t:Ty)→t.den→List Value→Prop
 | .int k,n,cs=>cs=[.int k n]
 | .bool,b,cs=>cs=[.bool b]
 | .str,s,cs=>cs=[.string ⟨List.toArray s⟩]
 | .sl _ t,xs,cs=>∃A c,cs=[.slice A (List.length (α:=t.den) xs) c]∧List.length (α:=t.den) xs≤c∧φ1n w I (Rd w I t) xs A
 | .pair a b,x,cs=>∃c1 c2,cs=c1++c2∧Rd w I a x.1 c1∧Rd w I b x.2 c2
 | .box none t,x,cs=>∃b o,cs=[.pointer (some ⟨b,o,none⟩)]∧φ1n w I (Rd w I t) [x] (some ⟨b,o,none⟩)
 | .box (some g) t,x,cs=>∃caps:List Value,cs=[.func (.func g) #[] caps.toArray]∧Rd w I t x caps
def φ2B {α:Type} (w:World) (R:α→List Value→List Nat→Prop) (sz:Nat) (xs:List α) (g c:Nat) (fp:List Nat):Prop:=
 ∃ces rest e,w.heap[g]?=some (.cells (ces++rest).toArray e (0,0))∧(ces++rest).length=c * sz∧xs.length≤c∧ChO R xs ces fp
def Ow (w:World) (I:Nat→Prop):(t:Ty)→t.den→List Value→List Nat→Prop
 | .sl true t,xs,cs,fp=>(xs=([]:List t.den)∧cs=[.slice none 0 0]∧fp=[]) ∨
   ∃g c f,cs=[.slice (some ⟨g,0,none⟩) (List.length (α:=t.den) xs) c]∧fp=g::f∧φ2B w (Ow w I t) t.size xs g c f
 | .pair a b,x,cs,fp=>∃c1 c2 f1 f2,cs=c1++c2∧fp=f1++f2∧Ow w I a x.1 c1 f1∧Ow w I b x.2 c2 f2
 | t,x,cs,fp=>Rd w I t x cs∧fp=[]
theorem Ch.mono {α:Type} {R R':α→List Value→Prop} (h:∀x cs,R x cs→R' x cs):∀xs cs,Ch R xs cs→Ch R' xs cs
 | [],_,k=>k
 | _::xs,_,⟨c1,c2,e,r,k⟩=>⟨c1,c2,e,h _ _ r,Ch.mono h xs c2 k⟩
theorem ChO.mono {α:Type} {R R':α→List Value→List Nat→Prop}:∀xs cs fp,(∀x cs f,(∀b∈f,b∈fp)→R x cs f→R' x cs f)→ChO R xs cs fp→ChO R' xs cs fp
 | [],_,_,_,k=>k
 | _::xs,_,fp,h,⟨c1,c2,f1,f2,e,e',r,k⟩=>
  ⟨c1,c2,f1,f2,e,e',h _ _ _ (fun b hb=>by rw[e'];exact mL _ hb) r,
   ChO.mono xs c2 f2 (fun x cs f hf=>h x cs f (fun b hb=>by rw[e'];exact mR _ (hf b hb))) k⟩
theorem Rd.mono {w w':World} {I I':Nat→Prop} (hI:∀b,I b→I' b) (hb:∀b,I b→w'.heap[b]?=w.heap[b]?):∀(t:Ty) (x:t.den) cs,Rd w I t x cs→Rd w' I' t x cs
 | .int _,_,_,h=>h
 | .bool,_,_,h=>h
 | .str,_,_,h=>h
 | .sl _ t,xs,cs,⟨A,c,e,hc,h⟩=>by
  refine ⟨A,c,e,hc,?_⟩
  rcases h with h | ⟨a,C,el,fr,pre,ces,post,h1,h2,h3,h4,h5,h6,h7⟩
  ·exact .inl h
  ·exact .inr ⟨a,C,el,fr,pre,ces,post,h1,h2,hI _ h3,(hb _ h3).trans h4,h5,h6,Ch.mono (fun x cs=>Rd.mono hI hb t x cs) _ _ h7⟩
 | .pair a b,x,cs,⟨c1,c2,e,h,h'⟩=>⟨c1,c2,e,Rd.mono hI hb a _ _ h,Rd.mono hI hb b _ _ h'⟩
 | .box none t,x,cs,⟨b,o,e,h⟩=>by
  refine ⟨b,o,e,?_⟩
  rcases h with h | ⟨a,C,el,fr,pre,ces,post,h1,h2,h3,h4,h5,h6,h7⟩
  ·exact .inl h
  ·exact .inr ⟨a,C,el,fr,pre,ces,post,h1,h2,hI _ h3,(hb _ h3).trans h4,h5,h6,Ch.mono (fun x cs=>Rd.mono hI hb t x cs) _ _ h7⟩
 | .box (some _) t,x,cs,⟨caps,e,h⟩=>⟨caps,e,Rd.mono hI hb t _ _ h⟩
theorem Ow.mono {w w':World} {I I':Nat→Prop} (hI:∀b,I b→I' b) (hb:∀b,I b→w'.heap[b]?=w.heap[b]?):∀(t:Ty) (x:t.den) cs fp,
  (∀b∈fp,w'.heap[b]?=w.heap[b]?)→Ow w I t x cs fp→Ow w' I' t x cs fp
 | .int _,_,_,_,_,h=>h
 | .bool,_,_,_,_,h=>h
 | .str,_,_,_,_,h=>h
 | .sl false t,xs,cs,fp,_,⟨h,e⟩=>⟨Rd.mono hI hb (.sl false t) xs cs h,e⟩
 | .box g t,x,cs,fp,_,⟨h,e⟩=>⟨Rd.mono hI hb (.box g t) x cs h,e⟩
 | .sl true t,xs,cs,fp,hf,h=>by
  rcases h with h | ⟨g,c,f,e1,e2,ces,rest,e,h4,h5,h6,h7⟩
  ·exact .inl h
  ·subst e2
   exact .inr ⟨g,c,f,e1,rfl,ces,rest,e,(hf g (by simp)).trans h4,h5,h6,
    ChO.mono _ _ _ (fun x cs f' hf'=>Ow.mono hI hb t x cs f' (fun b hbb=>hf b (mC _ (hf' b hbb)))) h7⟩
 | .pair a b,x,cs,fp,hf,⟨c1,c2,f1,f2,e,e',h,h'⟩=>by
  subst e'
  exact ⟨c1,c2,f1,f2,e,rfl,Ow.mono hI hb a _ _ _ (fun b hb'=>hf b (mL _ hb')) h,Ow.mono hI hb b _ _ _ (fun b hb'=>hf b (mR _ hb')) h'⟩
theorem Ch.of_O {α:Type} {R:α→List Value→List Nat→Prop} {R':α→List Value→Prop}:∀xs cs fp,(∀x cs f,(∀b∈f,b∈fp)→R x cs f→R' x cs)→ChO R xs cs fp→Ch R' xs cs
 | [],_,_,_,k=>k.1
 | _::xs,_,fp,h,⟨c1,c2,f1,f2,e,e',r,k⟩=>
  ⟨c1,c2,e,h _ _ _ (fun b hb=>by rw[e'];exact mL _ hb) r,
   Ch.of_O xs c2 f2 (fun x cs f hf=>h x cs f (fun b hb=>by rw[e'];exact mR _ (hf b hb))) k⟩
theorem Ow.rd {w:World} {I I':Nat→Prop} (hI:∀b,I b→I' b):∀(t:Ty) (x:t.den) cs fp,(∀b∈fp,I' b)→Ow w I t x cs fp→Rd w I' t x cs
 | .int _,_,_,_,_,h=>h.1
 | .bool,_,_,_,_,h=>h.1
 | .str,_,_,_,_,h=>h.1
 | .sl false t,xs,cs,fp,_,h=>Rd.mono hI (fun _ _=>rfl) (.sl false t) xs cs h.1
 | .box g t,x,cs,fp,_,h=>Rd.mono hI (fun _ _=>rfl) (.box g t) x cs h.1
 | .sl true t,xs,cs,fp,hf,h=>by
  rcases h with ⟨e1,e2,e3⟩ | ⟨g,c,f,e1,e2,ces,rest,e,h4,h5,h6,h7⟩
  ·exact ⟨none,0,by rw[e1,e2];rfl,by rw[e1];exact κD _,.inl e1⟩
  ·subst e2
   exact ⟨_,c,e1,h6,.inr ⟨⟨g,0,none⟩,_,e,_,[],ces,rest,rfl,rfl,hf g (by simp),h4,by simp,rfl,
    Ch.of_O _ _ _ (fun x cs f' hf'=>Ow.rd hI t x cs f' (fun b hb=>hf b (mC _ (hf' b hb)))) h7⟩⟩
 | .pair a b,x,cs,fp,hf,⟨c1,c2,f1,f2,e,e',h,h'⟩=>by
  subst e'
  exact ⟨c1,c2,e,Ow.rd hI a _ _ _ (fun b hb'=>hf b (mL _ hb')) h,Ow.rd hI b _ _ _ (fun b hb'=>hf b (mR _ hb')) h'⟩
theorem Rd.size {w:World} {I:Nat→Prop}:∀(t:Ty) (x:t.den) cs,Rd w I t x cs→cs.length=t.size
 | .int _,_,_,h=>by rw[h];rfl
 | .bool,_,_,h=>by rw[h];rfl
 | .str,_,_,h=>by rw[h];rfl
 | .sl _ _,_,_,⟨_,_,h,_⟩=>by rw[h];rfl
 | .box none _,_,_,⟨_,_,h,_⟩=>by rw[h];rfl
 | .box (some _) _,_,_,⟨_,h,_⟩=>by rw[h];rfl
 | .pair a b,x,cs,⟨c1,c2,e,h,h'⟩=>by rw[e,lA,Rd.size a _ _ h,Rd.size b _ _ h'];rfl
theorem Ow.size {w:World} {I:Nat→Prop} (t:Ty) (x:t.den) (cs:List Value) (fp:List Nat) (h:Ow w I t x cs fp):cs.length=t.size:=
 Rd.size (I:=fun _=>True) t x cs (Ow.rd (fun _ _=>trivial) t x cs fp (fun _ _=>trivial) h)
theorem Ch.len {α:Type} {R:α→List Value→Prop} {n:Nat} (h:∀x cs,R x cs→cs.length=n):∀xs cs,Ch R xs cs→cs.length=xs.length * n
 | [],_,k=>by rw[k];simp
 | _::xs,_,⟨c1,c2,e,r,k⟩=>by
  rw[e,lA,h _ _ r,Ch.len h xs c2 k,lC,Nat.add_mul,Nat.one_mul,Nat.add_comm]
theorem ChO.len {α:Type} {R:α→List Value→List Nat→Prop} {n:Nat} (h:∀x cs f,R x cs f→cs.length=n):∀xs cs fp,ChO R xs cs fp→cs.length=xs.length * n
 | [],_,_,k=>by rw[k.1];simp
 | _::xs,_,_,⟨c1,c2,f1,f2,e,_,r,k⟩=>by
  rw[e,lA,h _ _ _ r,ChO.len h xs c2 f2 k,lC,Nat.add_mul,Nat.one_mul,Nat.add_comm]
theorem ChO.append {α:Type} {R:α→List Value→List Nat→Prop}:∀xs cs fp ys ds fq,ChO R xs cs fp→ChO R ys ds fq→ChO R (xs++ys) (cs++ds) (fp++fq)
 | [],_,_,_,_,_,h,k=>by obtain ⟨rfl,rfl⟩:=h;simpa using k
 | _::xs,_,_,ys,ds,fq,⟨c1,c2,f1,f2,e,e',r,h⟩,k=>
  ⟨c1,c2++ds,f1,f2++fq,by rw[e,aA],by rw[e',aA],r,ChO.append xs c2 f2 ys ds fq h k⟩
theorem ChO.at {α:Type} {R:α→List Value→List Nat→Prop}:∀(xs:List α) cs fp i (hi:i<xs.length),ChO R xs cs fp →
  ∃c1 c2 c3 f1 f2 f3,cs=c1++(c2++c3)∧fp=f1++(f2++f3)∧R xs[i] c2 f2∧ChO R (xs.take i) c1 f1∧ChO R (xs.drop (i+1)) c3 f3
 | x::xs,cs,fp,0,_,⟨c1,c2,f1,f2,e,e',r,h⟩=>⟨[],c1,c2,[],f1,f2,by simpa using e,by simpa using e',r,⟨rfl,rfl⟩,h⟩
 | x::xs,cs,fp,i+1,hi,⟨c1,c2,f1,f2,e,e',r,h⟩=>by
  obtain ⟨d1,d2,d3,g1,g2,g3,k1,k2,k3,k4,k5⟩:=ChO.at xs c2 f2 i (by simpa using hi) h
  exact ⟨c1++d1,d2,d3,f1++g1,g2,g3,by rw[e,k1,aA],by rw[e',k2,aA],by simpa using k3,
   ⟨c1,d1,f1,g1,rfl,rfl,r,k4⟩,by simpa using k5⟩
theorem Ch.at {α:Type} {R:α→List Value→Prop}:∀(xs:List α) cs i (hi:i<xs.length),Ch R xs cs →
  ∃c1 c2 c3,cs=c1++(c2++c3)∧R xs[i] c2∧Ch R (xs.take i) c1∧Ch R (xs.drop (i+1)) c3
 | x::xs,cs,0,_,⟨c1,c2,e,r,h⟩=>⟨[],c1,c2,by simpa using e,r,rfl,h⟩
 | x::xs,cs,i+1,hi,⟨c1,c2,e,r,h⟩=>by
  obtain ⟨d1,d2,d3,k1,k3,k4,k5⟩:=Ch.at xs c2 i (by simpa using hi) h
  exact ⟨c1++d1,d2,d3,by rw[e,k1,aA],by simpa using k3,⟨c1,d1,rfl,r,k4⟩,by simpa using k5⟩
structure Wit where
 I:Nat→Prop
 η:Nat→Nat
 nf:Nat→List Nat
 cp:Nat→Nat
 nl:Nat→Bool
 ns:Bool
 hol:Bool
 hd:Nat→Nat→Value
 sj:Nat→Prop
def Wit.J (W:Wit) (ob:Nat→Option Obj) (b:Nat):Prop:=W.I b∨W.sj b∨(W.ns=false∧∃i,(ob i).isSome=true∧b∈W.nf i)
def hdOf (w:World) (g c:Nat):Value:=match w.heap[g]? with
 | some (.cells C _ _)=>C.getD c undef
 | _=>undef
def pt (b o:Nat):Value:=.pointer (some ⟨b,o,none⟩)
def fpOf (W:Wit) (i:Nat):List Nat:=bif W.nl i then [] else W.η i::W.nf i
def slv (W:Wit) (i n:Nat):Value:=bif W.nl i then .slice none 0 0 else .slice (some ⟨W.η i,0,none⟩) n (W.cp i)
def VsC (w:World) (W:Wit) (ob:Nat→Option Obj):Sc→Value→Prop
 | .undef,_=>True
 | .skip,v=>v=undef
 | .int k n,v=>v=.int k n
 | .bool b,v=>v=.bool b
 | .str s,v=>v=.string ⟨s.toArray⟩
 | .nilsl,v=>v=.slice none 0 0
 | .nilif,v=>v=.nilIface
 | .err b,v=>if b then ∃t x,v=.iface t x else v=.nilIface
 | .rd soft t xs,v=>Rd w (if soft then W.J ob else W.I) (.sl false t) xs [v]
 | .bx soft g t x,v=>Rd w (if soft then W.J ob else W.I) (.box g t) x [v]
 | .own id,v=>∀t xs,ob id=some (.row t xs)→v=slv W id xs.length
 | .vw id lo hi,v=>∀t xs,ob id=some (.row t xs)→∃A c,v=.slice A (cut lo hi xs).length c∧(cut lo hi xs).length≤c ∧
   ((cut lo hi xs).length=0∨A=some ⟨W.η id,(lo.getD 0) * t.size,none⟩)
 | .pv id off,v=>∃b,v=pt b off∧∀l,ob id=some (.var l)→b=W.η id
 | .pe id i off,v=>∃b o,v=pt b o∧∀t xs,ob id=some (.row t xs)→inB i xs.length=true∧b=W.η id∧o=i.toNat * t.size+off
 | .pr soft t xs i off,v=>inB i xs.length=true∧∃(a:Addr) (C:Array Value) (e:TypeId) (fr:Nat×Nat) (pre ces post:List Value),v=pt a.block (a.off+(i.toNat * t.size+off)) ∧
   (if soft then W.J ob else W.I) a.block∧w.heap[a.block]?=some (.cells C e fr)∧C.toList=pre++(ces++post)∧pre.length=a.off ∧
   Ch (Rd w (if soft then W.J ob else W.I) t) xs ces
 | .so id i off,v=>W.hol=true→∀t xs,ob id=some (.row t xs)→inB i xs.length=true∧φO t off=true∧v=W.hd id (i.toNat * t.size+off)
def φL:Sc→Bool
 | .undef | .skip=>true
 | _=>false
def Vs (w:World) (W:Wit) (ob:Nat→Option Obj) (s:Sc) (v:Value):Prop:=
 (φL s=false→v.oneCell'=true)∧VsC w W ob s v
def All2 {α β:Type} (R:α→β→Prop):List α→List β→Prop
 | [],l=>l=[]
 | a::r,l=>∃b r',l=b::r'∧R a b∧All2 R r r'
def AVr (w:World) (W:Wit) (ob:Nat→Option Obj):AV→Value→Prop
 | .one s,v=>Vs w W ob s v
 | .agg l,v=>∃vs,v=.agg vs.toArray∧All2 (Vs w W ob) l vs
 | .tup l,v=>∃vs,v=.tuple vs.toArray∧All2 (fun (p:Bool×List Sc) u=>if p.1 then ∃us,u=.agg us.toArray∧All2 (Vs w W ob) p.2 us else All2 (Vs w W ob) p.2 [u]) l vs
def menS:Sc→Nat→Prop
 | .own i,j | .vw i _ _,j | .pv i _,j | .pe i _ _,j | .so i _ _,j=>i=j
 | _,_=>False
def menL (l:List Sc) (j:Nat):Prop:=∃s∈l,menS s j
def menA:AV→Nat→Prop
 | .one s,j=>menS s j
 | .agg l,j=>menL l j
 | .tup l,j=>∃p∈l,menL p.2 j
structure Base where
 w0:World
 S0:Nat→Prop
 fpT:Nat→Prop
 fpN:Nat→Prop
 pin:Nat→Option Value
 nt:Nat
 ns:Bool
 hol:Bool
 fpC:Nat→Prop
 sj:Nat→Prop
def φ27 (w:World) (W:Wit) (i:Nat) (t:Ty) (xs:List t.den):Prop:=
 (W.nl i=true∧xs=[]∧W.nf i=[])∨(W.nl i=false∧φ2B w (Ow w W.I t) t.size xs (W.η i) (W.cp i) (W.nf i))
structure Rel (B:Base) (Al:Nat→Prop) (s:St) (a:Act) (w:World) (W:Wit):Prop where
 slots:∀i,AVr w W s.ob (s.sl i) (a.tmps.getD i undef)
 mS:∀i id,menA (s.sl i) id→Al id
 mO:∀id l,s.ob id=some (.var l)→∀j,menL l j→Al j
 al:∀id,(s.ob id).isSome=true→Al id
 row:∀id t xs,s.ob id=some (.row t xs)→φ27 w W id t xs
 var:∀id l,s.ob id=some (.var l)→W.nl id=false∧W.nf id=[]∧∃vs e,w.heap[W.η id]?=some (.cells vs.toArray e (0,0))∧All2 (Vs w W s.ob) l vs
 nod:∀i,(s.ob i).isSome=true→(fpOf W i).Nodup
 dis:∀i j,i≠j→(s.ob i).isSome=true→(s.ob j).isSome=true→∀b,b∈fpOf W i→b ∉ fpOf W j
 imm:∀i,(s.ob i).isSome=true→∀b,b∈fpOf W i→¬W.I b
 bnd:∀b,W.I b→b<w.heap.size
 def0:a.defers=[]
 size:a.tmps.size=B.nt
 pins:∀n v,B.pin n=some v→a.tmps.getD n undef=v
 os:w.os=B.w0.os
 tape:w.tape=B.w0.tape
 output:w.output=B.w0.output
 grown:B.w0.heap.size≤w.heap.size
 old:∀b,b<B.w0.heap.size→¬B.fpC b→w.heap[b]?=B.w0.heap[b]?
 ownT:∀i,(s.ob i).isSome=true→W.nl i=false→B.fpT (W.η i)∨B.w0.heap.size≤W.η i
 ownN:∀i,(s.ob i).isSome=true→∀b,b∈W.nf i→B.fpT b∨B.fpN b∨B.w0.heap.size≤b
 from0:∀b,W.I b→B.S0 b∨B.fpT b∨B.fpN b∨B.w0.heap.size≤b
 ns:W.ns=B.ns
 hol:W.hol=B.hol
 hn:W.hol=true→W.ns=true
 sj:W.sj=B.sj
 sjB:∀b,B.sj b→b<B.w0.heap.size∧¬B.fpT b∧B.ns=false
 cTop:∀b,B.fpT b→B.fpC b
 cN:W.ns=true→∀b,B.fpN b→B.fpC b
 hdr:W.hol=true→∀id t xs,s.ob id=some (.row t xs)→W.nl id=false→∀n off,n<xs.length→φO t off=true→hdOf w (W.η id) (n * t.size+off)=W.hd id (n * t.size+off)
end Go.Rf
namespace Go.Rf
def RP.exec {α:Type} (s:St):RP α→List Key→Option (α×List Key)
 | .ret a,rs=>some (a,rs)
 | .fail,_=>none
 | .slot i k,rs=>(k (s.sl i)).exec s (.s i::rs)
 | .obj id k,rs=>(k (s.ob id)).exec s (.o id::rs)
 | .chk b k,rs=>bif b then k.exec s rs else none
 | .split b k1 k2,rs=>bif b then k1.exec s rs else k2.exec s rs
 | .bnd o k,rs=>o.bind fun a=>(k a).exec s rs
theorem RP.run_eq {α ρ:Type} (s:St) (K:α→List Key→Option ρ):∀(p:RP α) rs,p.run s K rs=(p.exec s rs).bind fun q=>K q.1 q.2
 | .ret a,rs=>rfl
 | .fail,_=>rfl
 | .slot i k,rs=>RP.run_eq s K (k (s.sl i)) _
 | .obj id k,rs=>RP.run_eq s K (k (s.ob id)) _
 | .chk b k,rs=>by cases b;rfl;exact RP.run_eq s K k rs
 | .split b k1 k2,rs=>by cases b;exact RP.run_eq s K k2 rs;exact RP.run_eq s K k1 rs
 | .bnd o k,rs=>by cases o;rfl;exact RP.run_eq s K (k _) rs
theorem RP.exec_keys {α:Type} (s:St):∀(p:RP α) rs a rs',p.exec s rs=some (a,rs')→∀k∈rs,k∈rs'
 | .ret a,rs,b,rs',h=>by simp only[RP.exec,Option.some.injEq,Prod.mk.injEq] at h;obtain ⟨_,rfl⟩:=h;exact fun _ h=>h
 | .fail,_,_,_,h=>by simp[RP.exec] at h
 | .slot i k,rs,_,_,h=>fun q hq=>RP.exec_keys s (k (s.sl i)) _ _ _ h q (mC _ hq)
 | .obj id k,rs,_,_,h=>fun q hq=>RP.exec_keys s (k (s.ob id)) _ _ _ h q (mC _ hq)
 | .chk b k,rs,_,_,h=>by
  cases b
  ·simp[RP.exec] at h
  ·exact RP.exec_keys s k rs _ _ h
 | .split b k1 k2,rs,_,_,h=>by
  cases b
  ·exact RP.exec_keys s k2 rs _ _ h
  ·exact RP.exec_keys s k1 rs _ _ h
 | .bnd o k,rs,_,_,h=>by
  cases o
  ·simp[RP.exec] at h
  ·exact RP.exec_keys s (k _) rs _ _ h
def φ3V (s s':St):Key→Prop
 | .s i=>s.sl i=s'.sl i
 | .o i=>s.ob i=s'.ob i
theorem RP.exec_local {α:Type} {s s':St}:∀(p:RP α) rs a rs',p.exec s rs=some (a,rs')→(∀k∈rs',φ3V s s' k)→p.exec s' rs=some (a,rs')
 | .ret a,rs,b,rs',h,_=>h
 | .fail,_,_,_,h,_=>by simp[RP.exec] at h
 | .slot i k,rs,_,rs',h,hk=>by
  have e:s.sl i=s'.sl i:=hk (.s i) (RP.exec_keys s (k (s.sl i)) _ _ _ h _ (κ3 ..))
  show (k (s'.sl i)).exec s' _=_
  rw[←e];exact RP.exec_local _ _ _ _ h hk
 | .obj i k,rs,_,rs',h,hk=>by
  have e:s.ob i=s'.ob i:=hk (.o i) (RP.exec_keys s (k (s.ob i)) _ _ _ h _ (κ3 ..))
  show (k (s'.ob i)).exec s' _=_
  rw[←e];exact RP.exec_local _ _ _ _ h hk
 | .chk b k,rs,_,_,h,hk=>by
  cases b
  ·simp[RP.exec] at h
  ·exact RP.exec_local k rs _ _ h hk
 | .split b k1 k2,rs,_,_,h,hk=>by
  cases b
  ·exact RP.exec_local k2 rs _ _ h hk
  ·exact RP.exec_local k1 rs _ _ h hk
 | .bnd o k,rs,_,_,h,hk=>by
  cases o
  ·simp[RP.exec] at h
  ·exact RP.exec_local (k _) rs _ _ h hk
theorem φ76 {ρ:Type} (s:Sc) (K:Sc→ρ):nSc s K=K s:=by cases s<;>rfl
theorem φ3x {ρ:Type}:∀(l:List Sc) (K:List Sc→ρ),nL l K=K l
 | [],_=>rfl
 | s::r,K=>by rw[nL,φ76,φ3x r]
theorem φ5E {ρ:Type}:∀(l:List (Bool×List Sc)) (K:List (Bool×List Sc)→ρ),nT l K=K l
 | [],_=>rfl
 | (b,s)::r,K=>by rw[nT,φ3x,φ5E r]
theorem φ88 {ρ:Type} (v:AV) (K:AV→ρ):nAV v K=K v:=by
 cases v with
 | one s=>unfold nAV;exact φ76 s fun s=>K (.one s)
 | agg l=>unfold nAV;exact φ3x l fun l=>K (.agg l)
 | tup l=>unfold nAV;exact φ5E l fun l=>K (.tup l)
theorem φ7G {ρ:Type} (o:Option Obj) (K:Option Obj→ρ):nObj o K=K o:=by
 cases o with
 | none=>rfl
 | some o=>
  cases o with
  | row t xs=>rfl
  | var l=>unfold nObj;exact φ3x l fun l=>K (some (.var l))
theorem φ5M {ρ:Type}:∀(l:List (Nat×AV)) (K:List (Nat×AV)→ρ),nSS l K=K l
 | [],_=>rfl
 | (i,v)::r,K=>by rw[nSS,φ88,φ5M r]
theorem φ5a {ρ:Type}:∀(l:List (Nat×Option Obj)) (K:List (Nat×Option Obj)→ρ),nOS l K=K l
 | [],_=>rfl
 | (i,v)::r,K=>by rw[nOS,φ7G,φ5a r]
theorem φ9U {ρ:Type} (u:Upd) (K:Upd→ρ):nU u K=K u:=by rw[nU,φ5M,φ5a]
section
variable (T:Tab) (E:Env) (ops:Array Oper) (f0:Nat)
def goE (o:Oper) (i:Nat) (s:St) (rs:List Key):Option (Upd×Ent):=
 ((step T E o (f0+i * idW)).exec s rs).map fun q=>(q.1,⟨i,q.2,q.1.ss.map (·.1),q.1.os.map (·.1)⟩)
def offE (o:Oper) (i:Nat) (rs:List Key):Upd×Ent:=
 match o.dst with
 | some d=>(⟨[(d,.one .skip)],[]⟩,⟨i,rs,[d],[]⟩)
 | none=>(⟨[],[]⟩,⟨i,rs,[],[]⟩)
def stp (o:Oper) (i:Nat) (s:St):Option (Upd×Ent):=
 match φ2F ops o with
 | none=>goE T E f0 o i s []
 | some (some g,want)=>match s.sl g with
  | .one (.bool b)=>if b=want then goE T E f0 o i s [.s g] else some (offE o i [.s g])
  | .one .skip=>some (offE o i [.s g])
  | _=>none
 | some (none,_)=>none
def St.up (s:St) (u:Upd):St:=s.app u.ss u.os
def seqE:List (Nat×Oper)→St→List Ent→Option (St×List Ent)
 | [],s,bk=>some (s,bk)
 | (i,o)::r,s,bk=>(stp T E ops f0 o i s).bind fun q=>seqE r (s.up q.1) (q.2::bk)
theorem φ9O {α:Type} (f:Nat→α) (i:Nat) (v:α) (h:f i=v):upd f i v=f:=by
 funext j
 unfold upd nEq
 cases e:Nat.beq j i with
 | false=>rfl
 | true=>have:=κ1 e;subst this;exact h.symm
def num:Nat→List Oper→List (Nat×Oper)
 | _,[]=>[]
 | i,o::r=>(i,o)::num (i+1) r
theorem φ3L {ρ:Type} (K:St→List Ent→Option ρ):∀(l:List Oper) (i:Nat) (s:St) (bk:List Ent),
  φ1W T E ops f0 l i s bk K=(seqE T E ops f0 (num i l) s bk).bind fun q=>K q.1 q.2
 | [],i,s,bk=>rfl
 | o::r,i,s,bk=>by
  have hgo:∀s rs,(step T E o (f0+i * idW)).run s (fun u rs'=>nU u fun u=>φ1W T E ops f0 r (i+1) (s.app u.ss u.os) (⟨i,rs',u.ss.map (·.1),u.os.map (·.1)⟩::bk) K) rs =
    (goE T E f0 o i s rs).bind fun q=>(seqE T E ops f0 (num (i+1) r) (s.up q.1) (q.2::bk)).bind fun q=>K q.1 q.2:=by
   intro s rs
   rw[RP.run_eq,goE]
   cases (step T E o (f0+i * idW)).exec s rs with
   | none=>rfl
   | some q=>simp only[bS,φ9U,Option.map_some];exact φ3L K r (i+1) _ _
  have hoff:∀s rs,(match o.dst with
    | some d=>φ1W T E ops f0 r (i+1) (s.app [(d,.one .skip)] []) (⟨i,rs,[d],[]⟩::bk) K
    | none=>φ1W T E ops f0 r (i+1) s (⟨i,rs,[],[]⟩::bk) K) =
    (seqE T E ops f0 (num (i+1) r) (s.up (offE o i rs).1) ((offE o i rs).2::bk)).bind fun q=>K q.1 q.2:=by
   intro s rs
   unfold offE
   cases o.dst with
   | none=>exact φ3L K r (i+1) _ _
   | some d=>exact φ3L K r (i+1) _ _
  simp only[num,seqE,stp]
  unfold φ1W
  cases hg:φ2F ops o with
  | none=>simp only[hgo,Option.bind_assoc]
  | some p=>
   obtain ⟨g,want⟩:=p
   cases g with
   | none=>rfl
   | some g=>
    simp only
    cases hv:s.sl g with
    | one v=>
     cases v with
     | bool b=>
      have hs:(⟨upd s.sl g (.one (.bool b)),s.ob⟩:St)=s:=by rw[φ9O _ _ _ hv]
      cases b<;>cases want<;>simp only[cT,cF,hs,hgo,Option.bind_assoc,reduceCtorEq,if_true,if_false,bS]<;>exact hoff s _
     | skip=>exact hoff s _
     | _=>rfl
    | _=>rfl
end
end Go.Rf
namespace Go.Rf
theorem φ2J (n:Nat):∀l,hasN n l=true↔n∈l
 | []=>by simp[hasN]
 | m::r=>by
  rw[hasN,Bool.or_eq_true,φ2J n r,mc]
  constructor
  ·rintro (h | h)
   ·exact .inl (κ1 h)
   ·exact .inr h
  ·rintro (h | h)
   ·subst h;exact .inl (Nat.beq_refl n)
   ·exact .inr h
theorem φ3o:∀l m,φ1i l m=true↔∃n,n∈l∧n∈m
 | [],m=>by simp[φ1i]
 | a::r,m=>by
  rw[φ1i,Bool.or_eq_true,φ2J,φ3o r m]
  constructor
  ·rintro (h | ⟨n,h1,h2⟩)
   ·exact ⟨a,κ3 ..,h⟩
   ·exact ⟨n,mC _ h1,h2⟩
  ·rintro ⟨n,h1,h2⟩
   rcases mc.1 h1 with rfl | h1
   ·exact .inl h2
   ·exact .inr ⟨n,h1,h2⟩
theorem φ3e (ss os:List Nat):∀rs,φ1o ss os rs=true↔∃k∈rs,match k with | .s i=>i∈ss | .o i=>i∈os
 | []=>by simp[φ1o]
 | .s i::r=>by rw[φ1o,Bool.or_eq_true,φ2J,φ3e ss os r];simp
 | .o i::r=>by rw[φ1o,Bool.or_eq_true,φ2J,φ3e ss os r];simp
theorem φ9 (a b:Nat):nEq a b=true↔a=b:=⟨κ1,fun h=>by subst h;exact Nat.beq_refl a⟩
theorem φb {α:Type} (f:Nat→α) (i:Nat) (v:α):upd f i v i=v:=by simp[upd,(φ9 i i).2 rfl]
theorem φV {α:Type} (f:Nat→α) {i j:Nat} (v:α) (h:j≠i):upd f i v j=f j:=by
 unfold upd
 cases e:nEq j i with
 | false=>rfl
 | true=>exact absurd ((φ9 j i).1 e) h
theorem φ1p {α:Type}:∀(l:List (Nat×α)) (f:Nat→α) (j:Nat),j ∉ l.map (·.1)→updS f l j=f j
 | [],_,_,_=>rfl
 | (i,v)::r,f,j,h=>by
  simp only[κH,mc,not_or] at h
  rw[updS,φ1p r _ j h.2,φV _ _ h.1]
theorem φ4A {α:Type}:∀(l:List (Nat×α)) (f g:Nat→α) (j:Nat),(j ∉ l.map (·.1)→f j=g j)→updS f l j=updS g l j
 | [],_,_,_,h=>h (by simp)
 | (i,v)::r,f,g,j,h=>by
  rw[updS,updS]
  refine φ4A r _ _ j fun hj=>?_
  by_cases e:j=i
  ·subst e;rw[φb,φb]
  ·rw[φV _ _ e,φV _ _ e];exact h (by simp[e,hj])
theorem φ60 {α:Type} (l m:List (Nat×α)) (f:Nat→α) (h:∀n,n∈l.map (·.1)→n ∉ m.map (·.1)):updS (updS f l) m=updS (updS f m) l:=by
 funext j
 by_cases hj:j∈l.map (·.1)
 ·rw[φ1p m _ j (h j hj)]
  exact φ4A l _ _ j (fun hn=>absurd hj hn)
 ·rw[φ1p l _ j hj]
  by_cases hm:j∈m.map (·.1)
  ·exact φ4A m _ _ j (fun hn=>absurd hm hn)
  ·rw[φ1p m _ j hm,φ1p m _ j hm,φ1p l _ j hj]
section
variable {T:Tab} {E:Env} {ops:Array Oper} {f0:Nat}
theorem φ4t {o:Oper} {i:Nat} {s:St} {rs:List Key} {u:Upd} {e:Ent} (h:goE T E f0 o i s rs=some (u,e)) :
  (step T E o (f0+i * idW)).exec s rs=some (u,e.rs)∧e=⟨i,e.rs,u.ss.map (·.1),u.os.map (·.1)⟩:=by
 unfold goE at h
 cases hx:(step T E o (f0+i * idW)).exec s rs with
 | none=>simp[hx] at h
 | some q=>
  simp only[hx,Option.map_some,Option.some.injEq,Prod.mk.injEq] at h
  obtain ⟨rfl,rfl⟩:=h
  exact ⟨rfl,rfl⟩
theorem φ6V (o:Oper) (i:Nat) (rs:List Key):(offE o i rs).2=⟨i,rs,(offE o i rs).1.ss.map (·.1),(offE o i rs).1.os.map (·.1)⟩:=by
 unfold offE;cases o.dst<;>rfl
theorem φ3m {o:Oper} {i:Nat} {s:St} {u:Upd} {e:Ent} (h:stp T E ops f0 o i s=some (u,e)) :
  e.i=i∧e.ss=u.ss.map (·.1)∧e.os=u.os.map (·.1):=by
 have hgo:∀rs,goE T E f0 o i s rs=some (u,e)→e.i=i∧e.ss=u.ss.map (·.1)∧e.os=u.os.map (·.1):=by
  intro rs h;have:=(φ4t h).2;rw[this];exact ⟨rfl,rfl,rfl⟩
 have hoff:∀rs,some (offE o i rs)=some (u,e)→e.i=i∧e.ss=u.ss.map (·.1)∧e.os=u.os.map (·.1):=by
  intro rs h;simp only[Option.some.injEq] at h
  have:=φ6V o i rs;rw[h] at this;simp only at this;rw[this];exact ⟨rfl,rfl,rfl⟩
 unfold stp at h
 split at h
 ·exact hgo _ h
 ·split at h
  ·split at h
   ·exact hgo _ h
   ·exact hoff _ h
  ·exact hoff _ h
  ·simp at h
 ·simp at h
theorem φ6G {o:Oper} {i:Nat} {s s':St} {u:Upd} {e:Ent} (h:stp T E ops f0 o i s=some (u,e)) (ha:∀k∈e.rs,φ3V s s' k) :
  stp T E ops f0 o i s'=some (u,e):=by
 have hgo:∀rs,goE T E f0 o i s rs=some (u,e)→goE T E f0 o i s' rs=some (u,e):=by
  intro rs h
  obtain ⟨h1,h2⟩:=φ4t h
  unfold goE
  rw[RP.exec_local _ _ _ _ h1 ha]
  simp only[Option.map_some]
  rw[h2]
 have key:∀g rs,(goE T E f0 o i s (.s g::rs)=some (u,e)∨some (offE o i (.s g::rs))=some (u,e))→s.sl g=s'.sl g:=by
  intro g rs h
  refine ha (.s g) ?_
  rcases h with h | h
  ·exact RP.exec_keys s _ _ _ _ (φ4t h).1 _ (κ3 ..)
  ·simp only[Option.some.injEq] at h
   have:=φ6V o i (.s g::rs);rw[h] at this;simp only at this;rw[this];exact κ3 ..
 unfold stp at h ⊢
 cases hg:φ2F ops o with
 | none=>simp only[hg] at h ⊢;exact hgo _ h
 | some p=>
  obtain ⟨g,want⟩:=p
  cases g with
  | none=>simp[hg] at h
  | some g=>
   simp only[hg] at h ⊢
   have e1:s.sl g=s'.sl g:=by
    split at h
    ·split at h
     ·exact key g [] (.inl h)
     ·exact key g [] (.inr h)
    ·exact key g [] (.inr h)
    ·simp at h
   rw[←e1]
   split at h
   ·rename_i b hb
    split at h
    ·rename_i hw;rw[if_pos hw];exact hgo _ h
    ·rename_i hw;rw[if_neg hw];exact h
   ·exact h
   ·simp at h
theorem φ6I {s:St} {u:Upd} {k:Key} (h:match k with | .s i=>i ∉ u.ss.map (·.1) | .o i=>i ∉ u.os.map (·.1)):φ3V s (s.up u) k:=by
 cases k with
 | s i=>exact (φ1p u.ss s.sl i h).symm
 | o i=>exact (φ1p u.os s.ob i h).symm
theorem φ9R {a b:Ent} (h:φw a b=true) :
  (∀k∈b.rs,match k with | .s i=>i ∉ a.ss | .o i=>i ∉ a.os)∧(∀k∈a.rs,match k with | .s i=>i ∉ b.ss | .o i=>i ∉ b.os) ∧
  (∀n,n∈a.ss→n ∉ b.ss)∧(∀n,n∈a.os→n ∉ b.os):=by
 unfold φw at h
 simp only[bA,κF] at h
 obtain ⟨⟨⟨h1,h2⟩,h3⟩,h4⟩:=h
 refine ⟨?_,?_,?_,?_⟩
 ·intro k hk
  have:=mt (φ3e a.ss a.os b.rs).2 (by rw[h1];simp)
  cases k with
  | s i=>exact fun hi=>this ⟨_,hk,hi⟩
  | o i=>exact fun hi=>this ⟨_,hk,hi⟩
 ·intro k hk
  have:=mt (φ3e b.ss b.os a.rs).2 (by rw[h2];simp)
  cases k with
  | s i=>exact fun hi=>this ⟨_,hk,hi⟩
  | o i=>exact fun hi=>this ⟨_,hk,hi⟩
 ·intro n hn hm
  have:=mt (φ3o a.ss b.ss).2 (by rw[h3];simp)
  exact this ⟨n,hn,hm⟩
 ·intro n hn hm
  have:=mt (φ3o a.os b.os).2 (by rw[h4];simp)
  exact this ⟨n,hn,hm⟩
theorem φ8I {o p:Oper} {i j:Nat} {s:St} {u v:Upd} {a b:Ent} (h1:stp T E ops f0 o i s=some (u,a)) (h2:stp T E ops f0 p j (s.up u)=some (v,b)) (h:φw a b=true) :
  stp T E ops f0 p j s=some (v,b)∧stp T E ops f0 o i (s.up v)=some (u,a)∧(s.up u).up v=(s.up v).up u:=by
 obtain ⟨k1,k2,k3,k4⟩:=φ9R h
 obtain ⟨_,e1,e2⟩:=φ3m h1
 obtain ⟨_,e3,e4⟩:=φ3m h2
 rw[e1] at k1 k3;rw[e2] at k1 k4;rw[e3] at k2 k3;rw[e4] at k2 k4
 have ag:∀k∈b.rs,φ3V (s.up u) s k:=by
  intro k hk
  have:=φ6I (s:=s) (u:=u) (k:=k) (k1 k hk)
  cases k with
  | s i=>exact Eq.symm this
  | o i=>exact Eq.symm this
 refine ⟨φ6G h2 ag,φ6G h1 (fun k hk=>φ6I (k2 k hk)),?_⟩
 simp only[St.up,St.app,St.mk.injEq]
 exact ⟨φ60 _ _ _ k3,φ60 _ _ _ k4⟩
inductive RunE (T:Tab) (E:Env) (ops:Array Oper) (f0:Nat):List (Nat×Oper)→St→List Ent→St→Prop
 | nil (s:St):RunE T E ops f0 [] s [] s
 | cons {i:Nat} {o:Oper} {r:List (Nat×Oper)} {s s':St} {u:Upd} {e:Ent} {es:List Ent} (h:stp T E ops f0 o i s=some (u,e)) (k:RunE T E ops f0 r (s.up u) es s') :
   RunE T E ops f0 ((i,o)::r) s (e::es) s'
theorem φ5j:∀(l:List (Nat×Oper)) (s:St) (bk:List Ent) (s':St) (bk':List Ent),seqE T E ops f0 l s bk=some (s',bk') →
  ∃es,RunE T E ops f0 l s es s'∧bk'=es.reverse++bk
 | [],s,bk,s',bk',h=>by
  simp only[seqE,Option.some.injEq,Prod.mk.injEq] at h
  obtain ⟨rfl,rfl⟩:=h
  exact ⟨[],.nil _,rfl⟩
 | (i,o)::r,s,bk,s',bk',h=>by
  simp only[seqE] at h
  cases hs:stp T E ops f0 o i s with
  | none=>simp[hs] at h
  | some q=>
   simp only[hs,bS] at h
   obtain ⟨es,h1,h2⟩:=φ5j r _ _ _ _ h
   exact ⟨q.2::es,.cons hs h1,by rw[h2];simp⟩
theorem RunE.bubble {x:Nat×Oper} {post:List (Nat×Oper)} {e:Ent} {es2:List Ent} {s':St}:∀(pre:List (Nat×Oper)) (es1:List Ent) (s:St),es1.length=pre.length →
  RunE T E ops f0 (pre++x::post) s (es1++e::es2) s'→(∀a∈es1,φw a e=true)→RunE T E ops f0 (x::(pre++post)) s (e::(es1++es2)) s'
 | [],[],_,_,h,_=>h
 | [],_::_,_,hl,_,_=>by simp at hl
 | _::_,[],_,hl,_,_=>by simp at hl
 | p::pre,a::es1,s,hl,h,ha=>by
  cases h with
  | cons h1 k1=>
   have ih:=RunE.bubble pre es1 _ (by simpa using hl) k1 (fun b hb=>ha b (mC _ hb))
   obtain ⟨j,q⟩:=x
   cases ih with
   | cons h2 k2=>
    obtain ⟨z1,z2,z3⟩:=φ8I h1 h2 (ha a (κ3 ..))
    rw[z3] at k2
    exact .cons z1 (.cons z2 k2)
theorem RunE.split {post:List (Nat×Oper)} {x:Nat×Oper} {s':St}:∀(pre:List (Nat×Oper)) (es:List Ent) (s:St),RunE T E ops f0 (pre++x::post) s es s' →
  ∃es1 e es2,es=es1++e::es2∧es1.length=pre.length∧e.i=x.1∧(∀a∈es1,∃p∈pre,a.i=p.1)
 | [],es,s,h=>by
  cases h with
  | cons h1 k1=>exact ⟨[],_,_,rfl,rfl,(φ3m h1).1,by simp⟩
 | p::pre,es,s,h=>by
  cases h with
  | cons h1 k1=>
   obtain ⟨es1,e,es2,h2,h3,h4,h5⟩:=RunE.split pre _ _ k1
   subst h2
   refine ⟨_::es1,e,es2,rfl,by simp[h3],h4,?_⟩
   intro a ha
   rcases mc.1 ha with rfl | ha
   ·exact ⟨_,κ3 ..,(φ3m h1).1⟩
   ·obtain ⟨q,hq,e⟩:=h5 a ha;exact ⟨q,mC _ hq,e⟩
end
def φ4W (bh:List Nat) (a b:Ent):Prop:=Nat.testBit (bh.getD b.i 0) a.i=true∨φw a b=true
theorem φ8e (bh:List Nat):∀es:List Ent,φ26 bh es.reverse=true→es.Pairwise (φ4W bh):=by
 suffices h:∀l:List Ent,φ26 bh l=true→l.reverse.Pairwise (φ4W bh) by
  intro es he;have:=h _ he;rwa [List.reverse_reverse] at this
 intro l
 induction l with
 | nil=>intro _;exact List.Pairwise.nil
 | cons b r ih=>
  intro h
  rw[φ26,bA,List.all_eq_true] at h
  rw[List.reverse_cons,List.pairwise_append]
  refine ⟨ih h.2,List.pairwise_singleton _ _,?_⟩
  intro a ha b' hb
  rw[mZ] at hb;subst hb
  have:=h.1 a (List.mem_reverse.1 ha)
  rw[Bool.or_eq_true] at this
  exact this
theorem φ4O (acc:List Nat) (j:Nat):∀l:List Edge,Nat.testBit (φ1e acc l) j=true →
  ∃e∈l,Region.binds .any e=true∧(j=e.on∨Nat.testBit (acc.getD e.on 0) j=true)
 | [],h=>by simp[φ1e] at h
 | e::r,h=>by
  rw[φ1e] at h
  cases hb:Region.binds .any e with
  | false=>
   rw[hb] at h
   obtain ⟨e',h1,h2⟩:=φ4O acc j r h
   exact ⟨e',mC _ h1,h2⟩
  | true=>
   rw[hb] at h
   simp only[cT,Nat.testBit_or,Bool.or_eq_true] at h
   rcases h with (h | h) | h
   ·exact ⟨e,κ3 ..,hb,.inl (by rw[Nat.testBit_two_pow] at h;exact (of_decide_eq_true h).symm)⟩
   ·exact ⟨e,κ3 ..,hb,.inr h⟩
   ·obtain ⟨e',h1,h2⟩:=φ4O acc j r h
    exact ⟨e',mC _ h1,h2⟩
theorem φ4s:∀(l:List Oper) (acc:List Nat) (i:Nat),i<acc.length→(φr l acc).getD i 0=acc.getD i 0
 | [],_,_,_=>rfl
 | o::r,acc,i,h=>by
  rw[φr,φ4s r _ i (by simp;omega)]
  simp[List.getElem?_append_left h]
theorem φ5m:∀(l:List Oper) (acc:List Nat) (i:Nat) (o:Oper),l[i]?=some o →
  ∃acc',(∀j,j<acc.length+i→acc'.getD j 0=(φr l acc).getD j 0)∧acc'.length=acc.length+i∧(φr l acc).getD (acc.length+i) 0=φ1e acc' o.after.toList
 | [],_,_,_,h=>by simp at h
 | o::r,acc,0,o',h=>by
  simp only[List.getElem?_cons_zero,Option.some.injEq] at h
  subst h
  refine ⟨acc,fun j hj=>?_,rfl,?_⟩
  ·rw[φr,φ4s _ _ _ (by simp;omega)]
   simp only[Nat.add_zero] at hj
   simp[List.getElem?_append_left hj]
  ·rw[φr,φ4s _ _ _ (by simp)]
   simp
 | o::r,acc,i+1,o',h=>by
  obtain ⟨acc',h1,h2,h3⟩:=φ5m r (acc++[φ1e acc o.after.toList]) i o' (by simpa using h)
  refine ⟨acc',fun j hj=>?_,by rw[h2];simp;omega,?_⟩
  ·rw[φr];exact h1 j (by simp;omega)
  ·rw[φr]
   have e:(acc++[φ1e acc o.after.toList]).length+i=acc.length+(i+1):=by simp;omega
   rw[e] at h3;exact h3
theorem φ5b {l:List Oper} {i j:Nat} {o:Oper} (ho:l[i]?=some o) (h:Nat.testBit ((φr l []).getD i 0) j=true) :
  ∃e∈o.after.toList,Region.binds .any e=true∧(j=e.on∨(e.on<i∧Nat.testBit ((φr l []).getD e.on 0) j=true)):=by
 obtain ⟨acc',h1,h2,h3⟩:=φ5m l [] i o ho
 simp only[lN,Nat.zero_add] at h1 h2 h3
 rw[h3] at h
 obtain ⟨e,k1,k2,k3⟩:=φ4O acc' j _ h
 refine ⟨e,k1,k2,?_⟩
 rcases k3 with k3 | k3
 ·exact .inl k3
 ·by_cases hlt:e.on<i
  ·exact .inr ⟨hlt,by rw[←h1 _ hlt];exact k3⟩
  ·have:acc'.getD e.on 0=0:=by simp[List.getElem?_eq_none (show acc'.length≤e.on by omega)]
   rw[this] at k3;simp at k3
theorem φ5k (i:Nat):∀l,φ3E i l=true→∀e∈l,Region.binds .any e=true→e.on<i
 | [],_,_,h,_=>by simp at h
 | a::r,h,e,he,hb=>by
  rw[φ3E,bA] at h
  rcases mc.1 he with rfl | he
  ·have:=h.1;rw[hb] at this;simp only[nZ,Bool.false_or,Nat.blt_eq] at this;exact this
  ·exact φ5k i r h.2 e he hb
theorem φ5p:∀(l:List Oper) (n i:Nat) (o:Oper),φ1k n l=true→l[i]?=some o→φ3E (n+i) o.after.toList=true
 | [],_,_,_,_,h=>by simp at h
 | o::r,n,0,o',h,ho=>by
  rw[φ1k,bA] at h
  simp only[List.getElem?_cons_zero,Option.some.injEq] at ho;subst ho;exact h.1
 | o::r,n,i+1,o',h,ho=>by
  rw[φ1k,bA] at h
  have:=φ5p r (n+1) i o' h.2 (by simpa using ho)
  rwa [show n+1+i=n+(i+1) by omega] at this
theorem φ4d (ops:Array Oper) (listed:Array Bool) (i:Nat):i∈Region.ready .any ops listed ↔
  ∃o,ops[i]?=some o∧listed.getD i true=false∧∀e∈o.after.toList,Region.binds .any e=true→listed.getD e.on false=true:=by
 unfold Region.ready
 rw[List.mem_filter,List.mem_range]
 constructor
 ·rintro ⟨h1,h2⟩
  simp only[bA,κF] at h2
  obtain ⟨h2,h3⟩:=h2
  rw[Array.getElem?_eq_getElem h1] at h3
  simp only[Option.map_some,Option.getD_some] at h3
  refine ⟨ops[i],Array.getElem?_eq_getElem h1,h2,fun e he hb=>?_⟩
  rw[←Array.all_toList,List.all_eq_true] at h3
  have:=h3 e he
  rw[hb] at this
  simpa using this
 ·rintro ⟨o,h1,h2,h3⟩
  have hlt:i<ops.size:=by
   rcases κ4 i ops.size with h | h
   ·exact h
   ·rw[Array.getElem?_eq_none h] at h1;simp at h1
  refine ⟨hlt,?_⟩
  rw[h1,h2]
  simp only[nF,Option.map_some,Option.getD_some,tA]
  rw[←Array.all_toList,List.all_eq_true]
  intro e he
  cases hb:Region.binds .any e with
  | false=>rfl
  | true=>rw[h3 e he hb];rfl
section
variable {T:Tab} {E:Env} {ops:Array Oper} {f0:Nat} {P:Program} {Q:Exit→Act→World→Prop}
theorem φ7k (Sim:List Nat→St→Act→World→Prop) (s1:St) (hed:φ1k 0 ops.toList=true)
  (hstep:∀D i o s a w u e K,ops[i]?=some o→i ∉ D→Sim D s a w→stp T E ops f0 o i s=some (u,e)→(∀a' w',Sim (i::D) (s.up u) a' w'→K a' w')→wpOp P ops Q i K a w)
  (hend:∀D a w,Sim D s1 a w→Q .normal a w) :
  ∀(fuel:Nat) (L:List (Nat×Oper)) (es:List Ent) (D:List Nat) (listed:Array Bool) (s:St) (a:Act) (w:World),
   L.length≤fuel→listed.size=ops.size→RunE T E ops f0 L s es s1→es.Pairwise (φ4W (φr ops.toList []))→(L.map (·.1)).Pairwise (·<·) →
   (∀p∈L,ops[p.1]?=some p.2)→(∀i,i<ops.size→(listed.getD i true=false↔i∈L.map (·.1)))→(∀i,i∈D→listed.getD i true=true) →
   (∀i j,i<ops.size→listed.getD i true=true→Nat.testBit ((φr ops.toList []).getD i 0) j=true→listed.getD j false=true) →
   Sim D s a w→wpAny P .any ops Q fuel listed a w:=by
 have getDs:∀(l:Array Bool) (j:Nat),l.size=ops.size→j<ops.size→l.getD j true=l.getD j false:=by
  intro l j hl hj;simp[Array.getD,hl,hj]
 intro fuel
 induction fuel with
 | zero=>
  intro L es D listed s a w hL hsz hrun hpw hso hops hli hD hcl hsim
  have:L=[]:=List.length_eq_zero_iff.1 (Nat.le_zero.1 hL)
  subst this
  cases hrun
  refine ⟨?_,hend _ _ _ hsim⟩
  rw[List.eq_nil_iff_forall_not_mem]
  intro i hi
  obtain ⟨o,h1,h2,_⟩:=(φ4d ops listed i).1 hi
  have hlt:i<ops.size:=by
   rcases κ4 i ops.size with h | h
   ·exact h
   ·rw[Array.getElem?_eq_none h] at h1;simp at h1
  simpa using (hli i hlt).1 h2
 | succ fuel ih=>
  intro L es D listed s a w hL hsz hrun hpw hso hops hli hD hcl hsim
  refine ⟨fun hr=>?_,fun i hi=>?_⟩
  ·cases L with
   | nil=>cases hrun;exact hend _ _ _ hsim
   | cons p r=>
    exfalso
    obtain ⟨i,o⟩:=p
    have ho:ops[i]?=some o:=hops (i,o) (κ3 ..)
    have hlt:i<ops.size:=by
     rcases κ4 i ops.size with h | h
     ·exact h
     ·rw[Array.getElem?_eq_none h] at ho;simp at ho
    have:i∈Region.ready .any ops listed:=by
     refine (φ4d ops listed i).2 ⟨o,ho,(hli i hlt).2 (by simp),fun e he hb=>?_⟩
     have hon:=φ5k (0+i) _ (φ5p ops.toList 0 i o hed (by simpa using ho)) e he hb
     rw[Nat.zero_add] at hon
     have hlt':e.on<ops.size:=by omega
     rw[←getDs listed e.on hsz hlt']
     cases hq:listed.getD e.on true with
     | true=>rfl
     | false=>
      have:=(hli e.on hlt').1 hq
      simp only[κH,mc] at this
      rcases this with h | h
      ·omega
      ·have h5:i<e.on:=(List.pairwise_cons.1 hso).1 _ h
       omega
    rw[hr] at this;simp at this
  ·obtain ⟨o,h1,h2,h3⟩:=(φ4d ops listed i).1 hi
   have hlt:i<ops.size:=by
    rcases κ4 i ops.size with h | h
    ·exact h
    ·rw[Array.getElem?_eq_none h] at h1;simp at h1
   have him:=(hli i hlt).1 h2
   obtain ⟨⟨i',o'⟩,hp,rfl⟩:=mM.1 him
   simp only at h1 h2 hlt hi him ⊢
   have ho':=hops _ hp
   simp only[h1,Option.some.injEq] at ho'
   subst ho'
   obtain ⟨pre,post,rfl⟩:=List.append_of_mem hp
   obtain ⟨es1,e,es2,rfl,hl1,hei,hes1⟩:=RunE.split pre es s hrun
   have hap:∀b∈es1,φw b e=true:=by
    intro b hb
    have hpair:=(List.pairwise_append.1 hpw).2.2 b hb e (κ3 ..)
    rcases hpair with hbit | hpair
    ·exfalso
     obtain ⟨q,hq,hqi⟩:=hes1 b hb
     rw[hei] at hbit
     have hqlt:q.1<ops.size:=by
      have:=hops q (mL _ hq)
      rcases κ4 q.1 ops.size with h | h
      ·exact h
      ·rw[Array.getElem?_eq_none h] at this;simp at this
     have hnot:listed.getD b.i true=false:=by
      rw[hqi]
      exact (hli q.1 hqlt).2 (mM.2 ⟨q,mL _ hq,rfl⟩)
     rw[hqi] at hbit hnot
     obtain ⟨ed,k1,k2,k3⟩:=φ5b (l:=ops.toList) (i:=i') (o:=o) (by simpa using h1) hbit
     have hl:=h3 ed k1 k2
     rcases k3 with k3 | ⟨k3,k4⟩
     ·rw[←k3,←getDs listed q.1 hsz hqlt,hnot] at hl;simp at hl
     ·have hedlt:ed.on<ops.size:=by omega
      rw[←getDs listed ed.on hsz hedlt] at hl
      have:=hcl ed.on q.1 hedlt hl k4
      rw[←getDs listed q.1 hsz hqlt,hnot] at this;simp at this
    ·exact hpair
   have hrun':=RunE.bubble pre es1 s hl1 hrun hap
   cases hrun' with
   | cons hst hrest=>
    have hnD:i' ∉ D:=fun hd=>by rw[hD _ hd] at h2;simp at h2
    refine hstep D i' o s a w _ _ _ h1 hnD hsim hst fun a' w' hsim'=>?_
    have hset:∀j,(listed.setIfInBounds i' true).getD j true=if j=i' then true else listed.getD j true:=by
     intro j
     by_cases hj:j=i'
     ·subst hj;simp[Array.getD,hsz,hlt]
     ·rw[if_neg hj]
      by_cases hjs:j<listed.size
      ·simp[Array.getD,hjs,Ne.symm hj]
      ·simp[Array.getD,hjs]
    have hset':∀j,(listed.setIfInBounds i' true).getD j false=if j=i' then true else listed.getD j false:=by
     intro j
     by_cases hj:j=i'
     ·subst hj;simp[Array.getD,hsz,hlt]
     ·rw[if_neg hj]
      by_cases hjs:j<listed.size
      ·simp[Array.getD,hjs,Ne.symm hj]
      ·simp[Array.getD,hjs]
    have hsoA:(pre.map (·.1)++i'::post.map (·.1)).Pairwise (·<·):=by simpa using hso
    have hnodup:i' ∉ (pre++post).map (·.1):=by
     intro hm
     rw[mp,mA] at hm
     rcases hm with hm | hm
     ·have:=(List.pairwise_append.1 hsoA).2.2 _ hm i' (κ3 ..);omega
     ·have:=(List.pairwise_cons.1 (List.pairwise_append.1 hsoA).2.1).1 _ hm;omega
    refine ih (pre++post) (es1++es2) (i'::D) _ _ a' w' ?_ ?_ hrest ?_ ?_ ?_ ?_ ?_ ?_ hsim'
    ·simp only[lA,lC] at hL ⊢;omega
    ·simp[hsz]
    ·exact hpw.sublist (List.Sublist.append (List.Sublist.refl _) (List.sublist_cons_self _ _))
    ·exact hso.sublist (List.Sublist.map _ (List.Sublist.append (List.Sublist.refl _) (List.sublist_cons_self _ _)))
    ·intro p hp'
     refine hops p ?_
     rcases mA.1 hp' with h | h
     ·exact mL _ h
     ·exact mR _ (mC _ h)
    ·intro j hj
     rw[hset]
     by_cases hji:j=i'
     ·subst hji;simp only[if_true,Bool.true_eq_false,false_iff];exact hnodup
     ·rw[if_neg hji,hli j hj]
      simp only[mp,κH,mA,mc,hji,false_or]
    ·intro j hj
     rw[hset]
     rcases mc.1 hj with rfl | hj
     ·simp
     ·split
      ·rfl
      ·exact hD j hj
    ·intro j k hj hl hb
     rw[hset] at hl
     rw[hset']
     split
     ·rfl
     ·by_cases hji:j=i'
      ·subst hji
       obtain ⟨ed,k1,k2,k3⟩:=φ5b (l:=ops.toList) (i:=j) (o:=o) (by simpa using h1) hb
       have hl':=h3 ed k1 k2
       rcases k3 with k3 | ⟨k3,k4⟩
       ·rw[k3];exact hl'
       ·have hedlt:ed.on<ops.size:=by omega
        rw[←getDs listed ed.on hsz hedlt] at hl'
        exact hcl ed.on k hedlt hl' k4
      ·rw[if_neg hji] at hl
       exact hcl j k hj hl hb
end
end Go.Rf
namespace Go.Rf
def φd:Ty→List Value
 | .int k=>[.int k 0]
 | .bool=>[.bool false]
 | .str=>[.string ⟨#[]⟩]
 | .sl _ _=>[.slice none 0 0]
 | .pair a b=>φd a++φd b
 | .box _ _=>[.nilIface]
def aggD:TypeDesc→Bool
 | .struct _ | .array _ _=>true
 | _=>false
def φ1v (P:Program) (t n b:Nat) (zs:List Value):Prop:=
 (P.info? t).map (·.size)=some n∧(P.info? t).map (·.bytes)=some b∧∃z,(P.info? t).bind (·.zero)=some z∧z.cells.toList=zs
def φ11:Sc→Value→Prop
 | .int k n,v=>v=.int k n
 | .bool b,v=>v=.bool b
 | .str s,v=>v=.string ⟨s.toArray⟩
 | _,_=>False
structure TypeOk (P:Program) (T:Tab) (t:Nat) (td:TD):Prop where
 tag:φ1v P t td.ty.size td.bytes (φd td.ty)
 agg:td.agg=true→∃fs:Array Field,P.underlying t=some (.struct fs)∧fs.size=td.flds.length ∧
  ∀(j o n:Nat) (g:Bool),td.flds[j]?=some (o,n,g)→∃fd:Field,fs[j]?=some fd∧fd.offset=o∧(P.info? fd.type).map (·.size)=some n∧n≠0∧(P.underlying fd.type).map aggD=some g
 plain:td.ty.plain=true∨∃g t,td.ty=.box g t
 nagg:td.agg=false→(P.underlying t).map aggD=some false∧td.flds=[]
 kind:match td.ty with
  | .int k=>P.underlying t=some (.int k)
  | .bool=>P.underlying t=some .bool
  | .str=>P.underlying t=some .string
  | .sl _ e=>∃el,td.elem=some el∧P.underlying t=some (.slice el)∧φ1v P el e.size (φ1E T t) (φd e)
  | .pair _ _=>td.agg=true
  | .box _ _=>∃ms,P.underlying t=some (.interface ms)
 eq:td.eq=true→P.eqGuardType P.depth t=false∧∀(w:World) (xs ys:Array Value) (l m:List Sc) (b:Bool),φ1q (φ1A l) (φ2y td.ty)=true→φI l m=some b →
  All2 φ11 l xs.toList→All2 φ11 m ys.toList→(Op.equalIn 10000 t (.agg xs) (.agg ys)).run P w=.ok b w
def φK (P:Program) (T:Tab):Prop:=∀t td,lkp T t=some td→TypeOk P T t td
section
variable {P:Program} (w:World)
theorem φ1x {t n:Nat} (h:(P.info? t).map (·.size)=some n):(sizeOf t).run P w=.ok n w:=by
 cases hi:P.info? t with
 | none=>simp[hi] at h
 | some i=>simp only[hi,Option.map_some,Option.some.injEq] at h;simp[sizeOf,typeInfo,hi,h]
theorem φA5 {t n:Nat} (h:(P.info? t).map (·.bytes)=some n):∃i,(typeInfo t).run P w=.ok i w∧i.bytes=n:=by
 cases hi:P.info? t with
 | none=>simp[hi] at h
 | some i=>simp only[hi,Option.map_some,Option.some.injEq] at h;exact ⟨i,by simp[typeInfo,hi],h⟩
theorem φ8H {t:Nat} {z:Value} (h:(P.info? t).bind (·.zero)=some z):(zeroValue t).run P w=.ok z w:=by
 cases hi:P.info? t with
 | none=>simp[hi] at h
 | some i=>simp only[hi,bS] at h;simp[zeroValue,typeInfo,hi,h]
theorem φ44 {t:Nat} {g:Bool} (h:(P.underlying t).map aggD=some g):(isAgg t).run P w=.ok g w:=by
 cases hu:P.underlying t with
 | none=>simp[hu] at h
 | some d=>
  simp only[hu,Option.map_some,Option.some.injEq] at h
  unfold isAgg
  rw[Sem.run_bind,run_underlying hu w]
  subst h
  cases d<;>rfl
def At (w:World) (b o:Nat) (vs:List Value):Prop:=
 ∃C e fr pre post,w.heap[b]?=some (.cells C e fr)∧C.toList=pre++(vs++post)∧pre.length=o
theorem At.cell {w:World} {b o:Nat} {vs:List Value} (h:At w b o vs) (j:Nat) (v:Value) (hj:vs[j]?=some v):w.cell? ⟨b,o+j,none⟩=some v:=by
 obtain ⟨C,e,fr,pre,post,h1,h2,h3⟩:=h
 have:C[o+j]?=some v:=by
  rw[←Array.getElem?_toList,h2,←h3,List.getElem?_append_right (by omega),Nat.add_sub_cancel_left]
  have hlt:j<vs.length:=by
   rcases κ4 j vs.length with h | h
   ·exact h
   ·rw[List.getElem?_eq_none h] at hj;simp at hj
  rw[List.getElem?_append_left hlt];exact hj
 simp[World.cell?,h1,this]
theorem At.sub {w:World} {b o:Nat} {vs u1 u2 u3:List Value} (h:At w b o vs) (e:vs=u1++(u2++u3)):At w b (o+u1.length) u2:=by
 obtain ⟨C,el,fr,pre,post,h1,h2,h3⟩:=h
 exact ⟨C,el,fr,pre++u1,u3++post,h1,by rw[h2,e];simp[aA],by simp[h3]⟩
theorem φ1d (b o j:Nat):(⟨b,o,none⟩:Addr).add j=⟨b,o+j,none⟩:=by unfold Addr.add;split<;>simp_all
def mkV (g:Bool) (vs:List Value):Value:=if g then .agg vs.toArray else vs.getD 0 undef
theorem φ4k {t n b o:Nat} {g:Bool} {vs:List Value} (hs:(P.info? t).map (·.size)=some n) (hg:(P.underlying t).map aggD=some g) (hn:vs.length=n) (h1:g=false→n=1)
  (h:At w b o vs):(loadVar t ⟨b,o,none⟩).run P w=.ok (mkV g vs) w:=by
 unfold loadVar
 rw[Sem.run_bind,φ44 w hg,Result.andThen_ok]
 cases g with
 | true=>
  simp only[if_true]
  have hl:=run_loadCells_list (P:=P) w ⟨b,o,none⟩ vs (fun j v hv=>by rw[φ1d];exact h.cell j v hv)
  rw[Sem.run_bind,φ1x w hs,Result.andThen_ok,Sem.run_bind,←hn,hl]
  rfl
 | false=>
  have h1:=h1 rfl
  obtain ⟨v,rfl⟩:∃v,vs=[v]:=by
   match vs,hn with
   | [v],_=>exact ⟨v,rfl⟩
   | [],hn=>simp at hn;omega
   | _::_::_,hn=>simp at hn;omega
  have hc:=h.cell 0 v rfl
  simp only[κI,if_false]
  rw[run_load,show (⟨b,o,none⟩:Addr)=⟨b,o+0,none⟩ from rfl,hc]
  rfl
theorem φ91 {t n g o:Nat} {e:TypeId} {cur:Array Value} {v:Value} (hs:(P.info? t).map (·.size)=some n) (hn:v.cells.size=n) (hh:w.heap[g]?=some (.cells cur e (0,0)))
  (hl:o+n≤cur.size) (h1:∀x∈v.cells.toList,x.oneCell'=true) :
  (storeVar t ⟨g,o,none⟩ v).run P w=.ok () (w.setRow g (cur.toList.take o++v.cells.toList++cur.toList.drop (o+n)).toArray):=by
 unfold storeVar
 have:=run_storeCells_at (P:=P) g o e v.cells.toList 0 cur w hh (by simp;omega) h1
 simp only[Nat.add_zero,κK,hn] at this
 simp[φ1x w hs,hn,this]
end
theorem φ57 (ts:Array Value) (d i:Nat) (v:Value) (h:d<ts.size):(ts.setIfInBounds d v).getD i undef=if i=d then v else ts.getD i undef:=by
 by_cases hi:i=d
 ·subst hi;simp[Array.getD,h]
 ·rw[if_neg hi]
  by_cases hs:i<ts.size
  ·simp[Array.getD,hs,Ne.symm hi]
  ·simp[Array.getD,hs]
section
variable {B:Base} {Al Al':Nat→Prop} {s:St} {a:Act} {w:World} {W:Wit}
theorem Rel.mono (h:Rel B Al s a w W) (hA:∀i,Al i→Al' i):Rel B Al' s a w W:=
 {h with mS:=fun i id k=>hA _ (h.mS i id k),mO:=fun id l k j m=>hA _ (h.mO id l k j m),al:=fun id k=>hA _ (h.al id k) }
def φA (B:Base) (d:Option Nat):Prop:=∀i,d=some i→i<B.nt∧B.pin i=none
def dl (d:Option Nat) (r:AV):List (Nat×AV):=match d with | some i=>[(i,r)] | none=>[]
theorem φ1G {d:Option Nat} {r:AV} {os:List (Nat×Option Obj)} {rs rs':List Key} {u:Upd} (h:(outO d r os).exec s rs=some (u,rs')):u=⟨dl d r,os⟩:=by
 cases d<;>simp only[outO,RP.exec,Option.some.injEq,Prod.mk.injEq] at h<;>exact h.1.symm
theorem φE {d:Option Nat} {r:AV} {rs rs':List Key} {u:Upd} (h:(out d r).exec s rs=some (u,rs')):u=⟨dl d r,[]⟩:=by
 cases d<;>simp only[out,RP.exec,Option.some.injEq,Prod.mk.injEq] at h<;>exact h.1.symm
theorem Rel.put (h:Rel B Al s a w W) {d:Option Nat} (hd:φA B d) {r:AV} {v:Value} (hv:AVr w W s.ob r v) (hm:∀id,menA r id→Al id) :
  Rel B Al (s.up ⟨dl d r,[]⟩) (a.put d v) w W:=by
 cases d with
 | none=>exact h
 | some d=>
  obtain ⟨hd1,hd2⟩:=hd d rfl
  have hsz:d<a.tmps.size:=by rw[h.size];exact hd1
  refine { h with slots:=?_,mS:=?_,size:=?_,pins:=?_ }
  ·intro i
   show AVr w W s.ob (upd s.sl d r i) ((a.tmps.setIfInBounds d v).getD i undef)
   rw[φ57 _ _ _ _ hsz]
   by_cases hi:i=d
   ·subst hi;rw[φb,if_pos rfl];exact hv
   ·rw[φV _ _ hi,if_neg hi];exact h.slots i
  ·intro i id
   show menA (upd s.sl d r i) id→_
   by_cases hi:i=d
   ·subst hi;rw[φb];exact hm id
   ·rw[φV _ _ hi];exact h.mS i id
  ·show (a.tmps.setIfInBounds d v).size=_
   simp[h.size]
  ·intro n u hn
   show (a.tmps.setIfInBounds d v).getD n undef=u
   rw[φ57 _ _ _ _ hsz]
   by_cases hi:n=d
   ·subst hi;rw[hd2] at hn;simp at hn
   ·rw[if_neg hi];exact h.pins n u hn
theorem Rel.skip (h:Rel B Al s a w W) {d:Option Nat} (hd:φA B d):Rel B Al (s.up ⟨dl d (.one .skip),[]⟩) (a.put d undef) w W:=
 h.put hd ⟨by simp[φL],rfl⟩ (fun _ k=>k.elim)
theorem φQ {α:Type} (h:Rel B Al s a w W) {x:Operand} {k:AV→RP α} {rs:List Key} {r:α×List Key} (he:(opd x k).exec s rs=some r) :
  ∃v rs2,(k v).exec s rs2=some r∧AVr w W s.ob v (a.eval x)∧∀id,menA v id→Al id:=by
 cases x with
 | tmp t=>exact ⟨s.sl t,_,he,h.slots t,h.mS t⟩
 | const v=>
  simp only[opd] at he
  cases hc:φ22 v with
  | some c=>
   rw[hc] at he
   refine ⟨.one c,rs,he,?_,?_⟩
   ·show Vs w W s.ob c v
    unfold φ22 at hc
    split at hc<;>simp only[Option.some.injEq,reduceCtorEq] at hc<;>subst hc<;>exact ⟨fun _=>rfl,rfl⟩
   ·intro id hid
    unfold φ22 at hc
    split at hc<;>simp only[Option.some.injEq,reduceCtorEq] at hc<;>subst hc<;>exact hid.elim
  | none=>
   rw[hc] at he
   simp only at he
   split at he
   ·exact ⟨.one .undef,rs,he,⟨fun h=>by simp[φL] at h,trivial⟩,fun _ k=>k.elim⟩
   ·simp[RP.exec] at he
 | global g=>simp[opd,RP.exec] at he
 | func f=>simp[opd,RP.exec] at he
def φ1Z (s:St):Operand→AV
 | .tmp t=>s.sl t
 | .const v=>match φ22 v with
  | some c=>.one c
  | none=>.one .undef
 | _=>.one .undef
theorem φ5u {α:Type} (h:Rel B Al s a w W) {x:Operand} {k:AV→RP α} {rs:List Key} {r:α×List Key} (he:(opd x k).exec s rs=some r) :
  ∃rs2,(k (φ1Z s x)).exec s rs2=some r∧AVr w W s.ob (φ1Z s x) (a.eval x)∧∀id,menA (φ1Z s x) id→Al id:=by
 obtain ⟨v,rs2,h1,h2,h3⟩:=φQ (k:=fun v=>.ret v) h (x:=x) (rs:=rs) (r:=(φ1Z s x,(match x with | .tmp t=>.s t::rs | _=>rs))) (by
  cases x with
  | tmp t=>rfl
  | const v=>
   simp only[opd,φ1Z] at he ⊢
   cases hc:φ22 v with
   | some c=>rfl
   | none=>
    rw[hc] at he
    simp only at he ⊢
    split at he
    ·rfl
    ·simp[RP.exec] at he
  | global g=>simp[opd,RP.exec] at he
  | func f=>simp[opd,RP.exec] at he)
 have hv:v=φ1Z s x:=by
  simp only[RP.exec,Option.some.injEq,Prod.mk.injEq] at h1
  exact h1.1
 subst hv
 cases x with
 | tmp t=>exact ⟨_,he,h2,h3⟩
 | const v=>
  simp only[opd] at he
  simp only[φ1Z] at h2 h3 ⊢
  cases hc:φ22 v with
  | some c=>
   rw[hc] at he h2 h3
   exact ⟨_,he,h2,h3⟩
  | none=>
   rw[hc] at he h2 h3
   simp only at he
   split at he
   ·exact ⟨_,he,h2,h3⟩
   ·simp[RP.exec] at he
 | global g=>simp[opd,RP.exec] at he
 | func f=>simp[opd,RP.exec] at he
def φ1B (w:World) (W:Wit) (ob:Nat→Option Obj) (Al:Nat→Prop):List AV→List Value→Prop:=All2 fun v u=>AVr w W ob v u∧∀id,menA v id→Al id
theorem φ17 {α:Type} (h:Rel B Al s a w W):∀{xs:List Operand} {k:List AV→RP α} {rs:List Key} {r:α×List Key},(opds xs k).exec s rs=some r →
  ∃vs rs2,(k vs).exec s rs2=some r∧φ1B w W s.ob Al vs (xs.map a.eval)
 | [],k,rs,r,he=>⟨[],rs,he,rfl⟩
 | x::xs,k,rs,r,he=>by
  obtain ⟨v,rs2,h1,h2,h3⟩:=φQ h he
  obtain ⟨vs,rs3,h4,h5⟩:=φ17 h h1
  exact ⟨v::vs,rs3,h4,_,_,rfl,⟨h2,h3⟩,h5⟩
end
end Go.Rf
