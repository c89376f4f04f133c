import Derived.Test.YtleflckegnlgcaaGreatDoorRf5
import Derived.Test.YtleflckegnlgcaaGreatDoorLNoRoomFns
open Option renaming bind_some→bS
open List renaming length_append→lA,append_assoc→aA,mem_cons_of_mem→mC,mem_append→mA,mem_append_right→mR,mem_append_left→mL,mem_cons→mc,drop_eq_getElem_cons→dG,length_take→lT,length_drop→lD,mem_map→mM,length_map→lM,length_cons→lC,length_nil→lN,getElem_mem→gM,map_append→mp,mem_singleton→mZ,mem_cons_self→κ0,append_nil→κ4,map_cons→κ5,take_succ_eq_append_getElem→κ6,nil_append→κ7,length_singleton→κ9,drop_zero→κC,take_append_drop→κE,cons_append→κF,flatMap_append→κI,replicate→κJ,nodup_append→κK,foldl_cons→κN,drop_left→κO,range'→κQ,nodup_cons→κS,all_eq_true→κU,foldl_append→κW,pairwise_cons→κX,take_length→κb
open Bool renaming and_eq_true→bA,eq_false_or_eq_true→bE,not_true→nZ,not_false→nF,true_and→tA,not_not→nn,false_eq_true→κ2,true_eq_false→κ8,false_and→κD,or_eq_false_iff→κH,and_true→κL,not_eq_true'→κM,false_or→κR,or_eq_true→κV
open Int renaming toNat_natCast→tN,ofNat_lt→oL,le_refl→κP
open Nat renaming lt_or_ge→κ1,zero_le→κ3,eq_of_beq_eq_true→κA,le_refl→κB,lt_of_lt_of_le→κG,zero_add→κT,pow_succ→κY,mod_eq_of_lt→κa
open Array renaming length_toList→κZ
set_option linter.unusedVariables false
set_option linter.unusedSimpArgs false
namespace Go.Rf.G
open Go Go.Rf
set_option synthInstance.maxSize 4000
theorem φCg {A B:Type} {step:(A→Option B)→A→Option B} {F:A→B} {P:A→Prop} {m:A→Nat}
  (h:∀rec a,P a→(∀a',P a'→m a'<m a→rec a'=some (F a'))→step rec a=some (F a)):∀n a,P a→m a<n→φ2p step n a=some (F a)
 | 0,_,_,hn=>by omega
 | n+1,a,hp,hn=>h (φ2p step n) a hp fun a' hp' hlt=>φCg h n a' hp' (by omega)
theorem φ6h {A B:Type} {step:(A→Option B)→A→Option B} (F:A→B) (P:A→Prop) (m:A→Nat)
  (h:∀rec a,P a→(∀a',P a'→m a'<m a→rec a'=some (F a'))→step rec a=some (F a)) {a:A} (hp:P a) (hm:m a<2 ^ 62):lp step a=some (F a):=
 φCg h FUEL a hp (κG hm φ6Y)
theorem φc {A B σ:Type} {step:(A→Option B)→A→Option B} (st:Nat→σ→A) (N:Nat) (F:Nat→σ→B) (Inv:Nat→σ→Prop)
  (h:∀rec n s,n≤N→Inv n s→(∀s',n<N→Inv (n+1) s'→rec (st (n+1) s')=some (F (n+1) s'))→step rec (st n s)=some (F n s))
  (hN:N<2 ^ 62):∀n s,n≤N→Inv n s→lp step (st n s)=some (F n s):=by
 have key:∀k f n s,n≤N→Inv n s→N - n=k→k<f→φ2p step f (st n s)=some (F n s):=by
  intro k
  induction k with
  | zero=>
   intro f n s hn hi hk hf
   obtain ⟨f,rfl⟩:∃g,f=g+1:=⟨f - 1,by omega⟩
   exact h _ n s hn hi fun s' hlt=>by omega
  | succ k ih=>
   intro f n s hn hi hk hf
   obtain ⟨f,rfl⟩:∃g,f=g+1:=⟨f - 1,by omega⟩
   exact h _ n s hn hi fun s' hlt hi'=>ih f (n+1) s' hlt hi' (by omega) (by omega)
 intro n s hn hi
 exact key (N - n) FUEL n s hn hi rfl (κG (by omega) φ6Y)
@[simp] theorem φH (n m:Nat):inB (n:Int) m=decide (n<m):=by
 unfold inB
 by_cases h:n<m<;>simp[h,Int.natCast_nonneg]
@[simp] theorem φM {α:Type} (z:α) (xs:List α) (n:Nat):rdA z xs (n:Int)=xs.getD n z:=rfl
theorem φG {n:Int} (h1:-9223372036854775808≤n) (h2:n<9223372036854775808):w64 n=n:=by
 unfold w64 IntKind.wrap
 simp only[IntKind.bits,IntKind.signed]
 by_cases h:n % 2 ^ 64≥2 ^ 63<;>simp[h]<;>omega
theorem φ3j {n:Nat} (h:n<9223372036854775808):w64 (n:Int)=n:=φG (by omega) (by omega)
theorem φQ {n:Nat} (h:n+1<9223372036854775808):w64 ((n:Int)+1)=((n+1:Nat):Int):=by
 rw[φG (by omega) (by omega)];omega
theorem φE {α:Type} {xs:List α} {z:α} {n:Nat} (h:n<xs.length):xs.getD n z=xs[n]:=by simp[List.getD,h]
theorem φGS {α:Type} {a b:List α} {n:Nat} (h1:n<a.length) (h2:n<b.length):a.drop n=b.drop n↔a[n]=b[n]∧a.drop (n+1)=b.drop (n+1):=by
 rw[dG h1,dG h2,List.cons.injEq]
def sumN {α:Type} (f:α→Nat):List α→Nat
 | []=>0
 | x::r=>f x+sumN f r
theorem φBJ {α:Type} (f:α→Nat) {l:List α} {n:Nat} (h:n<l.length):sumN f (l.drop n)=f l[n]+sumN f (l.drop (n+1)):=by
 rw[dG h];rfl
theorem φD3 {α:Type} (f:α→Nat):∀{l:List α} {x:α},x∈l→f x≤sumN f l
 | y::l,x,h=>by
  rcases mc.1 h with k | k
  ·subst k;exact Nat.le_add_right _ _
  ·exact Nat.le_trans (φD3 f k) (Nat.le_add_left _ _)
theorem φJO {X:Type} [DecidableEq X] {step:(List X×List X×Int→Option (Unit ⊕ Bool))→List X×List X×Int→Option (Unit ⊕ Bool)} (a b:List X) (hl:a.length=b.length) (ha:a.length<2 ^ 62)
  (hs:∀rec (n:Nat),(h1:n<a.length)→(h2:n<b.length)→step rec (a,b,(n:Int))=if a[n]=b[n] then rec (a,b,((n+1:Nat):Int)) else some (.inr false))
  (he:∀rec,step rec (a,b,(a.length:Int))=some (.inl ())):lp step (a,b,0)=some (if a=b then .inl () else .inr false):=by
 have:=φc (step:=step) (fun n (_:Unit)=>(a,b,(n:Int))) a.length (fun n _=>if a.drop n=b.drop n then .inl () else .inr false) (fun _ _=>True)
  (fun rec n s hn _ ih=>by
   rcases κ1 n a.length with h | h
   ·rw[hs rec n h (by omega),ih () h trivial]
    by_cases hc:a[n]=b[n]
    ·rw[if_pos hc];simp only[φGS h (by omega:n<b.length),hc,true_and]
    ·rw[if_neg hc,if_neg fun k=>hc ((φGS h (by omega)).1 k).1]
   ·have:n=a.length:=by omega
    subst this
    rw[he]
    simp[hl])
  ha 0 () (κ3 _) trivial
 simpa using this
def φBg {X:Type} (mk:Int→X→X) (c:Nat):List X→Int→List X
 | [],_=>[]
 | x::r,k=>mk k x::φBg mk c r (k+c)
@[simp] theorem φIc {X:Type} (mk:Int→X→X) (c:Nat):∀(l:List X) (k:Int),(φBg mk c l k).length=l.length
 | [],_=>rfl
 | x::r,k=>by simp[φBg,φIc mk c r]
theorem φ4I {X A B:Type} {step:(A→Option (B ⊕ Bool))→A→Option (B ⊕ Bool)} (l:List X) (f:X→Bool) (st:Nat→A) (b:B) (hl:l.length<2 ^ 62)
  (hs:∀rec n,(h:n<l.length)→step rec (st n)=if f l[n]=true then rec (st (n+1)) else some (.inr false))
  (he:∀rec,step rec (st l.length)=some (.inl b)):lp step (st 0)=some (if l.all f=true then .inl b else .inr false):=by
 have:=φc (step:=step) (fun n (_:Unit)=>st n) l.length (fun n _=>if (l.drop n).all f=true then .inl b else .inr false) (fun _ _=>True)
  (fun rec n s hn _ ih=>by
   rcases κ1 n l.length with h | h
   ·rw[hs rec n h,ih () h trivial,dG h,List.all_cons]
    cases f l[n]<;>simp
   ·have:n=l.length:=by omega
    subst this
    rw[he];simp) hl 0 () (κ3 _) trivial
 simpa using this
theorem φH7 {X A B C:Type} {step:(A→Option (B ⊕ C))→A→Option (B ⊕ C)} (l:List X) (f:X→Bool) (r:X→C) (st:Nat→A) (b:B) (hl:l.length<2 ^ 62)
  (hs:∀rec n,(h:n<l.length)→step rec (st n)=if f l[n]=true then some (.inr (r l[n])) else rec (st (n+1)))
  (he:∀rec,step rec (st l.length)=some (.inl b)):lp step (st 0)=some (match l.find? f with | some x=>.inr (r x) | none=>.inl b):=by
 have:=φc (step:=step) (fun n (_:Unit)=>st n) l.length (fun n _=>match (l.drop n).find? f with | some x=>.inr (r x) | none=>.inl b) (fun _ _=>True)
  (fun rec n s hn _ ih=>by
   rcases κ1 n l.length with h | h
   ·rw[hs rec n h,ih () h trivial,dG h,List.find?_cons]
    cases hf:f l[n]<;>simp
   ·have:n=l.length:=by omega
    subst this
    rw[he];simp) hl 0 () (κ3 _) trivial
 simpa using this
theorem φ3W {X A B S:Type} {step:(A→Option B)→A→Option B} (l:List X) (g:S→X→S) (st:Nat→S→A) (out:S→B) (Inv:Nat→S→Prop) (hl:l.length<2 ^ 62)
  (hs:∀rec n s,(h:n<l.length)→Inv n s→step rec (st n s)=rec (st (n+1) (g s l[n])))
  (hi:∀n s,(h:n<l.length)→Inv n s→Inv (n+1) (g s l[n]))
  (he:∀rec s,Inv l.length s→step rec (st l.length s)=some (out s)) (s:S) (h0:Inv 0 s):lp step (st 0 s)=some (out (l.foldl g s)):=by
 have:=φc (step:=step) st l.length (fun n s=>out ((l.drop n).foldl g s)) Inv
  (fun rec n s hn hv ih=>by
   rcases κ1 n l.length with h | h
   ·rw[hs rec n s h hv,ih _ h (hi n s h hv),dG h];rfl
   ·have:n=l.length:=by omega
    subst this
    rw[he rec s hv];simp) hl 0 s (κ3 _) h0
 simpa using this
theorem φGO {A B σ:Type} {step:(A→Option B)→A→Option B} (st:Nat→σ→A) (F:Nat→σ→B) (Inv:Nat→σ→Prop)
  (h:∀rec n s,Inv n s→(∀m s',n=m+1→Inv m s'→rec (st m s')=some (F m s'))→step rec (st n s)=some (F n s)):∀n s,n<2 ^ 62→Inv n s→lp step (st n s)=some (F n s):=by
 have key:∀n f s,n<f→Inv n s→φ2p step f (st n s)=some (F n s):=by
  intro n
  induction n with
  | zero=>
   intro f s hf hi
   obtain ⟨f,rfl⟩:∃g,f=g+1:=⟨f - 1,by omega⟩
   exact h _ 0 s hi fun m s' he=>by omega
  | succ n ih=>
   intro f s hf hi
   obtain ⟨f,rfl⟩:∃g,f=g+1:=⟨f - 1,by omega⟩
   exact h _ (n+1) s hi fun m s' he hi'=>by
    have:m=n:=by omega
    subst this
    exact ih f s' (by omega) hi'
 intro n s hn hi
 exact key n FUEL s (κG hn φ6Y) hi
theorem φKj {X A B C:Type} {step:(A→Option (B ⊕ C))→A→Option (B ⊕ C)} (l:List X) (f:X→Bool) (r:X→C) (st:Nat→A) (b:B) (hl:l.length<2 ^ 62)
  (hs:∀rec n,(h:n<l.length)→step rec (st (n+1))=if f l[n]=true then some (.inr (r l[n])) else rec (st n))
  (he:∀rec,step rec (st 0)=some (.inl b)):lp step (st l.length)=some (match l.reverse.find? f with | some x=>.inr (r x) | none=>.inl b):=by
 have:=φGO (step:=step) (fun n (_:Unit)=>st n) (fun n _=>match (l.take n).reverse.find? f with | some x=>.inr (r x) | none=>.inl b) (fun n _=>n≤l.length)
  (fun rec n s hn ih=>by
   cases n with
   | zero=>rw[he];simp
   | succ n=>
    have h:n<l.length:=hn
    rw[hs rec n h,ih n () rfl (by omega),κ6 h,List.reverse_append]
    simp only[List.reverse_cons,List.reverse_nil,κ7,κF,List.find?_cons]
    cases hf:f l[n]<;>simp) l.length () hl (κB _)
 simpa using this
@[simp] theorem φb {A B C:Type} (a:A) (f:A→C) (g:B→C):φV (.inl a) f g=f a:=rfl
@[simp] theorem φm {A B C:Type} (b:B) (f:A→C) (g:B→C):φV (.inr b) f g=g b:=rfl
theorem φ2K {A B:Type} (p:A×B):(p.1,p.2)=p:=rfl
theorem φJx {α:Type} {z:α} {r:List α} {n:Nat} {v:α} (h:n<r.length):rdA z (r.set n v) (n:Int)=v:=by simp[List.getD,h]
theorem φIY {A B C:Type} [BEq A] [BEq B] [BEq C] [LawfulBEq A] [LawfulBEq B] [LawfulBEq C] [DecidableEq (A×B×C)] (x y:A×B×C):(x.1==y.1 && (x.2.1==y.2.1 && x.2.2==y.2.2))=decide (x=y):=by
 obtain ⟨a,b,c⟩:=x
 obtain ⟨d,e,f⟩:=y
 by_cases h1:a=d
 ·by_cases h2:b=e
  ·by_cases h3:c=f
   ·simp[h1,h2,h3]
   ·have:(c==f)=false:=by simpa using h3
    simp[h1,h2,h3,this]
  ·have:(b==e)=false:=by simpa using h2
   simp[h1,h2,this]
 ·have:(a==d)=false:=by simpa using h1
  simp[h1,this]
theorem φ8X {a b:Nat} (h:a≠b):((a:Int) != (b:Int))=true:=by
 have:(a:Int)≠(b:Int):=by omega
 simpa using this
theorem φ85 {a b:Nat} (h:a=b):((a:Int) != (b:Int))=false:=by simp[h]
theorem φIA {β:Type} {P:Prop} [Decidable P] (a b:β):(bif !decide P then a else b)=if P then b else a:=by
 by_cases h:P<;>simp[h]
theorem φHZ (a b:List (List UInt8×List UInt8×Int)) (ha:a.length<2 ^ 62):ψ2m.f a b=some (decide (a=b)):=by
 unfold ψ2m.f
 by_cases hl:a.length=b.length
 rotate_left
 ·have:a≠b:=fun h=>hl (by rw[h])
  rw[φ8X hl];simp[this]
 rw[φ85 hl,cF,φJO a b hl ha (fun rec n h1 h2=>?_) (fun rec=>?_)]
 ·by_cases e:a=b<;>simp[e]
 ·simp only[ψ2m.l0,oL,h1,h2,dT,cT,φH,φM,φE h1,φE h2,φQ (show n+1<9223372036854775808 by omega),φIY,φIA]
 ·simp[ψ2m.l0]
theorem φ1U (n a b:Int):ψ1Z.f n a b=some (decide (a≤n∧n≤b)):=by
 unfold ψ1Z.f
 by_cases h:a≤n
 ·have h2:n≥a:=h
  simp[h,h2]
 ·have h2:¬n≥a:=h
  simp[h,h2]
theorem φ2G (n a b:Int):ψ3C.f n a b=some (decide (a≤n∧n≤b)):=φ1U n a b
def φ1Q (s:List UInt8):Bool:=decide (1≤s.length∧s.length≤8)
theorem φ5g (s:List UInt8):ψZ.f s=some (φ1Q s):=by
 unfold ψZ.f φ1Q
 rw[φ1U,bS]
 congr 1
 apply decide_eq_decide.2
 omega
theorem φDi (s:List UInt8):ψ2Z.f s=some (φ1Q s):=φ5g s
def φ2h (p:List UInt8×Bool×List UInt8):Bool:=φ1Q p.1 && (decide (p.2.2.length≤24) && (!p.2.1 || p.2.2==[]))
theorem φB5 (p:List UInt8×Bool×List UInt8):ψ1i.f p=some (φ2h p):=by
 unfold ψ1i.f φ2h
 rw[φ5g,bS]
 cases φ1Q p.1
 ·rfl
 ·have:decide ((p.2.2.length:Int)≤24)=decide (p.2.2.length≤24):=decide_eq_decide.2 (by omega)
  rw[this]
  cases decide (p.2.2.length≤24)
  ·rfl
  ·cases p.2.1<;>rfl
def φ2U (l:List (List UInt8×Bool×List UInt8)):Bool:=decide (l.length≤8) && l.all φ2h
theorem φKE (l:List (List UInt8×Bool×List UInt8)) (hl:l.length<2 ^ 62):ψi.f l=some (φ2U l):=by
 have key:=φ4I (step:=ψi.l0) l φ2h (fun n=>(l,l,(l.length:Int),(n:Int))) l hl
  (fun rec n h=>by
   simp only[ψi.l0,oL,h,dT,cT,φH,φM,φE h,φ2K,φB5,bS,φQ (show n+1<9223372036854775808 by omega)]
   cases φ2h l[n]<;>simp)
  (fun rec=>by simp[ψi.l0])
 have key:lp ψi.l0 (l,l,(l.length:Int),0)=_:=key
 unfold ψi.f φ2U
 rw[key,bS]
 have:decide ((l.length:Int)≤8)=decide (l.length≤8):=decide_eq_decide.2 (by omega)
 cases h:l.all φ2h<;>simp[this]
def φ9u (l:List (List UInt8×Bool×List UInt8)) (key:List UInt8):Option (List UInt8×Bool×List UInt8):=l.reverse.find? fun p=>p.1==key
def ownW (l:List (List UInt8×Bool×List UInt8)) (key:List UInt8):(List UInt8×Bool×List UInt8)×Bool:=
 match φ9u l key with
 | some p=>(p,true)
 | none=>(([],false,[]),false)
theorem φLt (t:Bool×List (List UInt8×Int)×List (List UInt8×Bool×List UInt8)) (key:List UInt8) (hl:t.2.2.length<2 ^ 62):ψg.f t key=some (ownW t.2.2 key):=by
 have hk:=φKj (step:=ψg.l0) t.2.2 (fun p=>p.1==key) (fun p=>(p,true)) (fun n=>(key,t,([],false,[]),(n:Int) - 1)) ([],false,[]) hl
  (fun rec n h=>by
   have e:((n+1:Nat):Int) - 1=(n:Int):=by omega
   have e2:w64 ((n:Int) - 1)=(n:Int) - 1:=φG (by omega) (by omega)
   have e3:(n:Int)≥0:=by omega
   simp only[e,ψg.l0,e3,dT,cT,φH,φM,h,φE h,e2,φ2K]
   cases h2:(t.2.2[n].1==key)<;>simp)
  (fun rec=>by simp[ψg.l0])
 unfold ψg.f ownW φ9u
 rw[φG (by omega) (by omega)]
 simp only[]
 rw[hk,bS]
 cases List.find? (fun p=>p.1==key) t.2.2.reverse<;>rfl
abbrev PutT:=List UInt8×Bool×List UInt8
abbrev φ12:=List UInt8×List UInt8×Int
abbrev φB:=List UInt8×Int×Int×Int×Int
abbrev TxnT:=Bool×List (List UInt8×Int)×List (List UInt8×Bool×List UInt8)
def φ2E (l:List φB) (key:List UInt8):φB×Bool:=
 match l.find? (fun e=>e.1==key) with
 | some e=>(e,true)
 | none=>(([],0,0,0,0),false)
theorem φH3 (l:List φB) (key:List UInt8) (hl:l.length<2 ^ 62):ψ8.f l key=some (φ2E l key):=by
 have hk:=φH7 (step:=ψ8.l0) l (fun e=>e.1==key) (fun e=>(e,true)) (fun n=>(key,([],0,0,0,0),l,(l.length:Int),(n:Int))) ([],0,0,0,0) hl
  (fun rec n h=>by
   simp only[ψ8.l0,oL,h,dT,cT,φH,φM,φE h,φ2K,φQ (show n+1<9223372036854775808 by omega)]
   cases l[n].1==key<;>simp)
  (fun rec=>by simp[ψ8.l0])
 have hk:lp ψ8.l0 (key,([],0,0,0,0),l,(l.length:Int),0)=_:=hk
 unfold ψ8.f φ2E
 rw[hk,bS]
 cases List.find? (fun e=>e.1==key) l<;>rfl
theorem φI1 (l:List φB) (key:List UInt8) (hl:l.length<2 ^ 62):ψ2O.f l key=some (φ2E l key):=by
 have hk:=φH7 (step:=ψ2O.l0) l (fun e=>e.1==key) (fun e=>(e,true)) (fun n=>(l,key,([],0,0,0,0),(n:Int))) ([],0,0,0,0) hl
  (fun rec n h=>by
   simp only[ψ2O.l0,oL,h,dT,cT,φH,φM,φE h,φ2K,φQ (show n+1<9223372036854775808 by omega)]
   cases l[n].1==key<;>simp)
  (fun rec=>by simp[ψ2O.l0])
 have hk:lp ψ2O.l0 (l,key,([],0,0,0,0),0)=_:=hk
 unfold ψ2O.f φ2E
 rw[hk,bS]
 cases List.find? (fun e=>e.1==key) l<;>rfl
def φ5B (t:TxnT) (dir:List φB):Bool:=t.2.1.all fun r=>(φ2E dir r.1).1.2.2.2.2==r.2
theorem φKo (t:TxnT) (dir:List φB) (h1:t.2.1.length<2 ^ 62) (h2:dir.length<2 ^ 62):ψ1I.f t dir=some (φ5B t dir):=by
 have hk:=φ4I (step:=ψ1I.l0) t.2.1 (fun r=>(φ2E dir r.1).1.2.2.2.2==r.2) (fun n=>(dir,t.2.1,(t.2.1.length:Int),(n:Int))) () h1
  (fun rec n h=>by
   simp only[ψ1I.l0,oL,h,dT,cT,φH,φM,φE h,φH3 dir _ h2,bS,φQ (show n+1<9223372036854775808 by omega),bne]
   cases (φ2E dir t.2.1[n].1).1.2.2.2.2==t.2.1[n].2<;>simp)
  (fun rec=>by simp[ψ1I.l0])
 have hk:lp ψ1I.l0 (dir,t.2.1,(t.2.1.length:Int),0)=_:=hk
 unfold ψ1I.f φ5B
 rw[hk,bS]
 cases List.all t.2.1 _<;>rfl
def φ2c (l:List PutT):List (List UInt8):=l.foldl (fun ks p=>if p.1∈ks then ks else ks++[p.1]) []
def netW (l:List PutT):List PutT:=(φ2c l).map fun k=>(ownW l k).1
theorem φ6R (l:List PutT) (p:PutT):φ2c (l++[p])=if p.1∈φ2c l then φ2c l else φ2c l++[p.1]:=by
 unfold φ2c;rw[κW];rfl
theorem φ6U (l:List PutT) (p:PutT) (k:List UInt8):ownW (l++[p]) k=if p.1=k then (p,true) else ownW l k:=by
 unfold ownW φ9u
 rw[List.reverse_append,List.reverse_cons,List.reverse_nil,κ7,κF,κ7,List.find?_cons]
 by_cases h:p.1=k
 ·simp[h]
 ·have:(p.1==k)=false:=by simpa using h
  simp[h,this]
theorem φ6I {α:Type} {P:List α→Prop} (h0:P []) (hs:∀l x,P l→P (l++[x])):∀l,P l:=by
 have key:∀n (l:List α),l.length=n→P l:=by
  intro n
  induction n with
  | zero=>intro l h;rw[List.eq_nil_of_length_eq_zero h];exact h0
  | succ n ih=>
   intro l h
   have hlt:n<l.length:=by omega
   have e:l.take n++[l[n]]=l:=by
    rw[←κ6 hlt,List.take_of_length_le (by omega)]
   rw[←e]
   exact hs _ _ (ih _ (by simp;omega))
 exact fun l=>key l.length l rfl
theorem φFB (l:List PutT):(φ2c l).Nodup:=by
 induction l using φ6I with
 | h0=>simp[φ2c]
 | hs l p ih=>
  rw[φ6R]
  by_cases h:p.1∈φ2c l
  ·rw[if_pos h];exact ih
  ·rw[if_neg h,κK]
   refine ⟨ih,by simp,fun a ha b hb=>?_⟩
   simp only[mZ] at hb
   subst hb
   intro e;subst e;exact h ha
theorem φK8 (l:List PutT):(φ2c l).length≤l.length:=by
 induction l using φ6I with
 | h0=>simp[φ2c]
 | hs l p ih=>
  rw[φ6R]
  split<;>simp<;>omega
theorem φIL (l:List PutT) (k:List UInt8) (h:k∈φ2c l):(ownW l k).1.1=k∧(ownW l k).2=true:=by
 induction l using φ6I with
 | h0=>simp[φ2c] at h
 | hs l p ih=>
  rw[φ6U]
  by_cases e:p.1=k
  ·rw[if_pos e];exact ⟨e,rfl⟩
  ·rw[if_neg e]
   rw[φ6R] at h
   apply ih
   split at h
   ·exact h
   ·rcases mA.1 h with h | h
    ·exact h
    ·simp only[mZ] at h;exact absurd h.symm e
def φ2M (key:List UInt8):List PutT→Nat→Int→Int
 | [],_,s=>s
 | x::r,i,s=>φ2M key r (i+1) (if x.1==key then i else s)
theorem φAR (key:List UInt8):∀(l:List PutT) (i:Nat) (s:Int),(∀p∈l,p.1≠key)→φ2M key l i s=s
 | [],_,_,_=>rfl
 | x::r,i,s,h=>by
  have:(x.1==key)=false:=by simpa using h x (by simp)
  show φ2M key r (i+1) (if (x.1==key)=true then (i:Int) else s)=s
  rw[this]
  exact φAR key r (i+1) s fun p hp=>h p (mC _ hp)
theorem φDs (key:List UInt8):∀(l:List PutT) (i:Nat) (s:Int) (j:Nat) (hj:j<l.length),l[j].1=key→(∀m,(hm:m<l.length)→l[m].1=key→m=j)→φ2M key l i s=((i+j:Nat):Int)
 | x::r,i,s,0,_,h,hu=>by
  show φ2M key r (i+1) (if (x.1==key)=true then (i:Int) else s)=_
  have h:x.1=key:=h
  rw[h]
  simp only[beq_self_eq_true,if_true]
  rw[φAR key r (i+1) i fun p hp=>by
   intro e
   obtain ⟨m,hm,hp⟩:=List.getElem_of_mem hp
   have:=hu (m+1) (by simpa using hm) (by simpa [hp] using e)
   omega]
  simp
 | x::r,i,s,j+1,hj,h,hu=>by
  show φ2M key r (i+1) (if (x.1==key)=true then (i:Int) else s)=_
  rw[φDs key r (i+1) _ j (by simpa using hj) (by simpa using h) fun m hm hk=>by
   have:=hu (m+1) (by simpa using hm) (by simpa using hk);omega]
  congr 1;omega
def φ5V (out:List PutT) (p:PutT):List PutT:=if φ2M p.1 out 0 (-1)≥0 then out.set (φ2M p.1 out 0 (-1)).toNat p else out++[p]
theorem φHm (m:List PutT) (p:PutT):φ5V (netW m) p=netW (m++[p]):=by
 have keys:∀(j:Nat) (hj:j<(netW m).length),(netW m)[j].1=(φ2c m)[j]'(by simpa [netW] using hj):=fun j hj=>by
  simp only[netW,List.getElem_map]
  exact (φIL m _ (gM _)).1
 unfold φ5V
 by_cases h:p.1∈φ2c m
 ·obtain ⟨j,hj,hk⟩:=List.getElem_of_mem h
  have hj':j<(netW m).length:=by simpa [netW] using hj
  have e:=φDs p.1 (netW m) 0 (-1) j hj' (by rw[keys j hj',hk]) fun q hq hqk=>by
   rw[keys q hq] at hqk
   exact (List.getElem_inj (φFB m)).1 (hqk.trans hk.symm)
  rw[e,if_pos (by omega)]
  have e2:((0+j:Nat):Int).toNat=j:=by omega
  rw[e2]
  unfold netW
  rw[φ6R,if_pos h]
  apply List.ext_getElem (by simp)
  intro i h1 h2
  rw[List.getElem_set]
  simp only[List.getElem_map]
  have hi:i<(φ2c m).length:=by simpa using h2
  by_cases hij:j=i
  ·subst hij
   rw[if_pos rfl,φ6U,if_pos hk.symm]
  ·rw[if_neg hij,φ6U,if_neg]
   intro hp
   rw[←hk] at hp
   exact hij ((List.getElem_inj (φFB m)).1 hp)
 ·rw[φAR p.1 (netW m) 0 (-1) fun q hq=>by
   intro e
   obtain ⟨j,hj,hq⟩:=List.getElem_of_mem hq
   have:=keys j hj
   rw[hq,e] at this
   exact h (this ▸ gM _)]
  rw[if_neg (by omega)]
  unfold netW
  rw[φ6R,if_neg h,mp]
  congr 1
  ·apply List.map_congr_left
   intro k hk
   rw[φ6U,if_neg]
   intro e;subst e;exact h hk
  ·simp[φ6U]
theorem φMq (l:List PutT):l.foldl φ5V []=netW l:=by
 induction l using φ6I with
 | h0=>rfl
 | hs l p ih=>rw[κW,ih];exact φHm l p
theorem φLK (out:List PutT) (p:PutT) (x9:List PutT) (x10 x11:Int) (hl:out.length<2 ^ 62) :
  lp ψ1d.l2 (out,p,-1,x9,x10,x11,(out.length:Int),0)=some (out,p,φ2M p.1 out 0 (-1),x9,x10,x11):=by
 have key:=φc (step:=ψ1d.l2) (fun n (s:Int)=>(out,p,s,x9,x10,x11,(out.length:Int),(n:Int))) out.length (fun n s=>(out,p,φ2M p.1 (out.drop n) n s,x9,x10,x11)) (fun _ _=>True)
  (fun rec n s hn _ ih=>by
   rcases κ1 n out.length with h | h
   ·have hw:w64 ((n:Int)+1)=((n+1:Nat):Int):=φQ (show n+1<9223372036854775808 by omega)
    simp only[ψ1d.l2,oL,h,dT,cT,φH,φM,φE h,φQ (show n+1<9223372036854775808 by omega)]
    rw[dG h]
    show _=some (out,p,φ2M p.1 (out.drop (n+1)) (n+1) (if (out[n].1==p.1)=true then (n:Int) else s),x9,x10,x11)
    cases out[n].1==p.1
    ·simp only[cF,bS,κ2,if_false];rw[hw];exact ih s h trivial
    ·simp only[cT,bS,if_true];rw[hw];exact ih n h trivial
   ·have:n=out.length:=by omega
    subst this
    simp[ψ1d.l2,φ2M])
  hl 0 (-1) (κ3 _) trivial
 simpa using key
theorem φNU (out:List PutT) (p:PutT):(φ5V out p).length≤out.length+1:=by
 unfold φ5V;split<;>simp
theorem φDe (key:List UInt8):∀(l:List PutT) (i:Nat) (s:Int),φ2M key l i s=s∨(∃j:Nat,φ2M key l i s=((i+j:Nat):Int)∧j<l.length)
 | [],_,_=>.inl rfl
 | x::r,i,s=>by
  show φ2M key r (i+1) (if (x.1==key)=true then (i:Int) else s)=s∨∃j:Nat,φ2M key r (i+1) (if (x.1==key)=true then (i:Int) else s)=_∧_
  rcases φDe key r (i+1) (if (x.1==key)=true then (i:Int) else s) with h | ⟨j,h1,h2⟩
  ·rw[h]
   split
   ·exact .inr ⟨0,by simp,by simp⟩
   ·exact .inl rfl
  ·exact .inr ⟨j+1,by rw[h1];congr 1;omega,by simp;omega⟩
theorem φJi (l:List PutT) (hl:l.length<2 ^ 40):ψ1d.f l=some (netW l):=by
 have hk:=φ3W (step:=ψ1d.l0) l φ5V (fun n (s:List PutT)=>(s,l,(l.length:Int),(n:Int))) id (fun n s=>s.length≤n) (by omega)
  (fun rec n s h hi=>by
   have hs:s.length<2 ^ 62:=by omega
   have hw:w64 ((n:Int)+1)=((n+1:Nat):Int):=φQ (show n+1<9223372036854775808 by omega)
   simp only[ψ1d.l0,oL,h,dT,cT,φH,φM,φE h,φ2K,φLK s l[n] l _ _ hs,bS,φQ (show n+1<9223372036854775808 by omega)]
   unfold φ5V
   by_cases hp:φ2M l[n].1 s 0 (-1)≥0
   ·rcases φDe l[n].1 s 0 (-1) with k | ⟨j,k1,k2⟩
    ·omega
    ·rw[if_pos hp]
     have:inB (φ2M l[n].1 s 0 (-1)) s.length=true:=by rw[k1];simp[k2]
     simp only[hp,dT,cT,this,bS,hw]
   ·rw[if_neg hp]
    have hb:(s.length+[l[n]].length) * 40≤140737488355328:=by simp;omega
    simp only[hp,dF,cF,hb,dT,cT,bS,hw])
  (fun n s h hi=>by have:=φNU s l[n];omega)
  (fun rec s hi=>by simp[ψ1d.l0]) [] (by simp)
 have hk:lp ψ1d.l0 ([],l,(l.length:Int),0)=_:=hk
 unfold ψ1d.f
 rw[hk,φMq];rfl
theorem φAJ (t:TxnT) (hl:t.2.2.length<2 ^ 40):ψd.f t=some (netW t.2.2):=by
 unfold ψd.f;rw[φJi _ hl];rfl
theorem φ55 {a:Nat} (h:a<1000000000001):(a+1) * 40≤140737488355328:=by omega
def leK (a b:List UInt8):Bool:=Op.bytesLess a b || a==b
def insB {α:Type} (l:List (List UInt8×α)) (p:List UInt8×α):List (List UInt8×α):=
 let k:=(l.takeWhile fun x=>leK x.1 p.1).length
 l.take k++[p]++l.drop k
def φ1E {α:Type} (l:List (List UInt8×α)) (key:List UInt8):List (List UInt8×α):=l.filter fun x=>!(x.1==key)
theorem φ8V {α:Type} (l:List (List UInt8×α)) (p:List UInt8×α):(insB l p).length=l.length+1:=by
 have:(l.takeWhile fun x=>leK x.1 p.1).length≤l.length:=(List.takeWhile_sublist _).length_le
 simp only[insB,lA,lT,lD,lC,lN];omega
theorem φ92 {α:Type} (l:List (List UInt8×α)) (key:List UInt8):(φ1E l key).length≤l.length:=List.length_filter_le _ _
theorem φDG {α:Type} (f:α→Bool):∀(l s:List α),l.foldl (fun s x=>if f x=true then s++[x] else s) s=s++l.filter f
 | [],s=>by simp
 | x::l,s=>by
  rw[κN,φDG f l,List.filter_cons]
  cases f x<;>simp
def φHQ (b:Int) (l:List φ12) (p:PutT):List φ12:=if p.2.1=true then φ1E l p.1 else insB (φ1E l p.1) (p.1,p.2.2,b)
def φ9q (l:List φ12) (puts:List PutT) (b:Int):List φ12:=puts.foldl (φHQ b) l
theorem φFn {α:Type} (f:α→Bool) (l:List α) (n:Nat) (h:n<l.length):((l.drop n).takeWhile f).length=if f l[n]=true then ((l.drop (n+1)).takeWhile f).length+1 else 0:=by
 rw[dG h,List.takeWhile_cons]
 split<;>simp
theorem dnn {k:Int} (h:0≤k):decide (k<0)=false:=by
 have:¬k<0:=by omega
 simp[this]
theorem φMt (l:List PutT):(netW l).length≤l.length:=by
 unfold netW;rw[lM];exact φK8 l
theorem φ4v:∀a:List UInt8,Op.bytesLess a a=false
 | []=>rfl
 | x::a=>by simp[Op.bytesLess,φ4v a]
theorem φEm {a b:UInt8}:a<b↔a.toNat<b.toNat:=UInt8.lt_iff_toNat_lt
theorem φN0 {a b:UInt8} (h:a.toNat=b.toNat):a=b:=UInt8.toNat.inj h
theorem φ6s:∀a b c:List UInt8,Op.bytesLess a b=true→Op.bytesLess b c=true→Op.bytesLess a c=true
 | _,[],_,h,_=>by simp[Op.bytesLess] at h
 | _,_::_,[],_,h=>by simp[Op.bytesLess] at h
 | [],_::_,_::_,_,_=>rfl
 | x::a,y::b,z::c,h1,h2=>by
  simp only[Op.bytesLess,κV,decide_eq_true_eq,bA,beq_iff_eq] at h1 h2 ⊢
  rcases h1 with h1 | ⟨h1,k1⟩
  ·rcases h2 with h2 | ⟨h2,k2⟩
   ·left;rw[φEm] at *;omega
   ·left;rw[←h2];exact h1
  ·rcases h2 with h2 | ⟨h2,k2⟩
   ·left;rw[h1];exact h2
   ·exact .inr ⟨h1.trans h2,φ6s a b c k1 k2⟩
theorem φEg:∀a b:List UInt8,Op.bytesLess a b=false→a≠b→Op.bytesLess b a=true
 | [],[],_,h=>absurd rfl h
 | [],_::_,h,_=>by simp[Op.bytesLess] at h
 | _::_,[],_,_=>rfl
 | x::a,y::b,h1,h2=>by
  simp only[Op.bytesLess,κH,decide_eq_false_iff_not,Bool.and_eq_false_iff] at h1
  simp only[Op.bytesLess,κV,decide_eq_true_eq,bA,beq_iff_eq]
  by_cases e:x=y
  ·subst e
   right
   refine ⟨rfl,φEg a b ?_ fun e=>h2 (by rw[e])⟩
   rcases h1.2 with k | k
   ·simp at k
   ·exact k
  ·left
   rw[φEm] at *
   have:=h1.1
   have hne:x.toNat≠y.toNat:=fun k=>e (φN0 k)
   omega
theorem φG6 (a b:List UInt8) (h:Op.bytesLess a b=true):Op.bytesLess b a=false:=by
 cases hb:Op.bytesLess b a with
 | false=>rfl
 | true=>have:=φ6s a b a h hb;rw[φ4v] at this;simp at this
theorem φ6z {a b:List UInt8} (h:Op.bytesLess a b=true):a≠b:=fun e=>by rw[e,φ4v] at h;simp at h
theorem φ9G (a b:List UInt8):leK a b=!Op.bytesLess b a:=by
 unfold leK
 cases h:Op.bytesLess a b with
 | true=>rw[φG6 a b h];rfl
 | false=>
  by_cases e:a=b
  ·subst e;simp[h]
  ·rw[φEg a b h e]
   have:(a==b)=false:=by simpa using e
   simp[this]
def φ45 (b:UInt8):Bool:=(decide (97≤b.toNat) && decide (b.toNat≤122)) || (decide (48≤b.toNat) && decide (b.toNat≤57))
def φ1s (s:List UInt8):Bool:=s.all φ45 && decide (1≤s.length∧s.length≤12)
theorem φ53 (s:List UInt8) (n:Nat) (h:n<s.length):bAt s (n:Int)=(s[n].toNat:Int):=by
 unfold bAt
 rw[tN,φE h]
theorem φ98 {a:Nat} {k:Nat}:decide ((a:Int)≥(k:Int))=decide (k≤a):=decide_eq_decide.2 (by omega)
theorem φ8k {a:Nat} {k:Nat}:decide ((a:Int)≤(k:Int))=decide (a≤k):=decide_eq_decide.2 (by omega)
theorem φB8 (s:List UInt8) (hl:s.length<2 ^ 62):ψc.f s=some (φ1s s):=by
 have key:=φ4I (step:=ψc.l0) s φ45 (fun n=>(s,(n:Int))) s hl
  (fun rec n h=>by
   have hw:w64 ((n:Int)+1)=((n+1:Nat):Int):=φQ (by omega)
   have e1:decide ((s[n].toNat:Int)≥97)=decide (97≤s[n].toNat):=φ98 (k:=97)
   have e2:decide ((s[n].toNat:Int)≤122)=decide (s[n].toNat≤122):=φ8k (k:=122)
   have e3:decide ((s[n].toNat:Int)≥48)=decide (48≤s[n].toNat):=φ98 (k:=48)
   have e4:decide ((s[n].toNat:Int)≤57)=decide (s[n].toNat≤57):=φ8k (k:=57)
   simp only[ψc.l0,oL,h,dT,cT,φH,φ53 s n h,e1,e2,e3,e4]
   unfold φ45
   cases decide (97≤s[n].toNat)<;>cases decide (s[n].toNat≤122)<;>cases decide (48≤s[n].toNat)<;>cases decide (s[n].toNat≤57)<;>simp[hw])
  (fun rec=>by simp[ψc.l0])
 have key:lp ψc.l0 (s,0)=_:=key
 unfold ψc.f φ1s
 rw[key,bS]
 have e:decide ((1:Int)≤(s.length:Int)∧(s.length:Int)≤12)=decide (1≤s.length∧s.length≤12):=decide_eq_decide.2 (by omega)
 cases h:s.all φ45
 ·simp
 ·simp only[if_true,φb,φ1U,bS,e,tA]
theorem φ9P (s:List UInt8) (hl:s.length<2 ^ 62):ψ2c.f s=some (φ1s s):=by
 have key:=φ4I (step:=ψ2c.l0) s φ45 (fun n=>(s,(n:Int))) s hl
  (fun rec n h=>by
   have hw:w64 ((n:Int)+1)=((n+1:Nat):Int):=φQ (by omega)
   have e1:decide ((s[n].toNat:Int)≥97)=decide (97≤s[n].toNat):=φ98 (k:=97)
   have e2:decide ((s[n].toNat:Int)≤122)=decide (s[n].toNat≤122):=φ8k (k:=122)
   have e3:decide ((s[n].toNat:Int)≥48)=decide (48≤s[n].toNat):=φ98 (k:=48)
   have e4:decide ((s[n].toNat:Int)≤57)=decide (s[n].toNat≤57):=φ8k (k:=57)
   simp only[ψ2c.l0,oL,h,dT,cT,φH,φ53 s n h,e1,e2,e3,e4]
   unfold φ45
   cases decide (97≤s[n].toNat)<;>cases decide (s[n].toNat≤122)<;>cases decide (48≤s[n].toNat)<;>cases decide (s[n].toNat≤57)<;>simp[hw])
  (fun rec=>by simp[ψ2c.l0])
 have key:lp ψ2c.l0 (s,0)=_:=key
 unfold ψ2c.f φ1s
 rw[key,bS]
 have e:decide ((1:Int)≤(s.length:Int)∧(s.length:Int)≤12)=decide (1≤s.length∧s.length≤12):=decide_eq_decide.2 (by omega)
 cases h:s.all φ45
 ·simp
 ·simp only[if_true,φb,φ2G,bS,e,tA]
abbrev φ6:=List UInt8×List UInt8×Int
abbrev φ1:=List φ6×Int×Int×Bool
def φJ (l:List φ6):Nat:=sumN (fun f=>f.2.1.length) l
def φ2o (f:φ6):Bool:=φ1s f.1 && decide (0≤f.2.2∧f.2.2≤(f.2.1.length:Int))
def φ3P:Option (List UInt8)→List φ6→Bool
 | _,[]=>true
 | none,f::r=>φ3P (some f.1) r
 | some p,f::r=>Op.bytesLess p f.1 && φ3P (some f.1) r
def φ5b (l:List φ6):Bool:=l.all φ2o && φ3P none l
def φ3 (d:φ1):Bool:=decide (d.1.length≤130) && (decide (0≤d.2.1∧d.2.1≤100000) && (decide (-1≤d.2.2.1∧d.2.2.1≤100000) && (decide ((φJ d.1:Int)≤d.2.1) && φ5b d.1)))
def φ46 (l:List φ6):Nat→Option (List UInt8)
 | 0=>none
 | n+1=>some (l.getD n ([],[],0)).1
def φ5S (p:Option (List UInt8)) (l:List φ6):Bool:=l.all φ2o && φ3P p l
def follows (p:Option (List UInt8)) (f:φ6):Bool:=match p with | none=>true | some q=>Op.bytesLess q f.1
theorem φD0 (p:Option (List UInt8)) (f:φ6) (l:List φ6):φ5S p (f::l)=(φ2o f && follows p f && φ5S (some f.1) l):=by
 unfold φ5S follows
 cases p<;>simp only[List.all_cons,φ3P]<;>cases φ2o f<;>simp[Bool.and_comm,Bool.and_assoc,Bool.and_left_comm]
theorem φFX (d:φ1) (hl:d.1.length<2 ^ 62) (hu:φJ d.1<2 ^ 62):ψ3M.f d=some (φJ d.1:Int):=by
 have key:=φc (step:=ψ3M.l0) (fun n (s:Int)=>(d,s,(n:Int))) d.1.length (fun n s=>s+(φJ (d.1.drop n):Int)) (fun n s=>0≤s∧s+(φJ (d.1.drop n):Int)<2 ^ 62)
  (fun rec n s hn hi ih=>by
   rcases κ1 n d.1.length with h | h
   ·have e:φJ (d.1.drop n)=d.1[n].2.1.length+φJ (d.1.drop (n+1)):=φBJ _ h
    have h2:=hi.2
    have h1:=hi.1
    rw[e] at h2
    simp only[ψ3M.l0,oL,h,dT,cT,φH,φM,φE h,φQ (show n+1<9223372036854775808 by omega)]
    rw[φG (by omega) (by omega),ih _ h ⟨by omega,by omega⟩,e]
    congr 1;omega
   ·have:n=d.1.length:=by omega
    subst this
    simp[ψ3M.l0,φJ,sumN])
  hl 0 0 (κ3 _) ⟨by omega,by simp only[κC];omega⟩
 have key:lp ψ3M.l0 (d,0,0)=_:=key
 unfold ψ3M.f
 rw[key];simp
theorem φ9K (d:φ1) (hl:d.1.length<2 ^ 62) (hu:φJ d.1<2 ^ 62):ψ1x.f d=some (φJ d.1:Int):=by
 have key:=φc (step:=ψ1x.l0) (fun n (s:Int)=>(s,d.1,(d.1.length:Int),(n:Int))) d.1.length (fun n s=>s+(φJ (d.1.drop n):Int)) (fun n s=>0≤s∧s+(φJ (d.1.drop n):Int)<2 ^ 62)
  (fun rec n s hn hi ih=>by
   rcases κ1 n d.1.length with h | h
   ·have e:φJ (d.1.drop n)=d.1[n].2.1.length+φJ (d.1.drop (n+1)):=φBJ _ h
    have h2:=hi.2
    have h1:=hi.1
    rw[e] at h2
    simp only[ψ1x.l0,oL,h,dT,cT,φH,φM,φE h,φQ (show n+1<9223372036854775808 by omega)]
    rw[φG (by omega) (by omega),ih _ h ⟨by omega,by omega⟩,e]
    congr 1;omega
   ·have:n=d.1.length:=by omega
    subst this
    simp[ψ1x.l0,φJ,sumN])
  hl 0 0 (κ3 _) ⟨by omega,by simp only[κC];omega⟩
 have key:lp ψ1x.l0 (0,d.1,(d.1.length:Int),0)=_:=key
 unfold ψ1x.f
 rw[key];simp
theorem φ8A (l:List φ6) (n:Nat) (h:n<l.length):φ46 l (n+1)=some l[n].1:=by
 show some (l.getD n ([],[],0)).1=_
 rw[φE h]
theorem φLR {f:List UInt8} (h:φ1s f=true):f.length≤12:=by
 unfold φ1s at h
 simp only[bA,decide_eq_true_eq] at h
 exact h.2.2
theorem φJP (d:φ1) (hl:d.1.length<2 ^ 62) (hu:φJ d.1<2 ^ 62) (hn:∀f∈d.1,f.1.length<2 ^ 62):lp ψD.l0 (d,0,d.1,(d.1.length:Int),0)=some (if φ5b d.1=true then .inl (d,(φJ d.1:Int)) else .inr false):=by
 have key:=φc (step:=ψD.l0) (fun n (s:Int)=>(d,s,d.1,(d.1.length:Int),(n:Int))) d.1.length (fun n s=>if φ5S (φ46 d.1 n) (d.1.drop n)=true then .inl (d,s+(φJ (d.1.drop n):Int)) else .inr false) (fun n s=>0≤s∧s+(φJ (d.1.drop n):Int)<2 ^ 62)
  (fun rec n s hn' hi ih=>by
   rcases κ1 n d.1.length with h | h
   ·have e:φJ (d.1.drop n)=d.1[n].2.1.length+φJ (d.1.drop (n+1)):=φBJ _ h
    have h2:=hi.2
    have h1:=hi.1
    rw[e] at h2
    have hw:w64 ((n:Int)+1)=((n+1:Nat):Int):=φQ (by omega)
    have hw2:w64 (s+(d.1[n].2.1.length:Int))=s+(d.1[n].2.1.length:Int):=φG (by omega) (by omega)
    have ih2:=ih (s+(d.1[n].2.1.length:Int)) h ⟨by omega,by omega⟩
    have ea:s+(d.1[n].2.1.length:Int)+(φJ (d.1.drop (n+1)):Int)=s+((d.1[n].2.1.length+φJ (d.1.drop (n+1)):Nat):Int):=by omega
    rw[φ8A d.1 n h,ea] at ih2
    have hnm:=hn d.1[n] (gM h)
    rw[dG h,φD0,←dG h,e]
    simp only[ψD.l0,oL,h,dT,cT,φH,φM,φE h,φB8 _ hnm,bS,φ1U]
    unfold φ2o
    rcases bE (φ1s d.1[n].1) with k1 | k1
    rotate_left
    ·simp[k1]
    rcases bE (decide (0≤d.1[n].2.2∧d.1[n].2.2≤(d.1[n].2.1.length:Int))) with k2 | k2
    rotate_left
    ·simp only[k1,k2,nZ,nF,cF,cT,bS,φm];simp
    simp only[k1,k2,nZ,cF,tA]
    cases n with
    | zero=>
     have z:¬((0:Nat):Int) > 0:=by omega
     simp only[z,dF,cF,bS,φb,hw2,hw,ih2,φ46,follows,tA]
    | succ m=>
     have z:((m+1:Nat):Int) > 0:=by omega
     have hm:m<d.1.length:=by omega
     have z2:w64 (((m+1:Nat):Int) - 1)=(m:Int):=by rw[φG (by omega) (by omega)];omega
     rw[φ8A d.1 m hm]
     simp only[z,dT,cT,z2,φH,hm,φM,φE hm,follows]
     rcases bE (Op.bytesLess d.1[m].1 d.1[m+1].1) with k3 | k3
     ·simp only[k3,nZ,cF,bS,φb,hw2,hw,ih2,tA]
     ·simp[k3]
   ·have:n=d.1.length:=by omega
    subst this
    simp[ψD.l0,φ5S,φ3P,φJ,sumN])
  hl 0 0 (κ3 _) ⟨by omega,by simp only[κC];omega⟩
 have key:lp ψD.l0 (d,0,d.1,(d.1.length:Int),0)=_:=key
 rw[key,κC,Int.zero_add];rfl
theorem φMj (d:φ1) (hl:d.1.length<2 ^ 62) (hn:∀f∈d.1,f.1.length<2 ^ 62):lp ψ2Q.l0 (d,0)=some (if φ5b d.1=true then .inl () else .inr false):=by
 have key:=φc (step:=ψ2Q.l0) (fun n (_:Unit)=>(d,(n:Int))) d.1.length (fun n _=>if φ5S (φ46 d.1 n) (d.1.drop n)=true then .inl () else .inr false) (fun _ _=>True)
  (fun rec n s hn' _ ih=>by
   rcases κ1 n d.1.length with h | h
   ·have hw:w64 ((n:Int)+1)=((n+1:Nat):Int):=φQ (by omega)
    have ih2:=ih () h trivial
    rw[φ8A d.1 n h] at ih2
    have hnm:=hn d.1[n] (gM h)
    rw[dG h,φD0]
    simp only[ψ2Q.l0,oL,h,dT,cT,φH,φM,φE h,φ9P _ hnm,bS,φ2G]
    unfold φ2o
    rcases bE (φ1s d.1[n].1) with k1 | k1
    rotate_left
    ·simp[k1]
    rcases bE (decide (0≤d.1[n].2.2∧d.1[n].2.2≤(d.1[n].2.1.length:Int))) with k2 | k2
    rotate_left
    ·simp only[k1,k2,nZ,nF,cF,cT,bS,φm];simp
    simp only[k1,k2,nZ,cF,tA]
    cases n with
    | zero=>
     have z:¬((0:Nat):Int) > 0:=by omega
     simp only[z,dF,cF,bS,φb,hw,ih2,φ46,follows,tA]
    | succ m=>
     have z:((m+1:Nat):Int) > 0:=by omega
     have hm:m<d.1.length:=by omega
     have z2:w64 (((m+1:Nat):Int) - 1)=(m:Int):=by rw[φG (by omega) (by omega)];omega
     have z3:(Op.bytesLess d.1[m+1].1 d.1[m].1 || d.1[m+1].1==d.1[m].1)=!Op.bytesLess d.1[m].1 d.1[m+1].1:=φ9G _ _
     rw[φ8A d.1 m hm]
     simp only[z,dT,cT,z2,φH,hm,φM,φE hm,follows,z3]
     rcases bE (Op.bytesLess d.1[m].1 d.1[m+1].1) with k3 | k3
     ·simp only[k3,nZ,cF,bS,φb,hw,ih2,tA]
     ·simp[k3]
   ·have:n=d.1.length:=by omega
    subst this
    simp[ψ2Q.l0,φ5S,φ3P])
  hl 0 () (κ3 _) trivial
 have key:lp ψ2Q.l0 (d,0)=_:=key
 rw[key,κC];rfl
def dlim (d:φ1):Prop:=d.1.length<1000000000∧φJ d.1<1000000000000∧∀f∈d.1,f.1.length<1000000000000
theorem φ4m (d:φ1) (h:dlim d):ψD.f d=some (φ3 d):=by
 obtain ⟨h1,h2,h3⟩:=h
 unfold ψD.f φ3
 have e1:decide ((d.1.length:Int) > 130)=!decide (d.1.length≤130):=by
  by_cases c:d.1.length≤130
  ·have:¬(d.1.length:Int) > 130:=by omega
   simp[c,this]
  ·have:(d.1.length:Int) > 130:=by omega
   simp[c,this]
 rw[e1,φ1U,φ1U,φJP d (by omega) (by omega) fun f hf=>by have:=h3 f hf;omega]
 cases decide (d.1.length≤130)
 ·rfl
 ·simp only[nZ,cF,bS,tA]
  cases decide (0≤d.2.1∧d.2.1≤100000)
  ·rfl
  ·simp only[nZ,cF,bS,tA]
   cases decide (-1≤d.2.2.1∧d.2.2.1≤100000)
   ·rfl
   ·cases φ5b d.1<;>simp
theorem φ6S (d:φ1) (h:dlim d):ψ2Q.f d=some (φ3 d):=by
 obtain ⟨h1,h2,h3⟩:=h
 unfold ψ2Q.f φ3
 have e1:decide ((d.1.length:Int) > 130)=!decide (d.1.length≤130):=by
  by_cases c:d.1.length≤130
  ·have:¬(d.1.length:Int) > 130:=by omega
   simp[c,this]
  ·have:(d.1.length:Int) > 130:=by omega
   simp[c,this]
 have e2:decide ((φJ d.1:Int) > d.2.1)=!decide ((φJ d.1:Int)≤d.2.1):=by
  by_cases c:(φJ d.1:Int)≤d.2.1
  ·have:¬(φJ d.1:Int) > d.2.1:=by omega
   simp[c,this]
  ·have:(φJ d.1:Int) > d.2.1:=by omega
   simp[c,this]
 rw[e1,φ2G,φ2G,φFX d (by omega) (by omega),φMj d (by omega) fun f hf=>by have:=h3 f hf;omega]
 cases decide (d.1.length≤130)
 ·rfl
 ·simp only[nZ,cF,bS,tA]
  cases decide (0≤d.2.1∧d.2.1≤100000)
  ·rfl
  ·simp only[nZ,cF,bS,tA]
   cases decide (-1≤d.2.2.1∧d.2.2.1≤100000)
   ·rfl
   ·simp only[nZ,cF,bS,tA,e2]
    cases decide ((φJ d.1:Int)≤d.2.1)
    ·rfl
    ·cases φ5b d.1<;>simp
theorem φ5Q (d:φ1) (h:d.1.length<1000000000000):ψ1M.f d=some d:=by
 unfold ψ1M.f
 have:(([]:List φ6).length+d.1.length) * 40≤140737488355328:=by simp;omega
 simp only[this,dT,cT,κ7]
theorem φ80 (d:φ1) (h:d.1.length<1000000000000):ψ3J.f d=some d:=φ5Q d h
def φ1e (l:List φ6) (name:List UInt8):Int:=match l.findIdx? (fun f=>f.1==name) with | some i=>(i:Int) | none=>-1
theorem φEx {A B:Type} {step:(A→Option (B ⊕ Int))→A→Option (B ⊕ Int)} (l:List φ6) (name:List UInt8) (st:Nat→A) (b:B) (hl:l.length<2 ^ 62)
  (hs:∀rec n,(h:n<l.length)→step rec (st n)=if (l[n].1==name)=true then some (.inr (n:Int)) else rec (st (n+1)))
  (he:∀rec,step rec (st l.length)=some (.inl b)):lp step (st 0)=some (match l.findIdx? (fun f=>f.1==name) with | some i=>.inr (i:Int) | none=>.inl b):=by
 have:=φc (step:=step) (fun n (_:Unit)=>st n) l.length (fun n _=>match (l.drop n).findIdx? (fun f=>f.1==name) with | some i=>.inr ((n+i:Nat):Int) | none=>.inl b) (fun _ _=>True)
  (fun rec n s hn _ ih=>by
   rcases κ1 n l.length with h | h
   ·rw[hs rec n h,ih () h trivial,dG h,List.findIdx?_cons]
    cases hf:l[n].1==name
    ·simp only[κ2,if_false]
     cases List.findIdx? (fun f=>f.1==name) (l.drop (n+1)) with
     | none=>rfl
     | some i=>simp only[Option.map_some];congr 2;omega
    ·simp
   ·have:n=l.length:=by omega
    subst this
    rw[he];simp) hl 0 () (κ3 _) trivial
 simpa using this
theorem φ4L (d:φ1) (name:List UInt8) (hl:d.1.length<2 ^ 62):ψ1V.f d name=some (φ1e d.1 name):=by
 have hk:=φEx (step:=ψ1V.l0) d.1 name (fun n=>(name,d.1,(d.1.length:Int),(n:Int))) () hl
  (fun rec n h=>by
   simp only[ψ1V.l0,oL,h,dT,cT,φH,φM,φE h,φQ (show n+1<9223372036854775808 by omega)]
   cases d.1[n].1==name<;>simp)
  (fun rec=>by simp[ψ1V.l0])
 have hk:lp ψ1V.l0 (name,d.1,(d.1.length:Int),0)=_:=hk
 unfold ψ1V.f φ1e
 rw[hk,bS]
 cases List.findIdx? (fun f=>f.1==name) d.1<;>rfl
theorem φ4G (d:φ1) (name:List UInt8) (hl:d.1.length<2 ^ 62):ψ3K.f d name=some (φ1e d.1 name):=by
 have hk:=φEx (step:=ψ3K.l0) d.1 name (fun n=>(name,d,(n:Int))) () hl
  (fun rec n h=>by
   simp only[ψ3K.l0,oL,h,dT,cT,φH,φM,φE h,φQ (show n+1<9223372036854775808 by omega)]
   cases d.1[n].1==name<;>simp)
  (fun rec=>by simp[ψ3K.l0])
 have hk:lp ψ3K.l0 (name,d,0)=_:=hk
 unfold ψ3K.f φ1e
 rw[hk,bS]
 cases List.findIdx? (fun f=>f.1==name) d.1<;>rfl
theorem φz (l:List φ6) (name:List UInt8):(φ1e l name=-1∧∀f∈l,f.1≠name)∨∃i:Nat,∃h:i<l.length,φ1e l name=(i:Int)∧l[i].1=name:=by
 unfold φ1e
 cases hf:List.findIdx? (fun f=>f.1==name) l with
 | none=>
  left
  refine ⟨rfl,fun f hm=>?_⟩
  have:=List.findIdx?_eq_none_iff.1 hf f hm
  simpa using this
 | some i=>
  right
  obtain ⟨h,h1,_⟩:=List.findIdx?_eq_some_iff_getElem.1 hf
  exact ⟨i,h,rfl,by simpa using h1⟩
def tick (d:φ1):φ1:=if d.2.2.1 > 0 then (d.1,d.2.1,d.2.2.1 - 1,d.2.2.2) else d
def φT (d:φ1) (act:List φ6→Int×List φ6):φ1×Int:=
 if φ3 d=false then (d,5) else if d.2.2.2=true∨d.2.2.1=0 then ((d.1,d.2.1,d.2.2.1,true),1)
 else (((act d.1).2,(tick d).2),(act d.1).1)
theorem φ9J {d:φ1} (h:φ3 d=true):-1≤d.2.2.1∧d.2.2.1≤100000∧d.1.length≤130:=by
 unfold φ3 at h
 simp only[bA,decide_eq_true_eq] at h
 omega
theorem φ1S (d:φ1):(tick d).1=d.1:=by unfold tick;split<;>rfl
theorem φK3 (d:φ1) (h:dlim d):ψ3I.f d=some (if φ3 d=false then (d,5) else if d.2.2.2=true∨d.2.2.1=0 then ((d.1,d.2.1,d.2.2.1,true),1) else (tick d,0)):=by
 unfold ψ3I.f
 rw[φ80 d (by have:=h.1;omega),φ6S d h]
 simp only[bS]
 rcases bE (φ3 d) with k | k
 ·have hf:=φ9J k
  rcases bE d.2.2.2 with k2 | k2
  ·simp[k,k2]
  ·by_cases k3:d.2.2.1=0
   ·simp[k,k2,k3]
   ·have k4:(d.2.2.1==0)=false:=by simpa using k3
    unfold tick
    by_cases k5:d.2.2.1 > 0
    ·simp[k,k2,k3,k4,k5,φG (show -9223372036854775808≤d.2.2.1 - 1 by omega) (by omega)]
    ·simp[k,k2,k3,k4,k5]
 ·simp[k]
theorem φ5w {C:Type} (d:φ1) (h:dlim d) (c:C) (does:C→φ1→Option (Int×φ1)) (act:List φ6→Int×List φ6) (hd:φ3 d=true→does c (tick d)=some ((act d.1).1,(act d.1).2,(tick d).2)) :
  ((ψ1M.f d).bind fun t1=>(ψD.f d).bind fun t2=>
   bif !t2 then some (t1,5) else
   bif d.2.2.2 then some ((t1.1,t1.2.1,t1.2.2.1,true),1) else
   bif d.2.2.1==0 then some ((t1.1,t1.2.1,t1.2.2.1,true),1) else
   (bif decide (d.2.2.1 > 0) then let y3:=w64 (t1.2.2.1 - 1);some (c,(([],0,0,false):φ1),(t1.1,t1.2.1,y3,t1.2.2.2)) else some (c,([],0,0,false),t1):Option (C×φ1×φ1)).bind fun (x1,x4,x6)=>
   (does x1 x6).bind fun (t4_0,t4_1)=>some (t4_1,t4_0))=some (φT d act):=by
 rw[φ5Q d (by have:=h.1;omega),φ4m d h]
 simp only[bS]
 unfold φT
 rcases bE (φ3 d) with k | k
 ·have hf:=φ9J k
  have hd:=hd k
  rcases bE d.2.2.2 with k2 | k2
  ·simp[k,k2]
  ·by_cases k3:d.2.2.1=0
   ·simp[k,k2,k3]
   ·have k4:(d.2.2.1==0)=false:=by simpa using k3
    have e:(bif decide (d.2.2.1 > 0) then some (c,(([],0,0,false):φ1),((d.1,d.2.1,w64 (d.2.2.1 - 1),d.2.2.2):φ1)) else some (c,([],0,0,false),d))=some (c,([],0,0,false),tick d):=by
     unfold tick
     by_cases k5:d.2.2.1 > 0
     ·simp[k5,φG (show -9223372036854775808≤d.2.2.1 - 1 by omega) (by omega)]
     ·simp[k5]
    simp only[k,k4,nZ,cF,e,bS,hd]
    simp[k2,k3]
 ·simp[k]
theorem φ3o {l:List φ6} {i:Nat} (h:i<l.length):inB (i:Int) l.length=true:=by simp[h]
theorem φ3v {l:List φ6} {i:Nat} (h:i<l.length):rdA ([],[],0) l (i:Int)=l[i]:=by rw[φM,φE h]
theorem φIo {d:φ1} (h:dlim d):dlim (tick d):=by unfold dlim;rw[φ1S];exact h
def φ2R (name:List UInt8) (l:List φ6):Int×List φ6:=
 match l.findIdx? (fun f=>f.1==name) with
 | some i=>(0,l.set i ((l.getD i ([],[],0)).1,(l.getD i ([],[],0)).2.1,((l.getD i ([],[],0)).2.1.length:Int)))
 | none=>(3,l)
theorem φ1B {l:List φ6} {name:List UInt8} (h:φ1e l name=-1):l.findIdx? (fun f=>f.1==name)=none:=by
 unfold φ1e at h
 cases e:l.findIdx? (fun f=>f.1==name) with
 | none=>rfl
 | some i=>rw[e] at h;simp only at h;omega
theorem φ18 {l:List φ6} {name:List UInt8} {i:Nat} (h:φ1e l name=(i:Int)):l.findIdx? (fun f=>f.1==name)=some i:=by
 unfold φ1e at h
 cases e:l.findIdx? (fun f=>f.1==name) with
 | none=>rw[e] at h;simp only at h;omega
 | some j=>rw[e] at h;simp only at h;congr 1;omega
theorem φIQ (d:φ1) (name:List UInt8) (h:d.1.length<2 ^ 62):ψ1B.f d name=some ((φ2R name d.1).1,(φ2R name d.1).2,d.2):=by
 unfold ψ1B.f φ2R
 rw[φ4L d name h,bS]
 rcases φz d.1 name with ⟨e,_⟩ | ⟨i,hi,e,_⟩
 ·rw[e,φ1B e];rfl
 ·rw[e,φ18 e]
  simp only[dnn (show (0:Int)≤(i:Int) by omega),cF,φ3o hi,cT,φ3v hi,tN,φE hi]
theorem φNH (d:φ1) (name:List UInt8) (h:dlim d):ψ1A.f d name=some (φT d (φ2R name)):=by
 have hs:ψ1s.f d name=some (φT d (φ2R name)):=φ5w d h name (fun n x=>ψ1B.f x n) (φ2R name) fun _=>by
  show ψ1B.f (tick d) name=_
  rw[φIQ (tick d) name (by rw[φ1S];have:=h.1;omega),φ1S]
 unfold ψ1A.f
 rw[hs];rfl
theorem φ6p (d:φ1) (h:dlim d):(∃(x:φ1) (c:Int),ψ3I.f d=some (x,c)∧(c != 0)=true∧∀act,φT d act=(x,c)) ∨
  (φ3 d=true∧ψ3I.f d=some (tick d,0)∧∀act,φT d act=(((act d.1).2,(tick d).2),(act d.1).1)):=by
 rw[φK3 d h]
 unfold φT
 rcases bE (φ3 d) with k | k
 ·by_cases k2:d.2.2.2=true∨d.2.2.1=0
  ·left
   refine ⟨(d.1,d.2.1,d.2.2.1,true),1,?_,?_,fun act=>?_⟩
   ·rw[if_neg (by simp[k]),if_pos k2]
   ·rfl
   ·rw[if_neg (by simp[k]),if_pos k2]
  ·right
   refine ⟨k,?_,fun act=>?_⟩
   ·rw[if_neg (by simp[k]),if_neg k2]
   ·rw[if_neg (by simp[k]),if_neg k2]
 ·left
  refine ⟨d,5,?_,?_,fun act=>?_⟩
  ·rw[if_pos k]
  ·rfl
  ·rw[if_pos k]
theorem φGP (d:φ1) (name:List UInt8) (h:dlim d):ψ2u.f d name=some (φT d (φ2R name)):=by
 have hl:d.1.length<2 ^ 62:=by have:=h.1;omega
 unfold ψ2u.f
 rcases φ6p d h with ⟨x,c,e1,e2,e3⟩ | ⟨k,e1,e3⟩
 ·rw[e1,e3,bS];simp only[e2,cT]
 rw[e1,e3,bS]
 simp only[bne_self_eq_false,cF,φ4G d name hl,bS]
 unfold φ2R
 rcases φz d.1 name with ⟨e,_⟩ | ⟨i,hi,e,_⟩
 ·rw[e,φ1B e]
  show some (tick d,3)=some ((d.1,(tick d).2),3)
  rw[←φ1S d]
 ·rw[e,φ18 e]
  have ht:i<(tick d).1.length:=by rw[φ1S];exact hi
  simp only[dnn (show (0:Int)≤(i:Int) by omega),cF,φ3o hi,φ3o ht,cT,φ3v hi,φ3v ht,tN,φE hi]
  simp only[φ1S]
def φg (l:List φ6) (i:Nat):List φ6:=l.take i++l.drop (i+1)
theorem φ8Z {l:List φ6} {i:Nat} (h:i<l.length):(φg l i).length=l.length - 1:=by
 unfold φg
 rw[lA,lT,lD];omega
def φ1n (l:List φ6) (name:List UInt8):List φ6:=
 match l.findIdx? (fun f=>f.1==name) with
 | some i=>φg l i
 | none=>l
theorem φBP (l:List φ6) (name:List UInt8):(φ1n l name).length≤l.length:=by
 unfold φ1n
 cases e:l.findIdx? (fun f=>f.1==name) with
 | none=>exact κB _
 | some i=>
  obtain ⟨h,_⟩:=List.findIdx?_eq_some_iff_getElem.1 e
  have:=φ8Z h
  simp only;omega
theorem φG3 (l:List φ6) (i:Nat) (h:i<l.length) (hl:l.length<1000000000000) {β:Type} (K:List φ6→Option β) :
  (bif (decide (0≤(i:Int)) && decide ((i:Int)≤(l.length:Int))) then
   bif decide ((([]:List φ6).length+(l.take (i:Int).toNat).length) * 40≤140737488355328) then
   bif (decide (0≤w64 ((i:Int)+1)) && decide (w64 ((i:Int)+1)≤(l.length:Int))) then
   bif decide (((([]:List φ6)++(l.take (i:Int).toNat)).length+(l.drop ((w64 ((i:Int)+1)).toNat)).length) * 40≤140737488355328) then
   K ((([]:List φ6)++(l.take (i:Int).toNat))++(l.drop ((w64 ((i:Int)+1)).toNat))) else none else none else none else none)=K (φg l i):=by
 have hw:w64 ((i:Int)+1)=((i+1:Nat):Int):=φQ (by omega)
 rw[hw]
 have c1:(decide (0≤(i:Int)) && decide ((i:Int)≤(l.length:Int)))=true:=by simp;omega
 have c2:(decide (0≤((i+1:Nat):Int)) && decide (((i+1:Nat):Int)≤(l.length:Int)))=true:=by simp;omega
 have c3:(l.take i).length * 40≤140737488355328:=by rw[lT];omega
 have c4:((l.take i).length+(l.drop (i+1)).length) * 40≤140737488355328:=by rw[lT,lD];omega
 simp only[tN,κ7,lN,κT,c1,c2]
 simp only[c3,c4,dT,cT];rfl
theorem φAQ (d:φ1) (name:List UInt8) (h:d.1.length<1000000000):ψE.f d name=some (φ1n d.1 name,d.2):=by
 unfold ψE.f φ1n
 rw[φ4L d name (by omega),bS]
 rcases φz d.1 name with ⟨e,_⟩ | ⟨i,hi,e,_⟩
 ·rw[e,φ1B e];rfl
 ·rw[e,φ18 e]
  have c:(i:Int)≥0:=by omega
  simp only[c,dT,cT]
  exact φG3 d.1 i hi (by omega) fun l=>some (l,d.2)
theorem φBk (l:List φ6) (i:Nat) (hi:i<l.length) (h:l.length<1000000000):ψ3N.f l (i:Int)=some (φg l i):=by
 unfold ψ3N.f
 exact φG3 l i hi (by omega) fun l=>some l
def φ2I (name:List UInt8) (l:List φ6):Int×List φ6:=
 match l.findIdx? (fun f=>f.1==name) with
 | some i=>(0,φg l i)
 | none=>(3,l)
theorem φNJ (d:φ1) (name:List UInt8) (h:d.1.length<1000000000):ψt.f d name=some ((φ2I name d.1).1,(φ2I name d.1).2,d.2):=by
 unfold ψt.f φ2I
 rw[φ4L d name (by omega),bS,φAQ d name h]
 unfold φ1n
 rcases φz d.1 name with ⟨e,_⟩ | ⟨i,hi,e,_⟩
 ·rw[e,φ1B e];rfl
 ·rw[e,φ18 e]
  simp only[dnn (show (0:Int)≤(i:Int) by omega),cF,bS]
theorem φIX (d:φ1) (name:List UInt8) (h:dlim d):ψs.f d name=some (φT d (φ2I name)):=by
 have hs:ψ1q.f d name=some (φT d (φ2I name)):=φ5w d h name (fun n x=>ψt.f x n) (φ2I name) fun _=>by
  show ψt.f (tick d) name=_
  rw[φNJ (tick d) name (by rw[φ1S];exact h.1),φ1S]
 unfold ψs.f
 rw[hs];rfl
theorem φBs (d:φ1) (name:List UInt8) (h:dlim d):ψ2k.f d name=some (φT d (φ2I name)):=by
 have hl:=h.1
 unfold ψ2k.f
 rcases φ6p d h with ⟨x,c,e1,e2,e3⟩ | ⟨k,e1,e3⟩
 ·rw[e1,e3,bS];simp only[e2,cT]
 rw[e1,e3,bS]
 simp only[bne_self_eq_false,cF,φ4G d name (show d.1.length<2 ^ 62 by omega),bS]
 unfold φ2I
 rcases φz d.1 name with ⟨e,_⟩ | ⟨i,hi,e,_⟩
 ·rw[e,φ1B e]
  show some (tick d,3)=some ((d.1,(tick d).2),3)
  rw[←φ1S d]
 ·rw[e,φ18 e]
  simp only[dnn (show (0:Int)≤(i:Int) by omega),cF,φ1S,φBk d.1 i hi hl,bS]
def φ3n (name:List UInt8) (n:Int) (l:List φ6):Int×List φ6:=
 match l.findIdx? (fun f=>f.1==name) with
 | some i=>if 0≤n∧n≤((l.getD i ([],[],0)).2.1.length:Int) then
   (0,l.set i ((l.getD i ([],[],0)).1,(l.getD i ([],[],0)).2.1.take n.toNat,if n<(l.getD i ([],[],0)).2.2 then n else (l.getD i ([],[],0)).2.2))
  else (5,l)
 | none=>(3,l)
theorem φIF (d:φ1) (name:List UInt8) (n:Int) (h:d.1.length<1000000000):ψ1D.f d name n=some ((φ3n name n d.1).1,(φ3n name n d.1).2,d.2):=by
 unfold ψ1D.f φ3n
 rw[φ4L d name (by omega),bS]
 rcases φz d.1 name with ⟨e,_⟩ | ⟨i,hi,e,_⟩
 ·rw[e,φ1B e];rfl
 ·rw[e,φ18 e]
  simp only[dnn (show (0:Int)≤(i:Int) by omega),cF,φ3o hi,cT,φ3v hi,φ1U,bS,φE hi]
  by_cases c:0≤n∧n≤(d.1[i].2.1.length:Int)
  ·have c2:(decide (0≤n) && decide (n≤(d.1[i].2.1.length:Int)))=true:=by simp[c.1,c.2]
   simp only[c,c2,dT,nZ,cF,cT,tN,φJx hi,List.set_set,if_true,and_self,Bool.and_self]
  ·simp[c]
theorem φMx (d:φ1) (name:List UInt8) (n:Int) (h:dlim d):ψ1C.f d name n=some (φT d (φ3n name n)):=by
 have hs:ψ1t.f d (name,n)=some (φT d (φ3n name n)):=φ5w d h (name,n) (fun c x=>ψ1D.f x c.1 c.2) (φ3n name n) fun _=>by
  show ψ1D.f (tick d) name n=_
  rw[φIF (tick d) name n (by rw[φ1S];exact h.1),φ1S]
 unfold ψ1C.f
 rw[hs];rfl
def φ2X (cap:Int) (name text:List UInt8) (l:List φ6):Int×List φ6:=
 match l.findIdx? (fun f=>f.1==name) with
 | some i=>if (text.length:Int) > cap - (φJ l:Int) then (2,l) else
   (0,l.set i ((l.getD i ([],[],0)).1,(l.getD i ([],[],0)).2.1++text,(l.getD i ([],[],0)).2.2))
 | none=>(3,l)
theorem φBl {l:List φ6} {f:φ6} (h:f∈l):f.2.1.length≤φJ l:=φD3 (fun f=>f.2.1.length) h
theorem φ8B {d:φ1} (h:φ3 d=true):0≤d.2.1∧d.2.1≤100000∧(φJ d.1:Int)≤d.2.1:=by
 unfold φ3 at h
 simp only[bA,decide_eq_true_eq] at h
 omega
theorem φ8s (d:φ1):(tick d).2.1=d.2.1:=by unfold tick;split<;>rfl
theorem φHV (d:φ1) (name text:List UInt8) (h:dlim d) (hc:0≤d.2.1∧d.2.1≤100000) (ht:text.length<1000000000000):ψ1.f d name text=some ((φ2X d.2.1 name text d.1).1,(φ2X d.2.1 name text d.1).2,d.2):=by
 obtain ⟨h1,h2,h3⟩:=h
 unfold ψ1.f φ2X
 rw[φ4L d name (by omega),bS,φ9K d (by omega) (by omega)]
 rcases φz d.1 name with ⟨e,_⟩ | ⟨i,hi,e,_⟩
 ·rw[e,φ1B e];rfl
 ·rw[e,φ18 e]
  have hm:=φBl (gM hi)
  have c1:d.1[i].2.1.length+text.length≤9223372036854775807:=by omega
  simp only[dnn (show (0:Int)≤(i:Int) by omega),cF,bS,φ3o hi,cT,φ3v hi,φE hi,c1,dT,tN]
  rw[φG (by omega) (by omega)]
  by_cases c:(text.length:Int) > d.2.1 - (φJ d.1:Int)
  ·simp[c]
  ·simp[c]
theorem φHD (d:φ1) (name text:List UInt8) (h:dlim d) (ht:text.length<1000000000000):ψ0.f d name text=some (φT d (φ2X d.2.1 name text)):=by
 have hs:ψ1o.f d (name,text)=some (φT d (φ2X d.2.1 name text)):=φ5w d h (name,text) (fun c x=>ψ1.f x c.1 c.2) (φ2X d.2.1 name text) fun k=>by
  have hc:=φ8B k
  show ψ1.f (tick d) name text=_
  rw[φHV (tick d) name text (φIo h) (by rw[φ8s];omega) ht,φ1S,φ8s]
 unfold ψ0.f
 rw[hs];rfl
theorem φ9t (d:φ1) (name text:List UInt8) (h:dlim d) (htx:text.length<1000000000000):ψ2K.f d name text=some (φT d (φ2X d.2.1 name text)):=by
 have h1:=h.1
 have h2:=h.2.1
 unfold ψ2K.f
 rcases φ6p d h with ⟨x,c,e1,e2,e3⟩ | ⟨k,e1,e3⟩
 ·rw[e1,e3,bS];simp only[e2,cT]
 rw[e1,e3,bS]
 have hc:=φ8B k
 simp only[bne_self_eq_false,cF,φ4G d name (show d.1.length<2 ^ 62 by omega),bS,φFX d (show d.1.length<2 ^ 62 by omega) (show φJ d.1<2 ^ 62 by omega)]
 unfold φ2X
 rcases φz d.1 name with ⟨e,_⟩ | ⟨i,hi,e,_⟩
 ·rw[e,φ1B e]
  show some (tick d,3)=some ((d.1,(tick d).2),3)
  rw[←φ1S d]
 ·rw[e,φ18 e]
  have ht:i<(tick d).1.length:=by rw[φ1S];exact hi
  have hm:=φBl (gM hi)
  have c1:d.1[i].2.1.length+text.length≤9223372036854775807:=by omega
  simp only[dnn (show (0:Int)≤(i:Int) by omega),cF,φ3o hi,φ3o ht,cT,φ3v hi,φ3v ht,φE hi,c1,dT,tN]
  rw[φG (by omega) (by omega)]
  simp only[φ1S]
  by_cases c:(text.length:Int) > d.2.1 - (φJ d.1:Int)
  ·simp only[c,dT,cT,if_true]
   rw[←φ1S d]
  ·simp only[c,dF,cF,if_false]
def putF (l:List φ6) (f:φ6):List φ6:=
 let k:=(l.takeWhile fun x=>Op.bytesLess x.1 f.1).length
 l.take k++[f]++l.drop k
theorem φGl (d:φ1) (f:φ6) (h:d.1.length<1000000000):ψF.f d f=some (putF d.1 f,d.2):=by
 have key:=φc (step:=ψF.l0) (fun n (_:Unit)=>(d,f,(n:Int))) d.1.length (fun n _=>(d,f,((n+((d.1.drop n).takeWhile fun x=>Op.bytesLess x.1 f.1).length:Nat):Int))) (fun _ _=>True)
  (fun rec n s hn _ ih=>by
   rcases κ1 n d.1.length with h2 | h2
   ·rw[φFn _ _ _ h2]
    simp only[ψF.l0,oL,h2,dT,cT,φH,φM,φE h2,φQ (show n+1<9223372036854775808 by omega)]
    cases Op.bytesLess d.1[n].1 f.1
    ·simp
    ·simp only[cT,if_true]
     rw[ih () h2 trivial]
     congr 3;congr 1;omega
   ·have:n=d.1.length:=by omega
    subst this
    simp[ψF.l0])
  (by omega) 0 () (κ3 _) trivial
 have key:lp ψF.l0 (d,f,0)=_:=key
 unfold ψF.f putF
 rw[key,bS]
 simp only[κC,κT]
 have htw:(d.1.takeWhile fun x=>Op.bytesLess x.1 f.1).length≤d.1.length:=(List.takeWhile_sublist _).length_le
 generalize (d.1.takeWhile fun x=>Op.bytesLess x.1 f.1).length=k at *
 have c1:(decide (0≤(k:Int)) && decide ((k:Int)≤(d.1.length:Int)))=true:=by simp;omega
 have c2:(d.1.take k).length * 40≤140737488355328:=by rw[lT];omega
 have c3:((d.1.take k).length+[f].length) * 40≤140737488355328:=by rw[lT];exact φ55 (by omega)
 have c4:((d.1.take k++[f]).length+(d.1.drop k).length) * 40≤140737488355328:=by
  rw[lA,lT,lD]
  show (min k d.1.length+1+(d.1.length - k)) * 40≤_
  omega
 simp only[tN,κ7,lN,κT,c1]
 simp only[c2,c3,c4,dT,cT]
def φ2q (f:φ6) (s:List φ6×Bool) (x:φ6):List φ6×Bool:=
 if s.2=false∧leK x.1 f.1=false then (s.1++[f]++[x],true) else (s.1++[x],s.2)
theorem φEe (f:φ6) (s:List φ6×Bool) (x:φ6):(φ2q f s x).1.length≤s.1.length+2:=by
 unfold φ2q;split<;>simp<;>omega
theorem φDl (f:φ6):∀(l out:List φ6),l.foldl (φ2q f) (out,true)=(out++l,true)
 | [],out=>by simp
 | x::l,out=>by
  have e1:φ2q f (out,true) x=(out++[x],true):=by unfold φ2q;rw[if_neg (by simp)]
  rw[κN,e1,φDl f l];simp
theorem φGB (f:φ6):∀(l out:List φ6),(let s:=l.foldl (φ2q f) (out,false);if s.2=true then s.1 else s.1++[f])=out++insB l f
 | [],out=>by simp[insB]
 | x::l,out=>by
  rw[κN]
  cases hk:leK x.1 f.1
  ·have e1:φ2q f (out,false) x=(out++[f]++[x],true):=by unfold φ2q;rw[if_pos ⟨rfl,hk⟩]
   rw[e1,φDl]
   simp[insB,hk]
  ·have e1:φ2q f (out,false) x=(out++[x],false):=by unfold φ2q;rw[if_neg (by simp[hk])]
   rw[e1,φGB f l (out++[x])]
   simp[insB,hk]
theorem φAt (l:List φ6) (f:φ6) (hl:l.length<1000000000):ψ3L.f l f=some (insB l f):=by
 have hk:=φ3W (step:=ψ3L.l0) l (φ2q f) (fun n (s:List φ6×Bool)=>(l,f,s.1,s.2,(n:Int))) (fun s=>(f,s.1,s.2)) (fun n s=>s.1.length≤2 * n) (by omega)
  (fun rec n s h hi=>by
   have hi:s.1.length≤2 * n:=hi
   have hq:s.1.length<1000000000000:=by omega
   have hb1:(s.1.length+[f].length) * 40≤140737488355328:=φ55 (Nat.lt_succ_of_lt hq)
   have hb2:(s.1.length+([l[n]]:List φ6).length) * 40≤140737488355328:=φ55 (Nat.lt_succ_of_lt hq)
   have hb3:((s.1++[f]).length+([l[n]]:List φ6).length) * 40≤140737488355328:=by rw[lA];exact φ55 (Nat.succ_lt_succ hq)
   have hw:w64 ((n:Int)+1)=(n:Int)+1:=φG (by omega) (by omega)
   have hle:(Op.bytesLess l[n].1 f.1 || l[n].1==f.1)=leK l[n].1 f.1:=rfl
   simp only[ψ3L.l0,oL,h,dT,cT,φH,φM,φE h,φ2K,hle]
   unfold φ2q
   rcases bE s.2 with h2 | h2
   ·simp only[h2,cF,nZ,bS,φH,φM,φE h,φ2K,h,dT,cT,hb2]
    simp[hw]
   ·rcases bE (leK l[n].1 f.1) with h3 | h3
    ·simp only[h2,h3,cF,nZ,nF,bS,φH,φM,φE h,φ2K,h,dT,cT,hb2]
     simp[hw]
    ·simp only[h2,h3,cF,nZ,nF,bS,φH,φM,φE h,φ2K,h,dT,cT,hb1,hb3]
     simp[hw])
  (fun n s h hi=>by have:=φEe f s l[n];have hi:s.1.length≤2 * n:=hi;show _≤2 * (n+1);omega)
  (fun rec s hi=>by simp[ψ3L.l0]) ([],false) (by simp)
 have hk:lp ψ3L.l0 (l,f,[],false,0)=_:=hk
 have hlen:∀(m:List φ6) (s:List φ6×Bool),(m.foldl (φ2q f) s).1.length≤s.1.length+2 * m.length:=by
  intro m
  induction m with
  | nil=>intro s;simp
  | cons x m ih=>intro s;rw[κN];have:=ih (φ2q f s x);have:=φEe f s x;simp only[lC];omega
 unfold ψ3L.f
 rw[hk,bS]
 have hf:=φGB f l []
 have hb:=hlen l ([],false)
 generalize l.foldl (φ2q f) ([],false)=s at *
 obtain ⟨s1,s2⟩:=s
 simp only[lN,κT] at hb
 have hb1:(s1.length+[f].length) * 40≤140737488355328:=φ55 (by omega)
 cases s2
 ·simp only[κ2,if_false,κ7] at hf
  simp only[nF,cT,hb1,dT,hf]
 ·simp only[if_true,κ7] at hf
  simp[hf]
theorem φF4 {α:Type} {f g:α→Bool}:∀{l:List α},(∀x∈l,f x=g x)→l.takeWhile f=l.takeWhile g
 | [],_=>rfl
 | x::l,h=>by
  rw[List.takeWhile_cons,List.takeWhile_cons,h x (by simp),φF4 fun y hy=>h y (mC _ hy)]
theorem φGo {l:List φ6} {f:φ6} (h:∀x∈l,x.1≠f.1):putF l f=insB l f:=by
 unfold putF insB
 have:(l.takeWhile fun x=>Op.bytesLess x.1 f.1)=l.takeWhile fun x=>leK x.1 f.1:=φF4 fun x hx=>by
  unfold leK
  have:(x.1==f.1)=false:=by simpa using h x hx
  rw[this,Bool.or_false]
 rw[this]
def φ2b (name:List UInt8) (l:List φ6):Int×List φ6:=
 if φ1s name=false then (5,l) else if φ1e l name≥0 then (4,l) else if 130≤l.length then (2,l) else (0,insB l (name,[],0))
theorem φJc (d:φ1) (name:List UInt8) (h:d.1.length<1000000000) (hn:name.length<2 ^ 62):ψ5.f d name=some ((φ2b name d.1).1,(φ2b name d.1).2,d.2):=by
 unfold ψ5.f φ2b
 rw[φB8 name hn,bS,φ4L d name (by omega)]
 rcases bE (φ1s name) with k | k
 rotate_left
 ·simp[k]
 simp only[k,nZ,cF,bS,κ8,if_false]
 rcases φz d.1 name with ⟨e,hno⟩ | ⟨i,hi,e,_⟩
 ·have c:¬φ1e d.1 name≥0:=by omega
  simp only[c,dF,cF,if_false]
  by_cases c2:130≤d.1.length
  ·have c3:(d.1.length:Int)≥130:=by omega
   simp[c2,c3]
  ·have c3:¬(d.1.length:Int)≥130:=by omega
   simp only[c2,c3,dF,cF,if_false,φGl d _ h,bS,φGo (l:=d.1) (f:=(name,[],0)) hno]
 ·have c:φ1e d.1 name≥0:=by omega
  simp[c]
theorem φJI (d:φ1) (name:List UInt8) (h:dlim d) (hn:name.length<2 ^ 62):ψ4.f d name=some (φT d (φ2b name)):=by
 have hs:ψ1p.f d name=some (φT d (φ2b name)):=φ5w d h name (fun n x=>ψ5.f x n) (φ2b name) fun _=>by
  show ψ5.f (tick d) name=_
  rw[φJc (tick d) name (by rw[φ1S];exact h.1) hn,φ1S]
 unfold ψ4.f
 rw[hs];rfl
theorem φD6 (d:φ1) (name:List UInt8) (h:dlim d) (hn:name.length<2 ^ 62):ψ2M.f d name=some (φT d (φ2b name)):=by
 have hl:=h.1
 unfold ψ2M.f
 rcases φ6p d h with ⟨x,c,e1,e2,e3⟩ | ⟨k,e1,e3⟩
 ·rw[e1,e3,bS];simp only[e2,cT]
 rw[e1,e3,bS]
 simp only[bne_self_eq_false,cF,φ9P name hn,φ4G d name (show d.1.length<2 ^ 62 by omega),bS]
 unfold φ2b
 have ht:(d.1,(tick d).2)=tick d:=by rw[←φ1S d]
 rcases bE (φ1s name) with k | k
 rotate_left
 ·simp[k,ht]
 simp only[k,nZ,cF,κ8,if_false]
 by_cases c:φ1e d.1 name≥0
 ·simp[c,ht]
 simp only[c,dF,cF,if_false]
 by_cases c2:130≤d.1.length
 ·have c3:(d.1.length:Int)≥130:=by omega
  simp[c2,c3,ht]
 ·have c3:¬(d.1.length:Int)≥130:=by omega
  simp only[c2,c3,dF,cF,if_false,φ1S,φAt d.1 _ hl,bS]
theorem φFf:∀(l:List φ6) (p:List UInt8),φ3P (some p) l=true→(∀x∈l,Op.bytesLess p x.1=true)∧l.Pairwise (fun a b=>Op.bytesLess a.1 b.1=true)
 | [],p,_=>⟨by simp,List.Pairwise.nil⟩
 | f::l,p,h=>by
  simp only[φ3P,bA] at h
  obtain ⟨h1,h2⟩:=φFf l f.1 h.2
  refine ⟨fun x hx=>?_,List.Pairwise.cons h1 h2⟩
  rcases mc.1 hx with e | hx
  ·rw[e];exact h.1
  ·exact φ6s _ _ _ h.1 (h1 x hx)
theorem φFb (l:List φ6) (h:φ3P none l=true):l.Pairwise (fun a b=>Op.bytesLess a.1 b.1=true):=by
 cases l with
 | nil=>exact List.Pairwise.nil
 | cons f l=>
  obtain ⟨h1,h2⟩:=φFf l f.1 h
  exact List.Pairwise.cons h1 h2
theorem φ6c {d:φ1} (h:φ3 d=true):d.1.Pairwise (fun a b=>Op.bytesLess a.1 b.1=true):=by
 unfold φ3 φ5b at h
 simp only[bA] at h
 exact φFb _ h.2.2.2.2.2
theorem φ7s {l:List φ6} {i:Nat} (h:i<l.length):l=l.take i++l[i]::l.drop (i+1):=by
 rw[←dG h,κE]
theorem φ5P (l:List φ6) (i:Nat):(φg l i).Sublist l:=by
 unfold φg
 have:(l.take i++l.drop (i+1)).Sublist (l.take i++l.drop i):=List.Sublist.append (List.Sublist.refl _) (List.drop_sublist_drop_left l (by omega))
 rw[κE] at this
 exact this
theorem φAN {l:List φ6} {i:Nat} (h:i<l.length) (hp:l.Pairwise (fun a b=>Op.bytesLess a.1 b.1=true)):∀x∈φg l i,x.1≠l[i].1:=by
 rw[φ7s h,List.pairwise_append] at hp
 obtain ⟨_,h2,h3⟩:=hp
 intro x hx
 rcases mA.1 hx with hx | hx
 ·exact φ6z (h3 x hx _ κ0)
 ·exact (φ6z ((κX.1 h2).1 x hx)).symm
theorem φCD {l:List φ6} {name:List UInt8} (hp:l.Pairwise (fun a b=>Op.bytesLess a.1 b.1=true)):∀x∈φ1n l name,x.1≠name:=by
 unfold φ1n
 rcases φz l name with ⟨e,hno⟩ | ⟨i,hi,e,hn⟩
 ·rw[φ1B e];exact hno
 ·rw[φ18 e,←hn];exact φAN hi hp
theorem φDY {l:List φ6} {name:List UInt8} (h:∀x∈l,x.1≠name):φ1n l name=l:=by
 unfold φ1n
 have:l.findIdx? (fun f=>f.1==name)=none:=by
  rw[List.findIdx?_eq_none_iff]
  intro x hx
  simpa using h x hx
 rw[this]
theorem φJW {l:List φ6} {i:Nat} (h:i<l.length) (hp:l.Pairwise (fun a b=>Op.bytesLess a.1 b.1=true)):putF (φg l i) l[i]=l:=by
 have hs:=hp
 rw[φ7s h,List.pairwise_append] at hs
 obtain ⟨_,h2,h3⟩:=hs
 have e1:((φg l i).takeWhile fun x=>Op.bytesLess x.1 l[i].1)=l.take i:=by
  unfold φg
  rw[List.takeWhile_append_of_pos (fun x hx=>h3 x hx _ κ0)]
  have:(l.drop (i+1)).takeWhile (fun x=>Op.bytesLess x.1 l[i].1)=[]:=by
   cases e:l.drop (i+1) with
   | nil=>rfl
   | cons y r=>
    rw[List.takeWhile_cons,φG6 _ _ ((κX.1 h2).1 y (by rw[e];simp))];rfl
  rw[this,κ4]
 unfold putF
 rw[e1]
 have hk:(l.take i).length=i:=by rw[lT];omega
 simp only[hk]
 unfold φg
 rw[List.take_append_of_le_length (by omega),List.take_take,Nat.min_self,List.drop_append_of_le_length (by omega),List.drop_take,Nat.sub_self,List.take_zero,κ7,aA,List.singleton_append]
 exact (φ7s h).symm
def φ2S (src dst:List UInt8) (l:List φ6):Int×List φ6:=
 if φ1s dst=false then (5,l) else
 match l.findIdx? (fun f=>f.1==src) with
 | some i=>(0,if src=dst then l else insB (φ1n (φg l i) dst) (dst,(l.getD i ([],[],0)).2))
 | none=>(3,l)
theorem φJF (d:φ1) (src dst:List UInt8) (h:d.1.length<1000000000) (hn:dst.length<2 ^ 62) (hp:d.1.Pairwise (fun a b=>Op.bytesLess a.1 b.1=true)):ψv.f d src dst=some ((φ2S src dst d.1).1,(φ2S src dst d.1).2,d.2):=by
 unfold ψv.f φ2S
 rw[φ4L d src (by omega),bS,φB8 dst hn,bS,φAQ d src h]
 rcases bE (φ1s dst) with k | k
 rotate_left
 ·simp[k]
 simp only[k,nZ,cF,κ8,if_false]
 rcases φz d.1 src with ⟨e,_⟩ | ⟨i,hi,e,hsrc⟩
 ·rw[e,φ1B e];rfl
 ·have e0:φ1n d.1 src=φg d.1 i:=by unfold φ1n;rw[φ18 e]
  rw[e,φ18 e,e0]
  have hl:=φ8Z hi
  have hl2:=φBP (φg d.1 i) dst
  simp only[dnn (show (0:Int)≤(i:Int) by omega),cF,φ3o hi,cT,φ3v hi,bS,φE hi,φAQ (φg d.1 i,d.2) dst (show (φg d.1 i).length<1000000000 by omega),φGl (φ1n (φg d.1 i) dst,d.2) (dst,d.1[i].2.1,d.1[i].2.2) (show (φ1n (φg d.1 i) dst).length<1000000000 by omega)]
  by_cases c:src=dst
  ·simp only[c,if_true]
   have hd:d.1[i].1=dst:=by rw[hsrc,c]
   have e2:φ1n (φg d.1 i) dst=φg d.1 i:=φDY (by rw[←hd];exact φAN hi hp)
   have e3:putF (φg d.1 i) (dst,d.1[i].2.1,d.1[i].2.2)=d.1:=by
    have:=φJW hi hp
    rw[←hd];exact this
   rw[e2,e3]
  ·simp only[c,if_false]
   rw[φGo (l:=φ1n (φg d.1 i) dst) (f:=(dst,d.1[i].2.1,d.1[i].2.2)) (φCD (hp.sublist (φ5P d.1 i)))]
theorem φLZ (d:φ1) (src dst:List UInt8) (h:dlim d) (hn:dst.length<2 ^ 62):ψu.f d src dst=some (φT d (φ2S src dst)):=by
 have hs:ψ1r.f d (src,dst)=some (φT d (φ2S src dst)):=φ5w d h (src,dst) (fun c x=>ψv.f x c.1 c.2) (φ2S src dst) fun k=>by
  show ψv.f (tick d) src dst=_
  rw[φJF (tick d) src dst (by rw[φ1S];exact h.1) hn (by rw[φ1S];exact φ6c k),φ1S]
 unfold ψu.f
 rw[hs];rfl
theorem φN4 (d:φ1) (src dst:List UInt8) (h:dlim d) (hn:dst.length<2 ^ 62):ψ2l.f d src dst=some (φT d (φ2S src dst)):=by
 have hl:=h.1
 unfold ψ2l.f
 rcases φ6p d h with ⟨x,c,e1,e2,e3⟩ | ⟨k,e1,e3⟩
 ·rw[e1,e3,bS];simp only[e2,cT]
 rw[e1,e3,bS]
 have hp:=φ6c k
 simp only[bne_self_eq_false,cF,φ9P dst hn,φ4G d src (show d.1.length<2 ^ 62 by omega),bS]
 unfold φ2S
 have ht:(d.1,(tick d).2)=tick d:=by rw[←φ1S d]
 rcases bE (φ1s dst) with k2 | k2
 rotate_left
 ·simp[k2,ht]
 simp only[k2,nZ,cF,κ8,if_false]
 rcases φz d.1 src with ⟨e,_⟩ | ⟨i,hi,e,hsrc⟩
 ·rw[e,φ1B e]
  show some (tick d,3)=some ((d.1,(tick d).2),3)
  rw[←φ1S d]
 ·rw[e,φ18 e]
  have hlr:=φ8Z hi
  have hl2:=φBP (φg d.1 i) dst
  simp only[dnn (show (0:Int)≤(i:Int) by omega),cF]
  by_cases c:src=dst
  ·simp[c,ht]
  have c1:(src==dst)=false:=by simpa using c
  simp only[c,c1,cF,if_false,φ3o hi,cT,φ3v hi,φE hi,φ1S,φBk d.1 i hi hl,bS,φ4G (φg d.1 i,(tick d).2) dst (show (φg d.1 i).length<2 ^ 62 by omega)]
  rcases φz (φg d.1 i) dst with ⟨e',hno⟩ | ⟨j,hj,e',hdst⟩
  ·have c2:¬φ1e (φg d.1 i) dst≥0:=by omega
   simp only[c2,dF,cF,bS,φAt (φg d.1 i) _ (show (φg d.1 i).length<1000000000 by omega),φDY hno]
  ·have c2:φ1e (φg d.1 i) dst≥0:=by omega
   have e4:φ1n (φg d.1 i) dst=φg (φg d.1 i) j:=by unfold φ1n;rw[φ18 e']
   rw[e4] at hl2
   simp only[c2,dT,cT]
   simp only[e',φBk (φg d.1 i) j hj (by omega),bS,φAt (φg (φg d.1 i) j) _ (show (φg (φg d.1 i) j).length<1000000000 by omega),e4]
theorem φBO (t:TxnT) (h1:t.2.1.length<1000000000000) (h2:t.2.2.length<1000000000000):ψ1R.f t=some t:=by
 unfold ψ1R.f ψ1P.f
 have c1:t.2.1.length * 24≤140737488355328:=by omega
 have c2:t.2.2.length * 40≤140737488355328:=by omega
 simp[c1,c2]
def φ4E (t:TxnT) (p:PutT):TxnT×Bool:=
 if t.1=true∧φ2h p=true∧(netW (t.2.2++[p])).length≤8∧t.2.2.length<50 then ((t.1,t.2.1,t.2.2++[p]),true) else (t,false)
theorem φMg (t:TxnT) (p:PutT) (h1:t.2.1.length<1000000000) (h2:t.2.2.length<1000000000):ψ1F.f t p=some (φ4E t p):=by
 have hc:=φBO t (by omega) (by omega)
 have hb:(t.2.2.length+([p]:List PutT).length) * 40≤140737488355328:=φ55 (by omega)
 have hn:ψd.f (t.1,t.2.1,t.2.2++[p])=some (netW (t.2.2++[p])):=φAJ (t.1,t.2.1,t.2.2++[p]) (by show (t.2.2++[p]).length<_;rw[lA];show _+1<_;omega)
 have hl:(t.2.2++[p]).length=t.2.2.length+1:=lA
 unfold ψ1F.f φ4E
 simp only[hc,bS,hb,dT,cT,φB5,hn]
 rcases bE t.1 with k | k
 rotate_left
 ·simp[k]
 rcases bE (φ2h p) with k2 | k2
 rotate_left
 ·simp[k,k2]
 simp only[k,k2,nZ,cF,true_and]
 by_cases c:(netW (t.2.2++[p])).length≤8
 rotate_left
 ·have c1:((netW (t.2.2++[p])).length:Int) > 8:=by omega
  simp only[c,c1,dT,cT,false_and,if_false]
 have c1:¬((netW (t.2.2++[p])).length:Int) > 8:=by omega
 by_cases c2:t.2.2.length<50
 ·have c3:¬(((t.2.2++[p]).length:Nat):Int) > 50:=by omega
  simp only[c,c1,c2,c3,dF,cF,and_self,if_true]
 ·have c3:(((t.2.2++[p]).length:Nat):Int) > 50:=by omega
  simp only[c,c1,c2,c3,dT,dF,cT,cF,and_false,if_false]
theorem φA8 {n:Nat} (h:n<9223372036854775808):IntKind.wrap .i64 (n:Int)=n:=φ3j h
theorem φAi {n:Nat} (h:n<4294967296):IntKind.wrap .u32 (n:Int)=n:=by
 unfold IntKind.wrap
 simp only[IntKind.bits,IntKind.signed]
 simp;omega
theorem φFP (a b:Nat) (ha:a<2 ^ 63) (hb:b<2 ^ 63):bits (fun _ a b=>a ^^^ b) .i64 (a:Int) (b:Int)=((a ^^^ b:Nat):Int):=by
 unfold bits
 have h:a ^^^ b<2 ^ 63:=Nat.xor_lt_two_pow ha hb
 have e:(BitVec.ofInt 64 (a:Int) ^^^ BitVec.ofInt 64 (b:Int)).toNat=a ^^^ b:=by
  rw[BitVec.ofInt_natCast,BitVec.ofInt_natCast,BitVec.toNat_xor,BitVec.toNat_ofNat,BitVec.toNat_ofNat,κa (by omega),κa (by omega)]
 show IntKind.wrap .i64 ((BitVec.ofInt 64 (a:Int) ^^^ BitVec.ofInt 64 (b:Int)).toNat:Int)=_
 rw[e]
 exact φA8 (by omega)
theorem φBX (a b:Nat) (ha:a<2 ^ 32) (hb:b<2 ^ 32):bits (fun _ a b=>a ^^^ b) .u32 (a:Int) (b:Int)=((a ^^^ b:Nat):Int):=by
 unfold bits
 have h:a ^^^ b<2 ^ 32:=Nat.xor_lt_two_pow ha hb
 have e:(BitVec.ofInt 32 (a:Int) ^^^ BitVec.ofInt 32 (b:Int)).toNat=a ^^^ b:=by
  rw[BitVec.ofInt_natCast,BitVec.ofInt_natCast,BitVec.toNat_xor,BitVec.toNat_ofNat,BitVec.toNat_ofNat,κa (by omega),κa (by omega)]
 show IntKind.wrap .u32 ((BitVec.ofInt 32 (a:Int) ^^^ BitVec.ofInt 32 (b:Int)).toNat:Int)=_
 rw[e]
 exact φAi (by omega)
theorem φMz (a:Nat) (ha:a<2 ^ 32):bits (fun _ a b=>a &&& b) .u32 (a:Int) 1=((a % 2:Nat):Int):=by
 unfold bits
 have e:(BitVec.ofInt 32 (a:Int) &&& BitVec.ofInt 32 ((1:Nat):Int)).toNat=a % 2:=by
  rw[BitVec.ofInt_natCast,BitVec.ofInt_natCast,BitVec.toNat_and,BitVec.toNat_ofNat,BitVec.toNat_ofNat,κa (by omega)]
  exact Nat.and_one_is_mod a
 show IntKind.wrap .u32 ((BitVec.ofInt 32 (a:Int) &&& BitVec.ofInt 32 ((1:Nat):Int)).toNat:Int)=_
 rw[e]
 exact φAi (by omega)
def crc1 (c:Nat):Nat:=if c % 2=1 then (c / 2) ^^^ 2197175160 else c / 2
def crcK:Nat→Nat→Nat
 | 0,c=>c
 | k+1,c=>crcK k (crc1 c)
def crcB (c:Nat) (b:UInt8):Nat:=crcK 8 (c ^^^ b.toNat)
def crcN (s:List UInt8):Nat:=s.foldl crcB 4294967295
def crcT (s:List UInt8):Int:=((4294967295 - crcN s:Nat):Int)
theorem φAb {c:Nat} (h:c<2 ^ 32):crc1 c<2 ^ 32:=by
 unfold crc1
 split
 ·exact Nat.xor_lt_two_pow (by omega) (by decide)
 ·omega
theorem φH8:∀(k:Nat) {c:Nat},c<2 ^ 32→crcK k c<2 ^ 32
 | 0,_,h=>h
 | k+1,_,h=>φH8 k (φAb h)
theorem φAc {c:Nat} (h:c<2 ^ 32) (b:UInt8):crcB c b<2 ^ 32:=
 φH8 8 (Nat.xor_lt_two_pow h (by have:=b.toNat_lt;omega))
theorem φAK:∀(s:List UInt8) {c:Nat},c<2 ^ 32→s.foldl crcB c<2 ^ 32
 | [],_,h=>h
 | b::s,_,h=>φAK s (φAc h b)
theorem φ4n (s:List UInt8):0≤crcT s∧crcT s≤4294967295:=by unfold crcT;omega
theorem φLa (s:List UInt8) (c:Nat) (i:Int) (hc:c<2 ^ 32):lp ψ2L.l2 (s,(c:Int),i,0)=some (s,((crcK 8 c:Nat):Int),i):=by
 have:=φc (step:=ψ2L.l2) (fun n (c:Nat)=>(s,(c:Int),i,(n:Int))) 8 (fun n c=>(s,((crcK (8 - n) c:Nat):Int),i)) (fun _ c=>c<2 ^ 32)
  (fun rec n c hn hc ih=>by
   rcases κ1 n 8 with h | h
   ·have h8:(n:Int)<8:=by omega
    have hw:w64 ((n:Int)+1)=((n+1:Nat):Int):=φQ (by omega)
    have e1:w64 (Int.tdiv (c:Int) 2)=((c / 2:Nat):Int):=by
     rw[show Int.tdiv (c:Int) 2=((c / 2:Nat):Int) from rfl];exact φ3j (by omega)
    have e2:Int.tmod (c:Int) 2=((c % 2:Nat):Int):=rfl
    have e3:bits (fun _ a b=>a ^^^ b) .i64 ((c / 2:Nat):Int) 2197175160=(((c / 2) ^^^ 2197175160:Nat):Int):=φFP (c / 2) 2197175160 (by omega) (by decide)
    have e4:crcK (8 - n) c=crcK (8 - (n+1)) (crc1 c):=by
     rw[show 8 - n=(8 - (n+1))+1 by omega];rfl
    have ih:=ih (crc1 c) h (φAb hc)
    rw[e4,←ih]
    simp only[ψ2L.l2,h8,dT,cT,e1,e2]
    unfold crc1
    by_cases k:c % 2=1
    ·have k2:(((c % 2:Nat):Int)==1)=true:=by rw[k];rfl
     simp only[k2,cT,e3,bS,hw]
     rw[if_pos k]
    ·have k2:(((c % 2:Nat):Int)==1)=false:=by simp;omega
     simp only[k2,cF,bS,hw]
     rw[if_neg k]
   ·have:n=8:=by omega
    subst this
    simp[ψ2L.l2,crcK])
  (by omega) 0 c (κ3 _) hc
 exact this
theorem φJn (s:List UInt8) (c:Nat) (i:Int) (hc:c<2 ^ 32):lp ψ3.l2 (s,(c:Int),i,0)=some (s,((crcK 8 c:Nat):Int),i):=by
 have:=φc (step:=ψ3.l2) (fun n (c:Nat)=>(s,(c:Int),i,(n:Int))) 8 (fun n c=>(s,((crcK (8 - n) c:Nat):Int),i)) (fun _ c=>c<2 ^ 32)
  (fun rec n c hn hc ih=>by
   rcases κ1 n 8 with h | h
   ·have h8:(n:Int)<8:=by omega
    have hw:w64 ((n:Int)+1)=((n+1:Nat):Int):=φQ (by omega)
    have e1:Int.fdiv (c:Int) (2 ^ (min 1 32))=((c / 2:Nat):Int):=by
     show Int.fdiv (c:Int) 2=_
     rw[Int.fdiv_eq_ediv_of_nonneg _ (by omega)];rfl
    have e3:bits (fun _ a b=>a ^^^ b) .u32 ((c / 2:Nat):Int) 2197175160=(((c / 2) ^^^ 2197175160:Nat):Int):=φBX (c / 2) 2197175160 (by omega) (by decide)
    have e4:crcK (8 - n) c=crcK (8 - (n+1)) (crc1 c):=by
     rw[show 8 - n=(8 - (n+1))+1 by omega];rfl
    have ih:=ih (crc1 c) h (φAb hc)
    rw[e4,←ih]
    simp only[ψ3.l2,h8,dT,cT,e1,φMz c hc]
    unfold crc1
    by_cases k:c % 2=1
    ·have k2:(((c % 2:Nat):Int)==1)=true:=by rw[k];rfl
     simp only[k2,cT,e3,bS,hw]
     rw[if_pos k]
    ·have k2:(((c % 2:Nat):Int)==1)=false:=by simp;omega
     simp only[k2,cF,bS,hw]
     rw[if_neg k]
   ·have:n=8:=by omega
    subst this
    simp[ψ3.l2,crcK])
  (by omega) 0 c (κ3 _) hc
 exact this
theorem φBR (s:List UInt8) (hl:s.length<2 ^ 62):ψ2L.f s=some (crcT s):=by
 have hk:=φ3W (step:=ψ2L.l0) s crcB (fun n (c:Nat)=>(s,(c:Int),(n:Int))) (fun c=>(c:Int)) (fun _ c=>c<2 ^ 32) hl
  (fun rec n c h hc=>by
   have hc:c<2 ^ 32:=hc
   have hw:w64 ((n:Int)+1)=((n+1:Nat):Int):=φQ (by omega)
   have hb:=s[n].toNat_lt
   have e1:w64 (bAt s (n:Int))=((s[n].toNat:Nat):Int):=by rw[φ53 s n h];exact φ3j (by omega)
   have e2:=φFP c s[n].toNat (by omega) (by omega)
   simp only[ψ2L.l0,oL,h,dT,cT,φH,e1,e2]
   rw[φLa s _ _ (Nat.xor_lt_two_pow hc (by omega))]
   simp only[bS,hw];rfl)
  (fun n c h hc=>φAc hc _)
  (fun rec c hc=>by simp[ψ2L.l0]) 4294967295 (by decide)
 have hk:lp ψ2L.l0 (s,4294967295,0)=_:=hk
 unfold ψ2L.f crcT crcN
 rw[hk,bS]
 have:=φAK s (c:=4294967295) (by decide)
 generalize s.foldl crcB 4294967295=c at *
 simp only
 rw[φG (by omega) (by omega)]
 congr 1;omega
theorem φKm (c:Nat) (h:c<2 ^ 32):4294967295 ^^^ c=4294967295 - c:=by
 have e:(BitVec.allOnes 32 ^^^ BitVec.ofNat 32 c).toNat=(~~~ BitVec.ofNat 32 c).toNat:=by rw[BitVec.allOnes_xor]
 rw[BitVec.toNat_xor,BitVec.toNat_not,BitVec.toNat_allOnes,BitVec.toNat_ofNat,κa h] at e
 have e:4294967295 ^^^ c=4294967296 - 1 - c:=e
 omega
theorem φ9M (s:List UInt8) (hl:s.length<2 ^ 62):ψ3.f s=some (crcT s):=by
 have hk:=φ3W (step:=ψ3.l0) s crcB (fun n (c:Nat)=>(s,(c:Int),(n:Int))) (fun c=>(c:Int)) (fun _ c=>c<2 ^ 32) hl
  (fun rec n c h hc=>by
   have hc:c<2 ^ 32:=hc
   have hw:w64 ((n:Int)+1)=((n+1:Nat):Int):=φQ (by omega)
   have hb:=s[n].toNat_lt
   have e1:IntKind.wrap .u32 (bAt s (n:Int))=((s[n].toNat:Nat):Int):=by rw[φ53 s n h];exact φAi (by omega)
   have e2:=φBX c s[n].toNat (by omega) (by omega)
   simp only[ψ3.l0,oL,h,dT,cT,φH,e1,e2]
   rw[φJn s _ _ (Nat.xor_lt_two_pow hc (by omega))]
   simp only[bS,hw];rfl)
  (fun n c h hc=>φAc hc _)
  (fun rec c hc=>by simp[ψ3.l0]) 4294967295 (by decide)
 have hk:lp ψ3.l0 (s,4294967295,0)=_:=hk
 unfold ψ3.f crcT crcN
 rw[hk,bS]
 have:=φAK s (c:=4294967295) (by decide)
 generalize s.foldl crcB 4294967295=c at *
 have e:bits (fun _ a b=>a ^^^ b) .u32 4294967295 (c:Int)=((4294967295 ^^^ c:Nat):Int):=φBX 4294967295 c (by decide) this
 simp only[e,φKm c this]
 rw[φ3j (by omega)]
def vLow (n:Nat):List UInt8:=if h:n<128 then [] else UInt8.ofNat (128+n % 128)::vLow (n / 128)
termination_by n
decreasing_by omega
def vTop (n:Nat):Nat:=if h:n<128 then n else vTop (n / 128)
termination_by n
decreasing_by omega
theorem φ8L:∀(k n:Nat),n<128 ^ (k+1)→(vLow n).length≤k
 | 0,n,h=>by unfold vLow;rw[dif_pos (by simpa using h)];simp
 | k+1,n,h=>by
  unfold vLow
  split
  ·simp
  ·have:=φ8L k (n / 128) (by rw[Nat.div_lt_iff_lt_mul (by omega)];rw[κY] at h;exact h)
   simp only[lC];omega
def varT (n:Int):List UInt8:=if 0≤n∧n≤562949953421311 then vLow n.toNat++[UInt8.ofNat (vTop n.toNat)] else []
theorem φf (n:Int):(varT n).length≤7:=by
 unfold varT
 split
 ·rename_i h
  have:=φ8L 6 n.toNat (by show _<562949953421312;omega)
  rw[lA,κ9];omega
 ·simp
theorem φ7K (n:Nat):UInt8.ofNat (IntKind.wrap .u8 (n:Int)).toNat=UInt8.ofNat n:=by
 have e:IntKind.wrap .u8 (n:Int)=((n % 256:Nat):Int):=by
  unfold IntKind.wrap
  simp only[IntKind.bits,IntKind.signed]
  simp
 rw[e,tN]
 exact UInt8.ofNat_mod_size
theorem φHG:ψ1J.l0=ψ2w.l0:=by
 funext rec x
 obtain ⟨x0,x3⟩:=x
 have e1:decide (x0 > 127)=decide (x0≥128):=decide_eq_decide.2 (by omega)
 simp only[ψ1J.l0,ψ2w.l0,e1,Int.add_comm 128]
theorem φHF:ψ1J.f=ψ2w.f:=by
 funext n
 unfold ψ1J.f ψ2w.f
 rw[φ1U,φ2G,φHG]
theorem φHN (a b:List Int):φ1P (a++b)=φ1P a++φ1P b:=mp
def φ37 (n:Nat):List Int:=if h:n<128 then [] else IntKind.wrap .u8 (w64 (128+(n % 128:Nat)))::φ37 (n / 128)
termination_by n
decreasing_by omega
theorem φBG (n:Nat):φ1P (φ37 n)=vLow n:=by
 unfold φ37 vLow
 split
 ·rfl
 ·rw[show φ1P (IntKind.wrap .u8 (w64 (128+(n % 128:Nat)))::φ37 (n / 128))=UInt8.ofNat (IntKind.wrap .u8 (w64 (128+(n % 128:Nat)))).toNat::φ1P (φ37 (n / 128)) from rfl,φBG (n / 128)]
  have e:w64 (128+((n % 128:Nat):Int))=((128+n % 128:Nat):Int):=by rw[φG (by omega) (by omega)];omega
  rw[e,φ7K]
termination_by n
decreasing_by omega
theorem φJg (n:Nat):(φ37 n).length=(vLow n).length:=by rw[←φBG];unfold φ1P;rw[lM]
theorem φIG (m:Nat) (hm:m<128 ^ 7):lp ψ2w.l0 ((m:Int),[])=some (((vTop m:Nat):Int),φ37 m):=by
 have:=φ6h (step:=ψ2w.l0) (a:=((m:Int),([]:List Int)))
  (fun a=>(((vTop a.1.toNat:Nat):Int),a.2++φ37 a.1.toNat)) (fun a=>0≤a.1∧a.2.length≤7∧a.1.toNat<128 ^ (7 - a.2.length)) (fun a=>a.1.toNat)
  (fun rec a ha ih=>by
   obtain ⟨x,l⟩:=a
   obtain ⟨n,rfl⟩:∃n:Nat,x=(n:Int):=⟨x.toNat,by have:=ha.1;simp only at this;omega⟩
   obtain ⟨_,h2,h3⟩:=ha
   simp only[tN] at h2 h3 ih ⊢
   have hn:n<128 ^ 7:=κG h3 (Nat.pow_le_pow_right (by omega) (by omega))
   have hn:n<562949953421312:=hn
   by_cases c:n<128
   ·have c1:¬(n:Int)≥128:=by omega
    simp only[ψ2w.l0,c1,dF,cF]
    rw[show vTop n=n by unfold vTop;rw[dif_pos c],show φ37 n=[] by unfold φ37;rw[dif_pos c],κ4]
   ·have c1:(n:Int)≥128:=by omega
    have h4:l.length<7:=by
     rcases κ1 l.length 7 with h | h
     ·exact h
     ·rw[show 7 - l.length=0 by omega] at h3;simp at h3;omega
    have e1:Int.tmod (n:Int) 128=((n % 128:Nat):Int):=rfl
    have e2:w64 (Int.tdiv (n:Int) 128)=((n / 128:Nat):Int):=by
     rw[show Int.tdiv (n:Int) 128=((n / 128:Nat):Int) from rfl];exact φ3j (by omega)
    have hb:(l.length+[IntKind.wrap .u8 (w64 (128+((n % 128:Nat):Int)))].length) * 1≤140737488355328:=by
     show (l.length+1) * 1≤_;omega
    have ih:=ih (((n / 128:Nat):Int),l++[IntKind.wrap .u8 (w64 (128+((n % 128:Nat):Int)))]) ⟨by simp only;omega,by rw[lA];show _+1≤_;omega,by
     rw[lA,tN]
     show _<128 ^ (7 - (l.length+1))
     rw[Nat.div_lt_iff_lt_mul (by omega),←κY,show (7 - (l.length+1)).succ=7 - l.length by omega];exact h3⟩ (by simp only[tN];omega)
    simp only[tN] at ih
    simp only[ψ2w.l0,c1,dT,cT,e1,e2,hb,ih]
    rw[show vTop n=vTop (n / 128) by rw[vTop,dif_neg c],show φ37 n=IntKind.wrap .u8 (w64 (128+(n % 128:Nat)))::φ37 (n / 128) by rw[φ37,dif_neg c],aA];rfl)
  ⟨by simp only;omega,by simp,by simpa using hm⟩ (by simp only[tN];have:m<562949953421312:=hm;omega)
 simpa using this
theorem φ4l (n:Int):ψ2w.f n=some (varT n):=by
 unfold ψ2w.f varT
 rw[φ2G,bS]
 by_cases h:0≤n∧n≤562949953421311
 rotate_left
 ·simp[h]
 obtain ⟨m,rfl⟩:∃m:Nat,n=(m:Int):=⟨n.toNat,by omega⟩
 have hm:m<128 ^ 7:=by show m<562949953421312;omega
 have key:∃L:List Int,φ1P L=vLow m∧L.length≤7∧lp ψ2w.l0 ((m:Int),[])=some (((vTop m:Nat):Int),L):=
  ⟨φ37 m,φBG m,by rw[φJg];have:=φ8L 6 m hm;omega,φIG m hm⟩
 obtain ⟨L,e1,e2,e3⟩:=key
 have hb:(L.length+[IntKind.wrap .u8 ((vTop m:Nat):Int)].length) * 1≤140737488355328:=by
  show (L.length+1) * 1≤_;omega
 simp only[h,and_self,dT,nZ,cF,e3,bS,hb,cT,if_true,φHN,e1,tN]
 unfold φ1P
 simp only[κ5,List.map_nil,φ7K]
theorem φBa (n:Int):ψ1J.f n=some (varT n):=by rw[φHF,φ4l]
def fixL (n:Nat):Nat→List UInt8
 | 0=>[]
 | k+1=>UInt8.ofNat (n / 256 ^ k)::fixL n k
theorem φA6 (n:Nat):∀k,(fixL n k).length=k
 | 0=>rfl
 | k+1=>by simp[fixL,φA6 n k]
theorem φ7W (n:Nat):∀k,fixL n (k+1)=fixL (n / 256) k++[UInt8.ofNat n]
 | 0=>by simp[fixL]
 | k+1=>by
  rw[fixL,φ7W n k]
  show _=UInt8.ofNat (n / 256 / 256 ^ k)::fixL (n / 256) k++[UInt8.ofNat n]
  rw[Nat.div_div_eq_div_mul,κY,Nat.mul_comm (256 ^ k) 256];rfl
def fix4 (n:Int):List UInt8:=if 0≤n∧n≤4294967295 then fixL n.toNat 4 else []
theorem φAY (n:Int) (hn:n<9223372036854775808):ψ2U.f n 4=some (fix4 n):=by
 unfold ψ2U.f fix4
 rw[φ2G,bS]
 by_cases h:0≤n
 rotate_left
 ·have h1:n<0:=by omega
  simp[h,h1]
 obtain ⟨m,rfl⟩:∃m:Nat,n=(m:Int):=⟨n.toNat,by omega⟩
 have key:=φc (step:=ψ2U.l0) (fun i (s:Nat×List UInt8)=>((s.1:Int),4,s.2,(i:Int))) 4 (fun i s=>(((s.1 / 256 ^ (4 - i):Nat):Int),fixL s.1 (4 - i)++s.2)) (fun i s=>s.1<9223372036854775808∧s.2.length≤i)
  (fun rec i s hi hv ih=>by
   obtain ⟨a,l⟩:=s
   obtain ⟨hv1,hv2⟩:=hv
   simp only at hv1 hv2 ih ⊢
   rcases κ1 i 4 with h4 | h4
   ·have e0:(i:Int)<4:=by omega
    have e1:Int.tmod (a:Int) 256=((a % 256:Nat):Int):=rfl
    have e2:w64 (Int.tdiv (a:Int) 256)=((a / 256:Nat):Int):=by
     rw[show Int.tdiv (a:Int) 256=((a / 256:Nat):Int) from rfl];exact φ3j (by omega)
    have e3:φ1P [IntKind.wrap .u8 ((a % 256:Nat):Int)]=[UInt8.ofNat a]:=by
     unfold φ1P
     simp only[κ5,List.map_nil,φ7K]
     congr 1;exact UInt8.ofNat_mod_size
    have hw:w64 ((i:Int)+1)=((i+1:Nat):Int):=φQ (by omega)
    have hb:([UInt8.ofNat a]:List UInt8).length+l.length≤9223372036854775807:=by show 1+_≤_;omega
    have ih:=ih (a / 256,[UInt8.ofNat a]++l) h4 ⟨by simp only;omega,by simp;omega⟩
    simp only at ih
    simp only[ψ2U.l0,e0,dT,cT,e1,e2,e3,hb,hw,ih]
    rw[show 4 - i=(4 - (i+1))+1 by omega,φ7W,κY,Nat.mul_comm,←Nat.div_div_eq_div_mul,aA]
   ·have:i=4:=by omega
    subst this
    simp[ψ2U.l0,fixL])
  (by omega) 0 (m,[]) (κ3 _) ⟨by simp only;omega,by simp⟩
 have key:lp ψ2U.l0 ((m:Int),4,[],0)=some (((m / 256 ^ 4:Nat):Int),fixL m 4++[]):=key
 have h1:¬(m:Int)<0:=by omega
 have h0:decide ((1:Int)≤4∧(4:Int)≤7)=true:=by decide
 have h2:(decide ((((m / 256 ^ 4:Nat):Int)) > 0))=!decide (0≤(m:Int)∧(m:Int)≤4294967295):=by
  have:m / 256 ^ 4=m / 4294967296:=rfl
  by_cases c:m≤4294967295
  ·have:m / 256 ^ 4=0:=by rw[this];omega
   rw[this];simp;omega
  ·have:0<m / 256 ^ 4:=by rw[this];omega
   have c2:¬(0≤(m:Int)∧(m:Int)≤4294967295):=by omega
   simp only[c2,dF,nF,decide_eq_true_eq];omega
 simp only[h0,h1,dF,nZ,cF,key,bS,h2,κ4,tN]
 by_cases c:0≤(m:Int)∧(m:Int)≤4294967295
 ·simp[c]
 ·rw[if_neg c,decide_eq_false c];rfl
def fixI (n:Nat):Nat→List Int
 | 0=>[]
 | k+1=>IntKind.wrap .u8 ((n / 256 ^ k:Nat):Int)::fixI n k
theorem φGb (n:Nat):∀k,φ1P (fixI n k)=fixL n k
 | 0=>rfl
 | k+1=>by
  rw[fixI,fixL,←φGb n k,←φ7K];rfl
theorem φBf (n:Int):ψR.f n 4=some (fix4 n):=by
 unfold ψR.f fix4
 have h0:decide ((1:Int)≤4∧(4:Int)≤7)=true:=by decide
 have h1:decide (0≤w64 (8 * 4))=true:=by decide
 have h2:w64 (w64 (1 * 2 ^ (min (w64 (8 * 4)).toNat 64)) - 1)=4294967295:=by decide
 simp only[φ1U,bS,h0,h1,h2,nZ,cF,cT]
 by_cases h:0≤n∧n≤4294967295
 rotate_left
 ·simp[h]
 obtain ⟨m,rfl⟩:∃m:Nat,n=(m:Int):=⟨n.toNat,by omega⟩
 have key:=φ6h (step:=ψR.l0) (a:=((m:Int),([]:List Int),(3:Int)))
  (fun a=>a.2.1++(fixI m (a.2.2+1).toNat)) (fun a=>a.1=(m:Int)∧-1≤a.2.2∧a.2.2≤3∧(a.2.1.length:Int)≤3 - a.2.2) (fun a=>(a.2.2+1).toNat)
  (fun rec a ha ih=>by
   obtain ⟨x,l,k⟩:=a
   obtain ⟨hx,ha1,ha2,ha3⟩:=ha
   simp only at hx ha1 ha2 ha3 ih ⊢
   subst hx
   by_cases c:k≥0
   ·obtain ⟨j,rfl⟩:∃j:Nat,k=(j:Int):=⟨k.toNat,by omega⟩
    have e1:w64 (8 * (j:Int))=((8 * j:Nat):Int):=by rw[φG (by omega) (by omega)];omega
    have e2:Int.fdiv (m:Int) (2 ^ (min ((8 * j:Nat):Int).toNat 64))=((m / 256 ^ j:Nat):Int):=by
     have e:(2:Int) ^ (8 * j)=((256 ^ j:Nat):Int):=by
      rw[show (256:Nat)=2 ^ 8 from rfl,←Nat.pow_mul,Int.natCast_pow];rfl
     rw[tN,Nat.min_eq_left (by omega),e,Int.fdiv_eq_ediv_of_nonneg _ (Int.natCast_nonneg _)]
     rfl
    have e3:w64 ((j:Int) - 1)=(j:Int) - 1:=φG (by omega) (by omega)
    have hb:(l.length+[IntKind.wrap .u8 ((m / 256 ^ j:Nat):Int)].length) * 1≤140737488355328:=by show (l.length+1) * 1≤_;omega
    have ih:=ih ((m:Int),l++[IntKind.wrap .u8 ((m / 256 ^ j:Nat):Int)],(j:Int) - 1) ⟨rfl,by simp only;omega,by simp only;omega,by simp only[lA,κ9];omega⟩ (by simp only;omega)
    simp only at ih
    have h0:(0:Int)≤((8 * j:Nat):Int):=by omega
    simp only[ψR.l0,c,dT,cT,e1,h0,e2,hb,e3,ih]
    rw[show ((j:Int) - 1+1).toNat=j by omega,show ((j:Int)+1).toNat=j+1 by omega,fixI,aA];rfl
   ·have:k=-1:=by omega
    subst this
    simp[ψR.l0,fixI])
  ⟨rfl,by simp only;omega,by simp only;omega,by simp⟩ (by show (4:Nat)<2 ^ 62;decide)
 have e9:w64 (4 - 1)=3:=by decide
 have key:lp ψR.l0 ((m:Int),[],3)=some (fixI m 4):=key
 simp only[h,and_self,dT,nZ,cF,e9,key,bS,if_true,tN,φGb]
abbrev RecT:=Int×Int×List UInt8×List UInt8×Int×Int
def φZ (r:RecT):Bool:=
 decide (0≤r.2.1∧r.2.1≤1000000) && (!(r.2.1==0) || r.1==5) &&
 (if r.1=1∨r.1=4 then φ1Q r.2.2.1 && (decide (r.2.2.2.1.length≤24) && (r.2.2.2.2.1==0 && r.2.2.2.2.2==0))
 else if r.1=2 then φ1Q r.2.2.1 && (r.2.2.2.1==[] && (r.2.2.2.2.1==0 && r.2.2.2.2.2==0))
 else if r.1=3 then r.2.2.1==[] && (r.2.2.2.1==[] && (decide (0≤r.2.2.2.2.1∧r.2.2.2.2.1≤8) && decide (0≤r.2.2.2.2.2∧r.2.2.2.2.2≤4294967295)))
 else if r.1=5 then r.2.2.1==[] && (r.2.2.2.1==[] && (decide (0≤r.2.2.2.2.1∧r.2.2.2.2.1≤20) && decide (0≤r.2.2.2.2.2∧r.2.2.2.2.2≤4294967295)))
 else false)
theorem φMZ (r:RecT):ψ2j.f r=some (φZ r):=by
 obtain ⟨k,b,ky,v,c,s⟩:=r
 have e24:decide ((v.length:Int)≤24)=decide (v.length≤24):=decide_eq_decide.2 (by omega)
 unfold ψ2j.f φZ
 simp only[φ2G,bS,φDi,e24]
 by_cases hb:0≤b∧b≤1000000
 rotate_left
 ·simp only[hb,dF,nF,cT,bS,φm,κD]
 simp only[hb,and_self,dT,nZ,cF,tA]
 rcases bE (b==0 && k != 5) with h | h
 ·simp only[bA] at h
  have h2:(k==5)=false:=by have:=h.2;simpa [bne] using this
  simp only[h.1,h.2,h2,cT,bS,φm,nZ,κR,κD]
 have e1:(!(b==0) || k==5)=true:=by
  cases h3:(b==0)<;>cases h4:(k==5)<;>simp_all [bne]
 have e2:(bif b==0 then (bif k != 5 then some (Sum.inr false) else some (Sum.inl ((k,b,ky,v,c,s):RecT))) else some (Sum.inl (k,b,ky,v,c,s)):Option (RecT ⊕ Bool))=some (Sum.inl (k,b,ky,v,c,s)):=by
  cases h3:(b==0)
  ·rfl
  ·rw[h3] at h
   have h4:(k != 5)=false:=by simpa using h
   rw[h4];rfl
 simp only[e2,bS,φb,e1,tA]
 by_cases k1:k=1
 ·subst k1
  simp only[cT,cF,bS,e24,beq_self_eq_true,tA,κL,show ((1:Int)==1)=true from rfl,show ((4:Int)==1)=false from rfl,show ((4:Int)==4)=true from rfl,show ((2:Int)==2)=true from rfl,show ((3:Int)==2)=false from rfl,show ((3:Int)==3)=true from rfl,show ((5:Int)==5)=true from rfl,show ((5:Int)==3)=false from rfl,show ((5:Int)==2)=false from rfl,show ((4:Int)==5)=false from rfl,show ((3:Int)==5)=false from rfl,show ((2:Int)==5)=false from rfl,show ((1:Int)==5)=false from rfl]
  cases φ1Q ky<;>cases decide (v.length≤24)<;>cases (c==0)<;>simp
 by_cases k4:k=4
 ·subst k4
  simp only[cT,cF,bS,e24,beq_self_eq_true,tA,κL,show ((1:Int)==1)=true from rfl,show ((4:Int)==1)=false from rfl,show ((4:Int)==4)=true from rfl,show ((2:Int)==2)=true from rfl,show ((3:Int)==2)=false from rfl,show ((3:Int)==3)=true from rfl,show ((5:Int)==5)=true from rfl,show ((5:Int)==3)=false from rfl,show ((5:Int)==2)=false from rfl,show ((4:Int)==5)=false from rfl,show ((3:Int)==5)=false from rfl,show ((2:Int)==5)=false from rfl,show ((1:Int)==5)=false from rfl]
  cases φ1Q ky<;>cases decide (v.length≤24)<;>cases (c==0)<;>simp
 have b1:(k==1)=false:=by simpa using k1
 have b4:(k==4)=false:=by simpa using k4
 simp only[b1,b4,cF,bS,k1,k4,or_self,if_false]
 by_cases k2:k=2
 ·subst k2
  simp only[cT,cF,bS,e24,beq_self_eq_true,tA,κL,show ((1:Int)==1)=true from rfl,show ((4:Int)==1)=false from rfl,show ((4:Int)==4)=true from rfl,show ((2:Int)==2)=true from rfl,show ((3:Int)==2)=false from rfl,show ((3:Int)==3)=true from rfl,show ((5:Int)==5)=true from rfl,show ((5:Int)==3)=false from rfl,show ((5:Int)==2)=false from rfl,show ((4:Int)==5)=false from rfl,show ((3:Int)==5)=false from rfl,show ((2:Int)==5)=false from rfl,show ((1:Int)==5)=false from rfl]
  cases φ1Q ky<;>cases (v==[])<;>cases (c==0)<;>simp
 have b2:(k==2)=false:=by simpa using k2
 simp only[b2,cF,k2,if_false]
 by_cases k3:k=3
 ·subst k3
  simp only[cT,cF,bS,e24,beq_self_eq_true,tA,κL,show ((1:Int)==1)=true from rfl,show ((4:Int)==1)=false from rfl,show ((4:Int)==4)=true from rfl,show ((2:Int)==2)=true from rfl,show ((3:Int)==2)=false from rfl,show ((3:Int)==3)=true from rfl,show ((5:Int)==5)=true from rfl,show ((5:Int)==3)=false from rfl,show ((5:Int)==2)=false from rfl,show ((4:Int)==5)=false from rfl,show ((3:Int)==5)=false from rfl,show ((2:Int)==5)=false from rfl,show ((1:Int)==5)=false from rfl]
  cases (ky==[])<;>cases (v==[])<;>cases decide (0≤c∧c≤8)<;>simp
 have b3:(k==3)=false:=by simpa using k3
 simp only[b3,cF,k3,if_false]
 by_cases k5:k=5
 ·subst k5
  simp only[cT,cF,bS,e24,beq_self_eq_true,tA,κL,show ((1:Int)==1)=true from rfl,show ((4:Int)==1)=false from rfl,show ((4:Int)==4)=true from rfl,show ((2:Int)==2)=true from rfl,show ((3:Int)==2)=false from rfl,show ((3:Int)==3)=true from rfl,show ((5:Int)==5)=true from rfl,show ((5:Int)==3)=false from rfl,show ((5:Int)==2)=false from rfl,show ((4:Int)==5)=false from rfl,show ((3:Int)==5)=false from rfl,show ((2:Int)==5)=false from rfl,show ((1:Int)==5)=false from rfl]
  cases (ky==[])<;>cases (v==[])<;>cases decide (0≤c∧c≤20)<;>simp
 have b5:(k==5)=false:=by simpa using k5
 simp only[b5,cF,k5,if_false]
theorem φ6i (r:RecT):ψq.f r=some (φZ r):=by
 obtain ⟨k,b,ky,v,c,s⟩:=r
 have e24:decide ((v.length:Int)≤24)=decide (v.length≤24):=decide_eq_decide.2 (by omega)
 have hb0:decide (1≤b∧b≤1000000)=(decide (0≤b∧b≤1000000) && !(b==0)):=by
  by_cases h:b=0
  ·subst h;rfl
  ·have:(b==0)=false:=by simpa using h
   rw[this,nF,κL]
   exact decide_eq_decide.2 (by omega)
 unfold ψq.f φZ
 simp only[φ1U,bS,φ5g,e24,hb0,beq_self_eq_true,tA,κL]
 by_cases k1:k=1
 ·subst k1
  simp only[cT,cF,bS,e24,hb0,beq_self_eq_true,tA,κL,show ((1:Int)==1)=true from rfl,show ((4:Int)==1)=false from rfl,show ((4:Int)==4)=true from rfl,show ((2:Int)==2)=true from rfl,show ((3:Int)==2)=false from rfl,show ((3:Int)==3)=true from rfl,show ((5:Int)==5)=true from rfl,show ((5:Int)==3)=false from rfl,show ((5:Int)==2)=false from rfl,show ((4:Int)==5)=false from rfl,show ((3:Int)==5)=false from rfl,show ((2:Int)==5)=false from rfl,show ((1:Int)==5)=false from rfl]
  cases φ1Q ky<;>cases decide (v.length≤24)<;>cases decide (0≤b∧b≤1000000)<;>cases (b==0)<;>simp
 by_cases k4:k=4
 ·subst k4
  simp only[cT,cF,bS,e24,hb0,beq_self_eq_true,tA,κL,show ((1:Int)==1)=true from rfl,show ((4:Int)==1)=false from rfl,show ((4:Int)==4)=true from rfl,show ((2:Int)==2)=true from rfl,show ((3:Int)==2)=false from rfl,show ((3:Int)==3)=true from rfl,show ((5:Int)==5)=true from rfl,show ((5:Int)==3)=false from rfl,show ((5:Int)==2)=false from rfl,show ((4:Int)==5)=false from rfl,show ((3:Int)==5)=false from rfl,show ((2:Int)==5)=false from rfl,show ((1:Int)==5)=false from rfl]
  cases φ1Q ky<;>cases decide (v.length≤24)<;>cases decide (0≤b∧b≤1000000)<;>cases (b==0)<;>simp
 have b1:(k==1)=false:=by simpa using k1
 have b4:(k==4)=false:=by simpa using k4
 simp only[b1,b4,cF,bS,k1,k4,or_self,if_false]
 by_cases k2:k=2
 ·subst k2
  simp only[cT,cF,bS,e24,hb0,beq_self_eq_true,tA,κL,show ((1:Int)==1)=true from rfl,show ((4:Int)==1)=false from rfl,show ((4:Int)==4)=true from rfl,show ((2:Int)==2)=true from rfl,show ((3:Int)==2)=false from rfl,show ((3:Int)==3)=true from rfl,show ((5:Int)==5)=true from rfl,show ((5:Int)==3)=false from rfl,show ((5:Int)==2)=false from rfl,show ((4:Int)==5)=false from rfl,show ((3:Int)==5)=false from rfl,show ((2:Int)==5)=false from rfl,show ((1:Int)==5)=false from rfl]
  cases φ1Q ky<;>cases decide (0≤b∧b≤1000000)<;>cases (b==0)<;>simp
 have b2:(k==2)=false:=by simpa using k2
 simp only[b2,cF,k2,if_false]
 by_cases k3:k=3
 ·subst k3
  simp only[cT,cF,bS,e24,hb0,beq_self_eq_true,tA,κL,show ((1:Int)==1)=true from rfl,show ((4:Int)==1)=false from rfl,show ((4:Int)==4)=true from rfl,show ((2:Int)==2)=true from rfl,show ((3:Int)==2)=false from rfl,show ((3:Int)==3)=true from rfl,show ((5:Int)==5)=true from rfl,show ((5:Int)==3)=false from rfl,show ((5:Int)==2)=false from rfl,show ((4:Int)==5)=false from rfl,show ((3:Int)==5)=false from rfl,show ((2:Int)==5)=false from rfl,show ((1:Int)==5)=false from rfl]
  cases decide (0≤c∧c≤8)<;>cases decide (0≤s∧s≤4294967295)<;>cases decide (0≤b∧b≤1000000)<;>cases (b==0)<;>simp
 have b3:(k==3)=false:=by simpa using k3
 simp only[b3,cF,k3,if_false]
 by_cases k5:k=5
 ·subst k5
  simp only[cT,cF,bS,e24,hb0,beq_self_eq_true,tA,κL,show ((1:Int)==1)=true from rfl,show ((4:Int)==1)=false from rfl,show ((4:Int)==4)=true from rfl,show ((2:Int)==2)=true from rfl,show ((3:Int)==2)=false from rfl,show ((3:Int)==3)=true from rfl,show ((5:Int)==5)=true from rfl,show ((5:Int)==3)=false from rfl,show ((5:Int)==2)=false from rfl,show ((4:Int)==5)=false from rfl,show ((3:Int)==5)=false from rfl,show ((2:Int)==5)=false from rfl,show ((1:Int)==5)=false from rfl]
  cases decide (0≤c∧c≤20)<;>cases decide (0≤s∧s≤4294967295)<;>cases decide (0≤b∧b≤1000000)<;>simp
 have b5:(k==5)=false:=by simpa using k5
 simp only[b5,cF,k5,if_false,Bool.and_false]
def φ7 (r:RecT):List UInt8:=
 if φZ r=false then [] else
 if r.1=1∨r.1=4 then varT r.1++varT r.2.1++varT (r.2.2.1.length:Int)++r.2.2.1++varT (r.2.2.2.1.length:Int)++r.2.2.2.1
 else if r.1=2 then varT r.1++varT r.2.1++varT (r.2.2.1.length:Int)++r.2.2.1
 else varT r.1++varT r.2.1++varT r.2.2.2.2.1++fix4 r.2.2.2.2.2
theorem φ4H (n:Int):(fix4 n).length≤4:=by
 unfold fix4;split
 ·rw[φA6];omega
 ·simp
theorem φ3R (r:RecT):(φ7 r).length≤60:=by
 obtain ⟨k,b,ky,v,c,s⟩:=r
 unfold φ7
 split
 ·simp
 rename_i h
 have h:φZ (k,b,ky,v,c,s)=true:=by simpa using h
 have l1:=φf k
 have l2:=φf b
 have l3:=φf (ky.length:Int)
 have l4:=φf (v.length:Int)
 have l5:=φf c
 have l6:=φ4H s
 unfold φZ φ1Q at h
 simp only[bA] at h
 have h:=h.2
 split
 ·rename_i c1
  simp only at c1
  simp only[c1,if_true,bA,decide_eq_true_eq] at h
  simp only[lA];omega
 ·rename_i c1
  simp only at c1
  split
  ·rename_i c2
   simp only at c2
   rw[if_neg c1,if_pos c2] at h
   simp only[bA,decide_eq_true_eq] at h
   simp only[lA];omega
  ·simp only[lA];omega
theorem φ1G {a b:Nat} (h:a+b≤1000000000000000):decide (a+b≤9223372036854775807)=true:=by
 rw[decide_eq_true_eq];omega
theorem φ79 (r:RecT):ψ2r.f r=some (φ7 r):=by
 obtain ⟨k,b,ky,v,c,s⟩:=r
 unfold ψ2r.f φ7
 rw[φMZ,bS]
 rcases bE (φZ (k,b,ky,v,c,s)) with h | h
 rotate_left
 ·simp[h]
 have hs:s<9223372036854775808∨k=1∨k=4∨k=2:=by
  unfold φZ at h
  simp only[bA] at h
  have h:=h.2
  by_cases c1:k=1∨k=4
  ·omega
  by_cases c2:k=2
  ·omega
  rw[if_neg c1,if_neg c2] at h
  left
  split at h
  ·simp only[bA,decide_eq_true_eq] at h;omega
  ·split at h
   ·simp only[bA,decide_eq_true_eq] at h;omega
   ·simp at h
 have hlen:k=1∨k=4∨k=2→ky.length≤8∧v.length≤24:=by
  intro hk
  unfold φZ φ1Q at h
  simp only[bA] at h
  have h:=h.2
  by_cases c1:k=1∨k=4
  ·rw[if_pos c1] at h
   simp only[bA,decide_eq_true_eq] at h;omega
  by_cases c2:k=2
  ·rw[if_neg c1,if_pos c2] at h
   simp only[bA,decide_eq_true_eq,beq_iff_eq] at h
   rw[h.2.1];simp;omega
  ·omega
 have l1:=φf k
 have l2:=φf b
 have l3:=φf (ky.length:Int)
 have l4:=φf (v.length:Int)
 have l5:=φf c
 have l6:=φ4H s
 simp only[h,nZ,cF,φ4l,bS,φ1G (show (varT k).length+(varT b).length≤1000000000000000 by omega),cT,κ8,if_false]
 have kk:(bif k==1 then some (((k,b,ky,v,c,s):RecT),varT k++varT b,k,k==1) else some ((k,b,ky,v,c,s),varT k++varT b,k,k==4))=some ((k,b,ky,v,c,s),varT k++varT b,k,decide (k=1∨k=4)):=by
  by_cases c1:k=1
  ·subst c1;rfl
  ·have b1:(k==1)=false:=by simpa using c1
   rw[b1,cF]
   by_cases c4:k=4
   ·subst c4;rfl
   ·have b4:(k==4)=false:=by simpa using c4
    rw[b4,decide_eq_false (by omega)]
 simp only[kk,bS]
 by_cases c1:k=1∨k=4
 ·have hl:=hlen (by omega)
  simp only[c1,dT,cT,if_true,
   φ1G (show (varT k++varT b).length+(varT (ky.length:Int)).length≤1000000000000000 by simp only[lA];omega),
   φ1G (show (varT k++varT b++varT (ky.length:Int)).length+ky.length≤1000000000000000 by simp only[lA];omega),
   φ1G (show (varT k++varT b++varT (ky.length:Int)++ky).length+(varT (v.length:Int)).length≤1000000000000000 by simp only[lA];omega),
   φ1G (show (varT k++varT b++varT (ky.length:Int)++ky++varT (v.length:Int)).length+v.length≤1000000000000000 by simp only[lA];omega)]
 by_cases c2:k=2
 ·have hl:=hlen (by omega)
  have b2:(k==2)=true:=by simpa using c2
  simp only[c1,b2,dF,cF,cT,if_false,
   φ1G (show (varT k++varT b).length+(varT (ky.length:Int)).length≤1000000000000000 by simp only[lA];omega),
   φ1G (show (varT k++varT b++varT (ky.length:Int)).length+ky.length≤1000000000000000 by simp only[lA];omega)]
  rw[if_pos c2]
 ·have b2:(k==2)=false:=by simpa using c2
  simp only[c1,c2,b2,dF,cF,if_false,
   φ1G (show (varT k++varT b).length+(varT c).length≤1000000000000000 by simp only[lA];omega),cT,
   φAY s (by omega),bS,
   φ1G (show (varT k++varT b++varT c).length+(fix4 s).length≤1000000000000000 by simp only[lA];omega)]
theorem φ7I (s:List UInt8) (h:s.length<2 ^ 62):ψ1u.f s=some (varT (s.length:Int)++s):=by
 have l:=φf (s.length:Int)
 unfold ψ1u.f
 have c:(varT (s.length:Int)).length+s.length≤9223372036854775807:=by omega
 simp only[φBa,bS,c,dT,cT]
theorem φMy (l:List Int):∀n (acc:List UInt8),n≤l.length→acc.length≤7 * n→l.length<1000000000000→lp ψ1y.l0 (acc,l,(l.length:Int),(n:Int))=some (acc++((l.drop n).map varT).flatten):=by
 intro n acc hn ha hl
 have:=φc (step:=ψ1y.l0) (fun n (acc:List UInt8)=>(acc,l,(l.length:Int),(n:Int))) l.length (fun n acc=>acc++((l.drop n).map varT).flatten) (fun n acc=>acc.length≤7 * n)
  (fun rec n acc hn ha ih=>by
   rcases κ1 n l.length with h | h
   ·have hv:=φf l[n]
    have hb:acc.length+(varT l[n]).length≤9223372036854775807:=by omega
    have ih:=ih (acc++varT l[n]) h (by rw[lA];omega)
    simp only[ψ1y.l0,oL,h,dT,cT,φH,φM,φE h,φBa,bS,hb,φQ (show n+1<9223372036854775808 by omega),ih]
    rw[dG h,κ5,List.flatten_cons,aA]
   ·have:n=l.length:=by omega
    subst this
    simp[ψ1y.l0])
  (by omega) n acc hn ha
 exact this
theorem φ6q (l:List Int) (hl:l.length<1000000000000):ψ1y.f l=some (l.map varT).flatten:=by
 unfold ψ1y.f
 have:=φMy l 0 [] (κ3 _) (by simp) hl
 have this:lp ψ1y.l0 ([],l,(l.length:Int),0)=_:=this
 rw[this];simp
theorem φBM (r:RecT):ψ12.f r=some (φ7 r):=by
 obtain ⟨k,b,ky,v,c,s⟩:=r
 unfold ψ12.f φ7
 rw[φ6i,bS]
 rcases bE (φZ (k,b,ky,v,c,s)) with h | h
 rotate_left
 ·simp[h]
 have hlen:k=1∨k=4∨k=2→ky.length≤8∧v.length≤24:=by
  intro hk
  unfold φZ φ1Q at h
  simp only[bA] at h
  have h:=h.2
  by_cases c1:k=1∨k=4
  ·rw[if_pos c1] at h
   simp only[bA,decide_eq_true_eq] at h;omega
  by_cases c2:k=2
  ·rw[if_neg c1,if_pos c2] at h
   simp only[bA,decide_eq_true_eq,beq_iff_eq] at h
   rw[h.2.1];simp;omega
  ·omega
 have l1:=φf k
 have l2:=φf b
 have l3:=φf (ky.length:Int)
 have l4:=φf (v.length:Int)
 have l5:=φf c
 have l6:=φ4H s
 have hv:ψ1y.f [k,b]=some (varT k++varT b):=by rw[φ6q [k,b] (by show 2<1000000000000;decide)];simp
 simp only[h,nZ,cF,hv,bS,κ8,if_false]
 have kk:(bif k==1 then some (((k,b,ky,v,c,s):RecT),varT k++varT b,k,k==1) else some ((k,b,ky,v,c,s),varT k++varT b,k,k==4))=some ((k,b,ky,v,c,s),varT k++varT b,k,decide (k=1∨k=4)):=by
  by_cases c1:k=1
  ·subst c1;rfl
  ·have b1:(k==1)=false:=by simpa using c1
   rw[b1,cF]
   by_cases c4:k=4
   ·subst c4;rfl
   ·have b4:(k==4)=false:=by simpa using c4
    rw[b4,decide_eq_false (by omega)]
 simp only[kk,bS]
 by_cases c1:k=1∨k=4
 ·have hl:=hlen (by omega)
  simp only[c1,dT,cT,if_true,φ7I ky (by omega),φ7I v (by omega),bS,
   φ1G (show (varT k++varT b).length+(varT (ky.length:Int)++ky).length≤1000000000000000 by simp only[lA];omega),
   φ1G (show (varT k++varT b++(varT (ky.length:Int)++ky)).length+(varT (v.length:Int)++v).length≤1000000000000000 by simp only[lA];omega)]
  simp only[aA]
 by_cases c2:k=2
 ·have hl:=hlen (by omega)
  have b2:(k==2)=true:=by simpa using c2
  simp only[c1,b2,dF,cF,cT,if_false,φ7I ky (by omega),bS,
   φ1G (show (varT k++varT b).length+(varT (ky.length:Int)++ky).length≤1000000000000000 by simp only[lA];omega)]
  rw[if_pos c2]
  simp only[aA]
 ·have b2:(k==2)=false:=by simpa using c2
  simp only[c1,c2,b2,dF,cF,if_false,φBa,bS,
   φ1G (show (varT k++varT b).length+(varT c).length≤1000000000000000 by simp only[lA];omega),cT,
   φBf s,bS,
   φ1G (show (varT k++varT b++varT c).length+(fix4 s).length≤1000000000000000 by simp only[lA];omega)]
def frame (s:List UInt8):List UInt8:=
 if 200<s.length then [] else fix4 (crcT (varT (s.length:Int)++s))++(varT (s.length:Int)++s)
theorem φ4x (s:List UInt8):(frame s).length≤211:=by
 unfold frame
 split
 ·simp
 ·have l1:=φf (s.length:Int)
  have l2:=φ4H (crcT (varT (s.length:Int)++s))
  simp only[lA];omega
theorem φ7v (s:List UInt8) (h:s.length<2 ^ 62):ψ2V.f s=some (frame s):=by
 unfold ψ2V.f frame
 by_cases c:200<s.length
 ·have c1:(s.length:Int) > 200:=by omega
  simp[c,c1]
 have c1:¬(s.length:Int) > 200:=by omega
 have l1:=φf (s.length:Int)
 have l2:=φ4H (crcT (varT (s.length:Int)++s))
 have r:=φ4n (varT (s.length:Int)++s)
 simp only[c,c1,dF,cF,if_false,φ4l,bS,φ1G (show (varT (s.length:Int)).length+s.length≤1000000000000000 by omega),cT,
  φBR (varT (s.length:Int)++s) (by rw[lA];omega),φAY _ (show crcT (varT (s.length:Int)++s)<9223372036854775808 by omega),
  φ1G (show (fix4 (crcT (varT (s.length:Int)++s))).length+(varT (s.length:Int)++s).length≤1000000000000000 by simp only[lA];omega)]
theorem φ8c (s:List UInt8) (h:s.length<2 ^ 62):ψS.f s=some (frame s):=by
 unfold ψS.f frame
 by_cases c:200<s.length
 ·have c1:(s.length:Int) > 200:=by omega
  simp[c,c1]
 have c1:¬(s.length:Int) > 200:=by omega
 have l1:=φf (s.length:Int)
 have l2:=φ4H (crcT (varT (s.length:Int)++s))
 have r:=φ4n (varT (s.length:Int)++s)
 simp only[c,c1,dF,cF,if_false,φ7I s (by omega),bS,cT,
  φ9M (varT (s.length:Int)++s) (by rw[lA];omega),φBf,
  φ1G (show (fix4 (crcT (varT (s.length:Int)++s))).length+(varT (s.length:Int)++s).length≤1000000000000000 by simp only[lA];omega)]
def φ3U (l:List RecT):List UInt8:=(l.map φ7).flatten
def φ1g (l:List RecT):Int:=crcT (φ3U l)
theorem φ7E:∀(l:List RecT),(φ3U l).length≤60 * l.length
 | []=>by simp[φ3U]
 | r::l=>by
  have h1:=φ7E l
  have h2:=φ3R r
  unfold φ3U at *
  rw[κ5,List.flatten_cons,lA,lC];omega
theorem φFT (l:List RecT) (r:RecT):φ3U (l++[r])=φ3U l++φ7 r:=by
 unfold φ3U;simp
theorem φHA (l:List RecT) (hl:l.length<1000000000000):ψ2t.f l=some (φ1g l):=by
 have hk:=φc (step:=ψ2t.l0) (fun n (_:Unit)=>(l,φ3U (l.take n),(n:Int))) l.length (fun _ _=>φ3U l) (fun _ _=>True)
  (fun rec n s hn _ ih=>by
   rcases κ1 n l.length with h | h
   ·have h1:=φ7E (l.take n)
    have h2:=φ3R l[n]
    rw[lT] at h1
    have ih:=ih () h trivial
    rw[κ6 h,φFT] at ih
    simp only[ψ2t.l0,oL,h,dT,cT,φH,φM,φE h,φ2K,φ79,bS,φ1G (show (φ3U (l.take n)).length+(φ7 l[n]).length≤1000000000000000 by omega),φQ (show n+1<9223372036854775808 by omega),ih]
   ·have:n=l.length:=by omega
    subst this
    simp[ψ2t.l0])
  (by omega) 0 () (κ3 _) trivial
 have hk:lp ψ2t.l0 (l,[],0)=_:=hk
 have hl2:=φ7E l
 unfold ψ2t.f φ1g
 rw[hk,bS,φBR _ (by omega),bS]
theorem φ9k (l:List RecT) (hl:l.length<1000000000000):ψ19.f l=some (φ1g l):=by
 have hk:=φc (step:=ψ19.l0) (fun n (_:Unit)=>(φ3U (l.take n),l,(l.length:Int),(n:Int))) l.length (fun _ _=>φ3U l) (fun _ _=>True)
  (fun rec n s hn _ ih=>by
   rcases κ1 n l.length with h | h
   ·have h1:=φ7E (l.take n)
    have h2:=φ3R l[n]
    rw[lT] at h1
    have ih:=ih () h trivial
    rw[κ6 h,φFT] at ih
    simp only[ψ19.l0,oL,h,dT,cT,φH,φM,φE h,φ2K,φBM,bS,φ1G (show (φ3U (l.take n)).length+(φ7 l[n]).length≤1000000000000000 by omega),φQ (show n+1<9223372036854775808 by omega),ih]
   ·have:n=l.length:=by omega
    subst this
    simp[ψ19.l0])
  (by omega) 0 () (κ3 _) trivial
 have hk:lp ψ19.l0 ([],l,(l.length:Int),0)=_:=hk
 have hl2:=φ7E l
 unfold ψ19.f φ1g
 rw[hk,bS,φ9M _ (by omega),bS]
theorem φGa {a:Nat} (h:a<1000000000001):(a+1) * 64≤140737488355328:=by omega
def φR (p:φ12):RecT:=(4,p.2.2,p.1,p.2.1,0,0)
def φJl (r:RecT):Nat:=(frame (φ7 r)).length
def φEI (l:List RecT):Nat:=sumN φJl l
theorem φEJ {α:Type} (f:α→Nat):∀(l:List α) (x:α),sumN f (l++[x])=sumN f l+f x
 | [],x=>by simp[sumN]
 | y::l,x=>by
  have:=φEJ f l x
  simp only[κF,sumN,this];omega
def φW (l:List φ12) (mark:Int):List RecT:=l.map φR++[(5,mark,[],[],(l.length:Int),φ1g (l.map φR))]
theorem φI0 (l:List φ12) (n:Nat) (h:n<l.length):(l.take (n+1)).map φR=(l.take n).map φR++[φR l[n]]:=by
 rw[κ6 h,mp];rfl
theorem φHd (l:List φ12) (mark:Int) (hl:l.length<1000000000):ψ1a.f l mark=some (φW l mark):=by
 have hk:=φc (step:=ψ1a.l0) (fun n (_:Unit)=>(l,mark,(l.take n).map φR,l,(l.length:Int),(n:Int))) l.length (fun _ _=>(l,mark,l.map φR)) (fun _ _=>True)
  (fun rec n s hn _ ih=>by
   rcases κ1 n l.length with h | h
   ·have ih:=ih () h trivial
    rw[φI0 l n h] at ih
    have hb:(((l.take n).map φR).length+([φR l[n]]:List RecT).length) * 64≤140737488355328:=by
     rw[lM,lT];exact φGa (by omega)
    have hb2:(((l.take n).map φR).length+([(4,l[n].2.2,l[n].1,l[n].2.1,0,0)]:List RecT).length) * 64≤140737488355328:=hb
    have hkp:((4,l[n].2.2,l[n].1,l[n].2.1,0,0):RecT)=φR l[n]:=rfl
    simp only[ψ1a.l0,oL,h,dT,cT,φH,φM,φE h,hkp,φQ (show n+1<9223372036854775808 by omega),ih]
    exact congrArg (fun b=>bif b then some (l,mark,l.map φR) else none) (decide_eq_true hb2)
   ·have:n=l.length:=by omega
    subst this
    simp[ψ1a.l0])
  (by omega) 0 () (κ3 _) trivial
 have hk:lp ψ1a.l0 (l,mark,[],l,(l.length:Int),0)=_:=hk
 unfold ψ1a.f φW
 rw[hk,bS]
 have hb:((l.map φR).length+([((5,mark,[],[],(l.length:Int),φ1g (l.map φR)):RecT)]:List RecT).length) * 64≤140737488355328:=by
  rw[lM];exact φGa (by omega)
 simp only[φ9k (l.map φR) (by rw[lM];omega),bS,hb,dT,cT]
abbrev CurT:=List Int×Int×Int
def Cur (c:CurT):Prop:=0≤c.2.1∧c.1.length<2 ^ 60
theorem φ8d (x:Int):0≤bits (fun _ a b=>a &&& b) .i64 x 255∧bits (fun _ a b=>a &&& b) .i64 x 255≤255:=by
 have e:bits (fun _ a b=>a &&& b) .i64 x 255=IntKind.wrap .i64 ((BitVec.ofInt 64 x &&& BitVec.ofInt 64 255).toNat:Int):=rfl
 have h:(BitVec.ofInt 64 x &&& BitVec.ofInt 64 255).toNat≤255:=by
  rw[BitVec.toNat_and]
  exact Nat.le_trans Nat.and_le_right (by decide)
 rw[e,φA8 (by omega)]
 omega
theorem φ6N {c:CurT} (h:Cur c):∃x c',ψ3B.f c=some (x,c')∧0≤x∧x≤255∧Cur c':=by
 obtain ⟨l,i,s⟩:=c
 obtain ⟨h1,h2⟩:=h
 simp only at h1 h2
 unfold ψ3B.f
 simp only
 generalize bits (fun _ a b=>a ^^^ b) .i64 _ _=y
 by_cases c:i<(l.length:Int)
 ·obtain ⟨j,rfl⟩:∃j:Nat,i=(j:Int):=⟨i.toNat,by omega⟩
  have c2:j<l.length:=by omega
  simp only[c,dT,cT,φH,c2]
  refine ⟨_,_,rfl,(φ8d _).1,(φ8d _).2,?_,h2⟩
  show 0≤w64 _
  rw[φG (by omega) (by omega)];omega
 ·simp only[c,dF,cF]
  exact ⟨_,_,rfl,(φ8d _).1,(φ8d _).2,h1,h2⟩
theorem φB7 {x n:Int} (hx:0≤x) (hn:0<n):0≤Int.tmod x n∧Int.tmod x n<n:=by
 exact ⟨Int.tmod_nonneg n hx,Int.tmod_lt_of_pos x hn⟩
theorem φ3D {c:CurT} (h:Cur c) (n:Int):∃x c',ψ3A.f c n=some (x,c')∧0≤x∧(0<n→x<n)∧(n≤0→x=0)∧Cur c':=by
 unfold ψ3A.f
 by_cases c0:n≤0
 ·simp only[c0,dT,cT]
  exact ⟨0,c,rfl,κP _,fun h=>by omega,fun _=>rfl,h⟩
 have hn:(n != 0)=true:=by simp;omega
 by_cases c1:n≤256
 ·obtain ⟨x,c',e,h1,h2,h3⟩:=φ6N h
  simp only[c0,c1,dT,dF,cT,cF,e,bS,hn]
  have:=φB7 h1 (show 0<n by omega)
  exact ⟨_,_,rfl,this.1,fun _=>this.2,fun h=>h.elim,h3⟩
 ·obtain ⟨x,c1',e1,a1,b1,h1⟩:=φ6N h
  obtain ⟨y,c2',e2,a2,b2,h2⟩:=φ6N h1
  obtain ⟨z,c3',e3,a3,b3,h3⟩:=φ6N h2
  obtain ⟨w,c4',e4,a4,b4,h4⟩:=φ6N h3
  simp only[c0,c1,dF,cF,e1,e2,e3,e4,bS,hn,cT]
  rw[φG (n:=x * 16777216) (by omega) (by omega),φG (n:=y * 65536) (by omega) (by omega),φG (n:=z * 256) (by omega) (by omega),φG (n:=x * 16777216+y * 65536) (by omega) (by omega),φG (n:=x * 16777216+y * 65536+z * 256) (by omega) (by omega),φG (n:=x * 16777216+y * 65536+z * 256+w) (by omega) (by omega)]
  have:=φB7 (x:=x * 16777216+y * 65536+z * 256+w) (n:=n) (by omega) (by omega)
  exact ⟨_,_,rfl,this.1,fun _=>this.2,fun h=>h.elim,h4⟩
theorem φBN {c:CurT} (h:Cur c) (n:Int):∃b c',ψ3E.f c n=some (b,c')∧Cur c':=by
 obtain ⟨x,c',e,_,_,_,h'⟩:=φ3D h n
 unfold ψ3E.f
 simp only[e,bS]
 exact ⟨_,_,rfl,h'⟩
theorem φFZ {c:CurT} (h:Cur c) (l:List (List UInt8)) (hl:0<l.length):∃x c',ψ3F.f c l=some (x,c')∧x∈l∧Cur c':=by
 obtain ⟨x,c',e,h1,h2,_,h'⟩:=φ3D h (l.length:Int)
 have h2:=h2 (by omega)
 unfold ψ3F.f
 simp only[e,bS]
 obtain ⟨j,rfl⟩:∃j:Nat,x=(j:Int):=⟨x.toNat,by omega⟩
 have c2:j<l.length:=by omega
 simp only[φH,c2,dT,cT,φM,φE c2]
 exact ⟨_,_,rfl,gM c2,h'⟩
def φDH:List (List UInt8):=[[97],[98],[99],[107,101,121],[108,111,110,103,110,97,109,101]]
theorem φ9b {c:CurT} (h:Cur c):∃x c',ψ3O.f c=some (x,c')∧φ1Q x=true∧Cur c':=by
 obtain ⟨x,c',e,hm,h'⟩:=φFZ h φDH (by decide)
 unfold ψ3O.f
 have e:ψ3F.f c [[97],[98],[99],[107,101,121],[108,111,110,103,110,97,109,101]]=some (x,c'):=e
 simp only[e,bS]
 refine ⟨_,_,rfl,?_,h'⟩
 have:∀y∈φDH,φ1Q y=true:=by decide
 exact this x hm
theorem φ9L {A B σ:Type} {step:(A→Option B)→A→Option B} (st:Nat→σ→A) (Inv:Nat→σ→Prop) (Post:B→Prop)
  (hz:∀rec s,Inv 0 s→∃b,step rec (st 0 s)=some b∧Post b)
  (hs:∀rec n s,Inv (n+1) s→∃s',Inv n s'∧step rec (st (n+1) s)=rec (st n s')) (n:Nat) (s:σ) (hi:Inv n s) (hn:n<2 ^ 62):∃b,lp step (st n s)=some b∧Post b:=by
 have key:∀n f s,Inv n s→n<f→∃b,φ2p step f (st n s)=some b∧Post b:=by
  intro n
  induction n with
  | zero=>
   intro f s hi hf
   obtain ⟨f,rfl⟩:∃g,f=g+1:=⟨f - 1,by omega⟩
   exact hz _ s hi
  | succ n ih=>
   intro f s hi hf
   obtain ⟨f,rfl⟩:∃g,f=g+1:=⟨f - 1,by omega⟩
   obtain ⟨s',hi',e⟩:=hs (φ2p step f) n s hi
   show ∃b,step (φ2p step f) (st (n+1) s)=some b∧Post b
   rw[e]
   exact ih f s' hi' (by omega)
 exact key n FUEL s hi (κG hn φ6Y)
theorem φ6o {A B:Type} {step:(A→Option B)→A→Option B} (P:A→Prop) (m:A→Nat) (Post:B→Prop)
  (h:∀rec a,P a→(∃b,step rec a=some b∧Post b)∨∃a',P a'∧m a'<m a∧step rec a=rec a') {a:A} (hp:P a) (hm:m a<2 ^ 62):∃b,lp step a=some b∧Post b:=by
 have key:∀f a,P a→m a<f→∃b,φ2p step f a=some b∧Post b:=by
  intro f
  induction f with
  | zero=>intro a _ hf;omega
  | succ f ih=>
   intro a hp hf
   rcases h (φ2p step f) a hp with hx | ⟨a',hp',hlt,e⟩
   ·exact hx
   ·show ∃b,step (φ2p step f) a=some b∧Post b
    rw[e]
    exact ih a' hp' (by omega)
 exact key FUEL a hp (κG hm φ6Y)
theorem φN3 {c:CurT} (h:Cur c) (most:Int) (h0:0≤most) (h1:most<1000000000):∃x c',ψ3H.f c most=some (x,c')∧(x.length:Int)≤most∧Cur c':=by
 obtain ⟨st,c1,e1,_,_,_,hc1⟩:=φ3D h 4
 obtain ⟨n,c2,e2,a2,b2,_,hc2⟩:=φ3D hc1 (most+1)
 have b2:=b2 (by omega)
 obtain ⟨m,rfl⟩:∃m:Nat,n=(m:Int):=⟨n.toNat,by omega⟩
 have key:=φ9L (step:=ψ3H.l0) (fun k (s:CurT×List Int)=>(s.1,s.2,st,(k:Int))) (fun k s=>Cur s.1∧s.2.length+k=m) (fun b=>Cur b.1∧b.2.length=m)
  (fun rec s hi=>⟨_,by simp[ψ3H.l0],hi.1,by simpa using hi.2⟩)
  (fun rec k s hi=>by
   obtain ⟨hi1,hi2⟩:=hi
   obtain ⟨x,c',e,_,_,h'⟩:=φ6N hi1
   have e0:((k+1:Nat):Int) > 0:=by omega
   have hw:w64 (((k+1:Nat):Int) - 1)=(k:Int):=by rw[φG (by omega) (by omega)];omega
   have hb:∀v:Int,(s.2.length+[v].length) * 1≤140737488355328:=fun v=>by show (s.2.length+1) * 1≤_;omega
   cases d1:(st==1)<;>cases d2:(st==2)<;>simp only[ψ3H.l0,e0,dT,cT,cF,e,bS,d1,d2,hb,hw]
   all_goals exact ⟨(c',s.2++[_]),⟨h',by simp only[lA,κ9];omega⟩,rfl⟩)
  m (c2,[]) ⟨hc2,by simp⟩ (by omega)
 obtain ⟨⟨c3,xs⟩,e3,hc3,hl⟩:=key
 have e3:lp ψ3H.l0 (c2,[],st,(m:Int))=some (c3,xs):=e3
 unfold ψ3H.f
 rw[e1,bS]
 simp only[φG (n:=most+1) (by omega) (by omega),e2,bS,e3]
 refine ⟨_,_,rfl,?_,hc3⟩
 unfold φ1P
 simp only at hl
 rw[lM,hl];omega
theorem φHq (l:List Int) (hl:l.length<2 ^ 60):∃c,ψ3D.f l=some c∧Cur c:=by
 have key:∃s,lp ψ3D.l0 (l,w64 (10101+(l.length:Int)),0)=some (l,s):=by
  have:=φ6o (step:=ψ3D.l0) (a:=(l,w64 (10101+(l.length:Int)),((0:Nat):Int))) (fun a=>a.1=l∧∃n:Nat,a.2.2=(n:Int)∧n≤l.length) (fun a=>l.length - a.2.2.toNat) (fun b=>b.1=l)
   (fun rec a ha=>by
    obtain ⟨x,s,i⟩:=a
    obtain ⟨hx,n,hn,hle⟩:=ha
    simp only at hx hn
    subst hx hn
    by_cases c:n<x.length
    ·by_cases c2:(n:Int)<4000
     ·right
      have c3:(n:Int)<(x.length:Int):=by omega
      refine ⟨(x,bits (fun _ a b=>a &&& b) .i64 (w64 ((w64 ((w64 (s * 131))+(w64 (x.getD n 0))))+7)) 1073741823,((n+1:Nat):Int)),⟨rfl,n+1,rfl,c⟩,by simp only[tN];omega,?_⟩
      simp only[ψ3D.l0,c3,c2,dT,cT,φH,c,φM,φQ (show n+1<9223372036854775808 by omega)]
     ·left
      have c3:(n:Int)<(x.length:Int):=by omega
      exact ⟨(x,s),by simp only[ψ3D.l0,c3,c2,dT,dF,cT,cF],rfl⟩
    ·left
     have c3:¬(n:Int)<(x.length:Int):=by omega
     exact ⟨(x,s),by simp only[ψ3D.l0,c3,dF,cF],rfl⟩)
   ⟨rfl,0,rfl,κ3 _⟩ (by simp only;omega)
  obtain ⟨⟨b1,b2⟩,e,hb⟩:=this
  simp only at hb
  subst hb
  exact ⟨b2,e⟩
 obtain ⟨s,e⟩:=key
 unfold ψ3D.f
 simp only[e,bS]
 exact ⟨_,rfl,κP _,hl⟩
abbrev φEP:=List UInt8×Int
def φ3F (t:TxnT) (key:List UInt8) (b:Int):TxnT×Int:=
 if t.1=false∨φ1Q key=false then (t,4) else
 if t.2.1.any (fun r=>r.1==key && !(r.2==b))=true then (t,7) else
 if t.2.1.any (fun r=>r.1==key)=true then (t,0) else
 if 20≤t.2.1.length then (t,5) else ((t.1,t.2.1++[(key,b)],t.2.2),0)
theorem φDf {a:Nat} (h:a<1000000000001):(a+1) * 24≤140737488355328:=by omega
theorem φIb (t:TxnT) (key:List UInt8) (b:Int) (h1:t.2.1.length<1000000000) (h2:t.2.2.length<1000000000):ψ1E.f t key b=some (φ3F t key b):=by
 unfold ψ1E.f φ3F
 rw[φBO t (by omega) (by omega),bS]
 rcases bE t.1 with k | k
 rotate_left
 ·simp[k]
 simp only[k,nZ,cF,φ5g,bS]
 rcases bE (φ1Q key) with k2 | k2
 rotate_left
 ·simp[k2]
 have key':=φc (step:=ψ1E.l0) (fun n (f:Bool)=>(key,b,t,((false,[],[]):TxnT),t,f,t.2.1,(t.2.1.length:Int),(n:Int))) t.2.1.length
  (fun n f=>if (t.2.1.drop n).any (fun r=>r.1==key && !(r.2==b))=true then .inr (t,7) else .inl (key,b,t,(false,[],[]),t,f || (t.2.1.drop n).any (fun r=>r.1==key))) (fun _ _=>True)
  (fun rec n f hn _ ih=>by
   rcases κ1 n t.2.1.length with h | h
   ·have hw:=φQ (show n+1<9223372036854775808 by omega)
    rw[dG h,List.any_cons,List.any_cons]
    simp only[ψ1E.l0,oL,h,dT,cT,φH,φM,φE h,φQ (show n+1<9223372036854775808 by omega)]
    rcases bE (t.2.1[n].1==key) with c | c
    ·by_cases c2:t.2.1[n].2=b
     ·have c3:(t.2.1[n].2 != b)=false:=by simpa using c2
      have c4:(t.2.1[n].2==b)=true:=by simpa using c2
      simp only[c,c3,c4,nZ,cT,cF,bS,φb,hw,ih true h trivial,Bool.and_false,κR,Bool.true_or,Bool.or_true]
     ·have c3:(t.2.1[n].2 != b)=true:=by simpa using c2
      have c4:(t.2.1[n].2==b)=false:=by simpa using c2
      simp only[c,c3,c4,nZ,nF,cT,cF,bS,φm,κL,Bool.true_or,if_true]
    ·simp only[c,nF,cT,bS,φb,hw,ih f h trivial,κD,κR]
   ·have:n=t.2.1.length:=by omega
    subst this
    simp[ψ1E.l0])
  (by omega) 0 false (κ3 _) trivial
 have key':lp ψ1E.l0 (key,b,t,(false,[],[]),t,false,t.2.1,(t.2.1.length:Int),0)=_:=key'
 simp only[k2,nZ,cF,key',bS,κ8,or_self,if_false,κC,κR]
 cases t.2.1.any (fun r=>r.1==key && !(r.2==b))
 rotate_left
 ·simp only[if_true,φm]
 simp only[κ2,if_false,φb]
 cases t.2.1.any (fun r=>r.1==key)
 rotate_left
 ·simp only[if_true,cT]
 simp only[κ2,if_false,cF]
 by_cases c:20≤t.2.1.length
 ·have c2:(t.2.1.length:Int)≥20:=by omega
  simp only[c,c2,dT,cT,if_true]
 ·have c2:¬(t.2.1.length:Int)≥20:=by omega
  have hb:(t.2.1.length+([(key,b)]:List φEP).length) * 24≤140737488355328:=φDf (by omega)
  have hb:decide ((t.2.1.length+([(key,b)]:List φEP).length) * 24≤140737488355328)=true:=decide_eq_true hb
  simp only[c,c2,dF,cF,if_false,hb,cT,k]
theorem φIs {k:Nat} (hk:k<2 ^ 60):w64 (((k+1:Nat):Int) - 1)=(k:Int):=by rw[φG (by omega) (by omega)];omega
theorem φLd (l:List Int):ψ2J.f l=some (decide ((l.length:Int) > 1048576)):=rfl
def srt {α:Type} (l:List (List UInt8×α)):Prop:=l.Pairwise (fun a b=>Op.bytesLess a.1 b.1=true)
theorem φ67 {α:Type} (x:List UInt8×α) (l:List (List UInt8×α)) (p:List UInt8×α):insB (x::l) p=if leK x.1 p.1=true then x::insB l p else p::x::l:=by
 cases h:leK x.1 p.1<;>simp[insB,h]
theorem φ3g {α:Type} (y p:List UInt8×α):∀l:List (List UInt8×α),y∈insB l p↔y=p∨y∈l
 | []=>by simp[insB]
 | x::l=>by
  rw[φ67]
  split
  ·rw[mc,φ3g y p l,mc]
   constructor
   ·rintro (h | h | h)
    ·exact .inr (.inl h)
    ·exact .inl h
    ·exact .inr (.inr h)
   ·rintro (h | h | h)
    ·exact .inr (.inl h)
    ·exact .inl h
    ·exact .inr (.inr h)
  ·rw[mc]
theorem φBL {α:Type} (p:List UInt8×α):∀l:List (List UInt8×α),srt l→(∀x∈l,x.1≠p.1)→srt (insB l p)
 | [],_,_=>by simp[insB,srt]
 | x::l,h,hn=>by
  have h:=κX.1 h
  rw[φ67]
  split
  ·rename_i c
   refine List.Pairwise.cons (fun y hy=>?_) (φBL p l h.2 fun y hy=>hn y (mC _ hy))
   rcases (φ3g y p l).1 hy with e | hy
   ·rw[e]
    unfold leK at c
    rcases κV _ _ ▸ c with c | c
    ·exact c
    ·exact absurd (by simpa using c) (hn x κ0)
   ·exact h.1 y hy
  ·rename_i c
   have c2:Op.bytesLess p.1 x.1=true:=by
    rw[φ9G] at c
    simpa using c
   refine List.Pairwise.cons (fun y hy=>?_) (List.Pairwise.cons h.1 h.2)
   rcases mc.1 hy with e | hy
   ·rw[e];exact c2
   ·exact φ6s _ _ _ c2 (h.1 y hy)
theorem φER {α:Type} {l:List (List UInt8×α)} (h:srt l) (k:List UInt8):srt (φ1E l k):=h.sublist List.filter_sublist
theorem φ6b {α:Type} (l:List (List UInt8×α)) (k:List UInt8) (y:List UInt8×α):y∈φ1E l k↔y∈l∧y.1≠k:=by
 unfold φ1E
 rw[List.mem_filter]
 simp
theorem φN1 (l:List Int) (hw:∀x∈l,0≤x∧x≤255) (n:Nat) (hn:n<1000000000) (hl:l.length<1000000000):∃a,ψ2I.f l (n:Int)=some a∧0≤a∧a≤255:=by
 unfold ψ2I.f
 by_cases c:n<l.length
 ·have c1:(n:Int)<(l.length:Int):=by omega
  have h:=hw l[n] (gM c)
  simp only[c,c1,dT,cT,φH,φM,φE c]
  exact ⟨_,rfl,by rw[φG (by omega) (by omega)];omega,by rw[φG (by omega) (by omega)];omega⟩
 ·have c1:¬(n:Int)<(l.length:Int):=by omega
  simp only[c1,dF,cF]
  rw[φG (n:=(n:Int) * 37) (by omega) (by omega),φG (n:=(l.length:Int) * 11) (by omega) (by omega),φG (n:=(n:Int) * 37+(l.length:Int) * 11) (by omega) (by omega)]
  have:=φB7 (x:=(n:Int) * 37+(l.length:Int) * 11) (n:=256) (by omega) (by omega)
  exact ⟨_,rfl,this.1,by omega⟩
abbrev φP:=Int×List Int
def φ1a (hi:Int):Option Int→List Int→Bool
 | _,[]=>true
 | p,x::r=>decide (1≤x∧x≤hi) && ((match p with | none=>true | some q=>decide (q<x)) && φ1a hi (some x) r)
def φ7L (l:List Int):Nat→Option Int
 | 0=>none
 | n+1=>some (l.getD n 0)
theorem φ81 (l:List Int) (n:Nat) (h:n<l.length):φ7L l (n+1)=some l[n]:=by
 show some (l.getD n 0)=_
 rw[φE h]
def φk (v:φP):Bool:=φ1a (w64 (v.1 - 1)) none v.2 && (decide (1≤v.1∧v.1≤100000) && decide (1≤(v.2.length:Int)∧(v.2.length:Int)≤60))
theorem φHM (v:φP) (hl:v.2.length<2 ^ 62):lp ψa.l0 (v,v.2,(v.2.length:Int),0)=some (if φ1a (w64 (v.1 - 1)) none v.2=true then .inl v else .inr false):=by
 have key:=φc (step:=ψa.l0) (fun n (_:Unit)=>(v,v.2,(v.2.length:Int),(n:Int))) v.2.length (fun n _=>if φ1a (w64 (v.1 - 1)) (φ7L v.2 n) (v.2.drop n)=true then .inl v else .inr false) (fun _ _=>True)
  (fun rec n s hn' _ ih=>by
   rcases κ1 n v.2.length with h | h
   ·have hw:w64 ((n:Int)+1)=((n+1:Nat):Int):=φQ (by omega)
    have ih2:=ih () h trivial
    rw[φ81 v.2 n h] at ih2
    rw[dG h]
    simp only[φ1a,ψa.l0,oL,h,dT,cT,φH,φM,φE h,bS,φ1U]
    rcases bE (decide (1≤v.2[n]∧v.2[n]≤w64 (v.1 - 1))) with k2 | k2
    rotate_left
    ·simp only[k2,nF,cT,bS,φm];simp
    simp only[k2,nZ,cF,tA]
    cases n with
    | zero=>
     have z:¬((0:Nat):Int) > 0:=by omega
     simp only[z,dF,cF,bS,φb,hw,ih2,φ7L,tA]
    | succ m=>
     have z:((m+1:Nat):Int) > 0:=by omega
     have hm:m<v.2.length:=by omega
     have z2:w64 (((m+1:Nat):Int) - 1)=(m:Int):=by rw[φG (by omega) (by omega)];omega
     rw[φ81 v.2 m hm]
     simp only[z,dT,cT,z2,φH,hm,φM,φE hm]
     by_cases k3:v.2[m]<v.2[m+1]
     ·have k4:¬v.2[m]≥v.2[m+1]:=by omega
      simp only[k3,k4,dT,dF,cF,bS,φb,hw,ih2,tA]
     ·have k4:v.2[m]≥v.2[m+1]:=by omega
      simp[k3,k4]
   ·have:n=v.2.length:=by omega
    subst this
    simp[ψa.l0,φ1a])
  hl 0 () (κ3 _) trivial
 have key:lp ψa.l0 (v,v.2,(v.2.length:Int),0)=_:=key
 rw[key,κC];rfl
theorem φNG (v:φP) (hl:v.2.length<2 ^ 62):lp ψ2a.l0 (v,0)=some (if φ1a (w64 (v.1 - 1)) none v.2=true then .inl () else .inr false):=by
 have key:=φc (step:=ψ2a.l0) (fun n (_:Unit)=>(v,(n:Int))) v.2.length (fun n _=>if φ1a (w64 (v.1 - 1)) (φ7L v.2 n) (v.2.drop n)=true then .inl () else .inr false) (fun _ _=>True)
  (fun rec n s hn' _ ih=>by
   rcases κ1 n v.2.length with h | h
   ·have hw:w64 ((n:Int)+1)=((n+1:Nat):Int):=φQ (by omega)
    have ih2:=ih () h trivial
    rw[φ81 v.2 n h] at ih2
    rw[dG h]
    simp only[φ1a,ψ2a.l0,oL,h,dT,cT,φH,φM,φE h,bS,φ2G]
    rcases bE (decide (1≤v.2[n]∧v.2[n]≤w64 (v.1 - 1))) with k2 | k2
    rotate_left
    ·simp only[k2,nF,cT,bS,φm];simp
    simp only[k2,nZ,cF,tA]
    cases n with
    | zero=>
     have z:¬((0:Nat):Int) > 0:=by omega
     simp only[z,dF,cF,bS,φb,hw,ih2,φ7L,tA]
    | succ m=>
     have z:((m+1:Nat):Int) > 0:=by omega
     have hm:m<v.2.length:=by omega
     have z2:w64 (((m+1:Nat):Int) - 1)=(m:Int):=by rw[φG (by omega) (by omega)];omega
     rw[φ81 v.2 m hm]
     simp only[z,dT,cT,z2,φH,hm,φM,φE hm]
     by_cases k3:v.2[m]<v.2[m+1]
     ·have k4:¬v.2[m+1]≤v.2[m]:=by omega
      simp only[k3,k4,dT,dF,cF,bS,φb,hw,ih2,tA]
     ·have k4:v.2[m+1]≤v.2[m]:=by omega
      simp[k3,k4]
   ·have:n=v.2.length:=by omega
    subst this
    simp[ψ2a.l0,φ1a])
  hl 0 () (κ3 _) trivial
 have key:lp ψ2a.l0 (v,0)=_:=key
 rw[key,κC];rfl
theorem φ84 (v:φP) (hl:v.2.length<2 ^ 62):ψa.f v=some (φk v):=by
 unfold ψa.f φk
 rw[φHM v hl,bS]
 rcases bE (φ1a (w64 (v.1 - 1)) none v.2) with k | k
 rotate_left
 ·simp[k]
 simp only[k,if_true,φb,φ1U,bS,tA]
 cases decide (1≤v.1∧v.1≤100000)<;>rfl
theorem φ7g (v:φP) (hl:v.2.length<2 ^ 62):ψ2a.f v=some (φk v):=by
 unfold ψ2a.f φk
 rw[φNG v hl]
 simp only[φ2G,bS]
 rcases bE (decide (1≤v.1∧v.1≤100000)) with k | k
 rotate_left
 ·simp only[k,nF,cT,κD,Bool.and_false]
 rcases bE (decide (1≤(v.2.length:Int)∧(v.2.length:Int)≤60)) with k2 | k2
 rotate_left
 ·simp only[k,k2,nF,nZ,cF,cT,Bool.and_false]
 simp only[k,k2,nZ,cF,κL]
 cases φ1a (w64 (v.1 - 1)) none v.2<;>simp
theorem φ8H {v:φP} (h:φk v=true):v.2.length≤60:=by
 unfold φk at h
 simp only[bA,decide_eq_true_eq] at h
 omega
theorem φAW:∀l:List Int,((l.map varT).flatten).length≤7 * l.length
 | []=>by simp
 | x::l=>by
  have h1:=φAW l
  have h2:=φf x
  rw[κ5,List.flatten_cons,lA,lC];omega
def φt (v:φP):List UInt8:=if φk v=false then [] else frame (varT v.1++varT (v.2.length:Int)++(v.2.map varT).flatten)
theorem φBE (v:φP):(φt v).length≤211:=by
 unfold φt;split
 ·simp
 ·exact φ4x _
theorem φMa (v:φP) (hl:v.2.length<2 ^ 62):ψ11.f v=some (φt v):=by
 unfold ψ11.f φt
 rw[φ84 v hl,bS]
 rcases bE (φk v) with k | k
 rotate_left
 ·simp[k]
 have h60:=φ8H k
 have h1:=φAW v.2
 have h2:=φf v.1
 have h3:=φf (v.2.length:Int)
 have hv:ψ1y.f [v.1,(v.2.length:Int)]=some (varT v.1++varT (v.2.length:Int)):=by rw[φ6q [v.1,(v.2.length:Int)] (by show 2<1000000000000;decide)];simp
 simp only[k,nZ,cF,hv,bS,φ6q v.2 (by omega),φ1G (show (varT v.1++varT (v.2.length:Int)).length+((v.2.map varT).flatten).length≤1000000000000000 by rw[lA];omega),cT,φ8c _ (show (varT v.1++varT (v.2.length:Int)++(v.2.map varT).flatten).length<2 ^ 62 by rw[lA,lA];omega),κ8,if_false]
theorem φBC (v:φP) (hl:v.2.length<2 ^ 62):ψ2q.f v=some (φt v):=by
 unfold ψ2q.f φt
 rw[φ7g v hl,bS]
 rcases bE (φk v) with k | k
 rotate_left
 ·simp[k]
 have h60:=φ8H k
 have h1:=φAW v.2
 have h2:=φf v.1
 have h3:=φf (v.2.length:Int)
 have key:=φc (step:=ψ2q.l0) (fun n (acc:List UInt8)=>(v,acc,(n:Int))) v.2.length (fun n acc=>acc++((v.2.drop n).map varT).flatten) (fun n acc=>acc.length≤14+7 * n)
  (fun rec n acc hn ha ih=>by
   rcases κ1 n v.2.length with h | h
   ·have hv:=φf v.2[n]
    have hb:acc.length+(varT v.2[n]).length≤9223372036854775807:=by omega
    have ih:=ih (acc++varT v.2[n]) h (by rw[lA];omega)
    simp only[ψ2q.l0,oL,h,dT,cT,φH,φM,φE h,φ4l,bS,hb,φQ (show n+1<9223372036854775808 by omega),ih]
    rw[dG h,κ5,List.flatten_cons,aA]
   ·have:n=v.2.length:=by omega
    subst this
    simp[ψ2q.l0])
  (by omega) 0 (varT v.1++varT (v.2.length:Int)) (κ3 _) (by rw[lA];omega)
 have key:lp ψ2q.l0 (v,varT v.1++varT (v.2.length:Int),0)=_:=key
 simp only[k,nZ,cF,φ4l,bS,φ1G (show (varT v.1).length+(varT (v.2.length:Int)).length≤1000000000000000 by omega),cT,key,κC,φ7v _ (show (varT v.1++varT (v.2.length:Int)++(v.2.map varT).flatten).length<2 ^ 62 by rw[lA,lA];omega),κ8,if_false]
def dl (k:Nat) (d:φ1):Prop:=d.1.length<k∧φJ d.1<k∧∀f∈d.1,f.1.length<k
theorem φ1L {k:Nat} {d:φ1} (h:dl k d) (hk:k≤1000000000):dlim d:=⟨by have:=h.1;omega,by have:=h.2.1;omega,fun f hf=>by have:=h.2.2 f hf;omega⟩
theorem φ3H {k m:Nat} {d:φ1} (h:dl k d) (hk:k≤m):dl m d:=⟨by have:=h.1;omega,by have:=h.2.1;omega,fun f hf=>by have:=h.2.2 f hf;omega⟩
theorem φ9B {k m:Nat} {d:φ1} {act:List φ6→Int×List φ6} (h:dl k d) (hm:k≤m) (ha:dl m ((act d.1).2,d.2)):dl m (φT d act).1:=by
 unfold φT
 split
 ·exact φ3H h hm
 ·split
  ·exact φ3H h hm
  ·exact ha
theorem φ75 {α:Type} (f:α→Nat) {a b:List α} (h:a.Sublist b):sumN f a≤sumN f b:=by
 induction h with
 | slnil=>exact κB _
 | cons x _ ih=>simp only[sumN];omega
 | cons_cons x _ ih=>simp only[sumN];omega
theorem φN6 {k:Nat} {d:φ1} {l:List φ6} (h:dl k d) (hs:l.Sublist d.1):dl k (l,d.2):=
 ⟨Nat.lt_of_le_of_lt hs.length_le h.1,Nat.lt_of_le_of_lt (φ75 _ hs) h.2.1,fun f hf=>h.2.2 f (hs.subset hf)⟩
def φ2y (n:List UInt8) (d:φ1):φ1×Int:=φT d (φ2I n)
def φU (n:List UInt8) (d:φ1):φ1×Int:=φT d (φ2b n)
def φO (n t:List UInt8) (d:φ1):φ1×Int:=φT d (φ2X d.2.1 n t)
def φI (n:List UInt8) (d:φ1):φ1×Int:=φT d (φ2R n)
def φ36 (a b:List UInt8) (d:φ1):φ1×Int:=φT d (φ2S a b)
theorem φF8 {k:Nat} {d:φ1} (h:dl k d) (n:List UInt8):dl k (φ2y n d).1:=
 φ9B h (κB _) (by
  unfold φ2I
  split
  ·exact φN6 h (φ5P _ _)
  ·exact h)
theorem φMo {k m:Nat} {d:φ1} (h:dl k d) (f:φ6) (h1:k+1≤m) (h2:k+f.2.1.length≤m) (h3:f.1.length<m):dl m (insB d.1 f,d.2):=by
 refine ⟨?_,?_,fun g hg=>?_⟩
 ·show (insB d.1 f).length<m
  rw[φ8V];have:=h.1;omega
 ·show φJ (insB d.1 f)<m
  have e:φJ (insB d.1 f)=φJ d.1+f.2.1.length:=by
   unfold φJ
   generalize d.1=l
   induction l with
   | nil=>simp[insB,sumN]
   | cons x l ih=>
    rw[φ67]
    split
    ·simp only[sumN,ih];omega
    ·simp only[sumN];omega
  rw[e];have:=h.2.1;omega
 ·rcases (φ3g g f d.1).1 hg with e | hg
  ·rw[e];exact h3
  ·have:=h.2.2 g hg;omega
theorem φ7X {k m:Nat} {d:φ1} (h:dl k d) (n:List UInt8) (h1:k+1≤m) (h3:n.length<m):dl m (φU n d).1:=
 φ9B h (by omega) (by
  unfold φ2b
  split
  ·exact φ3H h (by omega)
  split
  ·exact φ3H h (by omega)
  split
  ·exact φ3H h (by omega)
  ·exact φMo h _ h1 (by simp;omega) h3)
theorem φHP (l:List φ6) (i:Nat) (f:φ6) (k:Nat) (hi:i<l.length) (hf:f.2.1.length≤l[i].2.1.length+k):φJ (l.set i f)≤φJ l+k:=by
 unfold φJ
 induction l generalizing i with
 | nil=>simp at hi
 | cons x l ih=>
  cases i with
  | zero=>
   simp only[List.set_cons_zero,sumN]
   simp only[List.getElem_cons_zero] at hf
   omega
  | succ i=>
   simp only[List.set_cons_succ,sumN]
   have:=ih i (by simpa using hi) (by simpa using hf)
   omega
theorem φDm {k m c:Nat} {d:φ1} (h:dl k d) (i:Nat) (f:φ6) (hi:i<d.1.length) (hn:f.1=(d.1[i]).1) (hf:f.2.1.length≤d.1[i].2.1.length+c) (hm:k+c≤m):dl m (d.1.set i f,d.2):=by
 refine ⟨?_,?_,fun g hg=>?_⟩
 ·show (d.1.set i f).length<m
  rw[List.length_set];have:=h.1;omega
 ·show φJ (d.1.set i f)<m
  have:=φHP d.1 i f c hi hf
  have:=h.2.1;omega
 ·rcases List.mem_or_eq_of_mem_set hg with hg | e
  ·have:=h.2.2 g hg;omega
  ·rw[e,hn];have:=h.2.2 _ (gM hi);omega
theorem φ7U {k m:Nat} {d:φ1} (h:dl k d) (n t:List UInt8) (h1:k+t.length≤m):dl m (φO n t d).1:=
 φ9B h (by omega) (by
  unfold φ2X
  rcases φz d.1 n with ⟨e,_⟩ | ⟨i,hi,e,_⟩
  ·rw[φ1B e];exact φ3H h (by omega)
  ·rw[φ18 e]
   simp only
   split
   ·exact φ3H h (by omega)
   ·rw[φE hi]
    exact φDm h i _ hi rfl (by simp) h1)
theorem φGI {k:Nat} {d:φ1} (h:dl k d) (n:List UInt8):dl k (φI n d).1:=
 φ9B h (κB _) (by
  unfold φ2R
  rcases φz d.1 n with ⟨e,_⟩ | ⟨i,hi,e,_⟩
  ·rw[φ1B e];exact h
  ·rw[φ18 e]
   simp only
   rw[φE hi]
   exact φDm (c:=0) h i _ hi rfl (by simp) (κB _))
theorem φHB (l:List φ6) (n:List UInt8):(φ1n l n).Sublist l:=by
 unfold φ1n;split
 ·exact φ5P _ _
 ·exact List.Sublist.refl _
abbrev φD:=φ1×Int
def told (c:Int):Int:=if c=0 then 0 else if c=1 then 1 else if c=2 then 2 else 3
theorem φ1R (c:Int):told c=0↔c=0:=by
 unfold told;split
 ·simp[*]
 ·split
  ·simp[*]
  ·split
   ·simp[*]
   ·simp[*]
theorem φEM (c:Int):ψ1v.f c=some (told c):=by
 unfold ψ1v.f told
 by_cases h0:c=0
 ·simp[h0]
 ·by_cases h1:c=1
  ·simp[h1]
  ·by_cases h2:c=2
   ·simp[h2]
   ·have b0:(c==0)=false:=by simpa using h0
    have b1:(c==1)=false:=by simpa using h1
    have b2:(c==2)=false:=by simpa using h2
    rw[b0,b1,b2];simp[h0,h1,h2]
theorem φ4R (c:Int):ψ2y.f c=some (told c):=φEM c
def φA (op:φ1→φ1×Int) (w:φD):φD:=if w.2=0 then op w.1 else w
def φ17 (op:φ1→φ1×Int) (w:φD):φD:=if w.2=0 then ((op w.1).1,told (op w.1).2) else w
def φ9 (w:φD):φD:=(w.1,told w.2)
theorem φ2e (op:φ1→φ1×Int) (w:φD):φ17 op (φ9 w)=φ9 (φA op w):=by
 unfold φ17 φA φ9
 by_cases h:w.2=0
 ·have h2:told w.2=0:=(φ1R _).2 h
  simp only[h2,if_true]
  rw[if_pos h]
 ·have h2:¬told w.2=0:=fun e=>h ((φ1R _).1 e)
  simp[h,h2]
def φC (n:List UInt8) (d:φ1):φ1×Int:=if φ1e d.1 n≥0 then φ2y n d else (d,0)
theorem φ8T {k:Nat} {d:φ1} (h:dl k d) (n:List UInt8):dl k (φC n d).1:=by
 unfold φC;split
 ·exact φF8 h n
 ·exact h
theorem φ6F {k m:Nat} {w:φD} {op:φ1→φ1×Int} (h:dl k w.1) (hm:k≤m) (ho:dl m (op w.1).1):dl m (φA op w).1:=by
 unfold φA;split
 ·exact ho
 ·exact φ3H h hm
theorem φ5c {k m:Nat} {w:φD} {op:φ1→φ1×Int} (h:dl k w.1) (hm:k≤m) (ho:dl m (op w.1).1):dl m (φ17 op w).1:=by
 unfold φ17;split
 ·exact ho
 ·exact φ3H h hm
theorem φ5x (w:φD) (d:φ1) (c:Int):ψ2D.f w d c=some (d,told c):=by
 unfold ψ2D.f;rw[φEM];rfl
theorem φ51 (w:φD) (n:List UInt8) {k:Nat} (h:dl k w.1) (hk:k≤1000000000):ψ25.f w n=some (φ17 (φC n) w):=by
 have hd:=φ1L h hk
 unfold ψ25.f φ17 φC
 by_cases c:w.2=0
 ·have c1:(w.2==0)=true:=by simpa using c
  simp only[c1,cT,φ4L w.1 n (by have:=hd.1;omega),bS,φIX w.1 n hd,φ5x]
  by_cases c2:φ1e w.1.1 n≥0
  ·simp only[c2,dT,cT,c,if_true];rfl
  ·simp only[c2,dF,cF,c,if_true,if_false]
   congr 1
   show w=(w.1,told 0)
   rw[show told 0=w.2 by rw[c];rfl]
 ·have c1:(w.2==0)=false:=by simpa using c
  simp[c,c1]
theorem φ7q (w:φD) (n:List UInt8) {k:Nat} (h:dl k w.1) (hk:k≤1000000000) (hn:n.length<2 ^ 62):ψ21.f w n=some (φ17 (φU n) w):=by
 have hd:=φ1L h hk
 unfold ψ21.f φ17
 by_cases c:w.2=0
 ·have c1:(w.2==0)=true:=by simpa using c
  simp only[c1,cT,φJI w.1 n hd hn,bS,φ5x,c,if_true];rfl
 ·have c1:(w.2==0)=false:=by simpa using c
  simp[c,c1]
theorem φA5 (w:φD) (n t:List UInt8) {k:Nat} (h:dl k w.1) (hk:k≤1000000000) (ht:t.length<1000000000000):ψ28.f w n t=some (φ17 (φO n t) w):=by
 have hd:=φ1L h hk
 unfold ψ28.f φ17
 by_cases c:w.2=0
 ·have c1:(w.2==0)=true:=by simpa using c
  simp only[c1,cT,φHD w.1 n t hd ht,bS,φ5x,c,if_true];rfl
 ·have c1:(w.2==0)=false:=by simpa using c
  simp[c,c1]
theorem φ76 (w:φD) (n:List UInt8) {k:Nat} (h:dl k w.1) (hk:k≤1000000000):ψ2C.f w n=some (φ17 (φI n) w):=by
 have hd:=φ1L h hk
 unfold ψ2C.f φ17
 by_cases c:w.2=0
 ·have c1:(w.2==0)=true:=by simpa using c
  simp only[c1,cT,φNH w.1 n hd,bS,φ5x,c,if_true];rfl
 ·have c1:(w.2==0)=false:=by simpa using c
  simp[c,c1]
theorem φMu (w:φD) (a b:List UInt8) {k:Nat} (h:dl k w.1) (hk:k≤1000000000) (hb:b.length<2 ^ 62):ψ2A.f w a b=some (φ17 (φ36 a b) w):=by
 have hd:=φ1L h hk
 unfold ψ2A.f φ17
 by_cases c:w.2=0
 ·have c1:(w.2==0)=true:=by simpa using c
  simp only[c1,cT,φLZ w.1 a b hd hb,bS,φ5x,c,if_true];rfl
 ·have c1:(w.2==0)=false:=by simpa using c
  simp[c,c1]
def φ1Y (n t:List UInt8) (w:φD):φD:=φA (φI n) (φA (φO n t) (φA (φU n) (φA (φC n) w)))
def φ66 (n t:List UInt8) (w:φD):φD:=φ17 (φI n) (φ17 (φO n t) (φ17 (φU n) (φ17 (φC n) w)))
theorem φDW (n t:List UInt8) (w:φD):φ66 n t (φ9 w)=φ9 (φ1Y n t w):=by
 unfold φ66 φ1Y
 rw[φ2e,φ2e,φ2e,φ2e]
theorem φNB {k m:Nat} {w:φD} (h:dl k w.1) (n t:List UInt8) (h1:k+1+n.length+t.length≤m):dl m (φ66 n t w).1:=by
 have g1:=φ5c (op:=φC n) h (κB _) (φ8T h n)
 have g2:=φ5c (op:=φU n) (m:=k+1+n.length) g1 (by omega) (φ7X g1 n (by omega) (by omega))
 have g3:=φ5c (op:=φO n t) (m:=m) g2 (by omega) (φ7U g2 n t (by omega))
 exact φ5c (op:=φI n) g3 (κB _) (φGI g3 n)
theorem φHx {k m:Nat} {w:φD} (h:dl k w.1) (n t:List UInt8) (h1:k+1+n.length+t.length≤m):dl m (φ1Y n t w).1:=by
 have g1:=φ6F (op:=φC n) h (κB _) (φ8T h n)
 have g2:=φ6F (op:=φU n) (m:=k+1+n.length) g1 (by omega) (φ7X g1 n (by omega) (by omega))
 have g3:=φ6F (op:=φO n t) (m:=m) g2 (by omega) (φ7U g2 n t (by omega))
 exact φ6F (op:=φI n) g3 (κB _) (φGI g3 n)
theorem φGT (w:φD) (n t:List UInt8) {k:Nat} (h:dl k w.1) (hk:k+1+n.length+t.length≤1000000000):ψ22.f w n t=some (φ66 n t w):=by
 have g1:=φ5c (op:=φC n) h (κB _) (φ8T h n)
 have g2:=φ5c (op:=φU n) (m:=k+1+n.length) g1 (by omega) (φ7X g1 n (by omega) (by omega))
 have g3:=φ5c (op:=φO n t) (m:=k+1+n.length+t.length) g2 (by omega) (φ7U g2 n t (by omega))
 unfold ψ22.f ψ1z.f φ66
 simp only[φ51 w n h (by omega),bS,φ7q _ n g1 (by omega) (by omega),φA5 _ n t g2 (by omega) (by omega),φ76 _ n g3 (by omega)]
theorem φ2Z {op:φ1→φ1×Int} {d:φ1} {c:Int} (h:c≠0):φA op (d,c)=(d,c):=by
 unfold φA;simp[h]
theorem φ2H {op:φ1→φ1×Int} {d:φ1}:φA op (d,0)=op d:=by
 unfold φA;simp
theorem φF9 (d:φ1) (n:List UInt8) {k:Nat} (h:dl k d) (hk:k≤1000000000) (hn:n.length<2 ^ 62):ψ30.f d n=some (φA (φU n) (φC n d)):=by
 have hd:=φ1L h hk
 unfold ψ30.f
 rw[φ4G d n (by have:=hd.1;omega),bS]
 by_cases c2:φ1e d.1 n≥0
 ·have e:φC n d=φ2y n d:=by unfold φC;simp[c2]
  have g:=φF8 h n
  rw[e]
  have er:ψ2k.f d n=some (φ2y n d):=φBs d n hd
  simp only[c2,dT,cT,er,bS]
  generalize φ2y n d=r at *
  obtain ⟨x,c⟩:=r
  by_cases c3:c=0
  ·have c4:(c != 0)=false:=by simpa using c3
   subst c3
   rw[φ2H]
   simp only[c4,cF,bS,φb,φD6 x n (φ1L g hk) hn];rfl
  ·have c4:(c != 0)=true:=by simpa using c3
   rw[φ2Z c3]
   simp only[c4,cT,bS,φm]
 ·have e:φC n d=(d,0):=by unfold φC;simp[c2]
  rw[e,φ2H]
  simp only[c2,dF,cF,bS,φb,φD6 d n hd hn];rfl
theorem φFp (d:φ1) (n t:List UInt8) {k:Nat} (h:dl k d) (hk:k+1+n.length+t.length≤1000000000):ψ2z.f d n t=some (φ1Y n t (d,0)):=by
 have g1:=φ8T h n
 have g2:dl (k+1+n.length) (φA (φU n) (φC n d)).1:=φ6F (op:=φU n) g1 (by omega) (φ7X g1 n (by omega) (by omega))
 have g3:=φ6F (op:=φO n t) (m:=k+1+n.length+t.length) g2 (by omega) (φ7U g2 n t (by omega))
 unfold ψ2z.f φ1Y
 rw[φF9 d n h (by omega) (by omega),bS,φ2H]
 generalize φA (φU n) (φC n d)=r at *
 obtain ⟨x,c⟩:=r
 have e2:(bif c==0 then (ψ2K.f x n t).bind fun (t2_0,t2_1)=>some (n,(([],0,0,false):φ1),t2_0,t2_1) else some (n,([],0,0,false),x,c))=some (n,([],0,0,false),(φA (φO n t) (x,c)).1,(φA (φO n t) (x,c)).2):=by
  by_cases c0:c=0
  ·subst c0
   rw[φ2H]
   simp only[show ((0:Int)==0)=true from rfl,cT,φ9t x n t (φ1L g2 (by omega)) (by omega),bS];rfl
  ·have c1:(c==0)=false:=by simpa using c0
   rw[φ2Z c0,c1];rfl
 simp only[e2,bS]
 generalize φA (φO n t) (x,c)=r at *
 obtain ⟨x,c⟩:=r
 by_cases c0:c=0
 ·subst c0
  rw[φ2H]
  simp only[show ((0:Int)==0)=true from rfl,cT,φGP x n (φ1L g3 (by omega)),bS];rfl
 ·have c1:(c==0)=false:=by simpa using c0
  rw[φ2Z c0]
  simp only[c1,cF]
def sPut (v:φP) (w:φD):φD:=φA (φ36 [116,101,109,112] [108,105,118,101]) (φ1Y [116,101,109,112] (φt v) w)
def wPut (v:φP) (w:φD):φD:=φ17 (φ36 [116,101,109,112] [108,105,118,101]) (φ66 [116,101,109,112] (φt v) w)
theorem φ9V (v:φP) (w:φD):wPut v (φ9 w)=φ9 (sPut v w):=by
 unfold wPut sPut
 rw[φDW,φ2e]
theorem φA9 (w:φD) (v:φP) {k:Nat} (h:dl k w.1) (hk:k+1000≤1000000000) (hl:v.2.length<2 ^ 62):ψ29.f w v=some (wPut v w):=by
 have h1:=φBE v
 have g:=φNB h [116,101,109,112] (φt v) (m:=k+1000) (by show k+1+4+_≤_;omega)
 unfold ψ29.f wPut
 simp only[φMa v hl,bS,φGT w [116,101,109,112] (φt v) h (show k+1+4+(φt v).length≤1000000000 by omega),φMu _ [116,101,109,112] [108,105,118,101] g hk (by show 4<2 ^ 62;decide)]
def φAG (d:φ1) (v:φP):φ1×Int:=if φ3 d=false∨φk v=false then (d,4) else φ9 (sPut v (d,0))
theorem φMI (d:φ1) (v:φP) {k:Nat} (h:dl k d) (hk:k+1000≤1000000000) (hl:v.2.length<2 ^ 62):ψ2d.f d v=some (φAG d v):=by
 have hd:=φ1L h (by omega)
 have h1:=φBE v
 unfold ψ2d.f φAG
 rw[φ6S d hd,bS]
 rcases bE (φ3 d) with k1 | k1
 rotate_left
 ·simp[k1,φ80 d (by have:=hd.1;omega)]
 rcases bE (φk v) with k2 | k2
 rotate_left
 ·simp[k1,k2,φ7g v hl,φ80 d (by have:=hd.1;omega)]
 have g:=φHx (w:=(d,0)) h [116,101,109,112] (φt v) (m:=k+1000) (by show k+1+4+_≤_;omega)
 simp only[k1,k2,nZ,cF,φ7g v hl,φBC v hl,bS,φFp d [116,101,109,112] (φt v) h (show k+1+4+(φt v).length≤1000000000 by omega),κ8,or_self,if_false]
 unfold sPut
 generalize φ1Y [116,101,109,112] (φt v) (d,0)=r at *
 obtain ⟨x,c⟩:=r
 by_cases c0:c=0
 ·subst c0
  rw[φ2H]
  simp only[show ((0:Int)==0)=true from rfl,cT,φN4 x [116,101,109,112] [108,105,118,101] (φ1L g hk) (show 4<2 ^ 62 by decide),bS,φ4R];rfl
 ·have c1:(c==0)=false:=by simpa using c0
  rw[φ2Z c0]
  simp only[c1,cF,bS,φ4R];rfl
abbrev φ8:=φP×List φB×Int×Int×Int
theorem φAP (n:Nat):Lib.itoa (n:Int)=Lib.decDigits n:=by
 unfold Lib.itoa
 rw[if_neg (by omega),tN]
theorem φ5r:∀(k n:Nat),n<10 ^ (k+1)→(Lib.decDigits n).length≤k+1
 | 0,n,h=>by rw[Lib.decDigits,dif_pos (by simpa using h)];simp
 | k+1,n,h=>by
  rw[Lib.decDigits]
  split
  ·simp
  ·have:=φ5r k (n / 10) (by rw[Nat.div_lt_iff_lt_mul (by omega)];rw[κY] at h;exact h)
   simp only[lA,κ9];omega
def digs (n:Nat):List UInt8:=if n=0 then [] else Lib.decDigits n
theorem φ44 {n:Nat} (h:n≠0):digs n=digs (n / 10)++[UInt8.ofNat (48+n % 10)]:=by
 unfold digs
 rw[if_neg h,Lib.decDigits]
 split
 ·rename_i h2
  rw[if_pos (by omega),κa h2];rfl
 ·rename_i h2
  rw[if_neg (by omega)]
theorem φDd (n:Nat) (hn:n<1000000000000000000):ψ2N.f (n:Int)=some (Lib.decDigits n):=by
 unfold ψ2N.f
 by_cases c:n=0
 ·subst c
  rw[Lib.decDigits];rfl
 have c1:((n:Int)==0)=false:=by simpa using c
 have c2:decide ((n:Int)<0)=false:=dnn (by omega)
 have key:=φ6h (step:=ψ2N.l0) (a:=((n:Int),([]:List UInt8),false)) (fun a=>(digs a.1.toNat++a.2.1,false)) (fun a=>0≤a.1∧a.2.2=false∧a.2.1.length+a.1.toNat≤n) (fun a=>a.1.toNat)
  (fun rec a ha ih=>by
   obtain ⟨x,s,f⟩:=a
   obtain ⟨h0,hf,hl⟩:=ha
   simp only at hf hl h0 ih ⊢
   subst hf
   obtain ⟨m,rfl⟩:∃m:Nat,x=(m:Int):=⟨x.toNat,by omega⟩
   simp only[tN] at hl ih ⊢
   by_cases d:m=0
   ·subst d
    simp[ψ2N.l0,digs]
   ·have d1:((m:Int) != 0)=true:=by simpa using d
    have e1:Int.tmod (m:Int) 10=((m % 10:Nat):Int):=rfl
    have e2:w64 (Int.tdiv (m:Int) 10)=((m / 10:Nat):Int):=by
     rw[show Int.tdiv (m:Int) 10=((m / 10:Nat):Int) from rfl];exact φ3j (by omega)
    have e3:decide (((m % 10:Nat):Int)<0)=false:=dnn (by omega)
    have e4:φ1P [IntKind.wrap .u8 (w64 (48+((m % 10:Nat):Int)))]=[UInt8.ofNat (48+m % 10)]:=by
     have e:w64 (48+((m % 10:Nat):Int))=((48+m % 10:Nat):Int):=by rw[φG (by omega) (by omega)];omega
     rw[e]
     unfold φ1P
     simp only[κ5,List.map_nil,φ7K]
    have hb:([UInt8.ofNat (48+m % 10)]:List UInt8).length+s.length≤9223372036854775807:=by show 1+_≤_;omega
    have ih:=ih (((m / 10:Nat):Int),[UInt8.ofNat (48+m % 10)]++s,false) ⟨by simp only;omega,rfl,by simp only[lA,κ9,tN];omega⟩ (by simp only[tN];omega)
    simp only[tN] at ih
    simp only[ψ2N.l0,d1,cT,e1,e2,e3,cF,bS,e4,hb,dT,ih]
    rw[φ44 d,aA])
  ⟨by simp only;omega,rfl,by simp⟩ (by simp only[tN];omega)
 simp only[c1,c2,cF,key,bS,tN]
 unfold digs
 simp[c]
theorem φKC (n:Nat) (hn:n<1000000000000000000):strconv_Itoa.f (n:Int)=some (Lib.decDigits n):=by
 unfold strconv_Itoa.f
 have c:(decide (-9223372036854775808≤(n:Int)) && decide ((n:Int)≤9223372036854775807))=true:=by simp;omega
 rw[c,φAP];rfl
def φ23 (word:List UInt8) (id:Int):List UInt8:=if 1≤id∧id≤100000 then word++Lib.decDigits id.toNat else []
def φ0 (id:Int):List UInt8:=φ23 [115,101,103] id
def φK (id:Int):List UInt8:=φ23 [104,105,110,116] id
theorem φBz (word:List UInt8) (id:Int) (hw:word.length≤100):ψ1c.f word id=some (φ23 word id):=by
 unfold ψ1c.f φ23 ψ6.f
 rw[φ1U,bS]
 by_cases h:1≤id∧id≤100000
 ·obtain ⟨n,rfl⟩:∃n:Nat,id=(n:Int):=⟨id.toNat,by omega⟩
  have hl:=φ5r 5 n (by show n<1000000;omega)
  have hb:word.length+(Lib.decDigits n).length≤9223372036854775807:=by omega
  simp only[h,and_self,dT,nZ,cF,φKC n (by omega),bS,hb,cT,if_true,tN]
 ·simp[h]
theorem φ3C (id:Int):ψz.f id=some (φ0 id):=by
 unfold ψz.f φ0
 rw[φBz [115,101,103] id (by show 3≤100;decide),bS]
theorem φ4W (id:Int):ψ2o.f id=some (φ0 id):=by
 unfold ψ2o.f φ0 φ23
 rw[φ2G,bS]
 by_cases h:1≤id∧id≤100000
 ·obtain ⟨n,rfl⟩:∃n:Nat,id=(n:Int):=⟨id.toNat,by omega⟩
  have hl:=φ5r 5 n (by show n<1000000;omega)
  have hb:([115,101,103]:List UInt8).length+(Lib.decDigits n).length≤9223372036854775807:=by show 3+_≤_;omega
  simp only[h,and_self,dT,nZ,cF,φDd n (by omega),bS,hb,cT,if_true,tN]
 ·simp[h]
theorem φ40 (id:Int):(φ0 id).length≤9:=by
 unfold φ0 φ23
 split
 ·have hl:=φ5r 5 id.toNat (by show _<1000000;omega)
  rw[lA];show 3+_≤9;omega
 ·simp
def φ2 (d:φ1) (n:List UInt8):List UInt8×Bool:=
 if φ3 d=false then ([],false) else
 match d.1.findIdx? (fun f=>f.1==n) with
 | some i=>((d.1.getD i ([],[],0)).2.1,true)
 | none=>([],false)
theorem φ4K (d:φ1) (n:List UInt8) (h:dlim d):ψQ.f d n=some (φ2 d n):=by
 have hl:=h.1
 unfold ψQ.f φ2
 rw[φ4L d n (by omega),bS,φ4m d h]
 rcases φz d.1 n with ⟨e,_⟩ | ⟨i,hi,e,_⟩
 ·rw[e,φ1B e];simp
 ·rw[e,φ18 e]
  rcases bE (φ3 d) with k | k
  ·simp only[dnn (show (0:Int)≤(i:Int) by omega),cF,bS,k,nZ,φ3o hi,cT,φ3v hi,φE hi,κ8,if_false]
  ·simp only[dnn (show (0:Int)≤(i:Int) by omega),cF,bS,k,nF,cT,if_true]
theorem φ8C (d:φ1) (n:List UInt8) (h:dlim d):ψ2T.f d n=some (φ2 d n):=by
 have hl:=h.1
 unfold ψ2T.f φ2
 rw[φ6S d h,bS,φ4G d n (by omega)]
 rcases bE (φ3 d) with k | k
 rotate_left
 ·simp[k]
 rcases φz d.1 n with ⟨e,_⟩ | ⟨i,hi,e,_⟩
 ·rw[e,φ1B e];simp[k]
 ·rw[e,φ18 e]
  simp only[dnn (show (0:Int)≤(i:Int) by omega),cF,bS,k,nZ,φ3o hi,cT,φ3v hi,φE hi,κ8,if_false]
theorem φ4a (d:φ1) (n:List UInt8) (h:dlim d):(φ2 d n).1.length≤φJ d.1:=by
 unfold φ2
 split
 ·simp
 ·rcases φz d.1 n with ⟨e,_⟩ | ⟨i,hi,e,_⟩
  ·rw[φ1B e];simp
  ·rw[φ18 e]
   simp only[φE hi]
   exact φBl (gM hi)
def segN (d:φ1) (l:List Int):Nat:=sumN (fun id=>(φ2 d (φ0 id)).1.length) l
def varN (n:Nat):List UInt8:=vLow n++[UInt8.ofNat (vTop n)]
theorem φ54 (n:Nat) (h:n≤562949953421311):varT (n:Int)=varN n:=by
 unfold varT varN
 rw[if_pos (by omega),tN]
theorem φ5F {n:Nat} (h:n<128):varN n=[UInt8.ofNat n]:=by
 unfold varN
 rw[vLow,vTop,dif_pos h,dif_pos h];rfl
theorem φAx {n:Nat} (h:¬n<128):varN n=UInt8.ofNat (128+n % 128)::varN (n / 128):=by
 unfold varN
 rw[vLow,vTop,dif_neg h,dif_neg h];rfl
theorem φ8x (k n:Nat) (h:n<128 ^ (k+1)):1≤(varN n).length∧(varN n).length≤k+1:=by
 have:=φ8L k n h
 unfold varN
 rw[lA,κ9];omega
def rvT:Nat→Bool→List UInt8→Option (Nat×Nat)
 | 0,_,_=>none
 | _+1,_,[]=>none
 | f+1,first,x::r=>if x.toNat<128 then (if x.toNat=0∧first=false then none else some (x.toNat,1)) else (rvT f false r).map fun p=>(x.toNat % 128+128 * p.1,p.2+1)
theorem φGR:∀(f:Nat) (first:Bool) (s:List UInt8) (n k:Nat),rvT f first s=some (n,k)→(first=false→1≤n)
 | 0,_,_,_,_,h=>by simp[rvT] at h
 | f+1,_,[],_,_,h=>by simp[rvT] at h
 | f+1,first,x::r,n,k,h=>by
  intro hf
  unfold rvT at h
  split at h
  ·split at h
   ·simp at h
   ·rename_i h1 h2
    simp only[Option.some.injEq,Prod.mk.injEq] at h
    have:¬x.toNat=0:=fun e=>h2 ⟨e,hf⟩
    omega
  ·cases hr:rvT f false r with
   | none=>rw[hr] at h;simp at h
   | some p=>
    rw[hr] at h
    simp only[Option.map_some,Option.some.injEq,Prod.mk.injEq] at h
    have:=φGR f false r p.1 p.2 hr rfl
    omega
theorem φ4T:∀(f:Nat) (first:Bool) (s:List UInt8) (n k:Nat),rvT f first s=some (n,k)→1≤k∧k≤f∧k≤s.length∧s.take k=varN n∧n<128 ^ f
 | 0,_,_,_,_,h=>by simp[rvT] at h
 | f+1,_,[],_,_,h=>by simp[rvT] at h
 | f+1,first,x::r,n,k,h=>by
  have hx:=x.toNat_lt
  unfold rvT at h
  split at h
  ·rename_i h1
   split at h
   ·simp at h
   ·simp only[Option.some.injEq,Prod.mk.injEq] at h
    obtain ⟨rfl,rfl⟩:=h
    refine ⟨κB _,by omega,by simp,?_,?_⟩
    ·rw[φ5F h1];simp
    ·exact κG h1 (by rw[κY];have:=Nat.pow_pos (n:=f) (show 0<128 by omega);omega)
  ·rename_i h1
   cases hr:rvT f false r with
   | none=>rw[hr] at h;simp at h
   | some p=>
    obtain ⟨m,j⟩:=p
    rw[hr] at h
    simp only[Option.map_some,Option.some.injEq,Prod.mk.injEq] at h
    obtain ⟨rfl,rfl⟩:=h
    obtain ⟨q1,q2,q3,q4,q5⟩:=φ4T f false r m j hr
    have hm:=φGR f false r m j hr rfl
    have hbig:¬x.toNat % 128+128 * m<128:=by omega
    refine ⟨by omega,by omega,by simp;omega,?_,?_⟩
    ·rw[φAx hbig,List.take_succ_cons,q4]
     have e1:(x.toNat % 128+128 * m) % 128=x.toNat % 128:=by omega
     have e2:(x.toNat % 128+128 * m) / 128=m:=by omega
     have e3:128+x.toNat % 128=x.toNat:=by omega
     rw[e1,e2,e3];simp
    ·rw[κY];omega
theorem φ93:∀(f:Nat) (first:Bool) (n:Nat) (r:List UInt8),n<128 ^ f→(first=false→1≤n)→1≤f→rvT f first (varN n++r)=some (n,(varN n).length)
 | 0,_,_,_,_,_,h=>by omega
 | f+1,first,n,r,h,h1,_=>by
  by_cases c:n<128
  ·rw[φ5F c,List.singleton_append]
   unfold rvT
   have e:(UInt8.ofNat n).toNat=n:=by simp;omega
   rw[e,if_pos c,if_neg (by intro k;have:=h1 k.2;omega)];rfl
  ·rw[φAx c,κF]
   unfold rvT
   have e:(UInt8.ofNat (128+n % 128)).toNat=128+n % 128:=by simp;omega
   have hf:1≤f:=by
    rcases Nat.eq_zero_or_pos f with k | k
    ·subst k;simp at h;omega
    ·exact k
   rw[e,if_neg (by omega),φ93 f false (n / 128) r (by rw[Nat.div_lt_iff_lt_mul (by omega)];rw[κY] at h;exact h) (fun _=>by omega) hf]
   simp only[Option.map_some,lC]
   congr 2;omega
def decV (l:List UInt8):Nat:=l.foldr (fun x a=>x.toNat % 128+128 * a) 0
theorem φG2:∀(l:List UInt8),decV l<128 ^ l.length
 | []=>by simp[decV]
 | x::l=>by
  have:=φG2 l
  show x.toNat % 128+128 * decV l<128 ^ (l.length+1)
  rw[κY];omega
theorem φD8:∀(k n:Nat),n<128 ^ (k+1)→decV (varN n)=n
 | 0,n,h=>by
  have h:n<128:=by simpa using h
  rw[φ5F h]
  show (UInt8.ofNat n).toNat % 128+128 * 0=n
  have e:(UInt8.ofNat n).toNat=n:=by simp;omega
  rw[e];omega
 | k+1,n,h=>by
  by_cases c:n<128
  ·rw[φ5F c]
   show (UInt8.ofNat n).toNat % 128+128 * 0=n
   have e:(UInt8.ofNat n).toNat=n:=by simp;omega
   rw[e];omega
  ·rw[φAx c]
   show (UInt8.ofNat (128+n % 128)).toNat % 128+128 * decV (varN (n / 128))=n
   have e:(UInt8.ofNat (128+n % 128)).toNat=128+n % 128:=by simp;omega
   rw[e,φD8 k (n / 128) (by rw[Nat.div_lt_iff_lt_mul (by omega)];rw[κY] at h;exact h)]
   omega
def φu (s:List UInt8):Int×Int:=match rvT 7 true s with
 | some (n,k)=>((n:Int),(k:Int))
 | none=>(0,0)
theorem φ9r (s:List UInt8):φu s=(0,0)∨∃n k:Nat,rvT 7 true s=some (n,k)∧φu s=((n:Int),(k:Int))∧1≤k∧k≤7∧k≤s.length∧s.take k=varN n∧n<562949953421312:=by
 unfold φu
 cases h:rvT 7 true s with
 | none=>exact .inl rfl
 | some p=>
  obtain ⟨n,k⟩:=p
  obtain ⟨h1,h2,h3,h4,h5⟩:=φ4T 7 true s n k h
  exact .inr ⟨n,k,rfl,rfl,h1,h2,h3,h4,h5⟩
end Go.Rf.G
