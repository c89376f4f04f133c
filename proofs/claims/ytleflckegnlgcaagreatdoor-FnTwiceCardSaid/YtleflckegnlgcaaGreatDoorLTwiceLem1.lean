import Derived.Test.YtleflckegnlgcaaGreatDoorRf5
import Derived.Test.YtleflckegnlgcaaGreatDoorLTwiceFns
open Option renaming bind_some→bS
open List renaming length_append→lA,append_assoc→aA,mem_cons_of_mem→mC,mem_append→mA,mem_append_right→mR,mem_append_left→mL,mem_cons→mc,drop_eq_getElem_cons→dG,length_take→lT,length_drop→lD,mem_map→mM,length_map→lM,length_cons→lC,length_nil→lN,getElem_mem→gM,map_append→mp,mem_singleton→mZ,mem_cons_self→κ0,take_succ_eq_append_getElem→κ3,map_cons→κ6,append_nil→κ7,nil_append→κ9,length_singleton→κA,drop_zero→κC,take_append_drop→κE,cons_append→κF,flatMap_append→κJ,replicate→κK,nodup_append→κL,foldl_cons→κO,drop_left→κP,nodup_cons→κQ,range'→κR,all_eq_true→κT,foldl_append→κU,take_length→κW,pairwise_cons→κY,mem_or_eq_of_mem_set→κd,pairwise_append→κe,mem_of_mem_take→κf
open Bool renaming and_eq_true→bA,eq_false_or_eq_true→bE,not_true→nZ,not_false→nF,true_and→tA,not_not→nn,false_eq_true→κ2,true_eq_false→κ8,false_and→κD,or_eq_false_iff→κI,and_true→κM,not_eq_true'→κN,false_or→κS,or_eq_true→κX
open Int renaming toNat_natCast→tN,ofNat_lt→oL,le_refl→κH
open Nat renaming lt_or_ge→κ1,zero_le→κ4,le_refl→κ5,eq_of_beq_eq_true→κB,lt_of_lt_of_le→κG,zero_add→κV,le_trans→κZ,pow_succ→κa,mod_eq_of_lt→κc
open Array renaming length_toList→κb
set_option linter.unusedVariables false
set_option linter.unusedSimpArgs false
namespace Go.Rf.G
open Go Go.Rf
set_option synthInstance.maxSize 4000
theorem φFt {A B:Type} {step:(A→Option B)→A→Option B} {F:A→B} {P:A→Prop} {m:A→Nat}
  (h:∀rec a,P a→(∀a',P a'→m a'<m a→rec a'=some (F a'))→step rec a=some (F a)):∀n a,P a→m a<n→φ2w step n a=some (F a)
 | 0,_,_,hn=>by omega
 | n+1,a,hp,hn=>h (φ2w step n) a hp fun a' hp' hlt=>φFt h n a' hp' (by omega)
theorem φ72 {A B:Type} {step:(A→Option B)→A→Option B} (F:A→B) (P:A→Prop) (m:A→Nat)
  (h:∀rec a,P a→(∀a',P a'→m a'<m a→rec a'=some (F a'))→step rec a=some (F a)) {a:A} (hp:P a) (hm:m a<2 ^ 62):lp step a=some (F a):=
 φFt h FUEL a hp (κG hm φ71)
theorem φj {A B σ:Type} {step:(A→Option B)→A→Option B} (st:Nat→σ→A) (N:Nat) (F:Nat→σ→B) (Inv:Nat→σ→Prop)
  (h:∀rec n s,n≤N→Inv n s→(∀s',n<N→Inv (n+1) s'→rec (st (n+1) s')=some (F (n+1) s'))→step rec (st n s)=some (F n s))
  (hN:N<2 ^ 62):∀n s,n≤N→Inv n s→lp step (st n s)=some (F n s):=by
 have key:∀k f n s,n≤N→Inv n s→N - n=k→k<f→φ2w step f (st n s)=some (F n s):=by
  intro k
  induction k with
  | zero=>
   intro f n s hn hi hk hf
   obtain ⟨f,rfl⟩:∃g,f=g+1:=⟨f - 1,by omega⟩
   exact h _ n s hn hi fun s' hlt=>by omega
  | succ k ih=>
   intro f n s hn hi hk hf
   obtain ⟨f,rfl⟩:∃g,f=g+1:=⟨f - 1,by omega⟩
   exact h _ n s hn hi fun s' hlt hi'=>ih f (n+1) s' hlt hi' (by omega) (by omega)
 intro n s hn hi
 exact key (N - n) FUEL n s hn hi rfl (κG (by omega) φ71)
@[simp] theorem φJ (n m:Nat):inB (n:Int) m=decide (n<m):=by
 unfold inB
 by_cases h:n<m<;>simp[h,Int.natCast_nonneg]
@[simp] theorem φN {α:Type} (z:α) (xs:List α) (n:Nat):rdA z xs (n:Int)=xs.getD n z:=rfl
theorem φH {n:Int} (h1:-9223372036854775808≤n) (h2:n<9223372036854775808):w64 n=n:=by
 unfold w64 IntKind.wrap
 simp only[IntKind.bits,IntKind.signed]
 by_cases h:n % 2 ^ 64≥2 ^ 63<;>simp[h]<;>omega
theorem φ3i {n:Nat} (h:n<9223372036854775808):w64 (n:Int)=n:=φH (by omega) (by omega)
theorem φS {n:Nat} (h:n+1<9223372036854775808):w64 ((n:Int)+1)=((n+1:Nat):Int):=by
 rw[φH (by omega) (by omega)];omega
theorem φB {α:Type} {xs:List α} {z:α} {n:Nat} (h:n<xs.length):xs.getD n z=xs[n]:=by simp[List.getD,h]
def sumN {α:Type} (f:α→Nat):List α→Nat
 | []=>0
 | x::r=>f x+sumN f r
theorem φAT {α:Type} (f:α→Nat) {l:List α} {n:Nat} (h:n<l.length):sumN f (l.drop n)=f l[n]+sumN f (l.drop (n+1)):=by
 rw[dG h];rfl
theorem φDn {α:Type} (f:α→Nat):∀{l:List α} {x:α},x∈l→f x≤sumN f l
 | y::l,x,h=>by
  rcases mc.1 h with k | k
  ·subst k;exact Nat.le_add_right _ _
  ·exact κZ (φDn f k) (Nat.le_add_left _ _)
def φBd {X:Type} (mk:Int→X→X) (c:Nat):List X→Int→List X
 | [],_=>[]
 | x::r,k=>mk k x::φBd mk c r (k+c)
@[simp] theorem φNN {X:Type} (mk:Int→X→X) (c:Nat):∀(l:List X) (k:Int),(φBd mk c l k).length=l.length
 | [],_=>rfl
 | x::r,k=>by simp[φBd,φNN mk c r]
theorem φ4Q {X A B:Type} {step:(A→Option (B ⊕ Bool))→A→Option (B ⊕ Bool)} (l:List X) (f:X→Bool) (st:Nat→A) (b:B) (hl:l.length<2 ^ 62)
  (hs:∀rec n,(h:n<l.length)→step rec (st n)=if f l[n]=true then rec (st (n+1)) else some (.inr false))
  (he:∀rec,step rec (st l.length)=some (.inl b)):lp step (st 0)=some (if l.all f=true then .inl b else .inr false):=by
 have:=φj (step:=step) (fun n (_:Unit)=>st n) l.length (fun n _=>if (l.drop n).all f=true then .inl b else .inr false) (fun _ _=>True)
  (fun rec n s hn _ ih=>by
   rcases κ1 n l.length with h | h
   ·rw[hs rec n h,ih () h trivial,dG h,List.all_cons]
    cases f l[n]<;>simp
   ·have:n=l.length:=by omega
    subst this
    rw[he];simp) hl 0 () (κ4 _) trivial
 simpa using this
theorem φEf {X A B C:Type} {step:(A→Option (B ⊕ C))→A→Option (B ⊕ C)} (l:List X) (f:X→Bool) (r:X→C) (st:Nat→A) (b:B) (hl:l.length<2 ^ 62)
  (hs:∀rec n,(h:n<l.length)→step rec (st n)=if f l[n]=true then some (.inr (r l[n])) else rec (st (n+1)))
  (he:∀rec,step rec (st l.length)=some (.inl b)):lp step (st 0)=some (match l.find? f with | some x=>.inr (r x) | none=>.inl b):=by
 have:=φj (step:=step) (fun n (_:Unit)=>st n) l.length (fun n _=>match (l.drop n).find? f with | some x=>.inr (r x) | none=>.inl b) (fun _ _=>True)
  (fun rec n s hn _ ih=>by
   rcases κ1 n l.length with h | h
   ·rw[hs rec n h,ih () h trivial,dG h,List.find?_cons]
    cases hf:f l[n]<;>simp
   ·have:n=l.length:=by omega
    subst this
    rw[he];simp) hl 0 () (κ4 _) trivial
 simpa using this
theorem φ3g {X A B S:Type} {step:(A→Option B)→A→Option B} (l:List X) (g:S→X→S) (st:Nat→S→A) (out:S→B) (Inv:Nat→S→Prop) (hl:l.length<2 ^ 62)
  (hs:∀rec n s,(h:n<l.length)→Inv n s→step rec (st n s)=rec (st (n+1) (g s l[n])))
  (hi:∀n s,(h:n<l.length)→Inv n s→Inv (n+1) (g s l[n]))
  (he:∀rec s,Inv l.length s→step rec (st l.length s)=some (out s)) (s:S) (h0:Inv 0 s):lp step (st 0 s)=some (out (l.foldl g s)):=by
 have:=φj (step:=step) st l.length (fun n s=>out ((l.drop n).foldl g s)) Inv
  (fun rec n s hn hv ih=>by
   rcases κ1 n l.length with h | h
   ·rw[hs rec n s h hv,ih _ h (hi n s h hv),dG h];rfl
   ·have:n=l.length:=by omega
    subst this
    rw[he rec s hv];simp) hl 0 s (κ4 _) h0
 simpa using this
theorem φCA {A B σ:Type} {step:(A→Option B)→A→Option B} (st:Nat→σ→A) (F:Nat→σ→B) (Inv:Nat→σ→Prop)
  (h:∀rec n s,Inv n s→(∀m s',n=m+1→Inv m s'→rec (st m s')=some (F m s'))→step rec (st n s)=some (F n s)):∀n s,n<2 ^ 62→Inv n s→lp step (st n s)=some (F n s):=by
 have key:∀n f s,n<f→Inv n s→φ2w step f (st n s)=some (F n s):=by
  intro n
  induction n with
  | zero=>
   intro f s hf hi
   obtain ⟨f,rfl⟩:∃g,f=g+1:=⟨f - 1,by omega⟩
   exact h _ 0 s hi fun m s' he=>by omega
  | succ n ih=>
   intro f s hf hi
   obtain ⟨f,rfl⟩:∃g,f=g+1:=⟨f - 1,by omega⟩
   exact h _ (n+1) s hi fun m s' he hi'=>by
    have:m=n:=by omega
    subst this
    exact ih f s' (by omega) hi'
 intro n s hn hi
 exact key n FUEL s (κG hn φ71) hi
theorem φNh {X A B C:Type} {step:(A→Option (B ⊕ C))→A→Option (B ⊕ C)} (l:List X) (f:X→Bool) (r:X→C) (st:Nat→A) (b:B) (hl:l.length<2 ^ 62)
  (hs:∀rec n,(h:n<l.length)→step rec (st (n+1))=if f l[n]=true then some (.inr (r l[n])) else rec (st n))
  (he:∀rec,step rec (st 0)=some (.inl b)):lp step (st l.length)=some (match l.reverse.find? f with | some x=>.inr (r x) | none=>.inl b):=by
 have:=φCA (step:=step) (fun n (_:Unit)=>st n) (fun n _=>match (l.take n).reverse.find? f with | some x=>.inr (r x) | none=>.inl b) (fun n _=>n≤l.length)
  (fun rec n s hn ih=>by
   cases n with
   | zero=>rw[he];simp
   | succ n=>
    have h:n<l.length:=hn
    rw[hs rec n h,ih n () rfl (by omega),κ3 h,List.reverse_append]
    simp only[List.reverse_cons,List.reverse_nil,κ9,κF,List.find?_cons]
    cases hf:f l[n]<;>simp) l.length () hl (κ5 _)
 simpa using this
@[simp] theorem φf {A B C:Type} (a:A) (f:A→C) (g:B→C):φU (.inl a) f g=f a:=rfl
@[simp] theorem φq {A B C:Type} (b:B) (f:A→C) (g:B→C):φU (.inr b) f g=g b:=rfl
theorem φ2h {A B:Type} (p:A×B):(p.1,p.2)=p:=rfl
theorem φOD {α:Type} {z:α} {r:List α} {n:Nat} {v:α} (h:n<r.length):rdA z (r.set n v) (n:Int)=v:=by simp[List.getD,h]
theorem φAC {a b:Nat} (h:a≠b):((a:Int) != (b:Int))=true:=by
 have:(a:Int)≠(b:Int):=by omega
 simpa using this
theorem φBj {a b:Nat} (h:a=b):((a:Int) != (b:Int))=false:=by simp[h]
theorem φ1c (n a b:Int):ψ1W.f n a b=some (decide (a≤n∧n≤b)):=by
 unfold ψ1W.f
 by_cases h:a≤n
 ·have h2:n≥a:=h
  simp[h,h2]
 ·have h2:¬n≥a:=h
  simp[h,h2]
theorem φ2U (n a b:Int):ψ37.f n a b=some (decide (a≤n∧n≤b)):=φ1c n a b
def φ18 (s:List UInt8):Bool:=decide (1≤s.length∧s.length≤8)
theorem φ6i (s:List UInt8):ψX.f s=some (φ18 s):=by
 unfold ψX.f φ18
 rw[φ1c,bS]
 congr 1
 apply decide_eq_decide.2
 omega
theorem φG3 (s:List UInt8):ψ2W.f s=some (φ18 s):=φ6i s
def φ2a (p:List UInt8×Bool×List UInt8):Bool:=φ18 p.1 && (decide (p.2.2.length≤24) && (!p.2.1 || p.2.2==[]))
theorem φA2 (p:List UInt8×Bool×List UInt8):ψ1f.f p=some (φ2a p):=by
 unfold ψ1f.f φ2a
 rw[φ6i,bS]
 cases φ18 p.1
 ·rfl
 ·have:decide ((p.2.2.length:Int)≤24)=decide (p.2.2.length≤24):=decide_eq_decide.2 (by omega)
  rw[this]
  cases decide (p.2.2.length≤24)
  ·rfl
  ·cases p.2.1<;>rfl
def φ2A (l:List (List UInt8×Bool×List UInt8)):Bool:=decide (l.length≤8) && l.all φ2a
theorem φMb (l:List (List UInt8×Bool×List UInt8)) (hl:l.length<2 ^ 62):ψg.f l=some (φ2A l):=by
 have key:=φ4Q (step:=ψg.l0) l φ2a (fun n=>(l,l,(l.length:Int),(n:Int))) l hl
  (fun rec n h=>by
   simp only[ψg.l0,oL,h,dT,cT,φJ,φN,φB h,φ2h,φA2,bS,φS (show n+1<9223372036854775808 by omega)]
   cases φ2a l[n]<;>simp)
  (fun rec=>by simp[ψg.l0])
 have key:lp ψg.l0 (l,l,(l.length:Int),0)=_:=key
 unfold ψg.f φ2A
 rw[key,bS]
 have:decide ((l.length:Int)≤8)=decide (l.length≤8):=decide_eq_decide.2 (by omega)
 cases h:l.all φ2a<;>simp[this]
def φ3J (l:List (List UInt8×Bool×List UInt8)) (key:List UInt8):Option (List UInt8×Bool×List UInt8):=l.reverse.find? fun p=>p.1==key
def ownW (l:List (List UInt8×Bool×List UInt8)) (key:List UInt8):(List UInt8×Bool×List UInt8)×Bool:=
 match φ3J l key with
 | some p=>(p,true)
 | none=>(([],false,[]),false)
theorem φIk (t:Bool×List (List UInt8×Int)×List (List UInt8×Bool×List UInt8)) (key:List UInt8) (hl:t.2.2.length<2 ^ 62):ψe.f t key=some (ownW t.2.2 key):=by
 have hk:=φNh (step:=ψe.l0) t.2.2 (fun p=>p.1==key) (fun p=>(p,true)) (fun n=>(key,t,([],false,[]),(n:Int) - 1)) ([],false,[]) hl
  (fun rec n h=>by
   have e:((n+1:Nat):Int) - 1=(n:Int):=by omega
   have e2:w64 ((n:Int) - 1)=(n:Int) - 1:=φH (by omega) (by omega)
   have e3:(n:Int)≥0:=by omega
   simp only[e,ψe.l0,e3,dT,cT,φJ,φN,h,φB h,e2,φ2h]
   cases h2:(t.2.2[n].1==key)<;>simp)
  (fun rec=>by simp[ψe.l0])
 unfold ψe.f ownW φ3J
 rw[φH (by omega) (by omega)]
 simp only[]
 rw[hk,bS]
 cases List.find? (fun p=>p.1==key) t.2.2.reverse<;>rfl
abbrev PutT:=List UInt8×Bool×List UInt8
abbrev φZ:=List UInt8×List UInt8×Int
abbrev φD:=List UInt8×Int×Int×Int×Int
abbrev TxnT:=Bool×List (List UInt8×Int)×List (List UInt8×Bool×List UInt8)
def φ22 (l:List φD) (key:List UInt8):φD×Bool:=
 match l.find? (fun e=>e.1==key) with
 | some e=>(e,true)
 | none=>(([],0,0,0,0),false)
theorem φEN (l:List φD) (key:List UInt8) (hl:l.length<2 ^ 62):ψ8.f l key=some (φ22 l key):=by
 have hk:=φEf (step:=ψ8.l0) l (fun e=>e.1==key) (fun e=>(e,true)) (fun n=>(key,([],0,0,0,0),l,(l.length:Int),(n:Int))) ([],0,0,0,0) hl
  (fun rec n h=>by
   simp only[ψ8.l0,oL,h,dT,cT,φJ,φN,φB h,φ2h,φS (show n+1<9223372036854775808 by omega)]
   cases l[n].1==key<;>simp)
  (fun rec=>by simp[ψ8.l0])
 have hk:lp ψ8.l0 (key,([],0,0,0,0),l,(l.length:Int),0)=_:=hk
 unfold ψ8.f φ22
 rw[hk,bS]
 cases List.find? (fun e=>e.1==key) l<;>rfl
theorem φO2 (l:List φD) (key:List UInt8) (hl:l.length<2 ^ 62):ψ2L.f l key=some (φ22 l key):=by
 have hk:=φEf (step:=ψ2L.l0) l (fun e=>e.1==key) (fun e=>(e,true)) (fun n=>(l,key,([],0,0,0,0),(n:Int))) ([],0,0,0,0) hl
  (fun rec n h=>by
   simp only[ψ2L.l0,oL,h,dT,cT,φJ,φN,φB h,φ2h,φS (show n+1<9223372036854775808 by omega)]
   cases l[n].1==key<;>simp)
  (fun rec=>by simp[ψ2L.l0])
 have hk:lp ψ2L.l0 (l,key,([],0,0,0,0),0)=_:=hk
 unfold ψ2L.f φ22
 rw[hk,bS]
 cases List.find? (fun e=>e.1==key) l<;>rfl
def φ3u (t:TxnT) (dir:List φD):Bool:=t.2.1.all fun r=>(φ22 dir r.1).1.2.2.2.2==r.2
theorem φOL (t:TxnT) (dir:List φD) (h1:t.2.1.length<2 ^ 62) (h2:dir.length<2 ^ 62):ψ1F.f t dir=some (φ3u t dir):=by
 have hk:=φ4Q (step:=ψ1F.l0) t.2.1 (fun r=>(φ22 dir r.1).1.2.2.2.2==r.2) (fun n=>(dir,t.2.1,(t.2.1.length:Int),(n:Int))) () h1
  (fun rec n h=>by
   simp only[ψ1F.l0,oL,h,dT,cT,φJ,φN,φB h,φEN dir _ h2,bS,φS (show n+1<9223372036854775808 by omega),bne]
   cases (φ22 dir t.2.1[n].1).1.2.2.2.2==t.2.1[n].2<;>simp)
  (fun rec=>by simp[ψ1F.l0])
 have hk:lp ψ1F.l0 (dir,t.2.1,(t.2.1.length:Int),0)=_:=hk
 unfold ψ1F.f φ3u
 rw[hk,bS]
 cases List.all t.2.1 _<;>rfl
def φ2P (l:List PutT):List (List UInt8):=l.foldl (fun ks p=>if p.1∈ks then ks else ks++[p.1]) []
def netW (l:List PutT):List PutT:=(φ2P l).map fun k=>(ownW l k).1
theorem φ6S (l:List PutT) (p:PutT):φ2P (l++[p])=if p.1∈φ2P l then φ2P l else φ2P l++[p.1]:=by
 unfold φ2P;rw[κU];rfl
theorem φ6e (l:List PutT) (p:PutT) (k:List UInt8):ownW (l++[p]) k=if p.1=k then (p,true) else ownW l k:=by
 unfold ownW φ3J
 rw[List.reverse_append,List.reverse_cons,List.reverse_nil,κ9,κF,κ9,List.find?_cons]
 by_cases h:p.1=k
 ·simp[h]
 ·have:(p.1==k)=false:=by simpa using h
  simp[h,this]
theorem φ4u {α:Type} {P:List α→Prop} (h0:P []) (hs:∀l x,P l→P (l++[x])):∀l,P l:=by
 have key:∀n (l:List α),l.length=n→P l:=by
  intro n
  induction n with
  | zero=>intro l h;rw[List.eq_nil_of_length_eq_zero h];exact h0
  | succ n ih=>
   intro l h
   have hlt:n<l.length:=by omega
   have e:l.take n++[l[n]]=l:=by
    rw[←κ3 hlt,List.take_of_length_le (by omega)]
   rw[←e]
   exact hs _ _ (ih _ (by simp;omega))
 exact fun l=>key l.length l rfl
theorem φLT (l:List PutT) (k:List UInt8):k∈φ2P l↔∃p∈l,p.1=k:=by
 induction l using φ4u with
 | h0=>simp[φ2P]
 | hs l p ih=>
  rw[φ6S]
  by_cases h:p.1∈φ2P l
  ·rw[if_pos h,ih]
   constructor
   ·rintro ⟨q,h1,h2⟩;exact ⟨q,mL _ h1,h2⟩
   ·rintro ⟨q,h1,h2⟩
    rcases mA.1 h1 with k1 | k1
    ·exact ⟨q,k1,h2⟩
    ·simp only[mZ] at k1
     subst k1;subst h2
     exact ih.1 h
  ·rw[if_neg h,mA,ih]
   constructor
   ·rintro (⟨q,h1,h2⟩ | h1)
    ·exact ⟨q,mL _ h1,h2⟩
    ·simp only[mZ] at h1
     exact ⟨p,by simp,h1.symm⟩
   ·rintro ⟨q,h1,h2⟩
    rcases mA.1 h1 with k1 | k1
    ·exact .inl ⟨q,k1,h2⟩
    ·simp only[mZ] at k1
     subst k1;right;simp[h2]
theorem φCt (l:List PutT):(φ2P l).Nodup:=by
 induction l using φ4u with
 | h0=>simp[φ2P]
 | hs l p ih=>
  rw[φ6S]
  by_cases h:p.1∈φ2P l
  ·rw[if_pos h];exact ih
  ·rw[if_neg h,κL]
   refine ⟨ih,by simp,fun a ha b hb=>?_⟩
   simp only[mZ] at hb
   subst hb
   intro e;subst e;exact h ha
theorem φKN (l:List PutT):(φ2P l).length≤l.length:=by
 induction l using φ4u with
 | h0=>simp[φ2P]
 | hs l p ih=>
  rw[φ6S]
  split<;>simp<;>omega
theorem φCy (l:List PutT) (k:List UInt8) (h:k∈φ2P l):(ownW l k).1.1=k∧(ownW l k).2=true:=by
 induction l using φ4u with
 | h0=>simp[φ2P] at h
 | hs l p ih=>
  rw[φ6e]
  by_cases e:p.1=k
  ·rw[if_pos e];exact ⟨e,rfl⟩
  ·rw[if_neg e]
   rw[φ6S] at h
   apply ih
   split at h
   ·exact h
   ·rcases mA.1 h with h | h
    ·exact h
    ·simp only[mZ] at h;exact absurd h.symm e
def φ2e (key:List UInt8):List PutT→Nat→Int→Int
 | [],_,s=>s
 | x::r,i,s=>φ2e key r (i+1) (if x.1==key then i else s)
theorem φ9v (key:List UInt8):∀(l:List PutT) (i:Nat) (s:Int),(∀p∈l,p.1≠key)→φ2e key l i s=s
 | [],_,_,_=>rfl
 | x::r,i,s,h=>by
  have:(x.1==key)=false:=by simpa using h x (by simp)
  show φ2e key r (i+1) (if (x.1==key)=true then (i:Int) else s)=s
  rw[this]
  exact φ9v key r (i+1) s fun p hp=>h p (mC _ hp)
theorem φG7 (key:List UInt8):∀(l:List PutT) (i:Nat) (s:Int) (j:Nat) (hj:j<l.length),l[j].1=key→(∀m,(hm:m<l.length)→l[m].1=key→m=j)→φ2e key l i s=((i+j:Nat):Int)
 | x::r,i,s,0,_,h,hu=>by
  show φ2e key r (i+1) (if (x.1==key)=true then (i:Int) else s)=_
  have h:x.1=key:=h
  rw[h]
  simp only[beq_self_eq_true,if_true]
  rw[φ9v key r (i+1) i fun p hp=>by
   intro e
   obtain ⟨m,hm,hp⟩:=List.getElem_of_mem hp
   have:=hu (m+1) (by simpa using hm) (by simpa [hp] using e)
   omega]
  simp
 | x::r,i,s,j+1,hj,h,hu=>by
  show φ2e key r (i+1) (if (x.1==key)=true then (i:Int) else s)=_
  rw[φG7 key r (i+1) _ j (by simpa using hj) (by simpa using h) fun m hm hk=>by
   have:=hu (m+1) (by simpa using hm) (by simpa using hk);omega]
  congr 1;omega
def φ5i (out:List PutT) (p:PutT):List PutT:=if φ2e p.1 out 0 (-1)≥0 then out.set (φ2e p.1 out 0 (-1)).toNat p else out++[p]
theorem φKK (m:List PutT) (p:PutT):φ5i (netW m) p=netW (m++[p]):=by
 have keys:∀(j:Nat) (hj:j<(netW m).length),(netW m)[j].1=(φ2P m)[j]'(by simpa [netW] using hj):=fun j hj=>by
  simp only[netW,List.getElem_map]
  exact (φCy m _ (gM _)).1
 unfold φ5i
 by_cases h:p.1∈φ2P m
 ·obtain ⟨j,hj,hk⟩:=List.getElem_of_mem h
  have hj':j<(netW m).length:=by simpa [netW] using hj
  have e:=φG7 p.1 (netW m) 0 (-1) j hj' (by rw[keys j hj',hk]) fun q hq hqk=>by
   rw[keys q hq] at hqk
   exact (List.getElem_inj (φCt m)).1 (hqk.trans hk.symm)
  rw[e,if_pos (by omega)]
  have e2:((0+j:Nat):Int).toNat=j:=by omega
  rw[e2]
  unfold netW
  rw[φ6S,if_pos h]
  apply List.ext_getElem (by simp)
  intro i h1 h2
  rw[List.getElem_set]
  simp only[List.getElem_map]
  have hi:i<(φ2P m).length:=by simpa using h2
  by_cases hij:j=i
  ·subst hij
   rw[if_pos rfl,φ6e,if_pos hk.symm]
  ·rw[if_neg hij,φ6e,if_neg]
   intro hp
   rw[←hk] at hp
   exact hij ((List.getElem_inj (φCt m)).1 hp)
 ·rw[φ9v p.1 (netW m) 0 (-1) fun q hq=>by
   intro e
   obtain ⟨j,hj,hq⟩:=List.getElem_of_mem hq
   have:=keys j hj
   rw[hq,e] at this
   exact h (this ▸ gM _)]
  rw[if_neg (by omega)]
  unfold netW
  rw[φ6S,if_neg h,mp]
  congr 1
  ·apply List.map_congr_left
   intro k hk
   rw[φ6e,if_neg]
   intro e;subst e;exact h hk
  ·simp[φ6e]
theorem φJk (l:List PutT):l.foldl φ5i []=netW l:=by
 induction l using φ4u with
 | h0=>rfl
 | hs l p ih=>rw[κU,ih];exact φKK l p
theorem φIq (out:List PutT) (p:PutT) (x9:List PutT) (x10 x11:Int) (hl:out.length<2 ^ 62) :
  lp ψ1a.l2 (out,p,-1,x9,x10,x11,(out.length:Int),0)=some (out,p,φ2e p.1 out 0 (-1),x9,x10,x11):=by
 have key:=φj (step:=ψ1a.l2) (fun n (s:Int)=>(out,p,s,x9,x10,x11,(out.length:Int),(n:Int))) out.length (fun n s=>(out,p,φ2e p.1 (out.drop n) n s,x9,x10,x11)) (fun _ _=>True)
  (fun rec n s hn _ ih=>by
   rcases κ1 n out.length with h | h
   ·have hw:w64 ((n:Int)+1)=((n+1:Nat):Int):=φS (show n+1<9223372036854775808 by omega)
    simp only[ψ1a.l2,oL,h,dT,cT,φJ,φN,φB h,φS (show n+1<9223372036854775808 by omega)]
    rw[dG h]
    show _=some (out,p,φ2e p.1 (out.drop (n+1)) (n+1) (if (out[n].1==p.1)=true then (n:Int) else s),x9,x10,x11)
    cases out[n].1==p.1
    ·simp only[cF,bS,κ2,if_false];rw[hw];exact ih s h trivial
    ·simp only[cT,bS,if_true];rw[hw];exact ih n h trivial
   ·have:n=out.length:=by omega
    subst this
    simp[ψ1a.l2,φ2e])
  hl 0 (-1) (κ4 _) trivial
 simpa using key
theorem φNK (out:List PutT) (p:PutT):(φ5i out p).length≤out.length+1:=by
 unfold φ5i;split<;>simp
theorem φFu (key:List UInt8):∀(l:List PutT) (i:Nat) (s:Int),φ2e key l i s=s∨(∃j:Nat,φ2e key l i s=((i+j:Nat):Int)∧j<l.length)
 | [],_,_=>.inl rfl
 | x::r,i,s=>by
  show φ2e key r (i+1) (if (x.1==key)=true then (i:Int) else s)=s∨∃j:Nat,φ2e key r (i+1) (if (x.1==key)=true then (i:Int) else s)=_∧_
  rcases φFu key r (i+1) (if (x.1==key)=true then (i:Int) else s) with h | ⟨j,h1,h2⟩
  ·rw[h]
   split
   ·exact .inr ⟨0,by simp,by simp⟩
   ·exact .inl rfl
  ·exact .inr ⟨j+1,by rw[h1];congr 1;omega,by simp;omega⟩
theorem φMH (l:List PutT) (hl:l.length<2 ^ 40):ψ1a.f l=some (netW l):=by
 have hk:=φ3g (step:=ψ1a.l0) l φ5i (fun n (s:List PutT)=>(s,l,(l.length:Int),(n:Int))) id (fun n s=>s.length≤n) (by omega)
  (fun rec n s h hi=>by
   have hs:s.length<2 ^ 62:=by omega
   have hw:w64 ((n:Int)+1)=((n+1:Nat):Int):=φS (show n+1<9223372036854775808 by omega)
   simp only[ψ1a.l0,oL,h,dT,cT,φJ,φN,φB h,φ2h,φIq s l[n] l _ _ hs,bS,φS (show n+1<9223372036854775808 by omega)]
   unfold φ5i
   by_cases hp:φ2e l[n].1 s 0 (-1)≥0
   ·rcases φFu l[n].1 s 0 (-1) with k | ⟨j,k1,k2⟩
    ·omega
    ·rw[if_pos hp]
     have:inB (φ2e l[n].1 s 0 (-1)) s.length=true:=by rw[k1];simp[k2]
     simp only[hp,dT,cT,this,bS,hw]
   ·rw[if_neg hp]
    have hb:(s.length+[l[n]].length) * 40≤140737488355328:=by simp;omega
    simp only[hp,dF,cF,hb,dT,cT,bS,hw])
  (fun n s h hi=>by have:=φNK s l[n];omega)
  (fun rec s hi=>by simp[ψ1a.l0]) [] (by simp)
 have hk:lp ψ1a.l0 ([],l,(l.length:Int),0)=_:=hk
 unfold ψ1a.f
 rw[hk,φJk];rfl
theorem φCZ (t:TxnT) (hl:t.2.2.length<2 ^ 40):ψb.f t=some (netW t.2.2):=by
 unfold ψb.f;rw[φMH _ hl];rfl
theorem φ5F {a:Nat} (h:a<1000000000001):(a+1) * 40≤140737488355328:=by omega
def leK (a b:List UInt8):Bool:=Op.bytesLess a b || a==b
def insB {α:Type} (l:List (List UInt8×α)) (p:List UInt8×α):List (List UInt8×α):=
 let k:=(l.takeWhile fun x=>leK x.1 p.1).length
 l.take k++[p]++l.drop k
def φ1C {α:Type} (l:List (List UInt8×α)) (key:List UInt8):List (List UInt8×α):=l.filter fun x=>!(x.1==key)
theorem φ60 {α:Type} (l:List (List UInt8×α)) (p:List UInt8×α):(insB l p).length=l.length+1:=by
 have:(l.takeWhile fun x=>leK x.1 p.1).length≤l.length:=(List.takeWhile_sublist _).length_le
 simp only[insB,lA,lT,lD,lC,lN];omega
theorem φ8s {α:Type} (l:List (List UInt8×α)) (key:List UInt8):(φ1C l key).length≤l.length:=List.length_filter_le _ _
theorem φF4 {α:Type} (f:α→Bool):∀(l s:List α),l.foldl (fun s x=>if f x=true then s++[x] else s) s=s++l.filter f
 | [],s=>by simp
 | x::l,s=>by
  rw[κO,φF4 f l,List.filter_cons]
  cases f x<;>simp
def φ4Y (b:Int) (l:List φZ) (p:PutT):List φZ:=if p.2.1=true then φ1C l p.1 else insB (φ1C l p.1) (p.1,p.2.2,b)
def φ1j (l:List φZ) (puts:List PutT) (b:Int):List φZ:=puts.foldl (φ4Y b) l
theorem φIB {α:Type} (f:α→Bool) (l:List α) (n:Nat) (h:n<l.length):((l.drop n).takeWhile f).length=if f l[n]=true then ((l.drop (n+1)).takeWhile f).length+1 else 0:=by
 rw[dG h,List.takeWhile_cons]
 split<;>simp
theorem dnn {k:Int} (h:0≤k):decide (k<0)=false:=by
 have:¬k<0:=by omega
 simp[this]
theorem φHh (l:List PutT):(netW l).length≤l.length:=by
 unfold netW;rw[lM];exact φKN l
theorem φ58:∀a:List UInt8,Op.bytesLess a a=false
 | []=>rfl
 | x::a=>by simp[Op.bytesLess,φ58 a]
theorem φH8 {a b:UInt8}:a<b↔a.toNat<b.toNat:=UInt8.lt_iff_toNat_lt
theorem φJF {a b:UInt8} (h:a.toNat=b.toNat):a=b:=UInt8.toNat.inj h
theorem φ7g:∀a b c:List UInt8,Op.bytesLess a b=true→Op.bytesLess b c=true→Op.bytesLess a c=true
 | _,[],_,h,_=>by simp[Op.bytesLess] at h
 | _,_::_,[],_,h=>by simp[Op.bytesLess] at h
 | [],_::_,_::_,_,_=>rfl
 | x::a,y::b,z::c,h1,h2=>by
  simp only[Op.bytesLess,κX,decide_eq_true_eq,bA,beq_iff_eq] at h1 h2 ⊢
  rcases h1 with h1 | ⟨h1,k1⟩
  ·rcases h2 with h2 | ⟨h2,k2⟩
   ·left;rw[φH8] at *;omega
   ·left;rw[←h2];exact h1
  ·rcases h2 with h2 | ⟨h2,k2⟩
   ·left;rw[h1];exact h2
   ·exact .inr ⟨h1.trans h2,φ7g a b c k1 k2⟩
theorem φEn:∀a b:List UInt8,Op.bytesLess a b=false→a≠b→Op.bytesLess b a=true
 | [],[],_,h=>absurd rfl h
 | [],_::_,h,_=>by simp[Op.bytesLess] at h
 | _::_,[],_,_=>rfl
 | x::a,y::b,h1,h2=>by
  simp only[Op.bytesLess,κI,decide_eq_false_iff_not,Bool.and_eq_false_iff] at h1
  simp only[Op.bytesLess,κX,decide_eq_true_eq,bA,beq_iff_eq]
  by_cases e:x=y
  ·subst e
   right
   refine ⟨rfl,φEn a b ?_ fun e=>h2 (by rw[e])⟩
   rcases h1.2 with k | k
   ·simp at k
   ·exact k
  ·left
   rw[φH8] at *
   have:=h1.1
   have hne:x.toNat≠y.toNat:=fun k=>e (φJF k)
   omega
theorem φG8 (a b:List UInt8) (h:Op.bytesLess a b=true):Op.bytesLess b a=false:=by
 cases hb:Op.bytesLess b a with
 | false=>rfl
 | true=>have:=φ7g a b a h hb;rw[φ58] at this;simp at this
theorem φ6N {a b:List UInt8} (h:Op.bytesLess a b=true):a≠b:=fun e=>by rw[e,φ58] at h;simp at h
theorem φ9Y (a b:List UInt8):leK a b=!Op.bytesLess b a:=by
 unfold leK
 cases h:Op.bytesLess a b with
 | true=>rw[φG8 a b h];rfl
 | false=>
  by_cases e:a=b
  ·subst e;simp[h]
  ·rw[φEn a b h e]
   have:(a==b)=false:=by simpa using e
   simp[this]
def φ4L (b:UInt8):Bool:=(decide (97≤b.toNat) && decide (b.toNat≤122)) || (decide (48≤b.toNat) && decide (b.toNat≤57))
def φ1k (s:List UInt8):Bool:=s.all φ4L && decide (1≤s.length∧s.length≤12)
theorem φ4q (s:List UInt8) (n:Nat) (h:n<s.length):bAt s (n:Int)=(s[n].toNat:Int):=by
 unfold bAt
 rw[tN,φB h]
theorem φ9l {a:Nat} {k:Nat}:decide ((a:Int)≥(k:Int))=decide (k≤a):=decide_eq_decide.2 (by omega)
theorem φ8J {a:Nat} {k:Nat}:decide ((a:Int)≤(k:Int))=decide (a≤k):=decide_eq_decide.2 (by omega)
theorem φAV (s:List UInt8) (hl:s.length<2 ^ 62):ψa.f s=some (φ1k s):=by
 have key:=φ4Q (step:=ψa.l0) s φ4L (fun n=>(s,(n:Int))) s hl
  (fun rec n h=>by
   have hw:w64 ((n:Int)+1)=((n+1:Nat):Int):=φS (by omega)
   have e1:decide ((s[n].toNat:Int)≥97)=decide (97≤s[n].toNat):=φ9l (k:=97)
   have e2:decide ((s[n].toNat:Int)≤122)=decide (s[n].toNat≤122):=φ8J (k:=122)
   have e3:decide ((s[n].toNat:Int)≥48)=decide (48≤s[n].toNat):=φ9l (k:=48)
   have e4:decide ((s[n].toNat:Int)≤57)=decide (s[n].toNat≤57):=φ8J (k:=57)
   simp only[ψa.l0,oL,h,dT,cT,φJ,φ4q s n h,e1,e2,e3,e4]
   unfold φ4L
   cases decide (97≤s[n].toNat)<;>cases decide (s[n].toNat≤122)<;>cases decide (48≤s[n].toNat)<;>cases decide (s[n].toNat≤57)<;>simp[hw])
  (fun rec=>by simp[ψa.l0])
 have key:lp ψa.l0 (s,0)=_:=key
 unfold ψa.f φ1k
 rw[key,bS]
 have e:decide ((1:Int)≤(s.length:Int)∧(s.length:Int)≤12)=decide (1≤s.length∧s.length≤12):=decide_eq_decide.2 (by omega)
 cases h:s.all φ4L
 ·simp
 ·simp only[if_true,φf,φ1c,bS,e,tA]
theorem φAH (s:List UInt8) (hl:s.length<2 ^ 62):ψ2Z.f s=some (φ1k s):=by
 have key:=φ4Q (step:=ψ2Z.l0) s φ4L (fun n=>(s,(n:Int))) s hl
  (fun rec n h=>by
   have hw:w64 ((n:Int)+1)=((n+1:Nat):Int):=φS (by omega)
   have e1:decide ((s[n].toNat:Int)≥97)=decide (97≤s[n].toNat):=φ9l (k:=97)
   have e2:decide ((s[n].toNat:Int)≤122)=decide (s[n].toNat≤122):=φ8J (k:=122)
   have e3:decide ((s[n].toNat:Int)≥48)=decide (48≤s[n].toNat):=φ9l (k:=48)
   have e4:decide ((s[n].toNat:Int)≤57)=decide (s[n].toNat≤57):=φ8J (k:=57)
   simp only[ψ2Z.l0,oL,h,dT,cT,φJ,φ4q s n h,e1,e2,e3,e4]
   unfold φ4L
   cases decide (97≤s[n].toNat)<;>cases decide (s[n].toNat≤122)<;>cases decide (48≤s[n].toNat)<;>cases decide (s[n].toNat≤57)<;>simp[hw])
  (fun rec=>by simp[ψ2Z.l0])
 have key:lp ψ2Z.l0 (s,0)=_:=key
 unfold ψ2Z.f φ1k
 rw[key,bS]
 have e:decide ((1:Int)≤(s.length:Int)∧(s.length:Int)≤12)=decide (1≤s.length∧s.length≤12):=decide_eq_decide.2 (by omega)
 cases h:s.all φ4L
 ·simp
 ·simp only[if_true,φf,φ2U,bS,e,tA]
abbrev φ4:=List UInt8×List UInt8×Int
abbrev φ1:=List φ4×Int×Int×Bool
def φI (l:List φ4):Nat:=sumN (fun f=>f.2.1.length) l
def φ36 (f:φ4):Bool:=φ1k f.1 && decide (0≤f.2.2∧f.2.2≤(f.2.1.length:Int))
def φ3U:Option (List UInt8)→List φ4→Bool
 | _,[]=>true
 | none,f::r=>φ3U (some f.1) r
 | some p,f::r=>Op.bytesLess p f.1 && φ3U (some f.1) r
def φ5Z (l:List φ4):Bool:=l.all φ36 && φ3U none l
def φ3 (d:φ1):Bool:=decide (d.1.length≤130) && (decide (0≤d.2.1∧d.2.1≤100000) && (decide (-1≤d.2.2.1∧d.2.2.1≤100000) && (decide ((φI d.1:Int)≤d.2.1) && φ5Z d.1)))
def φ4H (l:List φ4):Nat→Option (List UInt8)
 | 0=>none
 | n+1=>some (l.getD n ([],[],0)).1
def φ5p (p:Option (List UInt8)) (l:List φ4):Bool:=l.all φ36 && φ3U p l
def follows (p:Option (List UInt8)) (f:φ4):Bool:=match p with | none=>true | some q=>Op.bytesLess q f.1
theorem φCi (p:Option (List UInt8)) (f:φ4) (l:List φ4):φ5p p (f::l)=(φ36 f && follows p f && φ5p (some f.1) l):=by
 unfold φ5p follows
 cases p<;>simp only[List.all_cons,φ3U]<;>cases φ36 f<;>simp[Bool.and_comm,Bool.and_assoc,Bool.and_left_comm]
theorem φEh (d:φ1) (hl:d.1.length<2 ^ 62) (hu:φI d.1<2 ^ 62):ψ3H.f d=some (φI d.1:Int):=by
 have key:=φj (step:=ψ3H.l0) (fun n (s:Int)=>(d,s,(n:Int))) d.1.length (fun n s=>s+(φI (d.1.drop n):Int)) (fun n s=>0≤s∧s+(φI (d.1.drop n):Int)<2 ^ 62)
  (fun rec n s hn hi ih=>by
   rcases κ1 n d.1.length with h | h
   ·have e:φI (d.1.drop n)=d.1[n].2.1.length+φI (d.1.drop (n+1)):=φAT _ h
    have h2:=hi.2
    have h1:=hi.1
    rw[e] at h2
    simp only[ψ3H.l0,oL,h,dT,cT,φJ,φN,φB h,φS (show n+1<9223372036854775808 by omega)]
    rw[φH (by omega) (by omega),ih _ h ⟨by omega,by omega⟩,e]
    congr 1;omega
   ·have:n=d.1.length:=by omega
    subst this
    simp[ψ3H.l0,φI,sumN])
  hl 0 0 (κ4 _) ⟨by omega,by simp only[κC];omega⟩
 have key:lp ψ3H.l0 (d,0,0)=_:=key
 unfold ψ3H.f
 rw[key];simp
theorem φDa (d:φ1) (hl:d.1.length<2 ^ 62) (hu:φI d.1<2 ^ 62):ψ1u.f d=some (φI d.1:Int):=by
 have key:=φj (step:=ψ1u.l0) (fun n (s:Int)=>(s,d.1,(d.1.length:Int),(n:Int))) d.1.length (fun n s=>s+(φI (d.1.drop n):Int)) (fun n s=>0≤s∧s+(φI (d.1.drop n):Int)<2 ^ 62)
  (fun rec n s hn hi ih=>by
   rcases κ1 n d.1.length with h | h
   ·have e:φI (d.1.drop n)=d.1[n].2.1.length+φI (d.1.drop (n+1)):=φAT _ h
    have h2:=hi.2
    have h1:=hi.1
    rw[e] at h2
    simp only[ψ1u.l0,oL,h,dT,cT,φJ,φN,φB h,φS (show n+1<9223372036854775808 by omega)]
    rw[φH (by omega) (by omega),ih _ h ⟨by omega,by omega⟩,e]
    congr 1;omega
   ·have:n=d.1.length:=by omega
    subst this
    simp[ψ1u.l0,φI,sumN])
  hl 0 0 (κ4 _) ⟨by omega,by simp only[κC];omega⟩
 have key:lp ψ1u.l0 (0,d.1,(d.1.length:Int),0)=_:=key
 unfold ψ1u.f
 rw[key];simp
theorem φ7o (l:List φ4) (n:Nat) (h:n<l.length):φ4H l (n+1)=some l[n].1:=by
 show some (l.getD n ([],[],0)).1=_
 rw[φB h]
theorem φKg {f:List UInt8} (h:φ1k f=true):f.length≤12:=by
 unfold φ1k at h
 simp only[bA,decide_eq_true_eq] at h
 exact h.2.2
theorem φMW (d:φ1) (hl:d.1.length<2 ^ 62) (hu:φI d.1<2 ^ 62) (hn:∀f∈d.1,f.1.length<2 ^ 62):lp ψD.l0 (d,0,d.1,(d.1.length:Int),0)=some (if φ5Z d.1=true then .inl (d,(φI d.1:Int)) else .inr false):=by
 have key:=φj (step:=ψD.l0) (fun n (s:Int)=>(d,s,d.1,(d.1.length:Int),(n:Int))) d.1.length (fun n s=>if φ5p (φ4H d.1 n) (d.1.drop n)=true then .inl (d,s+(φI (d.1.drop n):Int)) else .inr false) (fun n s=>0≤s∧s+(φI (d.1.drop n):Int)<2 ^ 62)
  (fun rec n s hn' hi ih=>by
   rcases κ1 n d.1.length with h | h
   ·have e:φI (d.1.drop n)=d.1[n].2.1.length+φI (d.1.drop (n+1)):=φAT _ h
    have h2:=hi.2
    have h1:=hi.1
    rw[e] at h2
    have hw:w64 ((n:Int)+1)=((n+1:Nat):Int):=φS (by omega)
    have hw2:w64 (s+(d.1[n].2.1.length:Int))=s+(d.1[n].2.1.length:Int):=φH (by omega) (by omega)
    have ih2:=ih (s+(d.1[n].2.1.length:Int)) h ⟨by omega,by omega⟩
    have ea:s+(d.1[n].2.1.length:Int)+(φI (d.1.drop (n+1)):Int)=s+((d.1[n].2.1.length+φI (d.1.drop (n+1)):Nat):Int):=by omega
    rw[φ7o d.1 n h,ea] at ih2
    have hnm:=hn d.1[n] (gM h)
    rw[dG h,φCi,←dG h,e]
    simp only[ψD.l0,oL,h,dT,cT,φJ,φN,φB h,φAV _ hnm,bS,φ1c]
    unfold φ36
    rcases bE (φ1k d.1[n].1) with k1 | k1
    rotate_left
    ·simp[k1]
    rcases bE (decide (0≤d.1[n].2.2∧d.1[n].2.2≤(d.1[n].2.1.length:Int))) with k2 | k2
    rotate_left
    ·simp only[k1,k2,nZ,nF,cF,cT,bS,φq];simp
    simp only[k1,k2,nZ,cF,tA]
    cases n with
    | zero=>
     have z:¬((0:Nat):Int) > 0:=by omega
     simp only[z,dF,cF,bS,φf,hw2,hw,ih2,φ4H,follows,tA]
    | succ m=>
     have z:((m+1:Nat):Int) > 0:=by omega
     have hm:m<d.1.length:=by omega
     have z2:w64 (((m+1:Nat):Int) - 1)=(m:Int):=by rw[φH (by omega) (by omega)];omega
     rw[φ7o d.1 m hm]
     simp only[z,dT,cT,z2,φJ,hm,φN,φB hm,follows]
     rcases bE (Op.bytesLess d.1[m].1 d.1[m+1].1) with k3 | k3
     ·simp only[k3,nZ,cF,bS,φf,hw2,hw,ih2,tA]
     ·simp[k3]
   ·have:n=d.1.length:=by omega
    subst this
    simp[ψD.l0,φ5p,φ3U,φI,sumN])
  hl 0 0 (κ4 _) ⟨by omega,by simp only[κC];omega⟩
 have key:lp ψD.l0 (d,0,d.1,(d.1.length:Int),0)=_:=key
 rw[key,κC,Int.zero_add];rfl
theorem φKH (d:φ1) (hl:d.1.length<2 ^ 62) (hn:∀f∈d.1,f.1.length<2 ^ 62):lp ψ2N.l0 (d,0)=some (if φ5Z d.1=true then .inl () else .inr false):=by
 have key:=φj (step:=ψ2N.l0) (fun n (_:Unit)=>(d,(n:Int))) d.1.length (fun n _=>if φ5p (φ4H d.1 n) (d.1.drop n)=true then .inl () else .inr false) (fun _ _=>True)
  (fun rec n s hn' _ ih=>by
   rcases κ1 n d.1.length with h | h
   ·have hw:w64 ((n:Int)+1)=((n+1:Nat):Int):=φS (by omega)
    have ih2:=ih () h trivial
    rw[φ7o d.1 n h] at ih2
    have hnm:=hn d.1[n] (gM h)
    rw[dG h,φCi]
    simp only[ψ2N.l0,oL,h,dT,cT,φJ,φN,φB h,φAH _ hnm,bS,φ2U]
    unfold φ36
    rcases bE (φ1k d.1[n].1) with k1 | k1
    rotate_left
    ·simp[k1]
    rcases bE (decide (0≤d.1[n].2.2∧d.1[n].2.2≤(d.1[n].2.1.length:Int))) with k2 | k2
    rotate_left
    ·simp only[k1,k2,nZ,nF,cF,cT,bS,φq];simp
    simp only[k1,k2,nZ,cF,tA]
    cases n with
    | zero=>
     have z:¬((0:Nat):Int) > 0:=by omega
     simp only[z,dF,cF,bS,φf,hw,ih2,φ4H,follows,tA]
    | succ m=>
     have z:((m+1:Nat):Int) > 0:=by omega
     have hm:m<d.1.length:=by omega
     have z2:w64 (((m+1:Nat):Int) - 1)=(m:Int):=by rw[φH (by omega) (by omega)];omega
     have z3:(Op.bytesLess d.1[m+1].1 d.1[m].1 || d.1[m+1].1==d.1[m].1)=!Op.bytesLess d.1[m].1 d.1[m+1].1:=φ9Y _ _
     rw[φ7o d.1 m hm]
     simp only[z,dT,cT,z2,φJ,hm,φN,φB hm,follows,z3]
     rcases bE (Op.bytesLess d.1[m].1 d.1[m+1].1) with k3 | k3
     ·simp only[k3,nZ,cF,bS,φf,hw,ih2,tA]
     ·simp[k3]
   ·have:n=d.1.length:=by omega
    subst this
    simp[ψ2N.l0,φ5p,φ3U])
  hl 0 () (κ4 _) trivial
 have key:lp ψ2N.l0 (d,0)=_:=key
 rw[key,κC];rfl
def dlim (d:φ1):Prop:=d.1.length<1000000000∧φI d.1<1000000000000∧∀f∈d.1,f.1.length<1000000000000
theorem φ5g (d:φ1) (h:dlim d):ψD.f d=some (φ3 d):=by
 obtain ⟨h1,h2,h3⟩:=h
 unfold ψD.f φ3
 have e1:decide ((d.1.length:Int) > 130)=!decide (d.1.length≤130):=by
  by_cases c:d.1.length≤130
  ·have:¬(d.1.length:Int) > 130:=by omega
   simp[c,this]
  ·have:(d.1.length:Int) > 130:=by omega
   simp[c,this]
 rw[e1,φ1c,φ1c,φMW d (by omega) (by omega) fun f hf=>by have:=h3 f hf;omega]
 cases decide (d.1.length≤130)
 ·rfl
 ·simp only[nZ,cF,bS,tA]
  cases decide (0≤d.2.1∧d.2.1≤100000)
  ·rfl
  ·simp only[nZ,cF,bS,tA]
   cases decide (-1≤d.2.2.1∧d.2.2.1≤100000)
   ·rfl
   ·cases φ5Z d.1<;>simp
theorem φ8p (d:φ1) (h:dlim d):ψ2N.f d=some (φ3 d):=by
 obtain ⟨h1,h2,h3⟩:=h
 unfold ψ2N.f φ3
 have e1:decide ((d.1.length:Int) > 130)=!decide (d.1.length≤130):=by
  by_cases c:d.1.length≤130
  ·have:¬(d.1.length:Int) > 130:=by omega
   simp[c,this]
  ·have:(d.1.length:Int) > 130:=by omega
   simp[c,this]
 have e2:decide ((φI d.1:Int) > d.2.1)=!decide ((φI d.1:Int)≤d.2.1):=by
  by_cases c:(φI d.1:Int)≤d.2.1
  ·have:¬(φI d.1:Int) > d.2.1:=by omega
   simp[c,this]
  ·have:(φI d.1:Int) > d.2.1:=by omega
   simp[c,this]
 rw[e1,φ2U,φ2U,φEh d (by omega) (by omega),φKH d (by omega) fun f hf=>by have:=h3 f hf;omega]
 cases decide (d.1.length≤130)
 ·rfl
 ·simp only[nZ,cF,bS,tA]
  cases decide (0≤d.2.1∧d.2.1≤100000)
  ·rfl
  ·simp only[nZ,cF,bS,tA]
   cases decide (-1≤d.2.2.1∧d.2.2.1≤100000)
   ·rfl
   ·simp only[nZ,cF,bS,tA,e2]
    cases decide ((φI d.1:Int)≤d.2.1)
    ·rfl
    ·cases φ5Z d.1<;>simp
theorem φ5X (d:φ1) (h:d.1.length<1000000000000):ψ1J.f d=some d:=by
 unfold ψ1J.f
 have:(([]:List φ4).length+d.1.length) * 40≤140737488355328:=by simp;omega
 simp only[this,dT,cT,κ9]
theorem φ9g (d:φ1) (h:d.1.length<1000000000000):ψ3E.f d=some d:=φ5X d h
def φ1n (l:List φ4) (name:List UInt8):Int:=match l.findIdx? (fun f=>f.1==name) with | some i=>(i:Int) | none=>-1
theorem φIC {A B:Type} {step:(A→Option (B ⊕ Int))→A→Option (B ⊕ Int)} (l:List φ4) (name:List UInt8) (st:Nat→A) (b:B) (hl:l.length<2 ^ 62)
  (hs:∀rec n,(h:n<l.length)→step rec (st n)=if (l[n].1==name)=true then some (.inr (n:Int)) else rec (st (n+1)))
  (he:∀rec,step rec (st l.length)=some (.inl b)):lp step (st 0)=some (match l.findIdx? (fun f=>f.1==name) with | some i=>.inr (i:Int) | none=>.inl b):=by
 have:=φj (step:=step) (fun n (_:Unit)=>st n) l.length (fun n _=>match (l.drop n).findIdx? (fun f=>f.1==name) with | some i=>.inr ((n+i:Nat):Int) | none=>.inl b) (fun _ _=>True)
  (fun rec n s hn _ ih=>by
   rcases κ1 n l.length with h | h
   ·rw[hs rec n h,ih () h trivial,dG h,List.findIdx?_cons]
    cases hf:l[n].1==name
    ·simp only[κ2,if_false]
     cases List.findIdx? (fun f=>f.1==name) (l.drop (n+1)) with
     | none=>rfl
     | some i=>simp only[Option.map_some];congr 2;omega
    ·simp
   ·have:n=l.length:=by omega
    subst this
    rw[he];simp) hl 0 () (κ4 _) trivial
 simpa using this
theorem φ4n (d:φ1) (name:List UInt8) (hl:d.1.length<2 ^ 62):ψ1S.f d name=some (φ1n d.1 name):=by
 have hk:=φIC (step:=ψ1S.l0) d.1 name (fun n=>(name,d.1,(d.1.length:Int),(n:Int))) () hl
  (fun rec n h=>by
   simp only[ψ1S.l0,oL,h,dT,cT,φJ,φN,φB h,φS (show n+1<9223372036854775808 by omega)]
   cases d.1[n].1==name<;>simp)
  (fun rec=>by simp[ψ1S.l0])
 have hk:lp ψ1S.l0 (name,d.1,(d.1.length:Int),0)=_:=hk
 unfold ψ1S.f φ1n
 rw[hk,bS]
 cases List.findIdx? (fun f=>f.1==name) d.1<;>rfl
theorem φ4m (d:φ1) (name:List UInt8) (hl:d.1.length<2 ^ 62):ψ3F.f d name=some (φ1n d.1 name):=by
 have hk:=φIC (step:=ψ3F.l0) d.1 name (fun n=>(name,d,(n:Int))) () hl
  (fun rec n h=>by
   simp only[ψ3F.l0,oL,h,dT,cT,φJ,φN,φB h,φS (show n+1<9223372036854775808 by omega)]
   cases d.1[n].1==name<;>simp)
  (fun rec=>by simp[ψ3F.l0])
 have hk:lp ψ3F.l0 (name,d,0)=_:=hk
 unfold ψ3F.f φ1n
 rw[hk,bS]
 cases List.findIdx? (fun f=>f.1==name) d.1<;>rfl
theorem φv (l:List φ4) (name:List UInt8):(φ1n l name=-1∧∀f∈l,f.1≠name)∨∃i:Nat,∃h:i<l.length,φ1n l name=(i:Int)∧l[i].1=name:=by
 unfold φ1n
 cases hf:List.findIdx? (fun f=>f.1==name) l with
 | none=>
  left
  refine ⟨rfl,fun f hm=>?_⟩
  have:=List.findIdx?_eq_none_iff.1 hf f hm
  simpa using this
 | some i=>
  right
  obtain ⟨h,h1,_⟩:=List.findIdx?_eq_some_iff_getElem.1 hf
  exact ⟨i,h,rfl,by simpa using h1⟩
def tick (d:φ1):φ1:=if d.2.2.1 > 0 then (d.1,d.2.1,d.2.2.1 - 1,d.2.2.2) else d
def φV (d:φ1) (act:List φ4→Int×List φ4):φ1×Int:=
 if φ3 d=false then (d,5) else if d.2.2.2=true∨d.2.2.1=0 then ((d.1,d.2.1,d.2.2.1,true),1)
 else (((act d.1).2,(tick d).2),(act d.1).1)
theorem φ80 {d:φ1} (h:φ3 d=true):-1≤d.2.2.1∧d.2.2.1≤100000∧d.1.length≤130:=by
 unfold φ3 at h
 simp only[bA,decide_eq_true_eq] at h
 omega
theorem φ1Y (d:φ1):(tick d).1=d.1:=by unfold tick;split<;>rfl
theorem φIl (d:φ1) (h:dlim d):ψ3D.f d=some (if φ3 d=false then (d,5) else if d.2.2.2=true∨d.2.2.1=0 then ((d.1,d.2.1,d.2.2.1,true),1) else (tick d,0)):=by
 unfold ψ3D.f
 rw[φ9g d (by have:=h.1;omega),φ8p d h]
 simp only[bS]
 rcases bE (φ3 d) with k | k
 ·have hf:=φ80 k
  rcases bE d.2.2.2 with k2 | k2
  ·simp[k,k2]
  ·by_cases k3:d.2.2.1=0
   ·simp[k,k2,k3]
   ·have k4:(d.2.2.1==0)=false:=by simpa using k3
    unfold tick
    by_cases k5:d.2.2.1 > 0
    ·simp[k,k2,k3,k4,k5,φH (show -9223372036854775808≤d.2.2.1 - 1 by omega) (by omega)]
    ·simp[k,k2,k3,k4,k5]
 ·simp[k]
theorem φ5y {C:Type} (d:φ1) (h:dlim d) (c:C) (does:C→φ1→Option (Int×φ1)) (act:List φ4→Int×List φ4) (hd:φ3 d=true→does c (tick d)=some ((act d.1).1,(act d.1).2,(tick d).2)) :
  ((ψ1J.f d).bind fun t1=>(ψD.f d).bind fun t2=>
   bif !t2 then some (t1,5) else
   bif d.2.2.2 then some ((t1.1,t1.2.1,t1.2.2.1,true),1) else
   bif d.2.2.1==0 then some ((t1.1,t1.2.1,t1.2.2.1,true),1) else
   (bif decide (d.2.2.1 > 0) then let y3:=w64 (t1.2.2.1 - 1);some (c,(([],0,0,false):φ1),(t1.1,t1.2.1,y3,t1.2.2.2)) else some (c,([],0,0,false),t1):Option (C×φ1×φ1)).bind fun (x1,x4,x6)=>
   (does x1 x6).bind fun (t4_0,t4_1)=>some (t4_1,t4_0))=some (φV d act):=by
 rw[φ5X d (by have:=h.1;omega),φ5g d h]
 simp only[bS]
 unfold φV
 rcases bE (φ3 d) with k | k
 ·have hf:=φ80 k
  have hd:=hd k
  rcases bE d.2.2.2 with k2 | k2
  ·simp[k,k2]
  ·by_cases k3:d.2.2.1=0
   ·simp[k,k2,k3]
   ·have k4:(d.2.2.1==0)=false:=by simpa using k3
    have e:(bif decide (d.2.2.1 > 0) then some (c,(([],0,0,false):φ1),((d.1,d.2.1,w64 (d.2.2.1 - 1),d.2.2.2):φ1)) else some (c,([],0,0,false),d))=some (c,([],0,0,false),tick d):=by
     unfold tick
     by_cases k5:d.2.2.1 > 0
     ·simp[k5,φH (show -9223372036854775808≤d.2.2.1 - 1 by omega) (by omega)]
     ·simp[k5]
    simp only[k,k4,nZ,cF,e,bS,hd]
    simp[k2,k3]
 ·simp[k]
theorem φ3t {l:List φ4} {i:Nat} (h:i<l.length):inB (i:Int) l.length=true:=by simp[h]
theorem φ40 {l:List φ4} {i:Nat} (h:i<l.length):rdA ([],[],0) l (i:Int)=l[i]:=by rw[φN,φB h]
theorem φJ4 {d:φ1} (h:dlim d):dlim (tick d):=by unfold dlim;rw[φ1Y];exact h
def φ27 (name:List UInt8) (l:List φ4):Int×List φ4:=
 match l.findIdx? (fun f=>f.1==name) with
 | some i=>(0,l.set i ((l.getD i ([],[],0)).1,(l.getD i ([],[],0)).2.1,((l.getD i ([],[],0)).2.1.length:Int)))
 | none=>(3,l)
theorem φ1E {l:List φ4} {name:List UInt8} (h:φ1n l name=-1):l.findIdx? (fun f=>f.1==name)=none:=by
 unfold φ1n at h
 cases e:l.findIdx? (fun f=>f.1==name) with
 | none=>rfl
 | some i=>rw[e] at h;simp only at h;omega
theorem φ16 {l:List φ4} {name:List UInt8} {i:Nat} (h:φ1n l name=(i:Int)):l.findIdx? (fun f=>f.1==name)=some i:=by
 unfold φ1n at h
 cases e:l.findIdx? (fun f=>f.1==name) with
 | none=>rw[e] at h;simp only at h;omega
 | some j=>rw[e] at h;simp only at h;congr 1;omega
theorem φNv (d:φ1) (name:List UInt8) (h:d.1.length<2 ^ 62):ψ19.f d name=some ((φ27 name d.1).1,(φ27 name d.1).2,d.2):=by
 unfold ψ19.f φ27
 rw[φ4n d name h,bS]
 rcases φv d.1 name with ⟨e,_⟩ | ⟨i,hi,e,_⟩
 ·rw[e,φ1E e];rfl
 ·rw[e,φ16 e]
  simp only[dnn (show (0:Int)≤(i:Int) by omega),cF,φ3t hi,cT,φ40 hi,tN,φB hi]
theorem φMN (d:φ1) (name:List UInt8) (h:dlim d):ψ18.f d name=some (φV d (φ27 name)):=by
 have hs:ψ1p.f d name=some (φV d (φ27 name)):=φ5y d h name (fun n x=>ψ19.f x n) (φ27 name) fun _=>by
  show ψ19.f (tick d) name=_
  rw[φNv (tick d) name (by rw[φ1Y];have:=h.1;omega),φ1Y]
 unfold ψ18.f
 rw[hs];rfl
theorem φ6n (d:φ1) (h:dlim d):(∃(x:φ1) (c:Int),ψ3D.f d=some (x,c)∧(c != 0)=true∧∀act,φV d act=(x,c)) ∨
  (φ3 d=true∧ψ3D.f d=some (tick d,0)∧∀act,φV d act=(((act d.1).2,(tick d).2),(act d.1).1)):=by
 rw[φIl d h]
 unfold φV
 rcases bE (φ3 d) with k | k
 ·by_cases k2:d.2.2.2=true∨d.2.2.1=0
  ·left
   refine ⟨(d.1,d.2.1,d.2.2.1,true),1,?_,?_,fun act=>?_⟩
   ·rw[if_neg (by simp[k]),if_pos k2]
   ·rfl
   ·rw[if_neg (by simp[k]),if_pos k2]
  ·right
   refine ⟨k,?_,fun act=>?_⟩
   ·rw[if_neg (by simp[k]),if_neg k2]
   ·rw[if_neg (by simp[k]),if_neg k2]
 ·left
  refine ⟨d,5,?_,?_,fun act=>?_⟩
  ·rw[if_pos k]
  ·rfl
  ·rw[if_pos k]
theorem φGe (d:φ1) (name:List UInt8) (h:dlim d):ψ2q.f d name=some (φV d (φ27 name)):=by
 have hl:d.1.length<2 ^ 62:=by have:=h.1;omega
 unfold ψ2q.f
 rcases φ6n d h with ⟨x,c,e1,e2,e3⟩ | ⟨k,e1,e3⟩
 ·rw[e1,e3,bS];simp only[e2,cT]
 rw[e1,e3,bS]
 simp only[bne_self_eq_false,cF,φ4m d name hl,bS]
 unfold φ27
 rcases φv d.1 name with ⟨e,_⟩ | ⟨i,hi,e,_⟩
 ·rw[e,φ1E e]
  show some (tick d,3)=some ((d.1,(tick d).2),3)
  rw[←φ1Y d]
 ·rw[e,φ16 e]
  have ht:i<(tick d).1.length:=by rw[φ1Y];exact hi
  simp only[dnn (show (0:Int)≤(i:Int) by omega),cF,φ3t hi,φ3t ht,cT,φ40 hi,φ40 ht,tN,φB hi]
  simp only[φ1Y]
def φc (l:List φ4) (i:Nat):List φ4:=l.take i++l.drop (i+1)
theorem φ6a {l:List φ4} {i:Nat} (h:i<l.length):(φc l i).length=l.length - 1:=by
 unfold φc
 rw[lA,lT,lD];omega
def φ1b (l:List φ4) (name:List UInt8):List φ4:=
 match l.findIdx? (fun f=>f.1==name) with
 | some i=>φc l i
 | none=>l
theorem φAN (l:List φ4) (name:List UInt8):(φ1b l name).length≤l.length:=by
 unfold φ1b
 cases e:l.findIdx? (fun f=>f.1==name) with
 | none=>exact κ5 _
 | some i=>
  obtain ⟨h,_⟩:=List.findIdx?_eq_some_iff_getElem.1 e
  have:=φ6a h
  simp only;omega
theorem φDx (l:List φ4) (i:Nat) (h:i<l.length) (hl:l.length<1000000000000) {β:Type} (K:List φ4→Option β) :
  (bif (decide (0≤(i:Int)) && decide ((i:Int)≤(l.length:Int))) then
   bif decide ((([]:List φ4).length+(l.take (i:Int).toNat).length) * 40≤140737488355328) then
   bif (decide (0≤w64 ((i:Int)+1)) && decide (w64 ((i:Int)+1)≤(l.length:Int))) then
   bif decide (((([]:List φ4)++(l.take (i:Int).toNat)).length+(l.drop ((w64 ((i:Int)+1)).toNat)).length) * 40≤140737488355328) then
   K ((([]:List φ4)++(l.take (i:Int).toNat))++(l.drop ((w64 ((i:Int)+1)).toNat))) else none else none else none else none)=K (φc l i):=by
 have hw:w64 ((i:Int)+1)=((i+1:Nat):Int):=φS (by omega)
 rw[hw]
 have c1:(decide (0≤(i:Int)) && decide ((i:Int)≤(l.length:Int)))=true:=by simp;omega
 have c2:(decide (0≤((i+1:Nat):Int)) && decide (((i+1:Nat):Int)≤(l.length:Int)))=true:=by simp;omega
 have c3:(l.take i).length * 40≤140737488355328:=by rw[lT];omega
 have c4:((l.take i).length+(l.drop (i+1)).length) * 40≤140737488355328:=by rw[lT,lD];omega
 simp only[tN,κ9,lN,κV,c1,c2]
 simp only[c3,c4,dT,cT];rfl
theorem φBH (d:φ1) (name:List UInt8) (h:d.1.length<1000000000):ψE.f d name=some (φ1b d.1 name,d.2):=by
 unfold ψE.f φ1b
 rw[φ4n d name (by omega),bS]
 rcases φv d.1 name with ⟨e,_⟩ | ⟨i,hi,e,_⟩
 ·rw[e,φ1E e];rfl
 ·rw[e,φ16 e]
  have c:(i:Int)≥0:=by omega
  simp only[c,dT,cT]
  exact φDx d.1 i hi (by omega) fun l=>some (l,d.2)
theorem φAj (l:List φ4) (i:Nat) (hi:i<l.length) (h:l.length<1000000000):ψ3I.f l (i:Int)=some (φc l i):=by
 unfold ψ3I.f
 exact φDx l i hi (by omega) fun l=>some l
def φ28 (name:List UInt8) (l:List φ4):Int×List φ4:=
 match l.findIdx? (fun f=>f.1==name) with
 | some i=>(0,φc l i)
 | none=>(3,l)
theorem φNH (d:φ1) (name:List UInt8) (h:d.1.length<1000000000):ψr.f d name=some ((φ28 name d.1).1,(φ28 name d.1).2,d.2):=by
 unfold ψr.f φ28
 rw[φ4n d name (by omega),bS,φBH d name h]
 unfold φ1b
 rcases φv d.1 name with ⟨e,_⟩ | ⟨i,hi,e,_⟩
 ·rw[e,φ1E e];rfl
 ·rw[e,φ16 e]
  simp only[dnn (show (0:Int)≤(i:Int) by omega),cF,bS]
theorem φLl (d:φ1) (name:List UInt8) (h:dlim d):ψq.f d name=some (φV d (φ28 name)):=by
 have hs:ψ1n.f d name=some (φV d (φ28 name)):=φ5y d h name (fun n x=>ψr.f x n) (φ28 name) fun _=>by
  show ψr.f (tick d) name=_
  rw[φNH (tick d) name (by rw[φ1Y];exact h.1),φ1Y]
 unfold ψq.f
 rw[hs];rfl
theorem φGm (d:φ1) (name:List UInt8) (h:dlim d):ψ2h.f d name=some (φV d (φ28 name)):=by
 have hl:=h.1
 unfold ψ2h.f
 rcases φ6n d h with ⟨x,c,e1,e2,e3⟩ | ⟨k,e1,e3⟩
 ·rw[e1,e3,bS];simp only[e2,cT]
 rw[e1,e3,bS]
 simp only[bne_self_eq_false,cF,φ4m d name (show d.1.length<2 ^ 62 by omega),bS]
 unfold φ28
 rcases φv d.1 name with ⟨e,_⟩ | ⟨i,hi,e,_⟩
 ·rw[e,φ1E e]
  show some (tick d,3)=some ((d.1,(tick d).2),3)
  rw[←φ1Y d]
 ·rw[e,φ16 e]
  simp only[dnn (show (0:Int)≤(i:Int) by omega),cF,φ1Y,φAj d.1 i hi hl,bS]
def φ3v (name:List UInt8) (n:Int) (l:List φ4):Int×List φ4:=
 match l.findIdx? (fun f=>f.1==name) with
 | some i=>if 0≤n∧n≤((l.getD i ([],[],0)).2.1.length:Int) then
   (0,l.set i ((l.getD i ([],[],0)).1,(l.getD i ([],[],0)).2.1.take n.toNat,if n<(l.getD i ([],[],0)).2.2 then n else (l.getD i ([],[],0)).2.2))
  else (5,l)
 | none=>(3,l)
theorem φLQ (d:φ1) (name:List UInt8) (n:Int) (h:d.1.length<1000000000):ψ1B.f d name n=some ((φ3v name n d.1).1,(φ3v name n d.1).2,d.2):=by
 unfold ψ1B.f φ3v
 rw[φ4n d name (by omega),bS]
 rcases φv d.1 name with ⟨e,_⟩ | ⟨i,hi,e,_⟩
 ·rw[e,φ1E e];rfl
 ·rw[e,φ16 e]
  simp only[dnn (show (0:Int)≤(i:Int) by omega),cF,φ3t hi,cT,φ40 hi,φ1c,bS,φB hi]
  by_cases c:0≤n∧n≤(d.1[i].2.1.length:Int)
  ·have c2:(decide (0≤n) && decide (n≤(d.1[i].2.1.length:Int)))=true:=by simp[c.1,c.2]
   simp only[c,c2,dT,nZ,cF,cT,tN,φOD hi,List.set_set,if_true,and_self,Bool.and_self]
  ·simp[c]
theorem φLg (d:φ1) (name:List UInt8) (n:Int) (h:dlim d):ψ1A.f d name n=some (φV d (φ3v name n)):=by
 have hs:ψ1q.f d (name,n)=some (φV d (φ3v name n)):=φ5y d h (name,n) (fun c x=>ψ1B.f x c.1 c.2) (φ3v name n) fun _=>by
  show ψ1B.f (tick d) name n=_
  rw[φLQ (tick d) name n (by rw[φ1Y];exact h.1),φ1Y]
 unfold ψ1A.f
 rw[hs];rfl
def φ2Q (cap:Int) (name text:List UInt8) (l:List φ4):Int×List φ4:=
 match l.findIdx? (fun f=>f.1==name) with
 | some i=>if (text.length:Int) > cap - (φI l:Int) then (2,l) else
   (0,l.set i ((l.getD i ([],[],0)).1,(l.getD i ([],[],0)).2.1++text,(l.getD i ([],[],0)).2.2))
 | none=>(3,l)
theorem φB3 {l:List φ4} {f:φ4} (h:f∈l):f.2.1.length≤φI l:=φDn (fun f=>f.2.1.length) h
theorem φ8d {d:φ1} (h:φ3 d=true):0≤d.2.1∧d.2.1≤100000∧(φI d.1:Int)≤d.2.1:=by
 unfold φ3 at h
 simp only[bA,decide_eq_true_eq] at h
 omega
theorem φ9L (d:φ1):(tick d).2.1=d.2.1:=by unfold tick;split<;>rfl
theorem φMA (d:φ1) (name text:List UInt8) (h:dlim d) (hc:0≤d.2.1∧d.2.1≤100000) (ht:text.length<1000000000000):ψ1.f d name text=some ((φ2Q d.2.1 name text d.1).1,(φ2Q d.2.1 name text d.1).2,d.2):=by
 obtain ⟨h1,h2,h3⟩:=h
 unfold ψ1.f φ2Q
 rw[φ4n d name (by omega),bS,φDa d (by omega) (by omega)]
 rcases φv d.1 name with ⟨e,_⟩ | ⟨i,hi,e,_⟩
 ·rw[e,φ1E e];rfl
 ·rw[e,φ16 e]
  have hm:=φB3 (gM hi)
  have c1:d.1[i].2.1.length+text.length≤9223372036854775807:=by omega
  simp only[dnn (show (0:Int)≤(i:Int) by omega),cF,bS,φ3t hi,cT,φ40 hi,φB hi,c1,dT,tN]
  rw[φH (by omega) (by omega)]
  by_cases c:(text.length:Int) > d.2.1 - (φI d.1:Int)
  ·simp[c]
  ·simp[c]
theorem φO0 (d:φ1) (name text:List UInt8) (h:dlim d) (ht:text.length<1000000000000):ψ0.f d name text=some (φV d (φ2Q d.2.1 name text)):=by
 have hs:ψ1l.f d (name,text)=some (φV d (φ2Q d.2.1 name text)):=φ5y d h (name,text) (fun c x=>ψ1.f x c.1 c.2) (φ2Q d.2.1 name text) fun k=>by
  have hc:=φ8d k
  show ψ1.f (tick d) name text=_
  rw[φMA (tick d) name text (φJ4 h) (by rw[φ9L];omega) ht,φ1Y,φ9L]
 unfold ψ0.f
 rw[hs];rfl
theorem φB8 (d:φ1) (name text:List UInt8) (h:dlim d) (htx:text.length<1000000000000):ψ2H.f d name text=some (φV d (φ2Q d.2.1 name text)):=by
 have h1:=h.1
 have h2:=h.2.1
 unfold ψ2H.f
 rcases φ6n d h with ⟨x,c,e1,e2,e3⟩ | ⟨k,e1,e3⟩
 ·rw[e1,e3,bS];simp only[e2,cT]
 rw[e1,e3,bS]
 have hc:=φ8d k
 simp only[bne_self_eq_false,cF,φ4m d name (show d.1.length<2 ^ 62 by omega),bS,φEh d (show d.1.length<2 ^ 62 by omega) (show φI d.1<2 ^ 62 by omega)]
 unfold φ2Q
 rcases φv d.1 name with ⟨e,_⟩ | ⟨i,hi,e,_⟩
 ·rw[e,φ1E e]
  show some (tick d,3)=some ((d.1,(tick d).2),3)
  rw[←φ1Y d]
 ·rw[e,φ16 e]
  have ht:i<(tick d).1.length:=by rw[φ1Y];exact hi
  have hm:=φB3 (gM hi)
  have c1:d.1[i].2.1.length+text.length≤9223372036854775807:=by omega
  simp only[dnn (show (0:Int)≤(i:Int) by omega),cF,φ3t hi,φ3t ht,cT,φ40 hi,φ40 ht,φB hi,c1,dT,tN]
  rw[φH (by omega) (by omega)]
  simp only[φ1Y]
  by_cases c:(text.length:Int) > d.2.1 - (φI d.1:Int)
  ·simp only[c,dT,cT,if_true]
   rw[←φ1Y d]
  ·simp only[c,dF,cF,if_false]
def putF (l:List φ4) (f:φ4):List φ4:=
 let k:=(l.takeWhile fun x=>Op.bytesLess x.1 f.1).length
 l.take k++[f]++l.drop k
theorem φGh (d:φ1) (f:φ4) (h:d.1.length<1000000000):ψF.f d f=some (putF d.1 f,d.2):=by
 have key:=φj (step:=ψF.l0) (fun n (_:Unit)=>(d,f,(n:Int))) d.1.length (fun n _=>(d,f,((n+((d.1.drop n).takeWhile fun x=>Op.bytesLess x.1 f.1).length:Nat):Int))) (fun _ _=>True)
  (fun rec n s hn _ ih=>by
   rcases κ1 n d.1.length with h2 | h2
   ·rw[φIB _ _ _ h2]
    simp only[ψF.l0,oL,h2,dT,cT,φJ,φN,φB h2,φS (show n+1<9223372036854775808 by omega)]
    cases Op.bytesLess d.1[n].1 f.1
    ·simp
    ·simp only[cT,if_true]
     rw[ih () h2 trivial]
     congr 3;congr 1;omega
   ·have:n=d.1.length:=by omega
    subst this
    simp[ψF.l0])
  (by omega) 0 () (κ4 _) trivial
 have key:lp ψF.l0 (d,f,0)=_:=key
 unfold ψF.f putF
 rw[key,bS]
 simp only[κC,κV]
 have htw:(d.1.takeWhile fun x=>Op.bytesLess x.1 f.1).length≤d.1.length:=(List.takeWhile_sublist _).length_le
 generalize (d.1.takeWhile fun x=>Op.bytesLess x.1 f.1).length=k at *
 have c1:(decide (0≤(k:Int)) && decide ((k:Int)≤(d.1.length:Int)))=true:=by simp;omega
 have c2:(d.1.take k).length * 40≤140737488355328:=by rw[lT];omega
 have c3:((d.1.take k).length+[f].length) * 40≤140737488355328:=by rw[lT];exact φ5F (by omega)
 have c4:((d.1.take k++[f]).length+(d.1.drop k).length) * 40≤140737488355328:=by
  rw[lA,lT,lD]
  show (min k d.1.length+1+(d.1.length - k)) * 40≤_
  omega
 simp only[tN,κ9,lN,κV,c1]
 simp only[c2,c3,c4,dT,cT]
def φ34 (f:φ4) (s:List φ4×Bool) (x:φ4):List φ4×Bool:=
 if s.2=false∧leK x.1 f.1=false then (s.1++[f]++[x],true) else (s.1++[x],s.2)
theorem φE7 (f:φ4) (s:List φ4×Bool) (x:φ4):(φ34 f s x).1.length≤s.1.length+2:=by
 unfold φ34;split<;>simp<;>omega
theorem φCn (f:φ4):∀(l out:List φ4),l.foldl (φ34 f) (out,true)=(out++l,true)
 | [],out=>by simp
 | x::l,out=>by
  have e1:φ34 f (out,true) x=(out++[x],true):=by unfold φ34;rw[if_neg (by simp)]
  rw[κO,e1,φCn f l];simp
theorem φFP (f:φ4):∀(l out:List φ4),(let s:=l.foldl (φ34 f) (out,false);if s.2=true then s.1 else s.1++[f])=out++insB l f
 | [],out=>by simp[insB]
 | x::l,out=>by
  rw[κO]
  cases hk:leK x.1 f.1
  ·have e1:φ34 f (out,false) x=(out++[f]++[x],true):=by unfold φ34;rw[if_pos ⟨rfl,hk⟩]
   rw[e1,φCn]
   simp[insB,hk]
  ·have e1:φ34 f (out,false) x=(out++[x],false):=by unfold φ34;rw[if_neg (by simp[hk])]
   rw[e1,φFP f l (out++[x])]
   simp[insB,hk]
theorem φAM (l:List φ4) (f:φ4) (hl:l.length<1000000000):ψ3G.f l f=some (insB l f):=by
 have hk:=φ3g (step:=ψ3G.l0) l (φ34 f) (fun n (s:List φ4×Bool)=>(l,f,s.1,s.2,(n:Int))) (fun s=>(f,s.1,s.2)) (fun n s=>s.1.length≤2 * n) (by omega)
  (fun rec n s h hi=>by
   have hi:s.1.length≤2 * n:=hi
   have hq:s.1.length<1000000000000:=by omega
   have hb1:(s.1.length+[f].length) * 40≤140737488355328:=φ5F (Nat.lt_succ_of_lt hq)
   have hb2:(s.1.length+([l[n]]:List φ4).length) * 40≤140737488355328:=φ5F (Nat.lt_succ_of_lt hq)
   have hb3:((s.1++[f]).length+([l[n]]:List φ4).length) * 40≤140737488355328:=by rw[lA];exact φ5F (Nat.succ_lt_succ hq)
   have hw:w64 ((n:Int)+1)=(n:Int)+1:=φH (by omega) (by omega)
   have hle:(Op.bytesLess l[n].1 f.1 || l[n].1==f.1)=leK l[n].1 f.1:=rfl
   simp only[ψ3G.l0,oL,h,dT,cT,φJ,φN,φB h,φ2h,hle]
   unfold φ34
   rcases bE s.2 with h2 | h2
   ·simp only[h2,cF,nZ,bS,φJ,φN,φB h,φ2h,h,dT,cT,hb2]
    simp[hw]
   ·rcases bE (leK l[n].1 f.1) with h3 | h3
    ·simp only[h2,h3,cF,nZ,nF,bS,φJ,φN,φB h,φ2h,h,dT,cT,hb2]
     simp[hw]
    ·simp only[h2,h3,cF,nZ,nF,bS,φJ,φN,φB h,φ2h,h,dT,cT,hb1,hb3]
     simp[hw])
  (fun n s h hi=>by have:=φE7 f s l[n];have hi:s.1.length≤2 * n:=hi;show _≤2 * (n+1);omega)
  (fun rec s hi=>by simp[ψ3G.l0]) ([],false) (by simp)
 have hk:lp ψ3G.l0 (l,f,[],false,0)=_:=hk
 have hlen:∀(m:List φ4) (s:List φ4×Bool),(m.foldl (φ34 f) s).1.length≤s.1.length+2 * m.length:=by
  intro m
  induction m with
  | nil=>intro s;simp
  | cons x m ih=>intro s;rw[κO];have:=ih (φ34 f s x);have:=φE7 f s x;simp only[lC];omega
 unfold ψ3G.f
 rw[hk,bS]
 have hf:=φFP f l []
 have hb:=hlen l ([],false)
 generalize l.foldl (φ34 f) ([],false)=s at *
 obtain ⟨s1,s2⟩:=s
 simp only[lN,κV] at hb
 have hb1:(s1.length+[f].length) * 40≤140737488355328:=φ5F (by omega)
 cases s2
 ·simp only[κ2,if_false,κ9] at hf
  simp only[nF,cT,hb1,dT,hf]
 ·simp only[if_true,κ9] at hf
  simp[hf]
theorem φEM {α:Type} {f g:α→Bool}:∀{l:List α},(∀x∈l,f x=g x)→l.takeWhile f=l.takeWhile g
 | [],_=>rfl
 | x::l,h=>by
  rw[List.takeWhile_cons,List.takeWhile_cons,h x (by simp),φEM fun y hy=>h y (mC _ hy)]
theorem φGr {l:List φ4} {f:φ4} (h:∀x∈l,x.1≠f.1):putF l f=insB l f:=by
 unfold putF insB
 have:(l.takeWhile fun x=>Op.bytesLess x.1 f.1)=l.takeWhile fun x=>leK x.1 f.1:=φEM fun x hx=>by
  unfold leK
  have:(x.1==f.1)=false:=by simpa using h x hx
  rw[this,Bool.or_false]
 rw[this]
def φ2b (name:List UInt8) (l:List φ4):Int×List φ4:=
 if φ1k name=false then (5,l) else if φ1n l name≥0 then (4,l) else if 130≤l.length then (2,l) else (0,insB l (name,[],0))
theorem φJt (d:φ1) (name:List UInt8) (h:d.1.length<1000000000) (hn:name.length<2 ^ 62):ψ5.f d name=some ((φ2b name d.1).1,(φ2b name d.1).2,d.2):=by
 unfold ψ5.f φ2b
 rw[φAV name hn,bS,φ4n d name (by omega)]
 rcases bE (φ1k name) with k | k
 rotate_left
 ·simp[k]
 simp only[k,nZ,cF,bS,κ8,if_false]
 rcases φv d.1 name with ⟨e,hno⟩ | ⟨i,hi,e,_⟩
 ·have c:¬φ1n d.1 name≥0:=by omega
  simp only[c,dF,cF,if_false]
  by_cases c2:130≤d.1.length
  ·have c3:(d.1.length:Int)≥130:=by omega
   simp[c2,c3]
  ·have c3:¬(d.1.length:Int)≥130:=by omega
   simp only[c2,c3,dF,cF,if_false,φGh d _ h,bS,φGr (l:=d.1) (f:=(name,[],0)) hno]
 ·have c:φ1n d.1 name≥0:=by omega
  simp[c]
theorem φNu (d:φ1) (name:List UInt8) (h:dlim d) (hn:name.length<2 ^ 62):ψ4.f d name=some (φV d (φ2b name)):=by
 have hs:ψ1m.f d name=some (φV d (φ2b name)):=φ5y d h name (fun n x=>ψ5.f x n) (φ2b name) fun _=>by
  show ψ5.f (tick d) name=_
  rw[φJt (tick d) name (by rw[φ1Y];exact h.1) hn,φ1Y]
 unfold ψ4.f
 rw[hs];rfl
theorem φHR (d:φ1) (name:List UInt8) (h:dlim d) (hn:name.length<2 ^ 62):ψ2J.f d name=some (φV d (φ2b name)):=by
 have hl:=h.1
 unfold ψ2J.f
 rcases φ6n d h with ⟨x,c,e1,e2,e3⟩ | ⟨k,e1,e3⟩
 ·rw[e1,e3,bS];simp only[e2,cT]
 rw[e1,e3,bS]
 simp only[bne_self_eq_false,cF,φAH name hn,φ4m d name (show d.1.length<2 ^ 62 by omega),bS]
 unfold φ2b
 have ht:(d.1,(tick d).2)=tick d:=by rw[←φ1Y d]
 rcases bE (φ1k name) with k | k
 rotate_left
 ·simp[k,ht]
 simp only[k,nZ,cF,κ8,if_false]
 by_cases c:φ1n d.1 name≥0
 ·simp[c,ht]
 simp only[c,dF,cF,if_false]
 by_cases c2:130≤d.1.length
 ·have c3:(d.1.length:Int)≥130:=by omega
  simp[c2,c3,ht]
 ·have c3:¬(d.1.length:Int)≥130:=by omega
  simp only[c2,c3,dF,cF,if_false,φ1Y,φAM d.1 _ hl,bS]
theorem φGj:∀(l:List φ4) (p:List UInt8),φ3U (some p) l=true→(∀x∈l,Op.bytesLess p x.1=true)∧l.Pairwise (fun a b=>Op.bytesLess a.1 b.1=true)
 | [],p,_=>⟨by simp,List.Pairwise.nil⟩
 | f::l,p,h=>by
  simp only[φ3U,bA] at h
  obtain ⟨h1,h2⟩:=φGj l f.1 h.2
  refine ⟨fun x hx=>?_,List.Pairwise.cons h1 h2⟩
  rcases mc.1 hx with e | hx
  ·rw[e];exact h.1
  ·exact φ7g _ _ _ h.1 (h1 x hx)
theorem φHo (l:List φ4) (h:φ3U none l=true):l.Pairwise (fun a b=>Op.bytesLess a.1 b.1=true):=by
 cases l with
 | nil=>exact List.Pairwise.nil
 | cons f l=>
  obtain ⟨h1,h2⟩:=φGj l f.1 h
  exact List.Pairwise.cons h1 h2
theorem φ5k {d:φ1} (h:φ3 d=true):d.1.Pairwise (fun a b=>Op.bytesLess a.1 b.1=true):=by
 unfold φ3 φ5Z at h
 simp only[bA] at h
 exact φHo _ h.2.2.2.2.2
theorem φ9S {l:List φ4} {i:Nat} (h:i<l.length):l=l.take i++l[i]::l.drop (i+1):=by
 rw[←dG h,κE]
theorem φ5Y (l:List φ4) (i:Nat):(φc l i).Sublist l:=by
 unfold φc
 have:(l.take i++l.drop (i+1)).Sublist (l.take i++l.drop i):=List.Sublist.append (List.Sublist.refl _) (List.drop_sublist_drop_left l (by omega))
 rw[κE] at this
 exact this
theorem φB9 {l:List φ4} {i:Nat} (h:i<l.length) (hp:l.Pairwise (fun a b=>Op.bytesLess a.1 b.1=true)):∀x∈φc l i,x.1≠l[i].1:=by
 rw[φ9S h,κe] at hp
 obtain ⟨_,h2,h3⟩:=hp
 intro x hx
 rcases mA.1 hx with hx | hx
 ·exact φ6N (h3 x hx _ κ0)
 ·exact (φ6N ((κY.1 h2).1 x hx)).symm
theorem φDy {l:List φ4} {name:List UInt8} (hp:l.Pairwise (fun a b=>Op.bytesLess a.1 b.1=true)):∀x∈φ1b l name,x.1≠name:=by
 unfold φ1b
 rcases φv l name with ⟨e,hno⟩ | ⟨i,hi,e,hn⟩
 ·rw[φ1E e];exact hno
 ·rw[φ16 e,←hn];exact φB9 hi hp
theorem φD1 {l:List φ4} {name:List UInt8} (h:∀x∈l,x.1≠name):φ1b l name=l:=by
 unfold φ1b
 have:l.findIdx? (fun f=>f.1==name)=none:=by
  rw[List.findIdx?_eq_none_iff]
  intro x hx
  simpa using h x hx
 rw[this]
theorem φLp {l:List φ4} {i:Nat} (h:i<l.length) (hp:l.Pairwise (fun a b=>Op.bytesLess a.1 b.1=true)):putF (φc l i) l[i]=l:=by
 have hs:=hp
 rw[φ9S h,κe] at hs
 obtain ⟨_,h2,h3⟩:=hs
 have e1:((φc l i).takeWhile fun x=>Op.bytesLess x.1 l[i].1)=l.take i:=by
  unfold φc
  rw[List.takeWhile_append_of_pos (fun x hx=>h3 x hx _ κ0)]
  have:(l.drop (i+1)).takeWhile (fun x=>Op.bytesLess x.1 l[i].1)=[]:=by
   cases e:l.drop (i+1) with
   | nil=>rfl
   | cons y r=>
    rw[List.takeWhile_cons,φG8 _ _ ((κY.1 h2).1 y (by rw[e];simp))];rfl
  rw[this,κ7]
 unfold putF
 rw[e1]
 have hk:(l.take i).length=i:=by rw[lT];omega
 simp only[hk]
 unfold φc
 rw[List.take_append_of_le_length (by omega),List.take_take,Nat.min_self,List.drop_append_of_le_length (by omega),List.drop_take,Nat.sub_self,List.take_zero,κ9,aA,List.singleton_append]
 exact (φ9S h).symm
def φ2E (src dst:List UInt8) (l:List φ4):Int×List φ4:=
 if φ1k dst=false then (5,l) else
 match l.findIdx? (fun f=>f.1==src) with
 | some i=>(0,if src=dst then l else insB (φ1b (φc l i) dst) (dst,(l.getD i ([],[],0)).2))
 | none=>(3,l)
theorem φJw (d:φ1) (src dst:List UInt8) (h:d.1.length<1000000000) (hn:dst.length<2 ^ 62) (hp:d.1.Pairwise (fun a b=>Op.bytesLess a.1 b.1=true)):ψt.f d src dst=some ((φ2E src dst d.1).1,(φ2E src dst d.1).2,d.2):=by
 unfold ψt.f φ2E
 rw[φ4n d src (by omega),bS,φAV dst hn,bS,φBH d src h]
 rcases bE (φ1k dst) with k | k
 rotate_left
 ·simp[k]
 simp only[k,nZ,cF,κ8,if_false]
 rcases φv d.1 src with ⟨e,_⟩ | ⟨i,hi,e,hsrc⟩
 ·rw[e,φ1E e];rfl
 ·have e0:φ1b d.1 src=φc d.1 i:=by unfold φ1b;rw[φ16 e]
  rw[e,φ16 e,e0]
  have hl:=φ6a hi
  have hl2:=φAN (φc d.1 i) dst
  simp only[dnn (show (0:Int)≤(i:Int) by omega),cF,φ3t hi,cT,φ40 hi,bS,φB hi,φBH (φc d.1 i,d.2) dst (show (φc d.1 i).length<1000000000 by omega),φGh (φ1b (φc d.1 i) dst,d.2) (dst,d.1[i].2.1,d.1[i].2.2) (show (φ1b (φc d.1 i) dst).length<1000000000 by omega)]
  by_cases c:src=dst
  ·simp only[c,if_true]
   have hd:d.1[i].1=dst:=by rw[hsrc,c]
   have e2:φ1b (φc d.1 i) dst=φc d.1 i:=φD1 (by rw[←hd];exact φB9 hi hp)
   have e3:putF (φc d.1 i) (dst,d.1[i].2.1,d.1[i].2.2)=d.1:=by
    have:=φLp hi hp
    rw[←hd];exact this
   rw[e2,e3]
  ·simp only[c,if_false]
   rw[φGr (l:=φ1b (φc d.1 i) dst) (f:=(dst,d.1[i].2.1,d.1[i].2.2)) (φDy (hp.sublist (φ5Y d.1 i)))]
theorem φKA (d:φ1) (src dst:List UInt8) (h:dlim d) (hn:dst.length<2 ^ 62):ψs.f d src dst=some (φV d (φ2E src dst)):=by
 have hs:ψ1o.f d (src,dst)=some (φV d (φ2E src dst)):=φ5y d h (src,dst) (fun c x=>ψt.f x c.1 c.2) (φ2E src dst) fun k=>by
  show ψt.f (tick d) src dst=_
  rw[φJw (tick d) src dst (by rw[φ1Y];exact h.1) hn (by rw[φ1Y];exact φ5k k),φ1Y]
 unfold ψs.f
 rw[hs];rfl
theorem φNg (d:φ1) (src dst:List UInt8) (h:dlim d) (hn:dst.length<2 ^ 62):ψ2i.f d src dst=some (φV d (φ2E src dst)):=by
 have hl:=h.1
 unfold ψ2i.f
 rcases φ6n d h with ⟨x,c,e1,e2,e3⟩ | ⟨k,e1,e3⟩
 ·rw[e1,e3,bS];simp only[e2,cT]
 rw[e1,e3,bS]
 have hp:=φ5k k
 simp only[bne_self_eq_false,cF,φAH dst hn,φ4m d src (show d.1.length<2 ^ 62 by omega),bS]
 unfold φ2E
 have ht:(d.1,(tick d).2)=tick d:=by rw[←φ1Y d]
 rcases bE (φ1k dst) with k2 | k2
 rotate_left
 ·simp[k2,ht]
 simp only[k2,nZ,cF,κ8,if_false]
 rcases φv d.1 src with ⟨e,_⟩ | ⟨i,hi,e,hsrc⟩
 ·rw[e,φ1E e]
  show some (tick d,3)=some ((d.1,(tick d).2),3)
  rw[←φ1Y d]
 ·rw[e,φ16 e]
  have hlr:=φ6a hi
  have hl2:=φAN (φc d.1 i) dst
  simp only[dnn (show (0:Int)≤(i:Int) by omega),cF]
  by_cases c:src=dst
  ·simp[c,ht]
  have c1:(src==dst)=false:=by simpa using c
  simp only[c,c1,cF,if_false,φ3t hi,cT,φ40 hi,φB hi,φ1Y,φAj d.1 i hi hl,bS,φ4m (φc d.1 i,(tick d).2) dst (show (φc d.1 i).length<2 ^ 62 by omega)]
  rcases φv (φc d.1 i) dst with ⟨e',hno⟩ | ⟨j,hj,e',hdst⟩
  ·have c2:¬φ1n (φc d.1 i) dst≥0:=by omega
   simp only[c2,dF,cF,bS,φAM (φc d.1 i) _ (show (φc d.1 i).length<1000000000 by omega),φD1 hno]
  ·have c2:φ1n (φc d.1 i) dst≥0:=by omega
   have e4:φ1b (φc d.1 i) dst=φc (φc d.1 i) j:=by unfold φ1b;rw[φ16 e']
   rw[e4] at hl2
   simp only[c2,dT,cT]
   simp only[e',φAj (φc d.1 i) j hj (by omega),bS,φAM (φc (φc d.1 i) j) _ (show (φc (φc d.1 i) j).length<1000000000 by omega),e4]
theorem φAX (t:TxnT) (h1:t.2.1.length<1000000000000) (h2:t.2.2.length<1000000000000):ψ1O.f t=some t:=by
 unfold ψ1O.f ψ1M.f
 have c1:t.2.1.length * 24≤140737488355328:=by omega
 have c2:t.2.2.length * 40≤140737488355328:=by omega
 simp[c1,c2]
def φ2M (t:TxnT) (p:PutT):TxnT×Bool:=
 if t.1=true∧φ2a p=true∧(netW (t.2.2++[p])).length≤8∧t.2.2.length<50 then ((t.1,t.2.1,t.2.2++[p]),true) else (t,false)
theorem φLd (t:TxnT) (p:PutT) (h1:t.2.1.length<1000000000) (h2:t.2.2.length<1000000000):ψ1D.f t p=some (φ2M t p):=by
 have hc:=φAX t (by omega) (by omega)
 have hb:(t.2.2.length+([p]:List PutT).length) * 40≤140737488355328:=φ5F (by omega)
 have hn:ψb.f (t.1,t.2.1,t.2.2++[p])=some (netW (t.2.2++[p])):=φCZ (t.1,t.2.1,t.2.2++[p]) (by show (t.2.2++[p]).length<_;rw[lA];show _+1<_;omega)
 have hl:(t.2.2++[p]).length=t.2.2.length+1:=lA
 unfold ψ1D.f φ2M
 simp only[hc,bS,hb,dT,cT,φA2,hn]
 rcases bE t.1 with k | k
 rotate_left
 ·simp[k]
 rcases bE (φ2a p) with k2 | k2
 rotate_left
 ·simp[k,k2]
 simp only[k,k2,nZ,cF,true_and]
 by_cases c:(netW (t.2.2++[p])).length≤8
 rotate_left
 ·have c1:((netW (t.2.2++[p])).length:Int) > 8:=by omega
  simp only[c,c1,dT,cT,false_and,if_false]
 have c1:¬((netW (t.2.2++[p])).length:Int) > 8:=by omega
 by_cases c2:t.2.2.length<50
 ·have c3:¬(((t.2.2++[p]).length:Nat):Int) > 50:=by omega
  simp only[c,c1,c2,c3,dF,cF,and_self,if_true]
 ·have c3:(((t.2.2++[p]).length:Nat):Int) > 50:=by omega
  simp only[c,c1,c2,c3,dT,dF,cT,cF,and_false,if_false]
theorem φAn {n:Nat} (h:n<9223372036854775808):IntKind.wrap .i64 (n:Int)=n:=φ3i h
theorem φAz {n:Nat} (h:n<4294967296):IntKind.wrap .u32 (n:Int)=n:=by
 unfold IntKind.wrap
 simp only[IntKind.bits,IntKind.signed]
 simp;omega
theorem φFN (a b:Nat) (ha:a<2 ^ 63) (hb:b<2 ^ 63):bits (fun _ a b=>a ^^^ b) .i64 (a:Int) (b:Int)=((a ^^^ b:Nat):Int):=by
 unfold bits
 have h:a ^^^ b<2 ^ 63:=Nat.xor_lt_two_pow ha hb
 have e:(BitVec.ofInt 64 (a:Int) ^^^ BitVec.ofInt 64 (b:Int)).toNat=a ^^^ b:=by
  rw[BitVec.ofInt_natCast,BitVec.ofInt_natCast,BitVec.toNat_xor,BitVec.toNat_ofNat,BitVec.toNat_ofNat,κc (by omega),κc (by omega)]
 show IntKind.wrap .i64 ((BitVec.ofInt 64 (a:Int) ^^^ BitVec.ofInt 64 (b:Int)).toNat:Int)=_
 rw[e]
 exact φAn (by omega)
theorem φC1 (a b:Nat) (ha:a<2 ^ 32) (hb:b<2 ^ 32):bits (fun _ a b=>a ^^^ b) .u32 (a:Int) (b:Int)=((a ^^^ b:Nat):Int):=by
 unfold bits
 have h:a ^^^ b<2 ^ 32:=Nat.xor_lt_two_pow ha hb
 have e:(BitVec.ofInt 32 (a:Int) ^^^ BitVec.ofInt 32 (b:Int)).toNat=a ^^^ b:=by
  rw[BitVec.ofInt_natCast,BitVec.ofInt_natCast,BitVec.toNat_xor,BitVec.toNat_ofNat,BitVec.toNat_ofNat,κc (by omega),κc (by omega)]
 show IntKind.wrap .u32 ((BitVec.ofInt 32 (a:Int) ^^^ BitVec.ofInt 32 (b:Int)).toNat:Int)=_
 rw[e]
 exact φAz (by omega)
theorem φM6 (a:Nat) (ha:a<2 ^ 32):bits (fun _ a b=>a &&& b) .u32 (a:Int) 1=((a % 2:Nat):Int):=by
 unfold bits
 have e:(BitVec.ofInt 32 (a:Int) &&& BitVec.ofInt 32 ((1:Nat):Int)).toNat=a % 2:=by
  rw[BitVec.ofInt_natCast,BitVec.ofInt_natCast,BitVec.toNat_and,BitVec.toNat_ofNat,BitVec.toNat_ofNat,κc (by omega)]
  exact Nat.and_one_is_mod a
 show IntKind.wrap .u32 ((BitVec.ofInt 32 (a:Int) &&& BitVec.ofInt 32 ((1:Nat):Int)).toNat:Int)=_
 rw[e]
 exact φAz (by omega)
def crc1 (c:Nat):Nat:=if c % 2=1 then (c / 2) ^^^ 2197175160 else c / 2
def crcK:Nat→Nat→Nat
 | 0,c=>c
 | k+1,c=>crcK k (crc1 c)
def crcB (c:Nat) (b:UInt8):Nat:=crcK 8 (c ^^^ b.toNat)
def crcN (s:List UInt8):Nat:=s.foldl crcB 4294967295
def crcT (s:List UInt8):Int:=((4294967295 - crcN s:Nat):Int)
theorem φAw {c:Nat} (h:c<2 ^ 32):crc1 c<2 ^ 32:=by
 unfold crc1
 split
 ·exact Nat.xor_lt_two_pow (by omega) (by decide)
 ·omega
theorem φE5:∀(k:Nat) {c:Nat},c<2 ^ 32→crcK k c<2 ^ 32
 | 0,_,h=>h
 | k+1,_,h=>φE5 k (φAw h)
theorem φA3 {c:Nat} (h:c<2 ^ 32) (b:UInt8):crcB c b<2 ^ 32:=
 φE5 8 (Nat.xor_lt_two_pow h (by have:=b.toNat_lt;omega))
theorem φBC:∀(s:List UInt8) {c:Nat},c<2 ^ 32→s.foldl crcB c<2 ^ 32
 | [],_,h=>h
 | b::s,_,h=>φBC s (φA3 h b)
theorem φ4o (s:List UInt8):0≤crcT s∧crcT s≤4294967295:=by unfold crcT;omega
theorem φJH (s:List UInt8) (c:Nat) (i:Int) (hc:c<2 ^ 32):lp ψ2I.l2 (s,(c:Int),i,0)=some (s,((crcK 8 c:Nat):Int),i):=by
 have:=φj (step:=ψ2I.l2) (fun n (c:Nat)=>(s,(c:Int),i,(n:Int))) 8 (fun n c=>(s,((crcK (8 - n) c:Nat):Int),i)) (fun _ c=>c<2 ^ 32)
  (fun rec n c hn hc ih=>by
   rcases κ1 n 8 with h | h
   ·have h8:(n:Int)<8:=by omega
    have hw:w64 ((n:Int)+1)=((n+1:Nat):Int):=φS (by omega)
    have e1:w64 (Int.tdiv (c:Int) 2)=((c / 2:Nat):Int):=by
     rw[show Int.tdiv (c:Int) 2=((c / 2:Nat):Int) from rfl];exact φ3i (by omega)
    have e2:Int.tmod (c:Int) 2=((c % 2:Nat):Int):=rfl
    have e3:bits (fun _ a b=>a ^^^ b) .i64 ((c / 2:Nat):Int) 2197175160=(((c / 2) ^^^ 2197175160:Nat):Int):=φFN (c / 2) 2197175160 (by omega) (by decide)
    have e4:crcK (8 - n) c=crcK (8 - (n+1)) (crc1 c):=by
     rw[show 8 - n=(8 - (n+1))+1 by omega];rfl
    have ih:=ih (crc1 c) h (φAw hc)
    rw[e4,←ih]
    simp only[ψ2I.l2,h8,dT,cT,e1,e2]
    unfold crc1
    by_cases k:c % 2=1
    ·have k2:(((c % 2:Nat):Int)==1)=true:=by rw[k];rfl
     simp only[k2,cT,e3,bS,hw]
     rw[if_pos k]
    ·have k2:(((c % 2:Nat):Int)==1)=false:=by simp;omega
     simp only[k2,cF,bS,hw]
     rw[if_neg k]
   ·have:n=8:=by omega
    subst this
    simp[ψ2I.l2,crcK])
  (by omega) 0 c (κ4 _) hc
 exact this
theorem φLD (s:List UInt8) (c:Nat) (i:Int) (hc:c<2 ^ 32):lp ψ3.l2 (s,(c:Int),i,0)=some (s,((crcK 8 c:Nat):Int),i):=by
 have:=φj (step:=ψ3.l2) (fun n (c:Nat)=>(s,(c:Int),i,(n:Int))) 8 (fun n c=>(s,((crcK (8 - n) c:Nat):Int),i)) (fun _ c=>c<2 ^ 32)
  (fun rec n c hn hc ih=>by
   rcases κ1 n 8 with h | h
   ·have h8:(n:Int)<8:=by omega
    have hw:w64 ((n:Int)+1)=((n+1:Nat):Int):=φS (by omega)
    have e1:Int.fdiv (c:Int) (2 ^ (min 1 32))=((c / 2:Nat):Int):=by
     show Int.fdiv (c:Int) 2=_
     rw[Int.fdiv_eq_ediv_of_nonneg _ (by omega)];rfl
    have e3:bits (fun _ a b=>a ^^^ b) .u32 ((c / 2:Nat):Int) 2197175160=(((c / 2) ^^^ 2197175160:Nat):Int):=φC1 (c / 2) 2197175160 (by omega) (by decide)
    have e4:crcK (8 - n) c=crcK (8 - (n+1)) (crc1 c):=by
     rw[show 8 - n=(8 - (n+1))+1 by omega];rfl
    have ih:=ih (crc1 c) h (φAw hc)
    rw[e4,←ih]
    simp only[ψ3.l2,h8,dT,cT,e1,φM6 c hc]
    unfold crc1
    by_cases k:c % 2=1
    ·have k2:(((c % 2:Nat):Int)==1)=true:=by rw[k];rfl
     simp only[k2,cT,e3,bS,hw]
     rw[if_pos k]
    ·have k2:(((c % 2:Nat):Int)==1)=false:=by simp;omega
     simp only[k2,cF,bS,hw]
     rw[if_neg k]
   ·have:n=8:=by omega
    subst this
    simp[ψ3.l2,crcK])
  (by omega) 0 c (κ4 _) hc
 exact this
theorem φBw (s:List UInt8) (hl:s.length<2 ^ 62):ψ2I.f s=some (crcT s):=by
 have hk:=φ3g (step:=ψ2I.l0) s crcB (fun n (c:Nat)=>(s,(c:Int),(n:Int))) (fun c=>(c:Int)) (fun _ c=>c<2 ^ 32) hl
  (fun rec n c h hc=>by
   have hc:c<2 ^ 32:=hc
   have hw:w64 ((n:Int)+1)=((n+1:Nat):Int):=φS (by omega)
   have hb:=s[n].toNat_lt
   have e1:w64 (bAt s (n:Int))=((s[n].toNat:Nat):Int):=by rw[φ4q s n h];exact φ3i (by omega)
   have e2:=φFN c s[n].toNat (by omega) (by omega)
   simp only[ψ2I.l0,oL,h,dT,cT,φJ,e1,e2]
   rw[φJH s _ _ (Nat.xor_lt_two_pow hc (by omega))]
   simp only[bS,hw];rfl)
  (fun n c h hc=>φA3 hc _)
  (fun rec c hc=>by simp[ψ2I.l0]) 4294967295 (by decide)
 have hk:lp ψ2I.l0 (s,4294967295,0)=_:=hk
 unfold ψ2I.f crcT crcN
 rw[hk,bS]
 have:=φBC s (c:=4294967295) (by decide)
 generalize s.foldl crcB 4294967295=c at *
 simp only
 rw[φH (by omega) (by omega)]
 congr 1;omega
theorem φN4 (c:Nat) (h:c<2 ^ 32):4294967295 ^^^ c=4294967295 - c:=by
 have e:(BitVec.allOnes 32 ^^^ BitVec.ofNat 32 c).toNat=(~~~ BitVec.ofNat 32 c).toNat:=by rw[BitVec.allOnes_xor]
 rw[BitVec.toNat_xor,BitVec.toNat_not,BitVec.toNat_allOnes,BitVec.toNat_ofNat,κc h] at e
 have e:4294967295 ^^^ c=4294967296 - 1 - c:=e
 omega
theorem φCT (s:List UInt8) (hl:s.length<2 ^ 62):ψ3.f s=some (crcT s):=by
 have hk:=φ3g (step:=ψ3.l0) s crcB (fun n (c:Nat)=>(s,(c:Int),(n:Int))) (fun c=>(c:Int)) (fun _ c=>c<2 ^ 32) hl
  (fun rec n c h hc=>by
   have hc:c<2 ^ 32:=hc
   have hw:w64 ((n:Int)+1)=((n+1:Nat):Int):=φS (by omega)
   have hb:=s[n].toNat_lt
   have e1:IntKind.wrap .u32 (bAt s (n:Int))=((s[n].toNat:Nat):Int):=by rw[φ4q s n h];exact φAz (by omega)
   have e2:=φC1 c s[n].toNat (by omega) (by omega)
   simp only[ψ3.l0,oL,h,dT,cT,φJ,e1,e2]
   rw[φLD s _ _ (Nat.xor_lt_two_pow hc (by omega))]
   simp only[bS,hw];rfl)
  (fun n c h hc=>φA3 hc _)
  (fun rec c hc=>by simp[ψ3.l0]) 4294967295 (by decide)
 have hk:lp ψ3.l0 (s,4294967295,0)=_:=hk
 unfold ψ3.f crcT crcN
 rw[hk,bS]
 have:=φBC s (c:=4294967295) (by decide)
 generalize s.foldl crcB 4294967295=c at *
 have e:bits (fun _ a b=>a ^^^ b) .u32 4294967295 (c:Int)=((4294967295 ^^^ c:Nat):Int):=φC1 4294967295 c (by decide) this
 simp only[e,φN4 c this]
 rw[φ3i (by omega)]
def vLow (n:Nat):List UInt8:=if h:n<128 then [] else UInt8.ofNat (128+n % 128)::vLow (n / 128)
termination_by n
decreasing_by omega
def vTop (n:Nat):Nat:=if h:n<128 then n else vTop (n / 128)
termination_by n
decreasing_by omega
theorem φ8P:∀(k n:Nat),n<128 ^ (k+1)→(vLow n).length≤k
 | 0,n,h=>by unfold vLow;rw[dif_pos (by simpa using h)];simp
 | k+1,n,h=>by
  unfold vLow
  split
  ·simp
  ·have:=φ8P k (n / 128) (by rw[Nat.div_lt_iff_lt_mul (by omega)];rw[κa] at h;exact h)
   simp only[lC];omega
def varT (n:Int):List UInt8:=if 0≤n∧n≤562949953421311 then vLow n.toNat++[UInt8.ofNat (vTop n.toNat)] else []
theorem φk (n:Int):(varT n).length≤7:=by
 unfold varT
 split
 ·rename_i h
  have:=φ8P 6 n.toNat (by show _<562949953421312;omega)
  rw[lA,κA];omega
 ·simp
theorem φ76 (n:Nat):UInt8.ofNat (IntKind.wrap .u8 (n:Int)).toNat=UInt8.ofNat n:=by
 have e:IntKind.wrap .u8 (n:Int)=((n % 256:Nat):Int):=by
  unfold IntKind.wrap
  simp only[IntKind.bits,IntKind.signed]
  simp
 rw[e,tN]
 exact UInt8.ofNat_mod_size
theorem φMl:ψ1G.l0=ψ2s.l0:=by
 funext rec x
 obtain ⟨x0,x3⟩:=x
 have e1:decide (x0 > 127)=decide (x0≥128):=decide_eq_decide.2 (by omega)
 simp only[ψ1G.l0,ψ2s.l0,e1,Int.add_comm 128]
theorem φOJ:ψ1G.f=ψ2s.f:=by
 funext n
 unfold ψ1G.f ψ2s.f
 rw[φ1c,φ2U,φMl]
theorem φJe (a b:List Int):φ1U (a++b)=φ1U a++φ1U b:=mp
def φ3G (n:Nat):List Int:=if h:n<128 then [] else IntKind.wrap .u8 (w64 (128+(n % 128:Nat)))::φ3G (n / 128)
termination_by n
decreasing_by omega
theorem φA1 (n:Nat):φ1U (φ3G n)=vLow n:=by
 unfold φ3G vLow
 split
 ·rfl
 ·rw[show φ1U (IntKind.wrap .u8 (w64 (128+(n % 128:Nat)))::φ3G (n / 128))=UInt8.ofNat (IntKind.wrap .u8 (w64 (128+(n % 128:Nat)))).toNat::φ1U (φ3G (n / 128)) from rfl,φA1 (n / 128)]
  have e:w64 (128+((n % 128:Nat):Int))=((128+n % 128:Nat):Int):=by rw[φH (by omega) (by omega)];omega
  rw[e,φ76]
termination_by n
decreasing_by omega
theorem φMf (n:Nat):(φ3G n).length=(vLow n).length:=by rw[←φA1];unfold φ1U;rw[lM]
theorem φOS (m:Nat) (hm:m<128 ^ 7):lp ψ2s.l0 ((m:Int),[])=some (((vTop m:Nat):Int),φ3G m):=by
 have:=φ72 (step:=ψ2s.l0) (a:=((m:Int),([]:List Int)))
  (fun a=>(((vTop a.1.toNat:Nat):Int),a.2++φ3G a.1.toNat)) (fun a=>0≤a.1∧a.2.length≤7∧a.1.toNat<128 ^ (7 - a.2.length)) (fun a=>a.1.toNat)
  (fun rec a ha ih=>by
   obtain ⟨x,l⟩:=a
   obtain ⟨n,rfl⟩:∃n:Nat,x=(n:Int):=⟨x.toNat,by have:=ha.1;simp only at this;omega⟩
   obtain ⟨_,h2,h3⟩:=ha
   simp only[tN] at h2 h3 ih ⊢
   have hn:n<128 ^ 7:=κG h3 (Nat.pow_le_pow_right (by omega) (by omega))
   have hn:n<562949953421312:=hn
   by_cases c:n<128
   ·have c1:¬(n:Int)≥128:=by omega
    simp only[ψ2s.l0,c1,dF,cF]
    rw[show vTop n=n by unfold vTop;rw[dif_pos c],show φ3G n=[] by unfold φ3G;rw[dif_pos c],κ7]
   ·have c1:(n:Int)≥128:=by omega
    have h4:l.length<7:=by
     rcases κ1 l.length 7 with h | h
     ·exact h
     ·rw[show 7 - l.length=0 by omega] at h3;simp at h3;omega
    have e1:Int.tmod (n:Int) 128=((n % 128:Nat):Int):=rfl
    have e2:w64 (Int.tdiv (n:Int) 128)=((n / 128:Nat):Int):=by
     rw[show Int.tdiv (n:Int) 128=((n / 128:Nat):Int) from rfl];exact φ3i (by omega)
    have hb:(l.length+[IntKind.wrap .u8 (w64 (128+((n % 128:Nat):Int)))].length) * 1≤140737488355328:=by
     show (l.length+1) * 1≤_;omega
    have ih:=ih (((n / 128:Nat):Int),l++[IntKind.wrap .u8 (w64 (128+((n % 128:Nat):Int)))]) ⟨by simp only;omega,by rw[lA];show _+1≤_;omega,by
     rw[lA,tN]
     show _<128 ^ (7 - (l.length+1))
     rw[Nat.div_lt_iff_lt_mul (by omega),←κa,show (7 - (l.length+1)).succ=7 - l.length by omega];exact h3⟩ (by simp only[tN];omega)
    simp only[tN] at ih
    simp only[ψ2s.l0,c1,dT,cT,e1,e2,hb,ih]
    rw[show vTop n=vTop (n / 128) by rw[vTop,dif_neg c],show φ3G n=IntKind.wrap .u8 (w64 (128+(n % 128:Nat)))::φ3G (n / 128) by rw[φ3G,dif_neg c],aA];rfl)
  ⟨by simp only;omega,by simp,by simpa using hm⟩ (by simp only[tN];have:m<562949953421312:=hm;omega)
 simpa using this
theorem φ5D (n:Int):ψ2s.f n=some (varT n):=by
 unfold ψ2s.f varT
 rw[φ2U,bS]
 by_cases h:0≤n∧n≤562949953421311
 rotate_left
 ·simp[h]
 obtain ⟨m,rfl⟩:∃m:Nat,n=(m:Int):=⟨n.toNat,by omega⟩
 have hm:m<128 ^ 7:=by show m<562949953421312;omega
 have key:∃L:List Int,φ1U L=vLow m∧L.length≤7∧lp ψ2s.l0 ((m:Int),[])=some (((vTop m:Nat):Int),L):=
  ⟨φ3G m,φA1 m,by rw[φMf];have:=φ8P 6 m hm;omega,φOS m hm⟩
 obtain ⟨L,e1,e2,e3⟩:=key
 have hb:(L.length+[IntKind.wrap .u8 ((vTop m:Nat):Int)].length) * 1≤140737488355328:=by
  show (L.length+1) * 1≤_;omega
 simp only[h,and_self,dT,nZ,cF,e3,bS,hb,cT,if_true,φJe,e1,tN]
 unfold φ1U
 simp only[κ6,List.map_nil,φ76]
theorem φAf (n:Int):ψ1G.f n=some (varT n):=by rw[φOJ,φ5D]
def fixL (n:Nat):Nat→List UInt8
 | 0=>[]
 | k+1=>UInt8.ofNat (n / 256 ^ k)::fixL n k
theorem φA8 (n:Nat):∀k,(fixL n k).length=k
 | 0=>rfl
 | k+1=>by simp[fixL,φA8 n k]
theorem φ9M (n:Nat):∀k,fixL n (k+1)=fixL (n / 256) k++[UInt8.ofNat n]
 | 0=>by simp[fixL]
 | k+1=>by
  rw[fixL,φ9M n k]
  show _=UInt8.ofNat (n / 256 / 256 ^ k)::fixL (n / 256) k++[UInt8.ofNat n]
  rw[Nat.div_div_eq_div_mul,κa,Nat.mul_comm (256 ^ k) 256];rfl
def fix4 (n:Int):List UInt8:=if 0≤n∧n≤4294967295 then fixL n.toNat 4 else []
theorem φBf (n:Int) (hn:n<9223372036854775808):ψ2R.f n 4=some (fix4 n):=by
 unfold ψ2R.f fix4
 rw[φ2U,bS]
 by_cases h:0≤n
 rotate_left
 ·have h1:n<0:=by omega
  simp[h,h1]
 obtain ⟨m,rfl⟩:∃m:Nat,n=(m:Int):=⟨n.toNat,by omega⟩
 have key:=φj (step:=ψ2R.l0) (fun i (s:Nat×List UInt8)=>((s.1:Int),4,s.2,(i:Int))) 4 (fun i s=>(((s.1 / 256 ^ (4 - i):Nat):Int),fixL s.1 (4 - i)++s.2)) (fun i s=>s.1<9223372036854775808∧s.2.length≤i)
  (fun rec i s hi hv ih=>by
   obtain ⟨a,l⟩:=s
   obtain ⟨hv1,hv2⟩:=hv
   simp only at hv1 hv2 ih ⊢
   rcases κ1 i 4 with h4 | h4
   ·have e0:(i:Int)<4:=by omega
    have e1:Int.tmod (a:Int) 256=((a % 256:Nat):Int):=rfl
    have e2:w64 (Int.tdiv (a:Int) 256)=((a / 256:Nat):Int):=by
     rw[show Int.tdiv (a:Int) 256=((a / 256:Nat):Int) from rfl];exact φ3i (by omega)
    have e3:φ1U [IntKind.wrap .u8 ((a % 256:Nat):Int)]=[UInt8.ofNat a]:=by
     unfold φ1U
     simp only[κ6,List.map_nil,φ76]
     congr 1;exact UInt8.ofNat_mod_size
    have hw:w64 ((i:Int)+1)=((i+1:Nat):Int):=φS (by omega)
    have hb:([UInt8.ofNat a]:List UInt8).length+l.length≤9223372036854775807:=by show 1+_≤_;omega
    have ih:=ih (a / 256,[UInt8.ofNat a]++l) h4 ⟨by simp only;omega,by simp;omega⟩
    simp only at ih
    simp only[ψ2R.l0,e0,dT,cT,e1,e2,e3,hb,hw,ih]
    rw[show 4 - i=(4 - (i+1))+1 by omega,φ9M,κa,Nat.mul_comm,←Nat.div_div_eq_div_mul,aA]
   ·have:i=4:=by omega
    subst this
    simp[ψ2R.l0,fixL])
  (by omega) 0 (m,[]) (κ4 _) ⟨by simp only;omega,by simp⟩
 have key:lp ψ2R.l0 ((m:Int),4,[],0)=some (((m / 256 ^ 4:Nat):Int),fixL m 4++[]):=key
 have h1:¬(m:Int)<0:=by omega
 have h0:decide ((1:Int)≤4∧(4:Int)≤7)=true:=by decide
 have h2:(decide ((((m / 256 ^ 4:Nat):Int)) > 0))=!decide (0≤(m:Int)∧(m:Int)≤4294967295):=by
  have:m / 256 ^ 4=m / 4294967296:=rfl
  by_cases c:m≤4294967295
  ·have:m / 256 ^ 4=0:=by rw[this];omega
   rw[this];simp;omega
  ·have:0<m / 256 ^ 4:=by rw[this];omega
   have c2:¬(0≤(m:Int)∧(m:Int)≤4294967295):=by omega
   simp only[c2,dF,nF,decide_eq_true_eq];omega
 simp only[h0,h1,dF,nZ,cF,key,bS,h2,κ7,tN]
 by_cases c:0≤(m:Int)∧(m:Int)≤4294967295
 ·simp[c]
 ·rw[if_neg c,decide_eq_false c];rfl
def fixI (n:Nat):Nat→List Int
 | 0=>[]
 | k+1=>IntKind.wrap .u8 ((n / 256 ^ k:Nat):Int)::fixI n k
theorem φED (n:Nat):∀k,φ1U (fixI n k)=fixL n k
 | 0=>rfl
 | k+1=>by
  rw[fixI,fixL,←φED n k,←φ76];rfl
theorem φAF (n:Int):ψP.f n 4=some (fix4 n):=by
 unfold ψP.f fix4
 have h0:decide ((1:Int)≤4∧(4:Int)≤7)=true:=by decide
 have h1:decide (0≤w64 (8 * 4))=true:=by decide
 have h2:w64 (w64 (1 * 2 ^ (min (w64 (8 * 4)).toNat 64)) - 1)=4294967295:=by decide
 simp only[φ1c,bS,h0,h1,h2,nZ,cF,cT]
 by_cases h:0≤n∧n≤4294967295
 rotate_left
 ·simp[h]
 obtain ⟨m,rfl⟩:∃m:Nat,n=(m:Int):=⟨n.toNat,by omega⟩
 have key:=φ72 (step:=ψP.l0) (a:=((m:Int),([]:List Int),(3:Int)))
  (fun a=>a.2.1++(fixI m (a.2.2+1).toNat)) (fun a=>a.1=(m:Int)∧-1≤a.2.2∧a.2.2≤3∧(a.2.1.length:Int)≤3 - a.2.2) (fun a=>(a.2.2+1).toNat)
  (fun rec a ha ih=>by
   obtain ⟨x,l,k⟩:=a
   obtain ⟨hx,ha1,ha2,ha3⟩:=ha
   simp only at hx ha1 ha2 ha3 ih ⊢
   subst hx
   by_cases c:k≥0
   ·obtain ⟨j,rfl⟩:∃j:Nat,k=(j:Int):=⟨k.toNat,by omega⟩
    have e1:w64 (8 * (j:Int))=((8 * j:Nat):Int):=by rw[φH (by omega) (by omega)];omega
    have e2:Int.fdiv (m:Int) (2 ^ (min ((8 * j:Nat):Int).toNat 64))=((m / 256 ^ j:Nat):Int):=by
     have e:(2:Int) ^ (8 * j)=((256 ^ j:Nat):Int):=by
      rw[show (256:Nat)=2 ^ 8 from rfl,←Nat.pow_mul,Int.natCast_pow];rfl
     rw[tN,Nat.min_eq_left (by omega),e,Int.fdiv_eq_ediv_of_nonneg _ (Int.natCast_nonneg _)]
     rfl
    have e3:w64 ((j:Int) - 1)=(j:Int) - 1:=φH (by omega) (by omega)
    have hb:(l.length+[IntKind.wrap .u8 ((m / 256 ^ j:Nat):Int)].length) * 1≤140737488355328:=by show (l.length+1) * 1≤_;omega
    have ih:=ih ((m:Int),l++[IntKind.wrap .u8 ((m / 256 ^ j:Nat):Int)],(j:Int) - 1) ⟨rfl,by simp only;omega,by simp only;omega,by simp only[lA,κA];omega⟩ (by simp only;omega)
    simp only at ih
    have h0:(0:Int)≤((8 * j:Nat):Int):=by omega
    simp only[ψP.l0,c,dT,cT,e1,h0,e2,hb,e3,ih]
    rw[show ((j:Int) - 1+1).toNat=j by omega,show ((j:Int)+1).toNat=j+1 by omega,fixI,aA];rfl
   ·have:k=-1:=by omega
    subst this
    simp[ψP.l0,fixI])
  ⟨rfl,by simp only;omega,by simp only;omega,by simp⟩ (by show (4:Nat)<2 ^ 62;decide)
 have e9:w64 (4 - 1)=3:=by decide
 have key:lp ψP.l0 ((m:Int),[],3)=some (fixI m 4):=key
 simp only[h,and_self,dT,nZ,cF,e9,key,bS,if_true,tN,φED]
abbrev RecT:=Int×Int×List UInt8×List UInt8×Int×Int
def φa (r:RecT):Bool:=
 decide (0≤r.2.1∧r.2.1≤1000000) && (!(r.2.1==0) || r.1==5) &&
 (if r.1=1∨r.1=4 then φ18 r.2.2.1 && (decide (r.2.2.2.1.length≤24) && (r.2.2.2.2.1==0 && r.2.2.2.2.2==0))
 else if r.1=2 then φ18 r.2.2.1 && (r.2.2.2.1==[] && (r.2.2.2.2.1==0 && r.2.2.2.2.2==0))
 else if r.1=3 then r.2.2.1==[] && (r.2.2.2.1==[] && (decide (0≤r.2.2.2.2.1∧r.2.2.2.2.1≤8) && decide (0≤r.2.2.2.2.2∧r.2.2.2.2.2≤4294967295)))
 else if r.1=5 then r.2.2.1==[] && (r.2.2.2.1==[] && (decide (0≤r.2.2.2.2.1∧r.2.2.2.2.1≤20) && decide (0≤r.2.2.2.2.2∧r.2.2.2.2.2≤4294967295)))
 else false)
theorem φNF (r:RecT):ψ2g.f r=some (φa r):=by
 obtain ⟨k,b,ky,v,c,s⟩:=r
 have e24:decide ((v.length:Int)≤24)=decide (v.length≤24):=decide_eq_decide.2 (by omega)
 unfold ψ2g.f φa
 simp only[φ2U,bS,φG3,e24]
 by_cases hb:0≤b∧b≤1000000
 rotate_left
 ·simp only[hb,dF,nF,cT,bS,φq,κD]
 simp only[hb,and_self,dT,nZ,cF,tA]
 rcases bE (b==0 && k != 5) with h | h
 ·simp only[bA] at h
  have h2:(k==5)=false:=by have:=h.2;simpa [bne] using this
  simp only[h.1,h.2,h2,cT,bS,φq,nZ,κS,κD]
 have e1:(!(b==0) || k==5)=true:=by
  cases h3:(b==0)<;>cases h4:(k==5)<;>simp_all [bne]
 have e2:(bif b==0 then (bif k != 5 then some (Sum.inr false) else some (Sum.inl ((k,b,ky,v,c,s):RecT))) else some (Sum.inl (k,b,ky,v,c,s)):Option (RecT ⊕ Bool))=some (Sum.inl (k,b,ky,v,c,s)):=by
  cases h3:(b==0)
  ·rfl
  ·rw[h3] at h
   have h4:(k != 5)=false:=by simpa using h
   rw[h4];rfl
 simp only[e2,bS,φf,e1,tA]
 by_cases k1:k=1
 ·subst k1
  simp only[cT,cF,bS,e24,beq_self_eq_true,tA,κM,show ((1:Int)==1)=true from rfl,show ((4:Int)==1)=false from rfl,show ((4:Int)==4)=true from rfl,show ((2:Int)==2)=true from rfl,show ((3:Int)==2)=false from rfl,show ((3:Int)==3)=true from rfl,show ((5:Int)==5)=true from rfl,show ((5:Int)==3)=false from rfl,show ((5:Int)==2)=false from rfl,show ((4:Int)==5)=false from rfl,show ((3:Int)==5)=false from rfl,show ((2:Int)==5)=false from rfl,show ((1:Int)==5)=false from rfl]
  cases φ18 ky<;>cases decide (v.length≤24)<;>cases (c==0)<;>simp
 by_cases k4:k=4
 ·subst k4
  simp only[cT,cF,bS,e24,beq_self_eq_true,tA,κM,show ((1:Int)==1)=true from rfl,show ((4:Int)==1)=false from rfl,show ((4:Int)==4)=true from rfl,show ((2:Int)==2)=true from rfl,show ((3:Int)==2)=false from rfl,show ((3:Int)==3)=true from rfl,show ((5:Int)==5)=true from rfl,show ((5:Int)==3)=false from rfl,show ((5:Int)==2)=false from rfl,show ((4:Int)==5)=false from rfl,show ((3:Int)==5)=false from rfl,show ((2:Int)==5)=false from rfl,show ((1:Int)==5)=false from rfl]
  cases φ18 ky<;>cases decide (v.length≤24)<;>cases (c==0)<;>simp
 have b1:(k==1)=false:=by simpa using k1
 have b4:(k==4)=false:=by simpa using k4
 simp only[b1,b4,cF,bS,k1,k4,or_self,if_false]
 by_cases k2:k=2
 ·subst k2
  simp only[cT,cF,bS,e24,beq_self_eq_true,tA,κM,show ((1:Int)==1)=true from rfl,show ((4:Int)==1)=false from rfl,show ((4:Int)==4)=true from rfl,show ((2:Int)==2)=true from rfl,show ((3:Int)==2)=false from rfl,show ((3:Int)==3)=true from rfl,show ((5:Int)==5)=true from rfl,show ((5:Int)==3)=false from rfl,show ((5:Int)==2)=false from rfl,show ((4:Int)==5)=false from rfl,show ((3:Int)==5)=false from rfl,show ((2:Int)==5)=false from rfl,show ((1:Int)==5)=false from rfl]
  cases φ18 ky<;>cases (v==[])<;>cases (c==0)<;>simp
 have b2:(k==2)=false:=by simpa using k2
 simp only[b2,cF,k2,if_false]
 by_cases k3:k=3
 ·subst k3
  simp only[cT,cF,bS,e24,beq_self_eq_true,tA,κM,show ((1:Int)==1)=true from rfl,show ((4:Int)==1)=false from rfl,show ((4:Int)==4)=true from rfl,show ((2:Int)==2)=true from rfl,show ((3:Int)==2)=false from rfl,show ((3:Int)==3)=true from rfl,show ((5:Int)==5)=true from rfl,show ((5:Int)==3)=false from rfl,show ((5:Int)==2)=false from rfl,show ((4:Int)==5)=false from rfl,show ((3:Int)==5)=false from rfl,show ((2:Int)==5)=false from rfl,show ((1:Int)==5)=false from rfl]
  cases (ky==[])<;>cases (v==[])<;>cases decide (0≤c∧c≤8)<;>simp
 have b3:(k==3)=false:=by simpa using k3
 simp only[b3,cF,k3,if_false]
 by_cases k5:k=5
 ·subst k5
  simp only[cT,cF,bS,e24,beq_self_eq_true,tA,κM,show ((1:Int)==1)=true from rfl,show ((4:Int)==1)=false from rfl,show ((4:Int)==4)=true from rfl,show ((2:Int)==2)=true from rfl,show ((3:Int)==2)=false from rfl,show ((3:Int)==3)=true from rfl,show ((5:Int)==5)=true from rfl,show ((5:Int)==3)=false from rfl,show ((5:Int)==2)=false from rfl,show ((4:Int)==5)=false from rfl,show ((3:Int)==5)=false from rfl,show ((2:Int)==5)=false from rfl,show ((1:Int)==5)=false from rfl]
  cases (ky==[])<;>cases (v==[])<;>cases decide (0≤c∧c≤20)<;>simp
 have b5:(k==5)=false:=by simpa using k5
 simp only[b5,cF,k5,if_false]
theorem φ7f (r:RecT):ψo.f r=some (φa r):=by
 obtain ⟨k,b,ky,v,c,s⟩:=r
 have e24:decide ((v.length:Int)≤24)=decide (v.length≤24):=decide_eq_decide.2 (by omega)
 have hb0:decide (1≤b∧b≤1000000)=(decide (0≤b∧b≤1000000) && !(b==0)):=by
  by_cases h:b=0
  ·subst h;rfl
  ·have:(b==0)=false:=by simpa using h
   rw[this,nF,κM]
   exact decide_eq_decide.2 (by omega)
 unfold ψo.f φa
 simp only[φ1c,bS,φ6i,e24,hb0,beq_self_eq_true,tA,κM]
 by_cases k1:k=1
 ·subst k1
  simp only[cT,cF,bS,e24,hb0,beq_self_eq_true,tA,κM,show ((1:Int)==1)=true from rfl,show ((4:Int)==1)=false from rfl,show ((4:Int)==4)=true from rfl,show ((2:Int)==2)=true from rfl,show ((3:Int)==2)=false from rfl,show ((3:Int)==3)=true from rfl,show ((5:Int)==5)=true from rfl,show ((5:Int)==3)=false from rfl,show ((5:Int)==2)=false from rfl,show ((4:Int)==5)=false from rfl,show ((3:Int)==5)=false from rfl,show ((2:Int)==5)=false from rfl,show ((1:Int)==5)=false from rfl]
  cases φ18 ky<;>cases decide (v.length≤24)<;>cases decide (0≤b∧b≤1000000)<;>cases (b==0)<;>simp
 by_cases k4:k=4
 ·subst k4
  simp only[cT,cF,bS,e24,hb0,beq_self_eq_true,tA,κM,show ((1:Int)==1)=true from rfl,show ((4:Int)==1)=false from rfl,show ((4:Int)==4)=true from rfl,show ((2:Int)==2)=true from rfl,show ((3:Int)==2)=false from rfl,show ((3:Int)==3)=true from rfl,show ((5:Int)==5)=true from rfl,show ((5:Int)==3)=false from rfl,show ((5:Int)==2)=false from rfl,show ((4:Int)==5)=false from rfl,show ((3:Int)==5)=false from rfl,show ((2:Int)==5)=false from rfl,show ((1:Int)==5)=false from rfl]
  cases φ18 ky<;>cases decide (v.length≤24)<;>cases decide (0≤b∧b≤1000000)<;>cases (b==0)<;>simp
 have b1:(k==1)=false:=by simpa using k1
 have b4:(k==4)=false:=by simpa using k4
 simp only[b1,b4,cF,bS,k1,k4,or_self,if_false]
 by_cases k2:k=2
 ·subst k2
  simp only[cT,cF,bS,e24,hb0,beq_self_eq_true,tA,κM,show ((1:Int)==1)=true from rfl,show ((4:Int)==1)=false from rfl,show ((4:Int)==4)=true from rfl,show ((2:Int)==2)=true from rfl,show ((3:Int)==2)=false from rfl,show ((3:Int)==3)=true from rfl,show ((5:Int)==5)=true from rfl,show ((5:Int)==3)=false from rfl,show ((5:Int)==2)=false from rfl,show ((4:Int)==5)=false from rfl,show ((3:Int)==5)=false from rfl,show ((2:Int)==5)=false from rfl,show ((1:Int)==5)=false from rfl]
  cases φ18 ky<;>cases decide (0≤b∧b≤1000000)<;>cases (b==0)<;>simp
 have b2:(k==2)=false:=by simpa using k2
 simp only[b2,cF,k2,if_false]
 by_cases k3:k=3
 ·subst k3
  simp only[cT,cF,bS,e24,hb0,beq_self_eq_true,tA,κM,show ((1:Int)==1)=true from rfl,show ((4:Int)==1)=false from rfl,show ((4:Int)==4)=true from rfl,show ((2:Int)==2)=true from rfl,show ((3:Int)==2)=false from rfl,show ((3:Int)==3)=true from rfl,show ((5:Int)==5)=true from rfl,show ((5:Int)==3)=false from rfl,show ((5:Int)==2)=false from rfl,show ((4:Int)==5)=false from rfl,show ((3:Int)==5)=false from rfl,show ((2:Int)==5)=false from rfl,show ((1:Int)==5)=false from rfl]
  cases decide (0≤c∧c≤8)<;>cases decide (0≤s∧s≤4294967295)<;>cases decide (0≤b∧b≤1000000)<;>cases (b==0)<;>simp
 have b3:(k==3)=false:=by simpa using k3
 simp only[b3,cF,k3,if_false]
 by_cases k5:k=5
 ·subst k5
  simp only[cT,cF,bS,e24,hb0,beq_self_eq_true,tA,κM,show ((1:Int)==1)=true from rfl,show ((4:Int)==1)=false from rfl,show ((4:Int)==4)=true from rfl,show ((2:Int)==2)=true from rfl,show ((3:Int)==2)=false from rfl,show ((3:Int)==3)=true from rfl,show ((5:Int)==5)=true from rfl,show ((5:Int)==3)=false from rfl,show ((5:Int)==2)=false from rfl,show ((4:Int)==5)=false from rfl,show ((3:Int)==5)=false from rfl,show ((2:Int)==5)=false from rfl,show ((1:Int)==5)=false from rfl]
  cases decide (0≤c∧c≤20)<;>cases decide (0≤s∧s≤4294967295)<;>cases decide (0≤b∧b≤1000000)<;>simp
 have b5:(k==5)=false:=by simpa using k5
 simp only[b5,cF,k5,if_false,Bool.and_false]
def φ6 (r:RecT):List UInt8:=
 if φa r=false then [] else
 if r.1=1∨r.1=4 then varT r.1++varT r.2.1++varT (r.2.2.1.length:Int)++r.2.2.1++varT (r.2.2.2.1.length:Int)++r.2.2.2.1
 else if r.1=2 then varT r.1++varT r.2.1++varT (r.2.2.1.length:Int)++r.2.2.1
 else varT r.1++varT r.2.1++varT r.2.2.2.2.1++fix4 r.2.2.2.2.2
theorem φ4U (n:Int):(fix4 n).length≤4:=by
 unfold fix4;split
 ·rw[φA8];omega
 ·simp
theorem φ3Z (r:RecT):(φ6 r).length≤60:=by
 obtain ⟨k,b,ky,v,c,s⟩:=r
 unfold φ6
 split
 ·simp
 rename_i h
 have h:φa (k,b,ky,v,c,s)=true:=by simpa using h
 have l1:=φk k
 have l2:=φk b
 have l3:=φk (ky.length:Int)
 have l4:=φk (v.length:Int)
 have l5:=φk c
 have l6:=φ4U s
 unfold φa φ18 at h
 simp only[bA] at h
 have h:=h.2
 split
 ·rename_i c1
  simp only at c1
  simp only[c1,if_true,bA,decide_eq_true_eq] at h
  simp only[lA];omega
 ·rename_i c1
  simp only at c1
  split
  ·rename_i c2
   simp only at c2
   rw[if_neg c1,if_pos c2] at h
   simp only[bA,decide_eq_true_eq] at h
   simp only[lA];omega
  ·simp only[lA];omega
theorem φ1L {a b:Nat} (h:a+b≤1000000000000000):decide (a+b≤9223372036854775807)=true:=by
 rw[decide_eq_true_eq];omega
theorem φ7n (r:RecT):ψ2n.f r=some (φ6 r):=by
 obtain ⟨k,b,ky,v,c,s⟩:=r
 unfold ψ2n.f φ6
 rw[φNF,bS]
 rcases bE (φa (k,b,ky,v,c,s)) with h | h
 rotate_left
 ·simp[h]
 have hs:s<9223372036854775808∨k=1∨k=4∨k=2:=by
  unfold φa at h
  simp only[bA] at h
  have h:=h.2
  by_cases c1:k=1∨k=4
  ·omega
  by_cases c2:k=2
  ·omega
  rw[if_neg c1,if_neg c2] at h
  left
  split at h
  ·simp only[bA,decide_eq_true_eq] at h;omega
  ·split at h
   ·simp only[bA,decide_eq_true_eq] at h;omega
   ·simp at h
 have hlen:k=1∨k=4∨k=2→ky.length≤8∧v.length≤24:=by
  intro hk
  unfold φa φ18 at h
  simp only[bA] at h
  have h:=h.2
  by_cases c1:k=1∨k=4
  ·rw[if_pos c1] at h
   simp only[bA,decide_eq_true_eq] at h;omega
  by_cases c2:k=2
  ·rw[if_neg c1,if_pos c2] at h
   simp only[bA,decide_eq_true_eq,beq_iff_eq] at h
   rw[h.2.1];simp;omega
  ·omega
 have l1:=φk k
 have l2:=φk b
 have l3:=φk (ky.length:Int)
 have l4:=φk (v.length:Int)
 have l5:=φk c
 have l6:=φ4U s
 simp only[h,nZ,cF,φ5D,bS,φ1L (show (varT k).length+(varT b).length≤1000000000000000 by omega),cT,κ8,if_false]
 have kk:(bif k==1 then some (((k,b,ky,v,c,s):RecT),varT k++varT b,k,k==1) else some ((k,b,ky,v,c,s),varT k++varT b,k,k==4))=some ((k,b,ky,v,c,s),varT k++varT b,k,decide (k=1∨k=4)):=by
  by_cases c1:k=1
  ·subst c1;rfl
  ·have b1:(k==1)=false:=by simpa using c1
   rw[b1,cF]
   by_cases c4:k=4
   ·subst c4;rfl
   ·have b4:(k==4)=false:=by simpa using c4
    rw[b4,decide_eq_false (by omega)]
 simp only[kk,bS]
 by_cases c1:k=1∨k=4
 ·have hl:=hlen (by omega)
  simp only[c1,dT,cT,if_true,
   φ1L (show (varT k++varT b).length+(varT (ky.length:Int)).length≤1000000000000000 by simp only[lA];omega),
   φ1L (show (varT k++varT b++varT (ky.length:Int)).length+ky.length≤1000000000000000 by simp only[lA];omega),
   φ1L (show (varT k++varT b++varT (ky.length:Int)++ky).length+(varT (v.length:Int)).length≤1000000000000000 by simp only[lA];omega),
   φ1L (show (varT k++varT b++varT (ky.length:Int)++ky++varT (v.length:Int)).length+v.length≤1000000000000000 by simp only[lA];omega)]
 by_cases c2:k=2
 ·have hl:=hlen (by omega)
  have b2:(k==2)=true:=by simpa using c2
  simp only[c1,b2,dF,cF,cT,if_false,
   φ1L (show (varT k++varT b).length+(varT (ky.length:Int)).length≤1000000000000000 by simp only[lA];omega),
   φ1L (show (varT k++varT b++varT (ky.length:Int)).length+ky.length≤1000000000000000 by simp only[lA];omega)]
  rw[if_pos c2]
 ·have b2:(k==2)=false:=by simpa using c2
  simp only[c1,c2,b2,dF,cF,if_false,
   φ1L (show (varT k++varT b).length+(varT c).length≤1000000000000000 by simp only[lA];omega),cT,
   φBf s (by omega),bS,
   φ1L (show (varT k++varT b++varT c).length+(fix4 s).length≤1000000000000000 by simp only[lA];omega)]
theorem φ7V (s:List UInt8) (h:s.length<2 ^ 62):ψ1r.f s=some (varT (s.length:Int)++s):=by
 have l:=φk (s.length:Int)
 unfold ψ1r.f
 have c:(varT (s.length:Int)).length+s.length≤9223372036854775807:=by omega
 simp only[φAf,bS,c,dT,cT]
theorem φMz (l:List Int):∀n (acc:List UInt8),n≤l.length→acc.length≤7 * n→l.length<1000000000000→lp ψ1v.l0 (acc,l,(l.length:Int),(n:Int))=some (acc++((l.drop n).map varT).flatten):=by
 intro n acc hn ha hl
 have:=φj (step:=ψ1v.l0) (fun n (acc:List UInt8)=>(acc,l,(l.length:Int),(n:Int))) l.length (fun n acc=>acc++((l.drop n).map varT).flatten) (fun n acc=>acc.length≤7 * n)
  (fun rec n acc hn ha ih=>by
   rcases κ1 n l.length with h | h
   ·have hv:=φk l[n]
    have hb:acc.length+(varT l[n]).length≤9223372036854775807:=by omega
    have ih:=ih (acc++varT l[n]) h (by rw[lA];omega)
    simp only[ψ1v.l0,oL,h,dT,cT,φJ,φN,φB h,φAf,bS,hb,φS (show n+1<9223372036854775808 by omega),ih]
    rw[dG h,κ6,List.flatten_cons,aA]
   ·have:n=l.length:=by omega
    subst this
    simp[ψ1v.l0])
  (by omega) n acc hn ha
 exact this
theorem φ7X (l:List Int) (hl:l.length<1000000000000):ψ1v.f l=some (l.map varT).flatten:=by
 unfold ψ1v.f
 have:=φMz l 0 [] (κ4 _) (by simp) hl
 have this:lp ψ1v.l0 ([],l,(l.length:Int),0)=_:=this
 rw[this];simp
theorem φ9q (r:RecT):ψ10.f r=some (φ6 r):=by
 obtain ⟨k,b,ky,v,c,s⟩:=r
 unfold ψ10.f φ6
 rw[φ7f,bS]
 rcases bE (φa (k,b,ky,v,c,s)) with h | h
 rotate_left
 ·simp[h]
 have hlen:k=1∨k=4∨k=2→ky.length≤8∧v.length≤24:=by
  intro hk
  unfold φa φ18 at h
  simp only[bA] at h
  have h:=h.2
  by_cases c1:k=1∨k=4
  ·rw[if_pos c1] at h
   simp only[bA,decide_eq_true_eq] at h;omega
  by_cases c2:k=2
  ·rw[if_neg c1,if_pos c2] at h
   simp only[bA,decide_eq_true_eq,beq_iff_eq] at h
   rw[h.2.1];simp;omega
  ·omega
 have l1:=φk k
 have l2:=φk b
 have l3:=φk (ky.length:Int)
 have l4:=φk (v.length:Int)
 have l5:=φk c
 have l6:=φ4U s
 have hv:ψ1v.f [k,b]=some (varT k++varT b):=by rw[φ7X [k,b] (by show 2<1000000000000;decide)];simp
 simp only[h,nZ,cF,hv,bS,κ8,if_false]
 have kk:(bif k==1 then some (((k,b,ky,v,c,s):RecT),varT k++varT b,k,k==1) else some ((k,b,ky,v,c,s),varT k++varT b,k,k==4))=some ((k,b,ky,v,c,s),varT k++varT b,k,decide (k=1∨k=4)):=by
  by_cases c1:k=1
  ·subst c1;rfl
  ·have b1:(k==1)=false:=by simpa using c1
   rw[b1,cF]
   by_cases c4:k=4
   ·subst c4;rfl
   ·have b4:(k==4)=false:=by simpa using c4
    rw[b4,decide_eq_false (by omega)]
 simp only[kk,bS]
 by_cases c1:k=1∨k=4
 ·have hl:=hlen (by omega)
  simp only[c1,dT,cT,if_true,φ7V ky (by omega),φ7V v (by omega),bS,
   φ1L (show (varT k++varT b).length+(varT (ky.length:Int)++ky).length≤1000000000000000 by simp only[lA];omega),
   φ1L (show (varT k++varT b++(varT (ky.length:Int)++ky)).length+(varT (v.length:Int)++v).length≤1000000000000000 by simp only[lA];omega)]
  simp only[aA]
 by_cases c2:k=2
 ·have hl:=hlen (by omega)
  have b2:(k==2)=true:=by simpa using c2
  simp only[c1,b2,dF,cF,cT,if_false,φ7V ky (by omega),bS,
   φ1L (show (varT k++varT b).length+(varT (ky.length:Int)++ky).length≤1000000000000000 by simp only[lA];omega)]
  rw[if_pos c2]
  simp only[aA]
 ·have b2:(k==2)=false:=by simpa using c2
  simp only[c1,c2,b2,dF,cF,if_false,φAf,bS,
   φ1L (show (varT k++varT b).length+(varT c).length≤1000000000000000 by simp only[lA];omega),cT,
   φAF s,bS,
   φ1L (show (varT k++varT b++varT c).length+(fix4 s).length≤1000000000000000 by simp only[lA];omega)]
def frame (s:List UInt8):List UInt8:=
 if 200<s.length then [] else fix4 (crcT (varT (s.length:Int)++s))++(varT (s.length:Int)++s)
theorem φ5C (s:List UInt8):(frame s).length≤211:=by
 unfold frame
 split
 ·simp
 ·have l1:=φk (s.length:Int)
  have l2:=φ4U (crcT (varT (s.length:Int)++s))
  simp only[lA];omega
theorem φ98 (s:List UInt8) (h:s.length<2 ^ 62):ψ2S.f s=some (frame s):=by
 unfold ψ2S.f frame
 by_cases c:200<s.length
 ·have c1:(s.length:Int) > 200:=by omega
  simp[c,c1]
 have c1:¬(s.length:Int) > 200:=by omega
 have l1:=φk (s.length:Int)
 have l2:=φ4U (crcT (varT (s.length:Int)++s))
 have r:=φ4o (varT (s.length:Int)++s)
 simp only[c,c1,dF,cF,if_false,φ5D,bS,φ1L (show (varT (s.length:Int)).length+s.length≤1000000000000000 by omega),cT,
  φBw (varT (s.length:Int)++s) (by rw[lA];omega),φBf _ (show crcT (varT (s.length:Int)++s)<9223372036854775808 by omega),
  φ1L (show (fix4 (crcT (varT (s.length:Int)++s))).length+(varT (s.length:Int)++s).length≤1000000000000000 by simp only[lA];omega)]
theorem φ7x (s:List UInt8) (h:s.length<2 ^ 62):ψQ.f s=some (frame s):=by
 unfold ψQ.f frame
 by_cases c:200<s.length
 ·have c1:(s.length:Int) > 200:=by omega
  simp[c,c1]
 have c1:¬(s.length:Int) > 200:=by omega
 have l1:=φk (s.length:Int)
 have l2:=φ4U (crcT (varT (s.length:Int)++s))
 have r:=φ4o (varT (s.length:Int)++s)
 simp only[c,c1,dF,cF,if_false,φ7V s (by omega),bS,cT,
  φCT (varT (s.length:Int)++s) (by rw[lA];omega),φAF,
  φ1L (show (fix4 (crcT (varT (s.length:Int)++s))).length+(varT (s.length:Int)++s).length≤1000000000000000 by simp only[lA];omega)]
def φ3e (l:List RecT):List UInt8:=(l.map φ6).flatten
def φ1l (l:List RecT):Int:=crcT (φ3e l)
theorem φ7U:∀(l:List RecT),(φ3e l).length≤60 * l.length
 | []=>by simp[φ3e]
 | r::l=>by
  have h1:=φ7U l
  have h2:=φ3Z r
  unfold φ3e at *
  rw[κ6,List.flatten_cons,lA,lC];omega
theorem φEa (l:List RecT) (r:RecT):φ3e (l++[r])=φ3e l++φ6 r:=by
 unfold φ3e;simp
theorem φDP (l:List RecT) (hl:l.length<1000000000000):ψ2p.f l=some (φ1l l):=by
 have hk:=φj (step:=ψ2p.l0) (fun n (_:Unit)=>(l,φ3e (l.take n),(n:Int))) l.length (fun _ _=>φ3e l) (fun _ _=>True)
  (fun rec n s hn _ ih=>by
   rcases κ1 n l.length with h | h
   ·have h1:=φ7U (l.take n)
    have h2:=φ3Z l[n]
    rw[lT] at h1
    have ih:=ih () h trivial
    rw[κ3 h,φEa] at ih
    simp only[ψ2p.l0,oL,h,dT,cT,φJ,φN,φB h,φ2h,φ7n,bS,φ1L (show (φ3e (l.take n)).length+(φ6 l[n]).length≤1000000000000000 by omega),φS (show n+1<9223372036854775808 by omega),ih]
   ·have:n=l.length:=by omega
    subst this
    simp[ψ2p.l0])
  (by omega) 0 () (κ4 _) trivial
 have hk:lp ψ2p.l0 (l,[],0)=_:=hk
 have hl2:=φ7U l
 unfold ψ2p.f φ1l
 rw[hk,bS,φBw _ (by omega),bS]
theorem φCU (l:List RecT) (hl:l.length<1000000000000):ψ17.f l=some (φ1l l):=by
 have hk:=φj (step:=ψ17.l0) (fun n (_:Unit)=>(φ3e (l.take n),l,(l.length:Int),(n:Int))) l.length (fun _ _=>φ3e l) (fun _ _=>True)
  (fun rec n s hn _ ih=>by
   rcases κ1 n l.length with h | h
   ·have h1:=φ7U (l.take n)
    have h2:=φ3Z l[n]
    rw[lT] at h1
    have ih:=ih () h trivial
    rw[κ3 h,φEa] at ih
    simp only[ψ17.l0,oL,h,dT,cT,φJ,φN,φB h,φ2h,φ9q,bS,φ1L (show (φ3e (l.take n)).length+(φ6 l[n]).length≤1000000000000000 by omega),φS (show n+1<9223372036854775808 by omega),ih]
   ·have:n=l.length:=by omega
    subst this
    simp[ψ17.l0])
  (by omega) 0 () (κ4 _) trivial
 have hk:lp ψ17.l0 ([],l,(l.length:Int),0)=_:=hk
 have hl2:=φ7U l
 unfold ψ17.f φ1l
 rw[hk,bS,φCT _ (by omega),bS]
theorem φDH {a:Nat} (h:a<1000000000001):(a+1) * 64≤140737488355328:=by omega
def φR (p:φZ):RecT:=(4,p.2.2,p.1,p.2.1,0,0)
def φLV (r:RecT):Nat:=(frame (φ6 r)).length
def φFl (l:List RecT):Nat:=sumN φLV l
theorem φGZ {α:Type} (f:α→Nat):∀(l:List α) (x:α),sumN f (l++[x])=sumN f l+f x
 | [],x=>by simp[sumN]
 | y::l,x=>by
  have:=φGZ f l x
  simp only[κF,sumN,this];omega
def φY (l:List φZ) (mark:Int):List RecT:=l.map φR++[(5,mark,[],[],(l.length:Int),φ1l (l.map φR))]
theorem φN6 (l:List φZ) (n:Nat) (h:n<l.length):(l.take (n+1)).map φR=(l.take n).map φR++[φR l[n]]:=by
 rw[κ3 h,mp];rfl
theorem φMQ (l:List φZ) (mark:Int) (hl:l.length<1000000000):ψ1X.f l mark=some (φY l mark):=by
 have hk:=φj (step:=ψ1X.l0) (fun n (_:Unit)=>(l,mark,(l.take n).map φR,l,(l.length:Int),(n:Int))) l.length (fun _ _=>(l,mark,l.map φR)) (fun _ _=>True)
  (fun rec n s hn _ ih=>by
   rcases κ1 n l.length with h | h
   ·have ih:=ih () h trivial
    rw[φN6 l n h] at ih
    have hb:(((l.take n).map φR).length+([φR l[n]]:List RecT).length) * 64≤140737488355328:=by
     rw[lM,lT];exact φDH (by omega)
    have hb2:(((l.take n).map φR).length+([(4,l[n].2.2,l[n].1,l[n].2.1,0,0)]:List RecT).length) * 64≤140737488355328:=hb
    have hkp:((4,l[n].2.2,l[n].1,l[n].2.1,0,0):RecT)=φR l[n]:=rfl
    simp only[ψ1X.l0,oL,h,dT,cT,φJ,φN,φB h,hkp,φS (show n+1<9223372036854775808 by omega),ih]
    exact congrArg (fun b=>bif b then some (l,mark,l.map φR) else none) (decide_eq_true hb2)
   ·have:n=l.length:=by omega
    subst this
    simp[ψ1X.l0])
  (by omega) 0 () (κ4 _) trivial
 have hk:lp ψ1X.l0 (l,mark,[],l,(l.length:Int),0)=_:=hk
 unfold ψ1X.f φY
 rw[hk,bS]
 have hb:((l.map φR).length+([((5,mark,[],[],(l.length:Int),φ1l (l.map φR)):RecT)]:List RecT).length) * 64≤140737488355328:=by
  rw[lM];exact φDH (by omega)
 simp only[φCU (l.map φR) (by rw[lM];omega),bS,hb,dT,cT]
abbrev CurT:=List Int×Int×Int
def Cur (c:CurT):Prop:=0≤c.2.1∧c.1.length<2 ^ 60
theorem φ8c (x:Int):0≤bits (fun _ a b=>a &&& b) .i64 x 255∧bits (fun _ a b=>a &&& b) .i64 x 255≤255:=by
 have e:bits (fun _ a b=>a &&& b) .i64 x 255=IntKind.wrap .i64 ((BitVec.ofInt 64 x &&& BitVec.ofInt 64 255).toNat:Int):=rfl
 have h:(BitVec.ofInt 64 x &&& BitVec.ofInt 64 255).toNat≤255:=by
  rw[BitVec.toNat_and]
  exact κZ Nat.and_le_right (by decide)
 rw[e,φAn (by omega)]
 omega
theorem φ6C {c:CurT} (h:Cur c):∃x c',ψ36.f c=some (x,c')∧0≤x∧x≤255∧Cur c':=by
 obtain ⟨l,i,s⟩:=c
 obtain ⟨h1,h2⟩:=h
 simp only at h1 h2
 unfold ψ36.f
 simp only
 generalize bits (fun _ a b=>a ^^^ b) .i64 _ _=y
 by_cases c:i<(l.length:Int)
 ·obtain ⟨j,rfl⟩:∃j:Nat,i=(j:Int):=⟨i.toNat,by omega⟩
  have c2:j<l.length:=by omega
  simp only[c,dT,cT,φJ,c2]
  refine ⟨_,_,rfl,(φ8c _).1,(φ8c _).2,?_,h2⟩
  show 0≤w64 _
  rw[φH (by omega) (by omega)];omega
 ·simp only[c,dF,cF]
  exact ⟨_,_,rfl,(φ8c _).1,(φ8c _).2,h1,h2⟩
theorem φFK {x n:Int} (hx:0≤x) (hn:0<n):0≤Int.tmod x n∧Int.tmod x n<n:=by
 exact ⟨Int.tmod_nonneg n hx,Int.tmod_lt_of_pos x hn⟩
theorem φ57 {c:CurT} (h:Cur c) (n:Int):∃x c',ψ35.f c n=some (x,c')∧0≤x∧(0<n→x<n)∧(n≤0→x=0)∧Cur c':=by
 unfold ψ35.f
 by_cases c0:n≤0
 ·simp only[c0,dT,cT]
  exact ⟨0,c,rfl,κH _,fun h=>by omega,fun _=>rfl,h⟩
 have hn:(n != 0)=true:=by simp;omega
 by_cases c1:n≤256
 ·obtain ⟨x,c',e,h1,h2,h3⟩:=φ6C h
  simp only[c0,c1,dT,dF,cT,cF,e,bS,hn]
  have:=φFK h1 (show 0<n by omega)
  exact ⟨_,_,rfl,this.1,fun _=>this.2,fun h=>h.elim,h3⟩
 ·obtain ⟨x,c1',e1,a1,b1,h1⟩:=φ6C h
  obtain ⟨y,c2',e2,a2,b2,h2⟩:=φ6C h1
  obtain ⟨z,c3',e3,a3,b3,h3⟩:=φ6C h2
  obtain ⟨w,c4',e4,a4,b4,h4⟩:=φ6C h3
  simp only[c0,c1,dF,cF,e1,e2,e3,e4,bS,hn,cT]
  rw[φH (n:=x * 16777216) (by omega) (by omega),φH (n:=y * 65536) (by omega) (by omega),φH (n:=z * 256) (by omega) (by omega),φH (n:=x * 16777216+y * 65536) (by omega) (by omega),φH (n:=x * 16777216+y * 65536+z * 256) (by omega) (by omega),φH (n:=x * 16777216+y * 65536+z * 256+w) (by omega) (by omega)]
  have:=φFK (x:=x * 16777216+y * 65536+z * 256+w) (n:=n) (by omega) (by omega)
  exact ⟨_,_,rfl,this.1,fun _=>this.2,fun h=>h.elim,h4⟩
theorem φHi {c:CurT} (h:Cur c) (n:Int):∃b c',ψ39.f c n=some (b,c')∧Cur c':=by
 obtain ⟨x,c',e,_,_,_,h'⟩:=φ57 h n
 unfold ψ39.f
 simp only[e,bS]
 exact ⟨_,_,rfl,h'⟩
theorem φEo {c:CurT} (h:Cur c) (l:List (List UInt8)) (hl:0<l.length):∃x c',ψ3A.f c l=some (x,c')∧x∈l∧Cur c':=by
 obtain ⟨x,c',e,h1,h2,_,h'⟩:=φ57 h (l.length:Int)
 have h2:=h2 (by omega)
 unfold ψ3A.f
 simp only[e,bS]
 obtain ⟨j,rfl⟩:∃j:Nat,x=(j:Int):=⟨x.toNat,by omega⟩
 have c2:j<l.length:=by omega
 simp only[φJ,c2,dT,cT,φN,φB c2]
 exact ⟨_,_,rfl,gM c2,h'⟩
def φD4:List (List UInt8):=[[97],[98],[99],[107,101,121],[108,111,110,103,110,97,109,101]]
theorem φB7 {c:CurT} (h:Cur c):∃x c',ψ3J.f c=some (x,c')∧φ18 x=true∧Cur c':=by
 obtain ⟨x,c',e,hm,h'⟩:=φEo h φD4 (by decide)
 unfold ψ3J.f
 have e:ψ3A.f c [[97],[98],[99],[107,101,121],[108,111,110,103,110,97,109,101]]=some (x,c'):=e
 simp only[e,bS]
 refine ⟨_,_,rfl,?_,h'⟩
 have:∀y∈φD4,φ18 y=true:=by decide
 exact this x hm
theorem φBx {A B σ:Type} {step:(A→Option B)→A→Option B} (st:Nat→σ→A) (Inv:Nat→σ→Prop) (Post:B→Prop)
  (hz:∀rec s,Inv 0 s→∃b,step rec (st 0 s)=some b∧Post b)
  (hs:∀rec n s,Inv (n+1) s→∃s',Inv n s'∧step rec (st (n+1) s)=rec (st n s')) (n:Nat) (s:σ) (hi:Inv n s) (hn:n<2 ^ 62):∃b,lp step (st n s)=some b∧Post b:=by
 have key:∀n f s,Inv n s→n<f→∃b,φ2w step f (st n s)=some b∧Post b:=by
  intro n
  induction n with
  | zero=>
   intro f s hi hf
   obtain ⟨f,rfl⟩:∃g,f=g+1:=⟨f - 1,by omega⟩
   exact hz _ s hi
  | succ n ih=>
   intro f s hi hf
   obtain ⟨f,rfl⟩:∃g,f=g+1:=⟨f - 1,by omega⟩
   obtain ⟨s',hi',e⟩:=hs (φ2w step f) n s hi
   show ∃b,step (φ2w step f) (st (n+1) s)=some b∧Post b
   rw[e]
   exact ih f s' hi' (by omega)
 exact key n FUEL s hi (κG hn φ71)
theorem φ7S {A B:Type} {step:(A→Option B)→A→Option B} (P:A→Prop) (m:A→Nat) (Post:B→Prop)
  (h:∀rec a,P a→(∃b,step rec a=some b∧Post b)∨∃a',P a'∧m a'<m a∧step rec a=rec a') {a:A} (hp:P a) (hm:m a<2 ^ 62):∃b,lp step a=some b∧Post b:=by
 have key:∀f a,P a→m a<f→∃b,φ2w step f a=some b∧Post b:=by
  intro f
  induction f with
  | zero=>intro a _ hf;omega
  | succ f ih=>
   intro a hp hf
   rcases h (φ2w step f) a hp with hx | ⟨a',hp',hlt,e⟩
   ·exact hx
   ·show ∃b,step (φ2w step f) a=some b∧Post b
    rw[e]
    exact ih a' hp' (by omega)
 exact key FUEL a hp (κG hm φ71)
theorem φOH {c:CurT} (h:Cur c) (most:Int) (h0:0≤most) (h1:most<1000000000):∃x c',ψ3C.f c most=some (x,c')∧(x.length:Int)≤most∧Cur c':=by
 obtain ⟨st,c1,e1,_,_,_,hc1⟩:=φ57 h 4
 obtain ⟨n,c2,e2,a2,b2,_,hc2⟩:=φ57 hc1 (most+1)
 have b2:=b2 (by omega)
 obtain ⟨m,rfl⟩:∃m:Nat,n=(m:Int):=⟨n.toNat,by omega⟩
 have key:=φBx (step:=ψ3C.l0) (fun k (s:CurT×List Int)=>(s.1,s.2,st,(k:Int))) (fun k s=>Cur s.1∧s.2.length+k=m) (fun b=>Cur b.1∧b.2.length=m)
  (fun rec s hi=>⟨_,by simp[ψ3C.l0],hi.1,by simpa using hi.2⟩)
  (fun rec k s hi=>by
   obtain ⟨hi1,hi2⟩:=hi
   obtain ⟨x,c',e,_,_,h'⟩:=φ6C hi1
   have e0:((k+1:Nat):Int) > 0:=by omega
   have hw:w64 (((k+1:Nat):Int) - 1)=(k:Int):=by rw[φH (by omega) (by omega)];omega
   have hb:∀v:Int,(s.2.length+[v].length) * 1≤140737488355328:=fun v=>by show (s.2.length+1) * 1≤_;omega
   cases d1:(st==1)<;>cases d2:(st==2)<;>simp only[ψ3C.l0,e0,dT,cT,cF,e,bS,d1,d2,hb,hw]
   all_goals exact ⟨(c',s.2++[_]),⟨h',by simp only[lA,κA];omega⟩,rfl⟩)
  m (c2,[]) ⟨hc2,by simp⟩ (by omega)
 obtain ⟨⟨c3,xs⟩,e3,hc3,hl⟩:=key
 have e3:lp ψ3C.l0 (c2,[],st,(m:Int))=some (c3,xs):=e3
 unfold ψ3C.f
 rw[e1,bS]
 simp only[φH (n:=most+1) (by omega) (by omega),e2,bS,e3]
 refine ⟨_,_,rfl,?_,hc3⟩
 unfold φ1U
 simp only at hl
 rw[lM,hl];omega
theorem φJ2 (l:List Int) (hl:l.length<2 ^ 60):∃c,ψ38.f l=some c∧Cur c:=by
 have key:∃s,lp ψ38.l0 (l,w64 (10101+(l.length:Int)),0)=some (l,s):=by
  have:=φ7S (step:=ψ38.l0) (a:=(l,w64 (10101+(l.length:Int)),((0:Nat):Int))) (fun a=>a.1=l∧∃n:Nat,a.2.2=(n:Int)∧n≤l.length) (fun a=>l.length - a.2.2.toNat) (fun b=>b.1=l)
   (fun rec a ha=>by
    obtain ⟨x,s,i⟩:=a
    obtain ⟨hx,n,hn,hle⟩:=ha
    simp only at hx hn
    subst hx hn
    by_cases c:n<x.length
    ·by_cases c2:(n:Int)<4000
     ·right
      have c3:(n:Int)<(x.length:Int):=by omega
      refine ⟨(x,bits (fun _ a b=>a &&& b) .i64 (w64 ((w64 ((w64 (s * 131))+(w64 (x.getD n 0))))+7)) 1073741823,((n+1:Nat):Int)),⟨rfl,n+1,rfl,c⟩,by simp only[tN];omega,?_⟩
      simp only[ψ38.l0,c3,c2,dT,cT,φJ,c,φN,φS (show n+1<9223372036854775808 by omega)]
     ·left
      have c3:(n:Int)<(x.length:Int):=by omega
      exact ⟨(x,s),by simp only[ψ38.l0,c3,c2,dT,dF,cT,cF],rfl⟩
    ·left
     have c3:¬(n:Int)<(x.length:Int):=by omega
     exact ⟨(x,s),by simp only[ψ38.l0,c3,dF,cF],rfl⟩)
   ⟨rfl,0,rfl,κ4 _⟩ (by simp only;omega)
  obtain ⟨⟨b1,b2⟩,e,hb⟩:=this
  simp only at hb
  subst hb
  exact ⟨b2,e⟩
 obtain ⟨s,e⟩:=key
 unfold ψ38.f
 simp only[e,bS]
 exact ⟨_,rfl,κH _,hl⟩
abbrev φCc:=List UInt8×Int
def φ8V (t:TxnT) (key:List UInt8) (b:Int):TxnT×Int:=
 if t.1=false∨φ18 key=false then (t,4) else
 match t.2.1.find? (fun r=>r.1==key) with
 | some r=>if r.2=b then (t,0) else (t,7)
 | none=>if 20≤t.2.1.length then (t,5) else ((t.1,t.2.1++[(key,b)],t.2.2),0)
def φ1D (t:TxnT) (key:List UInt8) (b:Int):TxnT×Int:=
 if t.1=false∨φ18 key=false then (t,4) else
 if t.2.1.any (fun r=>r.1==key && !(r.2==b))=true then (t,7) else
 if t.2.1.any (fun r=>r.1==key)=true then (t,0) else
 if 20≤t.2.1.length then (t,5) else ((t.1,t.2.1++[(key,b)],t.2.2),0)
theorem φHp {a:Nat} (h:a<1000000000001):(a+1) * 24≤140737488355328:=by omega
theorem φL9 (t:TxnT) (key:List UInt8) (b:Int) (h1:t.2.1.length<1000000000) (h2:t.2.2.length<1000000000):ψ1C.f t key b=some (φ1D t key b):=by
 unfold ψ1C.f φ1D
 rw[φAX t (by omega) (by omega),bS]
 rcases bE t.1 with k | k
 rotate_left
 ·simp[k]
 simp only[k,nZ,cF,φ6i,bS]
 rcases bE (φ18 key) with k2 | k2
 rotate_left
 ·simp[k2]
 have key':=φj (step:=ψ1C.l0) (fun n (f:Bool)=>(key,b,t,((false,[],[]):TxnT),t,f,t.2.1,(t.2.1.length:Int),(n:Int))) t.2.1.length
  (fun n f=>if (t.2.1.drop n).any (fun r=>r.1==key && !(r.2==b))=true then .inr (t,7) else .inl (key,b,t,(false,[],[]),t,f || (t.2.1.drop n).any (fun r=>r.1==key))) (fun _ _=>True)
  (fun rec n f hn _ ih=>by
   rcases κ1 n t.2.1.length with h | h
   ·have hw:=φS (show n+1<9223372036854775808 by omega)
    rw[dG h,List.any_cons,List.any_cons]
    simp only[ψ1C.l0,oL,h,dT,cT,φJ,φN,φB h,φS (show n+1<9223372036854775808 by omega)]
    rcases bE (t.2.1[n].1==key) with c | c
    ·by_cases c2:t.2.1[n].2=b
     ·have c3:(t.2.1[n].2 != b)=false:=by simpa using c2
      have c4:(t.2.1[n].2==b)=true:=by simpa using c2
      simp only[c,c3,c4,nZ,cT,cF,bS,φf,hw,ih true h trivial,Bool.and_false,κS,Bool.true_or,Bool.or_true]
     ·have c3:(t.2.1[n].2 != b)=true:=by simpa using c2
      have c4:(t.2.1[n].2==b)=false:=by simpa using c2
      simp only[c,c3,c4,nZ,nF,cT,cF,bS,φq,κM,Bool.true_or,if_true]
    ·simp only[c,nF,cT,bS,φf,hw,ih f h trivial,κD,κS]
   ·have:n=t.2.1.length:=by omega
    subst this
    simp[ψ1C.l0])
  (by omega) 0 false (κ4 _) trivial
 have key':lp ψ1C.l0 (key,b,t,(false,[],[]),t,false,t.2.1,(t.2.1.length:Int),0)=_:=key'
 simp only[k2,nZ,cF,key',bS,κ8,or_self,if_false,κC,κS]
 cases t.2.1.any (fun r=>r.1==key && !(r.2==b))
 rotate_left
 ·simp only[if_true,φq]
 simp only[κ2,if_false,φf]
 cases t.2.1.any (fun r=>r.1==key)
 rotate_left
 ·simp only[if_true,cT]
 simp only[κ2,if_false,cF]
 by_cases c:20≤t.2.1.length
 ·have c2:(t.2.1.length:Int)≥20:=by omega
  simp only[c,c2,dT,cT,if_true]
 ·have c2:¬(t.2.1.length:Int)≥20:=by omega
  have hb:(t.2.1.length+([(key,b)]:List φCc).length) * 24≤140737488355328:=φHp (by omega)
  have hb:decide ((t.2.1.length+([(key,b)]:List φCc).length) * 24≤140737488355328)=true:=decide_eq_true hb
  simp only[c,c2,dF,cF,if_false,hb,cT,k]
structure TxnOk (t:TxnT):Prop where
 keys:t.2.1.Pairwise (fun a b=>a.1≠b.1)
 reads:t.2.1.length≤20
 writes:t.2.2.length≤50
 net:(netW t.2.2).length≤8
theorem φKM {t:TxnT} (h:TxnOk t) (key:List UInt8) (b:Int):TxnOk (φ8V t key b).1:=by
 unfold φ8V
 split
 ·exact h
 split
 ·split<;>exact h
 ·rename_i hf
  split
  ·exact h
  ·refine ⟨?_,?_,h.writes,h.net⟩
   ·show (t.2.1++[(key,b)]).Pairwise _
    rw[κe]
    refine ⟨h.keys,by simp,fun x hx y hy=>?_⟩
    rw[mZ.1 hy]
    have:=List.find?_eq_none.1 hf x hx
    simpa using this
   ·show (t.2.1++[(key,b)]).length≤20
    rw[lA];show _+1≤20;omega
theorem φNW {t:TxnT} (h:TxnOk t) (p:PutT):TxnOk (φ2M t p).1:=by
 unfold φ2M
 split
 ·rename_i c
  refine ⟨h.keys,h.reads,?_,c.2.2.1⟩
  show (t.2.2++[p]).length≤50
  rw[lA];show _+1≤50;omega
 ·exact h
theorem φNX {t:TxnT} (h:TxnOk t) (key:List UInt8) (b:Int):φ1D t key b=φ8V t key b:=by
 unfold φ1D φ8V
 split
 ·rfl
 have hk:=h.keys
 generalize t.2.1=l at *
 cases hf:l.find? (fun r=>r.1==key) with
 | none=>
  have hn:=List.find?_eq_none.1 hf
  have a1:l.any (fun r=>r.1==key && !(r.2==b))=false:=by
   rw[List.any_eq_false];intro x hx;simp[hn x hx]
  have a2:l.any (fun r=>r.1==key)=false:=by
   rw[List.any_eq_false];exact hn
  simp only[a1,a2,κ2,if_false]
 | some r=>
  have hr:=List.mem_of_find?_eq_some hf
  have hr2:r.1=key:=by simpa using List.find?_some hf
  have a2:l.any (fun r=>r.1==key)=true:=by
   rw[List.any_eq_true];exact ⟨r,hr,by simpa using hr2⟩
  have only:∀x∈l,x.1=key→x=r:=by
   intro x hx e
   rcases List.pairwise_iff_getElem.1 hk with hp
   obtain ⟨i,hi,ei⟩:=List.getElem_of_mem hx
   obtain ⟨j,hj,ej⟩:=List.getElem_of_mem hr
   rcases Nat.lt_trichotomy i j with c | c | c
   ·exact absurd (by rw[ei,ej,e,hr2]) (hp i j hi hj c)
   ·subst c;rw[←ei,ej]
   ·exact absurd (by rw[ei,ej,e,hr2]) (hp j i hj hi c)
  by_cases c:r.2=b
  ·have a1:l.any (fun r=>r.1==key && !(r.2==b))=false:=by
    rw[List.any_eq_false]
    intro x hx
    by_cases e:x.1=key
    ·rw[only x hx e];simp[c]
    ·simp[e]
   simp only[a1,a2,c,κ2,if_false,if_true]
  ·have a1:l.any (fun r=>r.1==key && !(r.2==b))=true:=by
    rw[List.any_eq_true];exact ⟨r,hr,by simp[hr2,c]⟩
   simp only[a1,c,if_true,if_false]
theorem φMw {k:Nat} (hk:k<2 ^ 60):w64 (((k+1:Nat):Int) - 1)=(k:Int):=by rw[φH (by omega) (by omega)];omega
theorem φJE (l:List Int):ψ2F.f l=some (decide ((l.length:Int) > 1048576)):=rfl
def srt {α:Type} (l:List (List UInt8×α)):Prop:=l.Pairwise (fun a b=>Op.bytesLess a.1 b.1=true)
theorem φ6O {α:Type} (x:List UInt8×α) (l:List (List UInt8×α)) (p:List UInt8×α):insB (x::l) p=if leK x.1 p.1=true then x::insB l p else p::x::l:=by
 cases h:leK x.1 p.1<;>simp[insB,h]
theorem φ3F {α:Type} (y p:List UInt8×α):∀l:List (List UInt8×α),y∈insB l p↔y=p∨y∈l
 | []=>by simp[insB]
 | x::l=>by
  rw[φ6O]
  split
  ·rw[mc,φ3F y p l,mc]
   constructor
   ·rintro (h | h | h)
    ·exact .inr (.inl h)
    ·exact .inl h
    ·exact .inr (.inr h)
   ·rintro (h | h | h)
    ·exact .inr (.inl h)
    ·exact .inl h
    ·exact .inr (.inr h)
  ·rw[mc]
theorem φ7w {α:Type} (p:List UInt8×α):∀l:List (List UInt8×α),srt l→(∀x∈l,x.1≠p.1)→srt (insB l p)
 | [],_,_=>by simp[insB,srt]
 | x::l,h,hn=>by
  have h:=κY.1 h
  rw[φ6O]
  split
  ·rename_i c
   refine List.Pairwise.cons (fun y hy=>?_) (φ7w p l h.2 fun y hy=>hn y (mC _ hy))
   rcases (φ3F y p l).1 hy with e | hy
   ·rw[e]
    unfold leK at c
    rcases κX _ _ ▸ c with c | c
    ·exact c
    ·exact absurd (by simpa using c) (hn x κ0)
   ·exact h.1 y hy
  ·rename_i c
   have c2:Op.bytesLess p.1 x.1=true:=by
    rw[φ9Y] at c
    simpa using c
   refine List.Pairwise.cons (fun y hy=>?_) (List.Pairwise.cons h.1 h.2)
   rcases mc.1 hy with e | hy
   ·rw[e];exact c2
   ·exact φ7g _ _ _ c2 (h.1 y hy)
theorem φ85 {α:Type} {l:List (List UInt8×α)} (h:srt l) (k:List UInt8):srt (φ1C l k):=h.sublist List.filter_sublist
theorem φ55 {α:Type} (l:List (List UInt8×α)) (k:List UInt8) (y:List UInt8×α):y∈φ1C l k↔y∈l∧y.1≠k:=by
 unfold φ1C
 rw[List.mem_filter]
 simp
theorem φJv (b:Int) {l:List φZ} (h:srt l) (p:PutT):srt (φ4Y b l p):=by
 unfold φ4Y
 split
 ·exact φ85 h _
 ·exact φ7w _ _ (φ85 h _) fun x hx=>((φ55 _ _ _).1 hx).2
theorem φCD (b:Int):∀(puts:List PutT) {l:List φZ},srt l→srt (φ1j l puts b)
 | [],_,h=>h
 | p::puts,_,h=>φCD b puts (φJv b h p)
theorem φOT (b:Int) (l:List φZ) (p:PutT) (x:φZ):x∈φ4Y b l p↔if x.1=p.1 then p.2.1=false∧x.2=(p.2.2,b) else x∈l:=by
 unfold φ4Y
 obtain ⟨xk,xv,xb⟩:=x
 rcases bE p.2.1 with c | c
 ·rw[if_pos c,φ55]
  by_cases e:xk=p.1
  ·rw[if_pos e];simp[c,e]
  ·rw[if_neg e];simp[e]
 ·rw[if_neg (by simp[c]),φ3F,φ55]
  by_cases e:xk=p.1
  ·rw[if_pos e]
   simp[c,e]
  ·rw[if_neg e]
   simp[e]
theorem φNx (l:List PutT) (p:PutT) (k:List UInt8):φ3J (l++[p]) k=if p.1=k then some p else φ3J l k:=by
 unfold φ3J
 rw[List.reverse_append]
 show List.find? _ (p::l.reverse)=_
 rw[List.find?_cons]
 by_cases c:p.1=k
 ·simp[c]
 ·have:(p.1==k)=false:=by simpa using c
  simp[c,this]
theorem φJK (l:List φZ) (puts:List PutT) (p:PutT) (b:Int):φ1j l (puts++[p]) b=φ4Y b (φ1j l puts b) p:=by
 unfold φ1j;rw[κU];rfl
theorem φGT (b:Int) (l:List φZ) (x:φZ) (puts:List PutT):x∈φ1j l puts b↔match φ3J puts x.1 with | some p=>p.2.1=false∧x.2=(p.2.2,b) | none=>x∈l:=by
 induction puts using φ4u with
 | h0=>exact Iff.rfl
 | hs puts p ih=>
  rw[φJK,φOT,φNx]
  by_cases c:p.1=x.1
  ·rw[if_pos c,if_pos c.symm]
  ·rw[if_neg c,if_neg (fun e=>c e.symm)];exact ih
theorem φFE {l:List PutT} {k:List UInt8} {p:PutT} (h:φ3J l k=some p):p∈l∧p.1=k:=by
 unfold φ3J at h
 exact ⟨by simpa using List.mem_of_find?_eq_some h,by simpa using List.find?_some h⟩
theorem φO4 {l:List PutT} {k:List UInt8} {p:PutT} (h:φ3J l k=some p):ownW l k=(p,true):=by unfold ownW;rw[h]
theorem φJm {l:List PutT} {q:PutT}:q∈netW l↔φ3J l q.1=some q:=by
 unfold netW
 rw[mM]
 constructor
 ·rintro ⟨k,hk,rfl⟩
  have hk2:=φCy l k hk
  rw[hk2.1]
  unfold ownW at hk2 ⊢
  cases e:φ3J l k with
  | none=>rw[e] at hk2;simp at hk2
  | some p=>rfl
 ·intro h
  refine ⟨q.1,(φLT l q.1).2 ⟨q,(φFE h).1,rfl⟩,?_⟩
  rw[φO4 h]
abbrev φQ:=Int×List Int
def φ1f (hi:Int):Option Int→List Int→Bool
 | _,[]=>true
 | p,x::r=>decide (1≤x∧x≤hi) && ((match p with | none=>true | some q=>decide (q<x)) && φ1f hi (some x) r)
def φ7K (l:List Int):Nat→Option Int
 | 0=>none
 | n+1=>some (l.getD n 0)
theorem φ7s (l:List Int) (n:Nat) (h:n<l.length):φ7K l (n+1)=some l[n]:=by
 show some (l.getD n 0)=_
 rw[φB h]
def φm (v:φQ):Bool:=φ1f (w64 (v.1 - 1)) none v.2 && (decide (1≤v.1∧v.1≤100000) && decide (1≤(v.2.length:Int)∧(v.2.length:Int)≤60))
theorem φNm (v:φQ) (hl:v.2.length<2 ^ 62):lp ψY.l0 (v,v.2,(v.2.length:Int),0)=some (if φ1f (w64 (v.1 - 1)) none v.2=true then .inl v else .inr false):=by
 have key:=φj (step:=ψY.l0) (fun n (_:Unit)=>(v,v.2,(v.2.length:Int),(n:Int))) v.2.length (fun n _=>if φ1f (w64 (v.1 - 1)) (φ7K v.2 n) (v.2.drop n)=true then .inl v else .inr false) (fun _ _=>True)
  (fun rec n s hn' _ ih=>by
   rcases κ1 n v.2.length with h | h
   ·have hw:w64 ((n:Int)+1)=((n+1:Nat):Int):=φS (by omega)
    have ih2:=ih () h trivial
    rw[φ7s v.2 n h] at ih2
    rw[dG h]
    simp only[φ1f,ψY.l0,oL,h,dT,cT,φJ,φN,φB h,bS,φ1c]
    rcases bE (decide (1≤v.2[n]∧v.2[n]≤w64 (v.1 - 1))) with k2 | k2
    rotate_left
    ·simp only[k2,nF,cT,bS,φq];simp
    simp only[k2,nZ,cF,tA]
    cases n with
    | zero=>
     have z:¬((0:Nat):Int) > 0:=by omega
     simp only[z,dF,cF,bS,φf,hw,ih2,φ7K,tA]
    | succ m=>
     have z:((m+1:Nat):Int) > 0:=by omega
     have hm:m<v.2.length:=by omega
     have z2:w64 (((m+1:Nat):Int) - 1)=(m:Int):=by rw[φH (by omega) (by omega)];omega
     rw[φ7s v.2 m hm]
     simp only[z,dT,cT,z2,φJ,hm,φN,φB hm]
     by_cases k3:v.2[m]<v.2[m+1]
     ·have k4:¬v.2[m]≥v.2[m+1]:=by omega
      simp only[k3,k4,dT,dF,cF,bS,φf,hw,ih2,tA]
     ·have k4:v.2[m]≥v.2[m+1]:=by omega
      simp[k3,k4]
   ·have:n=v.2.length:=by omega
    subst this
    simp[ψY.l0,φ1f])
  hl 0 () (κ4 _) trivial
 have key:lp ψY.l0 (v,v.2,(v.2.length:Int),0)=_:=key
 rw[key,κC];rfl
theorem φKr (v:φQ) (hl:v.2.length<2 ^ 62):lp ψ2X.l0 (v,0)=some (if φ1f (w64 (v.1 - 1)) none v.2=true then .inl () else .inr false):=by
 have key:=φj (step:=ψ2X.l0) (fun n (_:Unit)=>(v,(n:Int))) v.2.length (fun n _=>if φ1f (w64 (v.1 - 1)) (φ7K v.2 n) (v.2.drop n)=true then .inl () else .inr false) (fun _ _=>True)
  (fun rec n s hn' _ ih=>by
   rcases κ1 n v.2.length with h | h
   ·have hw:w64 ((n:Int)+1)=((n+1:Nat):Int):=φS (by omega)
    have ih2:=ih () h trivial
    rw[φ7s v.2 n h] at ih2
    rw[dG h]
    simp only[φ1f,ψ2X.l0,oL,h,dT,cT,φJ,φN,φB h,bS,φ2U]
    rcases bE (decide (1≤v.2[n]∧v.2[n]≤w64 (v.1 - 1))) with k2 | k2
    rotate_left
    ·simp only[k2,nF,cT,bS,φq];simp
    simp only[k2,nZ,cF,tA]
    cases n with
    | zero=>
     have z:¬((0:Nat):Int) > 0:=by omega
     simp only[z,dF,cF,bS,φf,hw,ih2,φ7K,tA]
    | succ m=>
     have z:((m+1:Nat):Int) > 0:=by omega
     have hm:m<v.2.length:=by omega
     have z2:w64 (((m+1:Nat):Int) - 1)=(m:Int):=by rw[φH (by omega) (by omega)];omega
     rw[φ7s v.2 m hm]
     simp only[z,dT,cT,z2,φJ,hm,φN,φB hm]
     by_cases k3:v.2[m]<v.2[m+1]
     ·have k4:¬v.2[m+1]≤v.2[m]:=by omega
      simp only[k3,k4,dT,dF,cF,bS,φf,hw,ih2,tA]
     ·have k4:v.2[m+1]≤v.2[m]:=by omega
      simp[k3,k4]
   ·have:n=v.2.length:=by omega
    subst this
    simp[ψ2X.l0,φ1f])
  hl 0 () (κ4 _) trivial
 have key:lp ψ2X.l0 (v,0)=_:=key
 rw[key,κC];rfl
theorem φ9U (v:φQ) (hl:v.2.length<2 ^ 62):ψY.f v=some (φm v):=by
 unfold ψY.f φm
 rw[φNm v hl,bS]
 rcases bE (φ1f (w64 (v.1 - 1)) none v.2) with k | k
 rotate_left
 ·simp[k]
 simp only[k,if_true,φf,φ1c,bS,tA]
 cases decide (1≤v.1∧v.1≤100000)<;>rfl
theorem φ8G (v:φQ) (hl:v.2.length<2 ^ 62):ψ2X.f v=some (φm v):=by
 unfold ψ2X.f φm
 rw[φKr v hl]
 simp only[φ2U,bS]
 rcases bE (decide (1≤v.1∧v.1≤100000)) with k | k
 rotate_left
 ·simp only[k,nF,cT,κD,Bool.and_false]
 rcases bE (decide (1≤(v.2.length:Int)∧(v.2.length:Int)≤60)) with k2 | k2
 rotate_left
 ·simp only[k,k2,nF,nZ,cF,cT,Bool.and_false]
 simp only[k,k2,nZ,cF,κM]
 cases φ1f (w64 (v.1 - 1)) none v.2<;>simp
theorem φ8q {v:φQ} (h:φm v=true):v.2.length≤60:=by
 unfold φm at h
 simp only[bA,decide_eq_true_eq] at h
 omega
theorem φAh:∀l:List Int,((l.map varT).flatten).length≤7 * l.length
 | []=>by simp
 | x::l=>by
  have h1:=φAh l
  have h2:=φk x
  rw[κ6,List.flatten_cons,lA,lC];omega
def φn (v:φQ):List UInt8:=if φm v=false then [] else frame (varT v.1++varT (v.2.length:Int)++(v.2.map varT).flatten)
theorem φ5P (v:φQ):(φn v).length≤211:=by
 unfold φn;split
 ·simp
 ·exact φ5C _
theorem φM5 (v:φQ) (hl:v.2.length<2 ^ 62):ψz.f v=some (φn v):=by
 unfold ψz.f φn
 rw[φ9U v hl,bS]
 rcases bE (φm v) with k | k
 rotate_left
 ·simp[k]
 have h60:=φ8q k
 have h1:=φAh v.2
 have h2:=φk v.1
 have h3:=φk (v.2.length:Int)
 have hv:ψ1v.f [v.1,(v.2.length:Int)]=some (varT v.1++varT (v.2.length:Int)):=by rw[φ7X [v.1,(v.2.length:Int)] (by show 2<1000000000000;decide)];simp
 simp only[k,nZ,cF,hv,bS,φ7X v.2 (by omega),φ1L (show (varT v.1++varT (v.2.length:Int)).length+((v.2.map varT).flatten).length≤1000000000000000 by rw[lA];omega),cT,φ7x _ (show (varT v.1++varT (v.2.length:Int)++(v.2.map varT).flatten).length<2 ^ 62 by rw[lA,lA];omega),κ8,if_false]
theorem φAO (v:φQ) (hl:v.2.length<2 ^ 62):ψ2m.f v=some (φn v):=by
 unfold ψ2m.f φn
 rw[φ8G v hl,bS]
 rcases bE (φm v) with k | k
 rotate_left
 ·simp[k]
 have h60:=φ8q k
 have h1:=φAh v.2
 have h2:=φk v.1
 have h3:=φk (v.2.length:Int)
 have key:=φj (step:=ψ2m.l0) (fun n (acc:List UInt8)=>(v,acc,(n:Int))) v.2.length (fun n acc=>acc++((v.2.drop n).map varT).flatten) (fun n acc=>acc.length≤14+7 * n)
  (fun rec n acc hn ha ih=>by
   rcases κ1 n v.2.length with h | h
   ·have hv:=φk v.2[n]
    have hb:acc.length+(varT v.2[n]).length≤9223372036854775807:=by omega
    have ih:=ih (acc++varT v.2[n]) h (by rw[lA];omega)
    simp only[ψ2m.l0,oL,h,dT,cT,φJ,φN,φB h,φ5D,bS,hb,φS (show n+1<9223372036854775808 by omega),ih]
    rw[dG h,κ6,List.flatten_cons,aA]
   ·have:n=v.2.length:=by omega
    subst this
    simp[ψ2m.l0])
  (by omega) 0 (varT v.1++varT (v.2.length:Int)) (κ4 _) (by rw[lA];omega)
 have key:lp ψ2m.l0 (v,varT v.1++varT (v.2.length:Int),0)=_:=key
 simp only[k,nZ,cF,φ5D,bS,φ1L (show (varT v.1).length+(varT (v.2.length:Int)).length≤1000000000000000 by omega),cT,key,κC,φ98 _ (show (varT v.1++varT (v.2.length:Int)++(v.2.map varT).flatten).length<2 ^ 62 by rw[lA,lA];omega),κ8,if_false]
def dl (k:Nat) (d:φ1):Prop:=d.1.length<k∧φI d.1<k∧∀f∈d.1,f.1.length<k
theorem φ1d {k:Nat} {d:φ1} (h:dl k d) (hk:k≤1000000000):dlim d:=⟨by have:=h.1;omega,by have:=h.2.1;omega,fun f hf=>by have:=h.2.2 f hf;omega⟩
theorem φ3X {k m:Nat} {d:φ1} (h:dl k d) (hk:k≤m):dl m d:=⟨by have:=h.1;omega,by have:=h.2.1;omega,fun f hf=>by have:=h.2.2 f hf;omega⟩
theorem φ96 {k m:Nat} {d:φ1} {act:List φ4→Int×List φ4} (h:dl k d) (hm:k≤m) (ha:dl m ((act d.1).2,d.2)):dl m (φV d act).1:=by
 unfold φV
 split
 ·exact φ3X h hm
 ·split
  ·exact φ3X h hm
  ·exact ha
theorem φ65 {α:Type} (f:α→Nat) {a b:List α} (h:a.Sublist b):sumN f a≤sumN f b:=by
 induction h with
 | slnil=>exact κ5 _
 | cons x _ ih=>simp only[sumN];omega
 | cons_cons x _ ih=>simp only[sumN];omega
theorem φOf {k:Nat} {d:φ1} {l:List φ4} (h:dl k d) (hs:l.Sublist d.1):dl k (l,d.2):=
 ⟨Nat.lt_of_le_of_lt hs.length_le h.1,Nat.lt_of_le_of_lt (φ65 _ hs) h.2.1,fun f hf=>h.2.2 f (hs.subset hf)⟩
def φ2x (n:List UInt8) (d:φ1):φ1×Int:=φV d (φ28 n)
def φX (n:List UInt8) (d:φ1):φ1×Int:=φV d (φ2b n)
def φL (n t:List UInt8) (d:φ1):φ1×Int:=φV d (φ2Q d.2.1 n t)
def φG (n:List UInt8) (d:φ1):φ1×Int:=φV d (φ27 n)
def φ2W (a b:List UInt8) (d:φ1):φ1×Int:=φV d (φ2E a b)
theorem φF0 {k:Nat} {d:φ1} (h:dl k d) (n:List UInt8):dl k (φ2x n d).1:=
 φ96 h (κ5 _) (by
  unfold φ28
  split
  ·exact φOf h (φ5Y _ _)
  ·exact h)
theorem φMI {k m:Nat} {d:φ1} (h:dl k d) (f:φ4) (h1:k+1≤m) (h2:k+f.2.1.length≤m) (h3:f.1.length<m):dl m (insB d.1 f,d.2):=by
 refine ⟨?_,?_,fun g hg=>?_⟩
 ·show (insB d.1 f).length<m
  rw[φ60];have:=h.1;omega
 ·show φI (insB d.1 f)<m
  have e:φI (insB d.1 f)=φI d.1+f.2.1.length:=by
   unfold φI
   generalize d.1=l
   induction l with
   | nil=>simp[insB,sumN]
   | cons x l ih=>
    rw[φ6O]
    split
    ·simp only[sumN,ih];omega
    ·simp only[sumN];omega
  rw[e];have:=h.2.1;omega
 ·rcases (φ3F g f d.1).1 hg with e | hg
  ·rw[e];exact h3
  ·have:=h.2.2 g hg;omega
theorem φ9c {k m:Nat} {d:φ1} (h:dl k d) (n:List UInt8) (h1:k+1≤m) (h3:n.length<m):dl m (φX n d).1:=
 φ96 h (by omega) (by
  unfold φ2b
  split
  ·exact φ3X h (by omega)
  split
  ·exact φ3X h (by omega)
  split
  ·exact φ3X h (by omega)
  ·exact φMI h _ h1 (by simp;omega) h3)
theorem φM7 (l:List φ4) (i:Nat) (f:φ4) (k:Nat) (hi:i<l.length) (hf:f.2.1.length≤l[i].2.1.length+k):φI (l.set i f)≤φI l+k:=by
 unfold φI
 induction l generalizing i with
 | nil=>simp at hi
 | cons x l ih=>
  cases i with
  | zero=>
   simp only[List.set_cons_zero,sumN]
   simp only[List.getElem_cons_zero] at hf
   omega
  | succ i=>
   simp only[List.set_cons_succ,sumN]
   have:=ih i (by simpa using hi) (by simpa using hf)
   omega
theorem φG0 {k m c:Nat} {d:φ1} (h:dl k d) (i:Nat) (f:φ4) (hi:i<d.1.length) (hn:f.1=(d.1[i]).1) (hf:f.2.1.length≤d.1[i].2.1.length+c) (hm:k+c≤m):dl m (d.1.set i f,d.2):=by
 refine ⟨?_,?_,fun g hg=>?_⟩
 ·show (d.1.set i f).length<m
  rw[List.length_set];have:=h.1;omega
 ·show φI (d.1.set i f)<m
  have:=φM7 d.1 i f c hi hf
  have:=h.2.1;omega
 ·rcases κd hg with hg | e
  ·have:=h.2.2 g hg;omega
  ·rw[e,hn];have:=h.2.2 _ (gM hi);omega
theorem φ8O {k m:Nat} {d:φ1} (h:dl k d) (n t:List UInt8) (h1:k+t.length≤m):dl m (φL n t d).1:=
 φ96 h (by omega) (by
  unfold φ2Q
  rcases φv d.1 n with ⟨e,_⟩ | ⟨i,hi,e,_⟩
  ·rw[φ1E e];exact φ3X h (by omega)
  ·rw[φ16 e]
   simp only
   split
   ·exact φ3X h (by omega)
   ·rw[φB hi]
    exact φG0 h i _ hi rfl (by simp) h1)
theorem φHl {k:Nat} {d:φ1} (h:dl k d) (n:List UInt8):dl k (φG n d).1:=
 φ96 h (κ5 _) (by
  unfold φ27
  rcases φv d.1 n with ⟨e,_⟩ | ⟨i,hi,e,_⟩
  ·rw[φ1E e];exact h
  ·rw[φ16 e]
   simp only
   rw[φB hi]
   exact φG0 (c:=0) h i _ hi rfl (by simp) (κ5 _))
theorem φ9e (l:List φ4) (n:List UInt8):(φ1b l n).Sublist l:=by
 unfold φ1b;split
 ·exact φ5Y _ _
 ·exact List.Sublist.refl _
abbrev φE:=φ1×Int
def told (c:Int):Int:=if c=0 then 0 else if c=1 then 1 else if c=2 then 2 else 3
theorem φ1F (c:Int):told c=0↔c=0:=by
 unfold told;split
 ·simp[*]
 ·split
  ·simp[*]
  ·split
   ·simp[*]
   ·simp[*]
theorem φD2 (c:Int):ψ1s.f c=some (told c):=by
 unfold ψ1s.f told
 by_cases h0:c=0
 ·simp[h0]
 ·by_cases h1:c=1
  ·simp[h1]
  ·by_cases h2:c=2
   ·simp[h2]
   ·have b0:(c==0)=false:=by simpa using h0
    have b1:(c==1)=false:=by simpa using h1
    have b2:(c==2)=false:=by simpa using h2
    rw[b0,b1,b2];simp[h0,h1,h2]
theorem φ4i (c:Int):ψ2u.f c=some (told c):=φD2 c
def φ9 (op:φ1→φ1×Int) (w:φE):φE:=if w.2=0 then op w.1 else w
def φ1B (op:φ1→φ1×Int) (w:φE):φE:=if w.2=0 then ((op w.1).1,told (op w.1).2) else w
def φA (w:φE):φE:=(w.1,told w.2)
theorem φ2q (op:φ1→φ1×Int) (w:φE):φ1B op (φA w)=φA (φ9 op w):=by
 unfold φ1B φ9 φA
 by_cases h:w.2=0
 ·have h2:told w.2=0:=(φ1F _).2 h
  simp only[h2,if_true]
  rw[if_pos h]
 ·have h2:¬told w.2=0:=fun e=>h ((φ1F _).1 e)
  simp[h,h2]
def φC (n:List UInt8) (d:φ1):φ1×Int:=if φ1n d.1 n≥0 then φ2x n d else (d,0)
theorem φ84 {k:Nat} {d:φ1} (h:dl k d) (n:List UInt8):dl k (φC n d).1:=by
 unfold φC;split
 ·exact φF0 h n
 ·exact h
theorem φ63 {k m:Nat} {w:φE} {op:φ1→φ1×Int} (h:dl k w.1) (hm:k≤m) (ho:dl m (op w.1).1):dl m (φ9 op w).1:=by
 unfold φ9;split
 ·exact ho
 ·exact φ3X h hm
theorem φ5c {k m:Nat} {w:φE} {op:φ1→φ1×Int} (h:dl k w.1) (hm:k≤m) (ho:dl m (op w.1).1):dl m (φ1B op w).1:=by
 unfold φ1B;split
 ·exact ho
 ·exact φ3X h hm
theorem φ6b (w:φE) (d:φ1) (c:Int):ψ2A.f w d c=some (d,told c):=by
 unfold ψ2A.f;rw[φD2];rfl
theorem φ5M (w:φE) (n:List UInt8) {k:Nat} (h:dl k w.1) (hk:k≤1000000000):ψ22.f w n=some (φ1B (φC n) w):=by
 have hd:=φ1d h hk
 unfold ψ22.f φ1B φC
 by_cases c:w.2=0
 ·have c1:(w.2==0)=true:=by simpa using c
  simp only[c1,cT,φ4n w.1 n (by have:=hd.1;omega),bS,φLl w.1 n hd,φ6b]
  by_cases c2:φ1n w.1.1 n≥0
  ·simp only[c2,dT,cT,c,if_true];rfl
  ·simp only[c2,dF,cF,c,if_true,if_false]
   congr 1
   show w=(w.1,told 0)
   rw[show told 0=w.2 by rw[c];rfl]
 ·have c1:(w.2==0)=false:=by simpa using c
  simp[c,c1]
theorem φ9P (w:φE) (n:List UInt8) {k:Nat} (h:dl k w.1) (hk:k≤1000000000) (hn:n.length<2 ^ 62):ψ1y.f w n=some (φ1B (φX n) w):=by
 have hd:=φ1d h hk
 unfold ψ1y.f φ1B
 by_cases c:w.2=0
 ·have c1:(w.2==0)=true:=by simpa using c
  simp only[c1,cT,φNu w.1 n hd hn,bS,φ6b,c,if_true];rfl
 ·have c1:(w.2==0)=false:=by simpa using c
  simp[c,c1]
theorem φBv (w:φE) (n t:List UInt8) {k:Nat} (h:dl k w.1) (hk:k≤1000000000) (ht:t.length<1000000000000):ψ25.f w n t=some (φ1B (φL n t) w):=by
 have hd:=φ1d h hk
 unfold ψ25.f φ1B
 by_cases c:w.2=0
 ·have c1:(w.2==0)=true:=by simpa using c
  simp only[c1,cT,φO0 w.1 n t hd ht,bS,φ6b,c,if_true];rfl
 ·have c1:(w.2==0)=false:=by simpa using c
  simp[c,c1]
theorem φ7h (w:φE) (n:List UInt8) {k:Nat} (h:dl k w.1) (hk:k≤1000000000):ψ29.f w n=some (φ1B (φG n) w):=by
 have hd:=φ1d h hk
 unfold ψ29.f φ1B
 by_cases c:w.2=0
 ·have c1:(w.2==0)=true:=by simpa using c
  simp only[c1,cT,φMN w.1 n hd,bS,φ6b,c,if_true];rfl
 ·have c1:(w.2==0)=false:=by simpa using c
  simp[c,c1]
theorem φLG (w:φE) (a b:List UInt8) {k:Nat} (h:dl k w.1) (hk:k≤1000000000) (hb:b.length<2 ^ 62):ψ27.f w a b=some (φ1B (φ2W a b) w):=by
 have hd:=φ1d h hk
 unfold ψ27.f φ1B
 by_cases c:w.2=0
 ·have c1:(w.2==0)=true:=by simpa using c
  simp only[c1,cT,φKA w.1 a b hd hb,bS,φ6b,c,if_true];rfl
 ·have c1:(w.2==0)=false:=by simpa using c
  simp[c,c1]
def φ1R (n t:List UInt8) (w:φE):φE:=φ9 (φG n) (φ9 (φL n t) (φ9 (φX n) (φ9 (φC n) w)))
def φ6X (n t:List UInt8) (w:φE):φE:=φ1B (φG n) (φ1B (φL n t) (φ1B (φX n) (φ1B (φC n) w)))
theorem φEH (n t:List UInt8) (w:φE):φ6X n t (φA w)=φA (φ1R n t w):=by
 unfold φ6X φ1R
 rw[φ2q,φ2q,φ2q,φ2q]
theorem φMY {k m:Nat} {w:φE} (h:dl k w.1) (n t:List UInt8) (h1:k+1+n.length+t.length≤m):dl m (φ6X n t w).1:=by
 have g1:=φ5c (op:=φC n) h (κ5 _) (φ84 h n)
 have g2:=φ5c (op:=φX n) (m:=k+1+n.length) g1 (by omega) (φ9c g1 n (by omega) (by omega))
 have g3:=φ5c (op:=φL n t) (m:=m) g2 (by omega) (φ8O g2 n t (by omega))
 exact φ5c (op:=φG n) g3 (κ5 _) (φHl g3 n)
theorem φK6 {k m:Nat} {w:φE} (h:dl k w.1) (n t:List UInt8) (h1:k+1+n.length+t.length≤m):dl m (φ1R n t w).1:=by
 have g1:=φ63 (op:=φC n) h (κ5 _) (φ84 h n)
 have g2:=φ63 (op:=φX n) (m:=k+1+n.length) g1 (by omega) (φ9c g1 n (by omega) (by omega))
 have g3:=φ63 (op:=φL n t) (m:=m) g2 (by omega) (φ8O g2 n t (by omega))
 exact φ63 (op:=φG n) g3 (κ5 _) (φHl g3 n)
theorem φF8 (w:φE) (n t:List UInt8) {k:Nat} (h:dl k w.1) (hk:k+1+n.length+t.length≤1000000000):ψ1z.f w n t=some (φ6X n t w):=by
 have g1:=φ5c (op:=φC n) h (κ5 _) (φ84 h n)
 have g2:=φ5c (op:=φX n) (m:=k+1+n.length) g1 (by omega) (φ9c g1 n (by omega) (by omega))
 have g3:=φ5c (op:=φL n t) (m:=k+1+n.length+t.length) g2 (by omega) (φ8O g2 n t (by omega))
 unfold ψ1z.f ψ1w.f φ6X
 simp only[φ5M w n h (by omega),bS,φ9P _ n g1 (by omega) (by omega),φBv _ n t g2 (by omega) (by omega),φ7h _ n g3 (by omega)]
theorem φ2p {op:φ1→φ1×Int} {d:φ1} {c:Int} (h:c≠0):φ9 op (d,c)=(d,c):=by
 unfold φ9;simp[h]
theorem φ2R {op:φ1→φ1×Int} {d:φ1}:φ9 op (d,0)=op d:=by
 unfold φ9;simp
theorem φF6 (d:φ1) (n:List UInt8) {k:Nat} (h:dl k d) (hk:k≤1000000000) (hn:n.length<2 ^ 62):ψ2w.f d n=some (φ9 (φX n) (φC n d)):=by
 have hd:=φ1d h hk
 unfold ψ2w.f
 rw[φ4m d n (by have:=hd.1;omega),bS]
 by_cases c2:φ1n d.1 n≥0
 ·have e:φC n d=φ2x n d:=by unfold φC;simp[c2]
  have g:=φF0 h n
  rw[e]
  have er:ψ2h.f d n=some (φ2x n d):=φGm d n hd
  simp only[c2,dT,cT,er,bS]
  generalize φ2x n d=r at *
  obtain ⟨x,c⟩:=r
  by_cases c3:c=0
  ·have c4:(c != 0)=false:=by simpa using c3
   subst c3
   rw[φ2R]
   simp only[c4,cF,bS,φf,φHR x n (φ1d g hk) hn];rfl
  ·have c4:(c != 0)=true:=by simpa using c3
   rw[φ2p c3]
   simp only[c4,cT,bS,φq]
 ·have e:φC n d=(d,0):=by unfold φC;simp[c2]
  rw[e,φ2R]
  simp only[c2,dF,cF,bS,φf,φHR d n hd hn];rfl
theorem φEz (d:φ1) (n t:List UInt8) {k:Nat} (h:dl k d) (hk:k+1+n.length+t.length≤1000000000):ψ2v.f d n t=some (φ1R n t (d,0)):=by
 have g1:=φ84 h n
 have g2:dl (k+1+n.length) (φ9 (φX n) (φC n d)).1:=φ63 (op:=φX n) g1 (by omega) (φ9c g1 n (by omega) (by omega))
 have g3:=φ63 (op:=φL n t) (m:=k+1+n.length+t.length) g2 (by omega) (φ8O g2 n t (by omega))
 unfold ψ2v.f φ1R
 rw[φF6 d n h (by omega) (by omega),bS,φ2R]
 generalize φ9 (φX n) (φC n d)=r at *
 obtain ⟨x,c⟩:=r
 have e2:(bif c==0 then (ψ2H.f x n t).bind fun (t2_0,t2_1)=>some (n,(([],0,0,false):φ1),t2_0,t2_1) else some (n,([],0,0,false),x,c))=some (n,([],0,0,false),(φ9 (φL n t) (x,c)).1,(φ9 (φL n t) (x,c)).2):=by
  by_cases c0:c=0
  ·subst c0
   rw[φ2R]
   simp only[show ((0:Int)==0)=true from rfl,cT,φB8 x n t (φ1d g2 (by omega)) (by omega),bS];rfl
  ·have c1:(c==0)=false:=by simpa using c0
   rw[φ2p c0,c1];rfl
 simp only[e2,bS]
 generalize φ9 (φL n t) (x,c)=r at *
 obtain ⟨x,c⟩:=r
 by_cases c0:c=0
 ·subst c0
  rw[φ2R]
  simp only[show ((0:Int)==0)=true from rfl,cT,φGe x n (φ1d g3 (by omega)),bS];rfl
 ·have c1:(c==0)=false:=by simpa using c0
  rw[φ2p c0]
  simp only[c1,cF]
def sPut (v:φQ) (w:φE):φE:=φ9 (φ2W [116,101,109,112] [108,105,118,101]) (φ1R [116,101,109,112] (φn v) w)
def wPut (v:φQ) (w:φE):φE:=φ1B (φ2W [116,101,109,112] [108,105,118,101]) (φ6X [116,101,109,112] (φn v) w)
theorem φBz (v:φQ) (w:φE):wPut v (φA w)=φA (sPut v w):=by
 unfold wPut sPut
 rw[φEH,φ2q]
theorem φBE (w:φE) (v:φQ) {k:Nat} (h:dl k w.1) (hk:k+1000≤1000000000) (hl:v.2.length<2 ^ 62):ψ26.f w v=some (wPut v w):=by
 have h1:=φ5P v
 have g:=φMY h [116,101,109,112] (φn v) (m:=k+1000) (by show k+1+4+_≤_;omega)
 unfold ψ26.f wPut
 simp only[φM5 v hl,bS,φF8 w [116,101,109,112] (φn v) h (show k+1+4+(φn v).length≤1000000000 by omega),φLG _ [116,101,109,112] [108,105,118,101] g hk (by show 4<2 ^ 62;decide)]
def φA0 (d:φ1) (v:φQ):φ1×Int:=if φ3 d=false∨φm v=false then (d,4) else φA (sPut v (d,0))
theorem φLj (d:φ1) (v:φQ) {k:Nat} (h:dl k d) (hk:k+1000≤1000000000) (hl:v.2.length<2 ^ 62):ψ2a.f d v=some (φA0 d v):=by
 have hd:=φ1d h (by omega)
 have h1:=φ5P v
 unfold ψ2a.f φA0
 rw[φ8p d hd,bS]
 rcases bE (φ3 d) with k1 | k1
 rotate_left
 ·simp[k1,φ9g d (by have:=hd.1;omega)]
 rcases bE (φm v) with k2 | k2
 rotate_left
 ·simp[k1,k2,φ8G v hl,φ9g d (by have:=hd.1;omega)]
 have g:=φK6 (w:=(d,0)) h [116,101,109,112] (φn v) (m:=k+1000) (by show k+1+4+_≤_;omega)
 simp only[k1,k2,nZ,cF,φ8G v hl,φAO v hl,bS,φEz d [116,101,109,112] (φn v) h (show k+1+4+(φn v).length≤1000000000 by omega),κ8,or_self,if_false]
 unfold sPut
 generalize φ1R [116,101,109,112] (φn v) (d,0)=r at *
 obtain ⟨x,c⟩:=r
 by_cases c0:c=0
 ·subst c0
  rw[φ2R]
  simp only[show ((0:Int)==0)=true from rfl,cT,φNg x [116,101,109,112] [108,105,118,101] (φ1d g hk) (show 4<2 ^ 62 by decide),bS,φ4i];rfl
 ·have c1:(c==0)=false:=by simpa using c0
  rw[φ2p c0]
  simp only[c1,cF,bS,φ4i];rfl
abbrev φ7:=φQ×List φD×Int×Int×Int
theorem φAg (n:Nat):Lib.itoa (n:Int)=Lib.decDigits n:=by
 unfold Lib.itoa
 rw[if_neg (by omega),tN]
theorem φ6Y:∀(k n:Nat),n<10 ^ (k+1)→(Lib.decDigits n).length≤k+1
 | 0,n,h=>by rw[Lib.decDigits,dif_pos (by simpa using h)];simp
 | k+1,n,h=>by
  rw[Lib.decDigits]
  split
  ·simp
  ·have:=φ6Y k (n / 10) (by rw[Nat.div_lt_iff_lt_mul (by omega)];rw[κa] at h;exact h)
   simp only[lA,κA];omega
def digs (n:Nat):List UInt8:=if n=0 then [] else Lib.decDigits n
theorem φ4A {n:Nat} (h:n≠0):digs n=digs (n / 10)++[UInt8.ofNat (48+n % 10)]:=by
 unfold digs
 rw[if_neg h,Lib.decDigits]
 split
 ·rename_i h2
  rw[if_pos (by omega),κc h2];rfl
 ·rename_i h2
  rw[if_neg (by omega)]
theorem φGs (n:Nat) (hn:n<1000000000000000000):ψ2K.f (n:Int)=some (Lib.decDigits n):=by
 unfold ψ2K.f
 by_cases c:n=0
 ·subst c
  rw[Lib.decDigits];rfl
 have c1:((n:Int)==0)=false:=by simpa using c
 have c2:decide ((n:Int)<0)=false:=dnn (by omega)
 have key:=φ72 (step:=ψ2K.l0) (a:=((n:Int),([]:List UInt8),false)) (fun a=>(digs a.1.toNat++a.2.1,false)) (fun a=>0≤a.1∧a.2.2=false∧a.2.1.length+a.1.toNat≤n) (fun a=>a.1.toNat)
  (fun rec a ha ih=>by
   obtain ⟨x,s,f⟩:=a
   obtain ⟨h0,hf,hl⟩:=ha
   simp only at hf hl h0 ih ⊢
   subst hf
   obtain ⟨m,rfl⟩:∃m:Nat,x=(m:Int):=⟨x.toNat,by omega⟩
   simp only[tN] at hl ih ⊢
   by_cases d:m=0
   ·subst d
    simp[ψ2K.l0,digs]
   ·have d1:((m:Int) != 0)=true:=by simpa using d
    have e1:Int.tmod (m:Int) 10=((m % 10:Nat):Int):=rfl
    have e2:w64 (Int.tdiv (m:Int) 10)=((m / 10:Nat):Int):=by
     rw[show Int.tdiv (m:Int) 10=((m / 10:Nat):Int) from rfl];exact φ3i (by omega)
    have e3:decide (((m % 10:Nat):Int)<0)=false:=dnn (by omega)
    have e4:φ1U [IntKind.wrap .u8 (w64 (48+((m % 10:Nat):Int)))]=[UInt8.ofNat (48+m % 10)]:=by
     have e:w64 (48+((m % 10:Nat):Int))=((48+m % 10:Nat):Int):=by rw[φH (by omega) (by omega)];omega
     rw[e]
     unfold φ1U
     simp only[κ6,List.map_nil,φ76]
    have hb:([UInt8.ofNat (48+m % 10)]:List UInt8).length+s.length≤9223372036854775807:=by show 1+_≤_;omega
    have ih:=ih (((m / 10:Nat):Int),[UInt8.ofNat (48+m % 10)]++s,false) ⟨by simp only;omega,rfl,by simp only[lA,κA,tN];omega⟩ (by simp only[tN];omega)
    simp only[tN] at ih
    simp only[ψ2K.l0,d1,cT,e1,e2,e3,cF,bS,e4,hb,dT,ih]
    rw[φ4A d,aA])
  ⟨by simp only;omega,rfl,by simp⟩ (by simp only[tN];omega)
 simp only[c1,c2,cF,key,bS,tN]
 unfold digs
 simp[c]
theorem φJn (n:Nat) (hn:n<1000000000000000000):strconv_Itoa.f (n:Int)=some (Lib.decDigits n):=by
 unfold strconv_Itoa.f
 have c:(decide (-9223372036854775808≤(n:Int)) && decide ((n:Int)≤9223372036854775807))=true:=by simp;omega
 rw[c,φAg];rfl
def φ2I (word:List UInt8) (id:Int):List UInt8:=if 1≤id∧id≤100000 then word++Lib.decDigits id.toNat else []
def φ0 (id:Int):List UInt8:=φ2I [115,101,103] id
def φK (id:Int):List UInt8:=φ2I [104,105,110,116] id
theorem φCp (word:List UInt8) (id:Int) (hw:word.length≤100):ψ1Z.f word id=some (φ2I word id):=by
 unfold ψ1Z.f φ2I ψ6.f
 rw[φ1c,bS]
 by_cases h:1≤id∧id≤100000
 ·obtain ⟨n,rfl⟩:∃n:Nat,id=(n:Int):=⟨id.toNat,by omega⟩
  have hl:=φ6Y 5 n (by show n<1000000;omega)
  have hb:word.length+(Lib.decDigits n).length≤9223372036854775807:=by omega
  simp only[h,and_self,dT,nZ,cF,φJn n (by omega),bS,hb,cT,if_true,tN]
 ·simp[h]
theorem φ3D (id:Int):ψx.f id=some (φ0 id):=by
 unfold ψx.f φ0
 rw[φCp [115,101,103] id (by show 3≤100;decide),bS]
theorem φ4R (id:Int):ψ2k.f id=some (φ0 id):=by
 unfold ψ2k.f φ0 φ2I
 rw[φ2U,bS]
 by_cases h:1≤id∧id≤100000
 ·obtain ⟨n,rfl⟩:∃n:Nat,id=(n:Int):=⟨id.toNat,by omega⟩
  have hl:=φ6Y 5 n (by show n<1000000;omega)
  have hb:([115,101,103]:List UInt8).length+(Lib.decDigits n).length≤9223372036854775807:=by show 3+_≤_;omega
  simp only[h,and_self,dT,nZ,cF,φGs n (by omega),bS,hb,cT,if_true,tN]
 ·simp[h]
theorem φ4J (id:Int):(φ0 id).length≤9:=by
 unfold φ0 φ2I
 split
 ·have hl:=φ6Y 5 id.toNat (by show _<1000000;omega)
  rw[lA];show 3+_≤9;omega
 ·simp
def φ2 (d:φ1) (n:List UInt8):List UInt8×Bool:=
 if φ3 d=false then ([],false) else
 match d.1.findIdx? (fun f=>f.1==n) with
 | some i=>((d.1.getD i ([],[],0)).2.1,true)
 | none=>([],false)
theorem φ4j (d:φ1) (n:List UInt8) (h:dlim d):ψO.f d n=some (φ2 d n):=by
 have hl:=h.1
 unfold ψO.f φ2
 rw[φ4n d n (by omega),bS,φ5g d h]
 rcases φv d.1 n with ⟨e,_⟩ | ⟨i,hi,e,_⟩
 ·rw[e,φ1E e];simp
 ·rw[e,φ16 e]
  rcases bE (φ3 d) with k | k
  ·simp only[dnn (show (0:Int)≤(i:Int) by omega),cF,bS,k,nZ,φ3t hi,cT,φ40 hi,φB hi,κ8,if_false]
  ·simp only[dnn (show (0:Int)≤(i:Int) by omega),cF,bS,k,nF,cT,if_true]
theorem φ9C (d:φ1) (n:List UInt8) (h:dlim d):ψ2Q.f d n=some (φ2 d n):=by
 have hl:=h.1
 unfold ψ2Q.f φ2
 rw[φ8p d h,bS,φ4m d n (by omega)]
 rcases bE (φ3 d) with k | k
 rotate_left
 ·simp[k]
 rcases φv d.1 n with ⟨e,_⟩ | ⟨i,hi,e,_⟩
 ·rw[e,φ1E e];simp[k]
 ·rw[e,φ16 e]
  simp only[dnn (show (0:Int)≤(i:Int) by omega),cF,bS,k,nZ,φ3t hi,cT,φ40 hi,φB hi,κ8,if_false]
theorem φ4X (d:φ1) (n:List UInt8) (h:dlim d):(φ2 d n).1.length≤φI d.1:=by
 unfold φ2
 split
 ·simp
 ·rcases φv d.1 n with ⟨e,_⟩ | ⟨i,hi,e,_⟩
  ·rw[φ1E e];simp
  ·rw[φ16 e]
   simp only[φB hi]
   exact φB3 (gM hi)
def segN (d:φ1) (l:List Int):Nat:=sumN (fun id=>(φ2 d (φ0 id)).1.length) l
def varN (n:Nat):List UInt8:=vLow n++[UInt8.ofNat (vTop n)]
theorem φ5I (n:Nat) (h:n≤562949953421311):varT (n:Int)=varN n:=by
 unfold varT varN
 rw[if_pos (by omega),tN]
theorem φ5W {n:Nat} (h:n<128):varN n=[UInt8.ofNat n]:=by
 unfold varN
 rw[vLow,vTop,dif_pos h,dif_pos h];rfl
theorem φAr {n:Nat} (h:¬n<128):varN n=UInt8.ofNat (128+n % 128)::varN (n / 128):=by
 unfold varN
 rw[vLow,vTop,dif_neg h,dif_neg h];rfl
theorem φ8w (k n:Nat) (h:n<128 ^ (k+1)):1≤(varN n).length∧(varN n).length≤k+1:=by
 have:=φ8P k n h
 unfold varN
 rw[lA,κA];omega
def rvT:Nat→Bool→List UInt8→Option (Nat×Nat)
 | 0,_,_=>none
 | _+1,_,[]=>none
 | f+1,first,x::r=>if x.toNat<128 then (if x.toNat=0∧first=false then none else some (x.toNat,1)) else (rvT f false r).map fun p=>(x.toNat % 128+128 * p.1,p.2+1)
theorem φFR:∀(f:Nat) (first:Bool) (s:List UInt8) (n k:Nat),rvT f first s=some (n,k)→(first=false→1≤n)
 | 0,_,_,_,_,h=>by simp[rvT] at h
 | f+1,_,[],_,_,h=>by simp[rvT] at h
 | f+1,first,x::r,n,k,h=>by
  intro hf
  unfold rvT at h
  split at h
  ·split at h
   ·simp at h
   ·rename_i h1 h2
    simp only[Option.some.injEq,Prod.mk.injEq] at h
    have:¬x.toNat=0:=fun e=>h2 ⟨e,hf⟩
    omega
  ·cases hr:rvT f false r with
   | none=>rw[hr] at h;simp at h
   | some p=>
    rw[hr] at h
    simp only[Option.map_some,Option.some.injEq,Prod.mk.injEq] at h
    have:=φFR f false r p.1 p.2 hr rfl
    omega
theorem φ4g:∀(f:Nat) (first:Bool) (s:List UInt8) (n k:Nat),rvT f first s=some (n,k)→1≤k∧k≤f∧k≤s.length∧s.take k=varN n∧n<128 ^ f
 | 0,_,_,_,_,h=>by simp[rvT] at h
 | f+1,_,[],_,_,h=>by simp[rvT] at h
 | f+1,first,x::r,n,k,h=>by
  have hx:=x.toNat_lt
  unfold rvT at h
  split at h
  ·rename_i h1
   split at h
   ·simp at h
   ·simp only[Option.some.injEq,Prod.mk.injEq] at h
    obtain ⟨rfl,rfl⟩:=h
    refine ⟨κ5 _,by omega,by simp,?_,?_⟩
    ·rw[φ5W h1];simp
    ·exact κG h1 (by rw[κa];have:=Nat.pow_pos (n:=f) (show 0<128 by omega);omega)
  ·rename_i h1
   cases hr:rvT f false r with
   | none=>rw[hr] at h;simp at h
   | some p=>
    obtain ⟨m,j⟩:=p
    rw[hr] at h
    simp only[Option.map_some,Option.some.injEq,Prod.mk.injEq] at h
    obtain ⟨rfl,rfl⟩:=h
    obtain ⟨q1,q2,q3,q4,q5⟩:=φ4g f false r m j hr
    have hm:=φFR f false r m j hr rfl
    have hbig:¬x.toNat % 128+128 * m<128:=by omega
    refine ⟨by omega,by omega,by simp;omega,?_,?_⟩
    ·rw[φAr hbig,List.take_succ_cons,q4]
     have e1:(x.toNat % 128+128 * m) % 128=x.toNat % 128:=by omega
     have e2:(x.toNat % 128+128 * m) / 128=m:=by omega
     have e3:128+x.toNat % 128=x.toNat:=by omega
     rw[e1,e2,e3];simp
    ·rw[κa];omega
theorem φ9B:∀(f:Nat) (first:Bool) (n:Nat) (r:List UInt8),n<128 ^ f→(first=false→1≤n)→1≤f→rvT f first (varN n++r)=some (n,(varN n).length)
 | 0,_,_,_,_,_,h=>by omega
 | f+1,first,n,r,h,h1,_=>by
  by_cases c:n<128
  ·rw[φ5W c,List.singleton_append]
   unfold rvT
   have e:(UInt8.ofNat n).toNat=n:=by simp;omega
   rw[e,if_pos c,if_neg (by intro k;have:=h1 k.2;omega)];rfl
  ·rw[φAr c,κF]
   unfold rvT
   have e:(UInt8.ofNat (128+n % 128)).toNat=128+n % 128:=by simp;omega
   have hf:1≤f:=by
    rcases Nat.eq_zero_or_pos f with k | k
    ·subst k;simp at h;omega
    ·exact k
   rw[e,if_neg (by omega),φ9B f false (n / 128) r (by rw[Nat.div_lt_iff_lt_mul (by omega)];rw[κa] at h;exact h) (fun _=>by omega) hf]
   simp only[Option.map_some,lC]
   congr 2;omega
def decV (l:List UInt8):Nat:=l.foldr (fun x a=>x.toNat % 128+128 * a) 0
end Go.Rf.G
