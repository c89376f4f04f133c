import Derived.Test.YtleflckegnlgcaaGreatDoorRf5
import Derived.Test.YtleflckegnlgcaaGreatDoorLSessionsFns
open Option renaming bind_some→bS
open List renaming length_append→lA,append_assoc→aA,mem_cons_of_mem→mC,mem_append→mA,mem_append_right→mR,mem_append_left→mL,mem_cons→mc,drop_eq_getElem_cons→dG,length_take→lT,length_drop→lD,mem_map→mM,length_map→lM,length_cons→lC,length_nil→lN,getElem_mem→gM,map_append→mp,mem_singleton→mZ,mem_cons_self→κ0,take_succ_eq_append_getElem→κ4,map_cons→κ5,append_nil→κ7,nil_append→κ9,length_singleton→κB,drop_zero→κC,take_append_drop→κE,cons_append→κF,flatMap_append→κI,nodup_append→κJ,foldl_cons→κM,drop_left→κN,nodup_cons→κO,range'→κP,all_eq_true→κS,take_length→κU,foldl_append→κW,replicate→κX,pairwise_cons→κY,mem_or_eq_of_mem_set→κc,pairwise_append→κd
open Bool renaming and_eq_true→bA,eq_false_or_eq_true→bE,not_true→nZ,not_false→nF,true_and→tA,not_not→nn,false_eq_true→κ2,true_eq_false→κ8,false_and→κD,or_eq_false_iff→κH,and_true→κK,not_eq_true'→κL,false_or→κQ,or_eq_true→κV
open Int renaming toNat_natCast→tN,ofNat_lt→oL,le_refl→κR
open Nat renaming lt_or_ge→κ1,zero_le→κ3,le_refl→κ6,eq_of_beq_eq_true→κA,lt_of_lt_of_le→κG,zero_add→κT,pow_succ→κZ,mod_eq_of_lt→κb
open Array renaming length_toList→κa
set_option linter.unusedVariables false
set_option linter.unusedSimpArgs false
namespace Go.Rf.G
open Go Go.Rf
set_option synthInstance.maxSize 4000
theorem φG3 {A B:Type} {step:(A→Option B)→A→Option B} {F:A→B} {P:A→Prop} {m:A→Nat}
  (h:∀rec a,P a→(∀a',P a'→m a'<m a→rec a'=some (F a'))→step rec a=some (F a)):∀n a,P a→m a<n→φ3B step n a=some (F a)
 | 0,_,_,hn=>by omega
 | n+1,a,hp,hn=>h (φ3B step n) a hp fun a' hp' hlt=>φG3 h n a' hp' (by omega)
theorem φ7o {A B:Type} {step:(A→Option B)→A→Option B} (F:A→B) (P:A→Prop) (m:A→Nat)
  (h:∀rec a,P a→(∀a',P a'→m a'<m a→rec a'=some (F a'))→step rec a=some (F a)) {a:A} (hp:P a) (hm:m a<2 ^ 62):lp step a=some (F a):=
 φG3 h FUEL a hp (κG hm φ7e)
theorem φh {A B σ:Type} {step:(A→Option B)→A→Option B} (st:Nat→σ→A) (N:Nat) (F:Nat→σ→B) (Inv:Nat→σ→Prop)
  (h:∀rec n s,n≤N→Inv n s→(∀s',n<N→Inv (n+1) s'→rec (st (n+1) s')=some (F (n+1) s'))→step rec (st n s)=some (F n s))
  (hN:N<2 ^ 62):∀n s,n≤N→Inv n s→lp step (st n s)=some (F n s):=by
 have key:∀k f n s,n≤N→Inv n s→N - n=k→k<f→φ3B step f (st n s)=some (F n s):=by
  intro k
  induction k with
  | zero=>
   intro f n s hn hi hk hf
   obtain ⟨f,rfl⟩:∃g,f=g+1:=⟨f - 1,by omega⟩
   exact h _ n s hn hi fun s' hlt=>by omega
  | succ k ih=>
   intro f n s hn hi hk hf
   obtain ⟨f,rfl⟩:∃g,f=g+1:=⟨f - 1,by omega⟩
   exact h _ n s hn hi fun s' hlt hi'=>ih f (n+1) s' hlt hi' (by omega) (by omega)
 intro n s hn hi
 exact key (N - n) FUEL n s hn hi rfl (κG (by omega) φ7e)
@[simp] theorem φK (n m:Nat):inB (n:Int) m=decide (n<m):=by
 unfold inB
 by_cases h:n<m<;>simp[h,Int.natCast_nonneg]
@[simp] theorem φN {α:Type} (z:α) (xs:List α) (n:Nat):rdA z xs (n:Int)=xs.getD n z:=rfl
theorem φJ {n:Int} (h1:-9223372036854775808≤n) (h2:n<9223372036854775808):w64 n=n:=by
 unfold w64 IntKind.wrap
 simp only[IntKind.bits,IntKind.signed]
 by_cases h:n % 2 ^ 64≥2 ^ 63<;>simp[h]<;>omega
theorem φ3i {n:Nat} (h:n<9223372036854775808):w64 (n:Int)=n:=φJ (by omega) (by omega)
theorem φR {n:Nat} (h:n+1<9223372036854775808):w64 ((n:Int)+1)=((n+1:Nat):Int):=by
 rw[φJ (by omega) (by omega)];omega
theorem φE {α:Type} {xs:List α} {z:α} {n:Nat} (h:n<xs.length):xs.getD n z=xs[n]:=by simp[List.getD,h]
theorem φ8R {α:Type} {a b:List α} {n:Nat} (h1:n<a.length) (h2:n<b.length):a.drop n=b.drop n↔a[n]=b[n]∧a.drop (n+1)=b.drop (n+1):=by
 rw[dG h1,dG h2,List.cons.injEq]
def sumN {α:Type} (f:α→Nat):List α→Nat
 | []=>0
 | x::r=>f x+sumN f r
theorem φAf {α:Type} (f:α→Nat) {l:List α} {n:Nat} (h:n<l.length):sumN f (l.drop n)=f l[n]+sumN f (l.drop (n+1)):=by
 rw[dG h];rfl
theorem φHT {α:Type} (f:α→Nat):∀{l:List α} {x:α},x∈l→f x≤sumN f l
 | y::l,x,h=>by
  rcases mc.1 h with k | k
  ·subst k;exact Nat.le_add_right _ _
  ·exact Nat.le_trans (φHT f k) (Nat.le_add_left _ _)
theorem φK7 {X:Type} [DecidableEq X] {step:(List X×List X×Int→Option (Unit ⊕ Bool))→List X×List X×Int→Option (Unit ⊕ Bool)} (a b:List X) (hl:a.length=b.length) (ha:a.length<2 ^ 62)
  (hs:∀rec (n:Nat),(h1:n<a.length)→(h2:n<b.length)→step rec (a,b,(n:Int))=if a[n]=b[n] then rec (a,b,((n+1:Nat):Int)) else some (.inr false))
  (he:∀rec,step rec (a,b,(a.length:Int))=some (.inl ())):lp step (a,b,0)=some (if a=b then .inl () else .inr false):=by
 have:=φh (step:=step) (fun n (_:Unit)=>(a,b,(n:Int))) a.length (fun n _=>if a.drop n=b.drop n then .inl () else .inr false) (fun _ _=>True)
  (fun rec n s hn _ ih=>by
   rcases κ1 n a.length with h | h
   ·rw[hs rec n h (by omega),ih () h trivial]
    by_cases hc:a[n]=b[n]
    ·rw[if_pos hc];simp only[φ8R h (by omega:n<b.length),hc,true_and]
    ·rw[if_neg hc,if_neg fun k=>hc ((φ8R h (by omega)).1 k).1]
   ·have:n=a.length:=by omega
    subst this
    rw[he]
    simp[hl])
  ha 0 () (κ3 _) trivial
 simpa using this
def φBT {X:Type} (mk:Int→X→X) (c:Nat):List X→Int→List X
 | [],_=>[]
 | x::r,k=>mk k x::φBT mk c r (k+c)
@[simp] theorem φKb {X:Type} (mk:Int→X→X) (c:Nat):∀(l:List X) (k:Int),(φBT mk c l k).length=l.length
 | [],_=>rfl
 | x::r,k=>by simp[φBT,φKb mk c r]
theorem φ4a {X A B:Type} {step:(A→Option (B ⊕ Bool))→A→Option (B ⊕ Bool)} (l:List X) (f:X→Bool) (st:Nat→A) (b:B) (hl:l.length<2 ^ 62)
  (hs:∀rec n,(h:n<l.length)→step rec (st n)=if f l[n]=true then rec (st (n+1)) else some (.inr false))
  (he:∀rec,step rec (st l.length)=some (.inl b)):lp step (st 0)=some (if l.all f=true then .inl b else .inr false):=by
 have:=φh (step:=step) (fun n (_:Unit)=>st n) l.length (fun n _=>if (l.drop n).all f=true then .inl b else .inr false) (fun _ _=>True)
  (fun rec n s hn _ ih=>by
   rcases κ1 n l.length with h | h
   ·rw[hs rec n h,ih () h trivial,dG h,List.all_cons]
    cases f l[n]<;>simp
   ·have:n=l.length:=by omega
    subst this
    rw[he];simp) hl 0 () (κ3 _) trivial
 simpa using this
theorem φHa {X A B C:Type} {step:(A→Option (B ⊕ C))→A→Option (B ⊕ C)} (l:List X) (f:X→Bool) (r:X→C) (st:Nat→A) (b:B) (hl:l.length<2 ^ 62)
  (hs:∀rec n,(h:n<l.length)→step rec (st n)=if f l[n]=true then some (.inr (r l[n])) else rec (st (n+1)))
  (he:∀rec,step rec (st l.length)=some (.inl b)):lp step (st 0)=some (match l.find? f with | some x=>.inr (r x) | none=>.inl b):=by
 have:=φh (step:=step) (fun n (_:Unit)=>st n) l.length (fun n _=>match (l.drop n).find? f with | some x=>.inr (r x) | none=>.inl b) (fun _ _=>True)
  (fun rec n s hn _ ih=>by
   rcases κ1 n l.length with h | h
   ·rw[hs rec n h,ih () h trivial,dG h,List.find?_cons]
    cases hf:f l[n]<;>simp
   ·have:n=l.length:=by omega
    subst this
    rw[he];simp) hl 0 () (κ3 _) trivial
 simpa using this
theorem φ3m {X A B S:Type} {step:(A→Option B)→A→Option B} (l:List X) (g:S→X→S) (st:Nat→S→A) (out:S→B) (Inv:Nat→S→Prop) (hl:l.length<2 ^ 62)
  (hs:∀rec n s,(h:n<l.length)→Inv n s→step rec (st n s)=rec (st (n+1) (g s l[n])))
  (hi:∀n s,(h:n<l.length)→Inv n s→Inv (n+1) (g s l[n]))
  (he:∀rec s,Inv l.length s→step rec (st l.length s)=some (out s)) (s:S) (h0:Inv 0 s):lp step (st 0 s)=some (out (l.foldl g s)):=by
 have:=φh (step:=step) st l.length (fun n s=>out ((l.drop n).foldl g s)) Inv
  (fun rec n s hn hv ih=>by
   rcases κ1 n l.length with h | h
   ·rw[hs rec n s h hv,ih _ h (hi n s h hv),dG h];rfl
   ·have:n=l.length:=by omega
    subst this
    rw[he rec s hv];simp) hl 0 s (κ3 _) h0
 simpa using this
theorem φG4 {A B σ:Type} {step:(A→Option B)→A→Option B} (st:Nat→σ→A) (F:Nat→σ→B) (Inv:Nat→σ→Prop)
  (h:∀rec n s,Inv n s→(∀m s',n=m+1→Inv m s'→rec (st m s')=some (F m s'))→step rec (st n s)=some (F n s)):∀n s,n<2 ^ 62→Inv n s→lp step (st n s)=some (F n s):=by
 have key:∀n f s,n<f→Inv n s→φ3B step f (st n s)=some (F n s):=by
  intro n
  induction n with
  | zero=>
   intro f s hf hi
   obtain ⟨f,rfl⟩:∃g,f=g+1:=⟨f - 1,by omega⟩
   exact h _ 0 s hi fun m s' he=>by omega
  | succ n ih=>
   intro f s hf hi
   obtain ⟨f,rfl⟩:∃g,f=g+1:=⟨f - 1,by omega⟩
   exact h _ (n+1) s hi fun m s' he hi'=>by
    have:m=n:=by omega
    subst this
    exact ih f s' (by omega) hi'
 intro n s hn hi
 exact key n FUEL s (κG hn φ7e) hi
theorem φJN {X A B C:Type} {step:(A→Option (B ⊕ C))→A→Option (B ⊕ C)} (l:List X) (f:X→Bool) (r:X→C) (st:Nat→A) (b:B) (hl:l.length<2 ^ 62)
  (hs:∀rec n,(h:n<l.length)→step rec (st (n+1))=if f l[n]=true then some (.inr (r l[n])) else rec (st n))
  (he:∀rec,step rec (st 0)=some (.inl b)):lp step (st l.length)=some (match l.reverse.find? f with | some x=>.inr (r x) | none=>.inl b):=by
 have:=φG4 (step:=step) (fun n (_:Unit)=>st n) (fun n _=>match (l.take n).reverse.find? f with | some x=>.inr (r x) | none=>.inl b) (fun n _=>n≤l.length)
  (fun rec n s hn ih=>by
   cases n with
   | zero=>rw[he];simp
   | succ n=>
    have h:n<l.length:=hn
    rw[hs rec n h,ih n () rfl (by omega),κ4 h,List.reverse_append]
    simp only[List.reverse_cons,List.reverse_nil,κ9,κF,List.find?_cons]
    cases hf:f l[n]<;>simp) l.length () hl (κ6 _)
 simpa using this
@[simp] theorem φe {A B C:Type} (a:A) (f:A→C) (g:B→C):φY (.inl a) f g=f a:=rfl
@[simp] theorem φn {A B C:Type} (b:B) (f:A→C) (g:B→C):φY (.inr b) f g=g b:=rfl
theorem φ2c {A B:Type} (p:A×B):(p.1,p.2)=p:=rfl
theorem φI4 {α:Type} {z:α} {r:List α} {n:Nat} {v:α} (h:n<r.length):rdA z (r.set n v) (n:Int)=v:=by simp[List.getD,h]
theorem φ71 {a b:Nat} (h:a≠b):((a:Int) != (b:Int))=true:=by
 have:(a:Int)≠(b:Int):=by omega
 simpa using this
theorem φ7X {a b:Nat} (h:a=b):((a:Int) != (b:Int))=false:=by simp[h]
theorem φMW {β:Type} {P:Prop} [Decidable P] (a b:β):(bif !decide P then a else b)=if P then b else a:=by
 by_cases h:P<;>simp[h]
theorem φ1Y (n a b:Int):ψ1W.f n a b=some (decide (a≤n∧n≤b)):=by
 unfold ψ1W.f
 by_cases h:a≤n
 ·have h2:n≥a:=h
  simp[h,h2]
 ·have h2:¬n≥a:=h
  simp[h,h2]
theorem φ2g (n a b:Int):ψ35.f n a b=some (decide (a≤n∧n≤b)):=φ1Y n a b
def φ1A (s:List UInt8):Bool:=decide (1≤s.length∧s.length≤8)
theorem φ6K (s:List UInt8):ψX.f s=some (φ1A s):=by
 unfold ψX.f φ1A
 rw[φ1Y,bS]
 congr 1
 apply decide_eq_decide.2
 omega
theorem φD5 (s:List UInt8):ψ2W.f s=some (φ1A s):=φ6K s
def φ2H (p:List UInt8×Bool×List UInt8):Bool:=φ1A p.1 && (decide (p.2.2.length≤24) && (!p.2.1 || p.2.2==[]))
theorem φBW (p:List UInt8×Bool×List UInt8):ψ1f.f p=some (φ2H p):=by
 unfold ψ1f.f φ2H
 rw[φ6K,bS]
 cases φ1A p.1
 ·rfl
 ·have:decide ((p.2.2.length:Int)≤24)=decide (p.2.2.length≤24):=decide_eq_decide.2 (by omega)
  rw[this]
  cases decide (p.2.2.length≤24)
  ·rfl
  ·cases p.2.1<;>rfl
def φ27 (l:List (List UInt8×Bool×List UInt8)):Bool:=decide (l.length≤8) && l.all φ2H
theorem φMo (l:List (List UInt8×Bool×List UInt8)) (hl:l.length<2 ^ 62):ψg.f l=some (φ27 l):=by
 have key:=φ4a (step:=ψg.l0) l φ2H (fun n=>(l,l,(l.length:Int),(n:Int))) l hl
  (fun rec n h=>by
   simp only[ψg.l0,oL,h,dT,cT,φK,φN,φE h,φ2c,φBW,bS,φR (show n+1<9223372036854775808 by omega)]
   cases φ2H l[n]<;>simp)
  (fun rec=>by simp[ψg.l0])
 have key:lp ψg.l0 (l,l,(l.length:Int),0)=_:=key
 unfold ψg.f φ27
 rw[key,bS]
 have:decide ((l.length:Int)≤8)=decide (l.length≤8):=decide_eq_decide.2 (by omega)
 cases h:l.all φ2H<;>simp[this]
def φ4U (l:List (List UInt8×Bool×List UInt8)) (key:List UInt8):Option (List UInt8×Bool×List UInt8):=l.reverse.find? fun p=>p.1==key
def ownW (l:List (List UInt8×Bool×List UInt8)) (key:List UInt8):(List UInt8×Bool×List UInt8)×Bool:=
 match φ4U l key with
 | some p=>(p,true)
 | none=>(([],false,[]),false)
theorem φKa (t:Bool×List (List UInt8×Int)×List (List UInt8×Bool×List UInt8)) (key:List UInt8) (hl:t.2.2.length<2 ^ 62):ψe.f t key=some (ownW t.2.2 key):=by
 have hk:=φJN (step:=ψe.l0) t.2.2 (fun p=>p.1==key) (fun p=>(p,true)) (fun n=>(key,t,([],false,[]),(n:Int) - 1)) ([],false,[]) hl
  (fun rec n h=>by
   have e:((n+1:Nat):Int) - 1=(n:Int):=by omega
   have e2:w64 ((n:Int) - 1)=(n:Int) - 1:=φJ (by omega) (by omega)
   have e3:(n:Int)≥0:=by omega
   simp only[e,ψe.l0,e3,dT,cT,φK,φN,h,φE h,e2,φ2c]
   cases h2:(t.2.2[n].1==key)<;>simp)
  (fun rec=>by simp[ψe.l0])
 unfold ψe.f ownW φ4U
 rw[φJ (by omega) (by omega)]
 simp only[]
 rw[hk,bS]
 cases List.find? (fun p=>p.1==key) t.2.2.reverse<;>rfl
theorem φKw (a b:Int×List UInt8×List (List UInt8)) (ha:a.2.2.length<2 ^ 62):ψ34.f a b=some (decide (a=b)):=by
 obtain ⟨a0,a1,a2⟩:=a
 obtain ⟨b0,b1,b2⟩:=b
 have ha:a2.length<2 ^ 62:=ha
 unfold ψ34.f
 by_cases e0:a0=b0
 rotate_left
 ·have d3:(a0 != b0)=true:=by simpa using e0
  simp[e0,d3]
 by_cases e1:a1=b1
 rotate_left
 ·have d2:(a1==b1)=false:=by simpa using e1
  simp[e0,e1,d2]
 subst e0;subst e1
 by_cases hl:a2.length=b2.length
 rotate_left
 ·have:a2≠b2:=fun h=>hl (by rw[h])
  simp[φ71 hl,this]
 have key:=φh (step:=ψ34.l0) (fun n (_:Unit)=>((a0,a1,a2),(a0,a1,b2),(n:Int))) a2.length (fun n _=>if a2.drop n=b2.drop n then .inl () else .inr false) (fun _ _=>True)
  (fun rec n s hn _ ih=>by
   rcases κ1 n a2.length with h | h
   ·have h2:n<b2.length:=by omega
    simp only[ψ34.l0,oL,h,h2,dT,cT,φK,φN,φE h,φE h2,φR (show n+1<9223372036854775808 by omega)]
    rw[ih () h trivial]
    by_cases hc:a2[n]=b2[n]
    ·simp only[φ8R h h2,hc,true_and];simp
    ·have d2:(a2[n]==b2[n])=false:=by simpa using hc
     rw[if_neg fun k=>hc ((φ8R h h2).1 k).1];simp[d2]
   ·have:n=a2.length:=by omega
    subst this
    simp[ψ34.l0,hl])
  ha 0 () (κ3 _) trivial
 have key:lp ψ34.l0 ((a0,a1,a2),(a0,a1,b2),0)=_:=key
 simp only[bne_self_eq_false,cF,beq_self_eq_true,nZ,φ7X hl,key]
 by_cases e:a2=b2<;>simp[e]
theorem φOK (a b:List (Int×List UInt8×List (List UInt8))) (ha:a.length<2 ^ 62) (hx:∀x∈a,x.2.2.length<2 ^ 62):ψ2j.f a b=some (decide (a=b)):=by
 unfold ψ2j.f
 by_cases hl:a.length=b.length
 rotate_left
 ·have:a≠b:=fun h=>hl (by rw[h])
  rw[φ71 hl];simp[this]
 rw[φ7X hl,cF,φK7 a b hl ha (fun rec n h1 h2=>?_) (fun rec=>?_)]
 ·by_cases e:a=b<;>simp[e]
 ·simp only[ψ2j.l0,oL,h1,h2,dT,cT,φK,φN,φE h1,φE h2,φR (show n+1<9223372036854775808 by omega),φ2c,φKw _ _ (hx a[n] (gM h1)),bS,φMW]
 ·simp[ψ2j.l0]
abbrev PutT:=List UInt8×Bool×List UInt8
abbrev φX:=List UInt8×List UInt8×Int
abbrev φC:=List UInt8×Int×Int×Int×Int
abbrev TxnT:=Bool×List (List UInt8×Int)×List (List UInt8×Bool×List UInt8)
def φ20 (l:List φC) (key:List UInt8):φC×Bool:=
 match l.find? (fun e=>e.1==key) with
 | some e=>(e,true)
 | none=>(([],0,0,0,0),false)
theorem φGe (l:List φC) (key:List UInt8) (hl:l.length<2 ^ 62):ψ8.f l key=some (φ20 l key):=by
 have hk:=φHa (step:=ψ8.l0) l (fun e=>e.1==key) (fun e=>(e,true)) (fun n=>(key,([],0,0,0,0),l,(l.length:Int),(n:Int))) ([],0,0,0,0) hl
  (fun rec n h=>by
   simp only[ψ8.l0,oL,h,dT,cT,φK,φN,φE h,φ2c,φR (show n+1<9223372036854775808 by omega)]
   cases l[n].1==key<;>simp)
  (fun rec=>by simp[ψ8.l0])
 have hk:lp ψ8.l0 (key,([],0,0,0,0),l,(l.length:Int),0)=_:=hk
 unfold ψ8.f φ20
 rw[hk,bS]
 cases List.find? (fun e=>e.1==key) l<;>rfl
theorem φI7 (l:List φC) (key:List UInt8) (hl:l.length<2 ^ 62):ψ2M.f l key=some (φ20 l key):=by
 have hk:=φHa (step:=ψ2M.l0) l (fun e=>e.1==key) (fun e=>(e,true)) (fun n=>(l,key,([],0,0,0,0),(n:Int))) ([],0,0,0,0) hl
  (fun rec n h=>by
   simp only[ψ2M.l0,oL,h,dT,cT,φK,φN,φE h,φ2c,φR (show n+1<9223372036854775808 by omega)]
   cases l[n].1==key<;>simp)
  (fun rec=>by simp[ψ2M.l0])
 have hk:lp ψ2M.l0 (l,key,([],0,0,0,0),0)=_:=hk
 unfold ψ2M.f φ20
 rw[hk,bS]
 cases List.find? (fun e=>e.1==key) l<;>rfl
def φ3t (t:TxnT) (dir:List φC):Bool:=t.2.1.all fun r=>(φ20 dir r.1).1.2.2.2.2==r.2
theorem φKW (t:TxnT) (dir:List φC) (h1:t.2.1.length<2 ^ 62) (h2:dir.length<2 ^ 62):ψ1F.f t dir=some (φ3t t dir):=by
 have hk:=φ4a (step:=ψ1F.l0) t.2.1 (fun r=>(φ20 dir r.1).1.2.2.2.2==r.2) (fun n=>(dir,t.2.1,(t.2.1.length:Int),(n:Int))) () h1
  (fun rec n h=>by
   simp only[ψ1F.l0,oL,h,dT,cT,φK,φN,φE h,φGe dir _ h2,bS,φR (show n+1<9223372036854775808 by omega),bne]
   cases (φ20 dir t.2.1[n].1).1.2.2.2.2==t.2.1[n].2<;>simp)
  (fun rec=>by simp[ψ1F.l0])
 have hk:lp ψ1F.l0 (dir,t.2.1,(t.2.1.length:Int),0)=_:=hk
 unfold ψ1F.f φ3t
 rw[hk,bS]
 cases List.all t.2.1 _<;>rfl
def φ2W (l:List PutT):List (List UInt8):=l.foldl (fun ks p=>if p.1∈ks then ks else ks++[p.1]) []
def netW (l:List PutT):List PutT:=(φ2W l).map fun k=>(ownW l k).1
theorem φ6Z (l:List PutT) (p:PutT):φ2W (l++[p])=if p.1∈φ2W l then φ2W l else φ2W l++[p.1]:=by
 unfold φ2W;rw[κW];rfl
theorem φ7d (l:List PutT) (p:PutT) (k:List UInt8):ownW (l++[p]) k=if p.1=k then (p,true) else ownW l k:=by
 unfold ownW φ4U
 rw[List.reverse_append,List.reverse_cons,List.reverse_nil,κ9,κF,κ9,List.find?_cons]
 by_cases h:p.1=k
 ·simp[h]
 ·have:(p.1==k)=false:=by simpa using h
  simp[h,this]
theorem φ5Q {α:Type} {P:List α→Prop} (h0:P []) (hs:∀l x,P l→P (l++[x])):∀l,P l:=by
 have key:∀n (l:List α),l.length=n→P l:=by
  intro n
  induction n with
  | zero=>intro l h;rw[List.eq_nil_of_length_eq_zero h];exact h0
  | succ n ih=>
   intro l h
   have hlt:n<l.length:=by omega
   have e:l.take n++[l[n]]=l:=by
    rw[←κ4 hlt,List.take_of_length_le (by omega)]
   rw[←e]
   exact hs _ _ (ih _ (by simp;omega))
 exact fun l=>key l.length l rfl
theorem φKH (l:List PutT) (k:List UInt8):k∈φ2W l↔∃p∈l,p.1=k:=by
 induction l using φ5Q with
 | h0=>simp[φ2W]
 | hs l p ih=>
  rw[φ6Z]
  by_cases h:p.1∈φ2W l
  ·rw[if_pos h,ih]
   constructor
   ·rintro ⟨q,h1,h2⟩;exact ⟨q,mL _ h1,h2⟩
   ·rintro ⟨q,h1,h2⟩
    rcases mA.1 h1 with k1 | k1
    ·exact ⟨q,k1,h2⟩
    ·simp only[mZ] at k1
     subst k1;subst h2
     exact ih.1 h
  ·rw[if_neg h,mA,ih]
   constructor
   ·rintro (⟨q,h1,h2⟩ | h1)
    ·exact ⟨q,mL _ h1,h2⟩
    ·simp only[mZ] at h1
     exact ⟨p,by simp,h1.symm⟩
   ·rintro ⟨q,h1,h2⟩
    rcases mA.1 h1 with k1 | k1
    ·exact .inl ⟨q,k1,h2⟩
    ·simp only[mZ] at k1
     subst k1;right;simp[h2]
theorem φEc (l:List PutT):(φ2W l).Nodup:=by
 induction l using φ5Q with
 | h0=>simp[φ2W]
 | hs l p ih=>
  rw[φ6Z]
  by_cases h:p.1∈φ2W l
  ·rw[if_pos h];exact ih
  ·rw[if_neg h,κJ]
   refine ⟨ih,by simp,fun a ha b hb=>?_⟩
   simp only[mZ] at hb
   subst hb
   intro e;subst e;exact h ha
theorem φOE (l:List PutT):(φ2W l).length≤l.length:=by
 induction l using φ5Q with
 | h0=>simp[φ2W]
 | hs l p ih=>
  rw[φ6Z]
  split<;>simp<;>omega
theorem φGo (l:List PutT) (k:List UInt8) (h:k∈φ2W l):(ownW l k).1.1=k∧(ownW l k).2=true:=by
 induction l using φ5Q with
 | h0=>simp[φ2W] at h
 | hs l p ih=>
  rw[φ7d]
  by_cases e:p.1=k
  ·rw[if_pos e];exact ⟨e,rfl⟩
  ·rw[if_neg e]
   rw[φ6Z] at h
   apply ih
   split at h
   ·exact h
   ·rcases mA.1 h with h | h
    ·exact h
    ·simp only[mZ] at h;exact absurd h.symm e
def φ2b (key:List UInt8):List PutT→Nat→Int→Int
 | [],_,s=>s
 | x::r,i,s=>φ2b key r (i+1) (if x.1==key then i else s)
theorem φBj (key:List UInt8):∀(l:List PutT) (i:Nat) (s:Int),(∀p∈l,p.1≠key)→φ2b key l i s=s
 | [],_,_,_=>rfl
 | x::r,i,s,h=>by
  have:(x.1==key)=false:=by simpa using h x (by simp)
  show φ2b key r (i+1) (if (x.1==key)=true then (i:Int) else s)=s
  rw[this]
  exact φBj key r (i+1) s fun p hp=>h p (mC _ hp)
theorem φE0 (key:List UInt8):∀(l:List PutT) (i:Nat) (s:Int) (j:Nat) (hj:j<l.length),l[j].1=key→(∀m,(hm:m<l.length)→l[m].1=key→m=j)→φ2b key l i s=((i+j:Nat):Int)
 | x::r,i,s,0,_,h,hu=>by
  show φ2b key r (i+1) (if (x.1==key)=true then (i:Int) else s)=_
  have h:x.1=key:=h
  rw[h]
  simp only[beq_self_eq_true,if_true]
  rw[φBj key r (i+1) i fun p hp=>by
   intro e
   obtain ⟨m,hm,hp⟩:=List.getElem_of_mem hp
   have:=hu (m+1) (by simpa using hm) (by simpa [hp] using e)
   omega]
  simp
 | x::r,i,s,j+1,hj,h,hu=>by
  show φ2b key r (i+1) (if (x.1==key)=true then (i:Int) else s)=_
  rw[φE0 key r (i+1) _ j (by simpa using hj) (by simpa using h) fun m hm hk=>by
   have:=hu (m+1) (by simpa using hm) (by simpa using hk);omega]
  congr 1;omega
def φ5q (out:List PutT) (p:PutT):List PutT:=if φ2b p.1 out 0 (-1)≥0 then out.set (φ2b p.1 out 0 (-1)).toNat p else out++[p]
theorem φIp (m:List PutT) (p:PutT):φ5q (netW m) p=netW (m++[p]):=by
 have keys:∀(j:Nat) (hj:j<(netW m).length),(netW m)[j].1=(φ2W m)[j]'(by simpa [netW] using hj):=fun j hj=>by
  simp only[netW,List.getElem_map]
  exact (φGo m _ (gM _)).1
 unfold φ5q
 by_cases h:p.1∈φ2W m
 ·obtain ⟨j,hj,hk⟩:=List.getElem_of_mem h
  have hj':j<(netW m).length:=by simpa [netW] using hj
  have e:=φE0 p.1 (netW m) 0 (-1) j hj' (by rw[keys j hj',hk]) fun q hq hqk=>by
   rw[keys q hq] at hqk
   exact (List.getElem_inj (φEc m)).1 (hqk.trans hk.symm)
  rw[e,if_pos (by omega)]
  have e2:((0+j:Nat):Int).toNat=j:=by omega
  rw[e2]
  unfold netW
  rw[φ6Z,if_pos h]
  apply List.ext_getElem (by simp)
  intro i h1 h2
  rw[List.getElem_set]
  simp only[List.getElem_map]
  have hi:i<(φ2W m).length:=by simpa using h2
  by_cases hij:j=i
  ·subst hij
   rw[if_pos rfl,φ7d,if_pos hk.symm]
  ·rw[if_neg hij,φ7d,if_neg]
   intro hp
   rw[←hk] at hp
   exact hij ((List.getElem_inj (φEc m)).1 hp)
 ·rw[φBj p.1 (netW m) 0 (-1) fun q hq=>by
   intro e
   obtain ⟨j,hj,hq⟩:=List.getElem_of_mem hq
   have:=keys j hj
   rw[hq,e] at this
   exact h (this ▸ gM _)]
  rw[if_neg (by omega)]
  unfold netW
  rw[φ6Z,if_neg h,mp]
  congr 1
  ·apply List.map_congr_left
   intro k hk
   rw[φ7d,if_neg]
   intro e;subst e;exact h hk
  ·simp[φ7d]
theorem φCJ (l:List PutT):l.foldl φ5q []=netW l:=by
 induction l using φ5Q with
 | h0=>rfl
 | hs l p ih=>rw[κW,ih];exact φIp l p
theorem φNk (out:List PutT) (p:PutT) (x9:List PutT) (x10 x11:Int) (hl:out.length<2 ^ 62) :
  lp ψ1a.l2 (out,p,-1,x9,x10,x11,(out.length:Int),0)=some (out,p,φ2b p.1 out 0 (-1),x9,x10,x11):=by
 have key:=φh (step:=ψ1a.l2) (fun n (s:Int)=>(out,p,s,x9,x10,x11,(out.length:Int),(n:Int))) out.length (fun n s=>(out,p,φ2b p.1 (out.drop n) n s,x9,x10,x11)) (fun _ _=>True)
  (fun rec n s hn _ ih=>by
   rcases κ1 n out.length with h | h
   ·have hw:w64 ((n:Int)+1)=((n+1:Nat):Int):=φR (show n+1<9223372036854775808 by omega)
    simp only[ψ1a.l2,oL,h,dT,cT,φK,φN,φE h,φR (show n+1<9223372036854775808 by omega)]
    rw[dG h]
    show _=some (out,p,φ2b p.1 (out.drop (n+1)) (n+1) (if (out[n].1==p.1)=true then (n:Int) else s),x9,x10,x11)
    cases out[n].1==p.1
    ·simp only[cF,bS,κ2,if_false];rw[hw];exact ih s h trivial
    ·simp only[cT,bS,if_true];rw[hw];exact ih n h trivial
   ·have:n=out.length:=by omega
    subst this
    simp[ψ1a.l2,φ2b])
  hl 0 (-1) (κ3 _) trivial
 simpa using key
theorem φLb (out:List PutT) (p:PutT):(φ5q out p).length≤out.length+1:=by
 unfold φ5q;split<;>simp
theorem φFk (key:List UInt8):∀(l:List PutT) (i:Nat) (s:Int),φ2b key l i s=s∨(∃j:Nat,φ2b key l i s=((i+j:Nat):Int)∧j<l.length)
 | [],_,_=>.inl rfl
 | x::r,i,s=>by
  show φ2b key r (i+1) (if (x.1==key)=true then (i:Int) else s)=s∨∃j:Nat,φ2b key r (i+1) (if (x.1==key)=true then (i:Int) else s)=_∧_
  rcases φFk key r (i+1) (if (x.1==key)=true then (i:Int) else s) with h | ⟨j,h1,h2⟩
  ·rw[h]
   split
   ·exact .inr ⟨0,by simp,by simp⟩
   ·exact .inl rfl
  ·exact .inr ⟨j+1,by rw[h1];congr 1;omega,by simp;omega⟩
theorem φKr (l:List PutT) (hl:l.length<2 ^ 40):ψ1a.f l=some (netW l):=by
 have hk:=φ3m (step:=ψ1a.l0) l φ5q (fun n (s:List PutT)=>(s,l,(l.length:Int),(n:Int))) id (fun n s=>s.length≤n) (by omega)
  (fun rec n s h hi=>by
   have hs:s.length<2 ^ 62:=by omega
   have hw:w64 ((n:Int)+1)=((n+1:Nat):Int):=φR (show n+1<9223372036854775808 by omega)
   simp only[ψ1a.l0,oL,h,dT,cT,φK,φN,φE h,φ2c,φNk s l[n] l _ _ hs,bS,φR (show n+1<9223372036854775808 by omega)]
   unfold φ5q
   by_cases hp:φ2b l[n].1 s 0 (-1)≥0
   ·rcases φFk l[n].1 s 0 (-1) with k | ⟨j,k1,k2⟩
    ·omega
    ·rw[if_pos hp]
     have:inB (φ2b l[n].1 s 0 (-1)) s.length=true:=by rw[k1];simp[k2]
     simp only[hp,dT,cT,this,bS,hw]
   ·rw[if_neg hp]
    have hb:(s.length+[l[n]].length) * 40≤140737488355328:=by simp;omega
    simp only[hp,dF,cF,hb,dT,cT,bS,hw])
  (fun n s h hi=>by have:=φLb s l[n];omega)
  (fun rec s hi=>by simp[ψ1a.l0]) [] (by simp)
 have hk:lp ψ1a.l0 ([],l,(l.length:Int),0)=_:=hk
 unfold ψ1a.f
 rw[hk,φCJ];rfl
theorem φBJ (t:TxnT) (hl:t.2.2.length<2 ^ 40):ψb.f t=some (netW t.2.2):=by
 unfold ψb.f;rw[φKr _ hl];rfl
theorem φ4y {a:Nat} (h:a<1000000000001):(a+1) * 40≤140737488355328:=by omega
def leK (a b:List UInt8):Bool:=Op.bytesLess a b || a==b
def insB {α:Type} (l:List (List UInt8×α)) (p:List UInt8×α):List (List UInt8×α):=
 let k:=(l.takeWhile fun x=>leK x.1 p.1).length
 l.take k++[p]++l.drop k
def φ18 {α:Type} (l:List (List UInt8×α)) (key:List UInt8):List (List UInt8×α):=l.filter fun x=>!(x.1==key)
theorem φ6e {α:Type} (l:List (List UInt8×α)) (p:List UInt8×α):(insB l p).length=l.length+1:=by
 have:(l.takeWhile fun x=>leK x.1 p.1).length≤l.length:=(List.takeWhile_sublist _).length_le
 simp only[insB,lA,lT,lD,lC,lN];omega
theorem φ8F {α:Type} (l:List (List UInt8×α)) (key:List UInt8):(φ18 l key).length≤l.length:=List.length_filter_le _ _
theorem φDA {α:Type} (f:α→Bool):∀(l s:List α),l.foldl (fun s x=>if f x=true then s++[x] else s) s=s++l.filter f
 | [],s=>by simp
 | x::l,s=>by
  rw[κM,φDA f l,List.filter_cons]
  cases f x<;>simp
def φ6S (b:Int) (l:List φX) (p:PutT):List φX:=if p.2.1=true then φ18 l p.1 else insB (φ18 l p.1) (p.1,p.2.2,b)
def φ2E (l:List φX) (puts:List PutT) (b:Int):List φX:=puts.foldl (φ6S b) l
theorem φHl {α:Type} (f:α→Bool) (l:List α) (n:Nat) (h:n<l.length):((l.drop n).takeWhile f).length=if f l[n]=true then ((l.drop (n+1)).takeWhile f).length+1 else 0:=by
 rw[dG h,List.takeWhile_cons]
 split<;>simp
theorem dnn {k:Int} (h:0≤k):decide (k<0)=false:=by
 have:¬k<0:=by omega
 simp[this]
theorem φCV (l:List PutT):(netW l).length≤l.length:=by
 unfold netW;rw[lM];exact φOE l
theorem φ4u:∀a:List UInt8,Op.bytesLess a a=false
 | []=>rfl
 | x::a=>by simp[Op.bytesLess,φ4u a]
theorem φGJ {a b:UInt8}:a<b↔a.toNat<b.toNat:=UInt8.lt_iff_toNat_lt
theorem φMe {a b:UInt8} (h:a.toNat=b.toNat):a=b:=UInt8.toNat.inj h
theorem φ74:∀a b c:List UInt8,Op.bytesLess a b=true→Op.bytesLess b c=true→Op.bytesLess a c=true
 | _,[],_,h,_=>by simp[Op.bytesLess] at h
 | _,_::_,[],_,h=>by simp[Op.bytesLess] at h
 | [],_::_,_::_,_,_=>rfl
 | x::a,y::b,z::c,h1,h2=>by
  simp only[Op.bytesLess,κV,decide_eq_true_eq,bA,beq_iff_eq] at h1 h2 ⊢
  rcases h1 with h1 | ⟨h1,k1⟩
  ·rcases h2 with h2 | ⟨h2,k2⟩
   ·left;rw[φGJ] at *;omega
   ·left;rw[←h2];exact h1
  ·rcases h2 with h2 | ⟨h2,k2⟩
   ·left;rw[h1];exact h2
   ·exact .inr ⟨h1.trans h2,φ74 a b c k1 k2⟩
theorem φEX:∀a b:List UInt8,Op.bytesLess a b=false→a≠b→Op.bytesLess b a=true
 | [],[],_,h=>absurd rfl h
 | [],_::_,h,_=>by simp[Op.bytesLess] at h
 | _::_,[],_,_=>rfl
 | x::a,y::b,h1,h2=>by
  simp only[Op.bytesLess,κH,decide_eq_false_iff_not,Bool.and_eq_false_iff] at h1
  simp only[Op.bytesLess,κV,decide_eq_true_eq,bA,beq_iff_eq]
  by_cases e:x=y
  ·subst e
   right
   refine ⟨rfl,φEX a b ?_ fun e=>h2 (by rw[e])⟩
   rcases h1.2 with k | k
   ·simp at k
   ·exact k
  ·left
   rw[φGJ] at *
   have:=h1.1
   have hne:x.toNat≠y.toNat:=fun k=>e (φMe k)
   omega
theorem φGO (a b:List UInt8) (h:Op.bytesLess a b=true):Op.bytesLess b a=false:=by
 cases hb:Op.bytesLess b a with
 | false=>rfl
 | true=>have:=φ74 a b a h hb;rw[φ4u] at this;simp at this
theorem φ5z {a b:List UInt8} (h:Op.bytesLess a b=true):a≠b:=fun e=>by rw[e,φ4u] at h;simp at h
theorem φ8N (a b:List UInt8):leK a b=!Op.bytesLess b a:=by
 unfold leK
 cases h:Op.bytesLess a b with
 | true=>rw[φGO a b h];rfl
 | false=>
  by_cases e:a=b
  ·subst e;simp[h]
  ·rw[φEX a b h e]
   have:(a==b)=false:=by simpa using e
   simp[this]
def φ4C (b:UInt8):Bool:=(decide (97≤b.toNat) && decide (b.toNat≤122)) || (decide (48≤b.toNat) && decide (b.toNat≤57))
def φ1i (s:List UInt8):Bool:=s.all φ4C && decide (1≤s.length∧s.length≤12)
theorem φ55 (s:List UInt8) (n:Nat) (h:n<s.length):bAt s (n:Int)=(s[n].toNat:Int):=by
 unfold bAt
 rw[tN,φE h]
theorem φ8n {a:Nat} {k:Nat}:decide ((a:Int)≥(k:Int))=decide (k≤a):=decide_eq_decide.2 (by omega)
theorem φ7z {a:Nat} {k:Nat}:decide ((a:Int)≤(k:Int))=decide (a≤k):=decide_eq_decide.2 (by omega)
theorem φAG (s:List UInt8) (hl:s.length<2 ^ 62):ψa.f s=some (φ1i s):=by
 have key:=φ4a (step:=ψa.l0) s φ4C (fun n=>(s,(n:Int))) s hl
  (fun rec n h=>by
   have hw:w64 ((n:Int)+1)=((n+1:Nat):Int):=φR (by omega)
   have e1:decide ((s[n].toNat:Int)≥97)=decide (97≤s[n].toNat):=φ8n (k:=97)
   have e2:decide ((s[n].toNat:Int)≤122)=decide (s[n].toNat≤122):=φ7z (k:=122)
   have e3:decide ((s[n].toNat:Int)≥48)=decide (48≤s[n].toNat):=φ8n (k:=48)
   have e4:decide ((s[n].toNat:Int)≤57)=decide (s[n].toNat≤57):=φ7z (k:=57)
   simp only[ψa.l0,oL,h,dT,cT,φK,φ55 s n h,e1,e2,e3,e4]
   unfold φ4C
   cases decide (97≤s[n].toNat)<;>cases decide (s[n].toNat≤122)<;>cases decide (48≤s[n].toNat)<;>cases decide (s[n].toNat≤57)<;>simp[hw])
  (fun rec=>by simp[ψa.l0])
 have key:lp ψa.l0 (s,0)=_:=key
 unfold ψa.f φ1i
 rw[key,bS]
 have e:decide ((1:Int)≤(s.length:Int)∧(s.length:Int)≤12)=decide (1≤s.length∧s.length≤12):=decide_eq_decide.2 (by omega)
 cases h:s.all φ4C
 ·simp
 ·simp only[if_true,φe,φ1Y,bS,e,tA]
theorem φB1 (s:List UInt8) (hl:s.length<2 ^ 62):ψ2Z.f s=some (φ1i s):=by
 have key:=φ4a (step:=ψ2Z.l0) s φ4C (fun n=>(s,(n:Int))) s hl
  (fun rec n h=>by
   have hw:w64 ((n:Int)+1)=((n+1:Nat):Int):=φR (by omega)
   have e1:decide ((s[n].toNat:Int)≥97)=decide (97≤s[n].toNat):=φ8n (k:=97)
   have e2:decide ((s[n].toNat:Int)≤122)=decide (s[n].toNat≤122):=φ7z (k:=122)
   have e3:decide ((s[n].toNat:Int)≥48)=decide (48≤s[n].toNat):=φ8n (k:=48)
   have e4:decide ((s[n].toNat:Int)≤57)=decide (s[n].toNat≤57):=φ7z (k:=57)
   simp only[ψ2Z.l0,oL,h,dT,cT,φK,φ55 s n h,e1,e2,e3,e4]
   unfold φ4C
   cases decide (97≤s[n].toNat)<;>cases decide (s[n].toNat≤122)<;>cases decide (48≤s[n].toNat)<;>cases decide (s[n].toNat≤57)<;>simp[hw])
  (fun rec=>by simp[ψ2Z.l0])
 have key:lp ψ2Z.l0 (s,0)=_:=key
 unfold ψ2Z.f φ1i
 rw[key,bS]
 have e:decide ((1:Int)≤(s.length:Int)∧(s.length:Int)≤12)=decide (1≤s.length∧s.length≤12):=decide_eq_decide.2 (by omega)
 cases h:s.all φ4C
 ·simp
 ·simp only[if_true,φe,φ2g,bS,e,tA]
abbrev φ4:=List UInt8×List UInt8×Int
abbrev φ1:=List φ4×Int×Int×Bool
def φH (l:List φ4):Nat:=sumN (fun f=>f.2.1.length) l
def φ35 (f:φ4):Bool:=φ1i f.1 && decide (0≤f.2.2∧f.2.2≤(f.2.1.length:Int))
def φ3Q:Option (List UInt8)→List φ4→Bool
 | _,[]=>true
 | none,f::r=>φ3Q (some f.1) r
 | some p,f::r=>Op.bytesLess p f.1 && φ3Q (some f.1) r
def φ5b (l:List φ4):Bool:=l.all φ35 && φ3Q none l
def φ3 (d:φ1):Bool:=decide (d.1.length≤130) && (decide (0≤d.2.1∧d.2.1≤100000) && (decide (-1≤d.2.2.1∧d.2.2.1≤100000) && (decide ((φH d.1:Int)≤d.2.1) && φ5b d.1)))
def φ4J (l:List φ4):Nat→Option (List UInt8)
 | 0=>none
 | n+1=>some (l.getD n ([],[],0)).1
def φ5h (p:Option (List UInt8)) (l:List φ4):Bool:=l.all φ35 && φ3Q p l
def follows (p:Option (List UInt8)) (f:φ4):Bool:=match p with | none=>true | some q=>Op.bytesLess q f.1
theorem φDQ (p:Option (List UInt8)) (f:φ4) (l:List φ4):φ5h p (f::l)=(φ35 f && follows p f && φ5h (some f.1) l):=by
 unfold φ5h follows
 cases p<;>simp only[List.all_cons,φ3Q]<;>cases φ35 f<;>simp[Bool.and_comm,Bool.and_assoc,Bool.and_left_comm]
theorem φEy (d:φ1) (hl:d.1.length<2 ^ 62) (hu:φH d.1<2 ^ 62):ψ3A.f d=some (φH d.1:Int):=by
 have key:=φh (step:=ψ3A.l0) (fun n (s:Int)=>(d,s,(n:Int))) d.1.length (fun n s=>s+(φH (d.1.drop n):Int)) (fun n s=>0≤s∧s+(φH (d.1.drop n):Int)<2 ^ 62)
  (fun rec n s hn hi ih=>by
   rcases κ1 n d.1.length with h | h
   ·have e:φH (d.1.drop n)=d.1[n].2.1.length+φH (d.1.drop (n+1)):=φAf _ h
    have h2:=hi.2
    have h1:=hi.1
    rw[e] at h2
    simp only[ψ3A.l0,oL,h,dT,cT,φK,φN,φE h,φR (show n+1<9223372036854775808 by omega)]
    rw[φJ (by omega) (by omega),ih _ h ⟨by omega,by omega⟩,e]
    congr 1;omega
   ·have:n=d.1.length:=by omega
    subst this
    simp[ψ3A.l0,φH,sumN])
  hl 0 0 (κ3 _) ⟨by omega,by simp only[κC];omega⟩
 have key:lp ψ3A.l0 (d,0,0)=_:=key
 unfold ψ3A.f
 rw[key];simp
theorem φEw (d:φ1) (hl:d.1.length<2 ^ 62) (hu:φH d.1<2 ^ 62):ψ1u.f d=some (φH d.1:Int):=by
 have key:=φh (step:=ψ1u.l0) (fun n (s:Int)=>(s,d.1,(d.1.length:Int),(n:Int))) d.1.length (fun n s=>s+(φH (d.1.drop n):Int)) (fun n s=>0≤s∧s+(φH (d.1.drop n):Int)<2 ^ 62)
  (fun rec n s hn hi ih=>by
   rcases κ1 n d.1.length with h | h
   ·have e:φH (d.1.drop n)=d.1[n].2.1.length+φH (d.1.drop (n+1)):=φAf _ h
    have h2:=hi.2
    have h1:=hi.1
    rw[e] at h2
    simp only[ψ1u.l0,oL,h,dT,cT,φK,φN,φE h,φR (show n+1<9223372036854775808 by omega)]
    rw[φJ (by omega) (by omega),ih _ h ⟨by omega,by omega⟩,e]
    congr 1;omega
   ·have:n=d.1.length:=by omega
    subst this
    simp[ψ1u.l0,φH,sumN])
  hl 0 0 (κ3 _) ⟨by omega,by simp only[κC];omega⟩
 have key:lp ψ1u.l0 (0,d.1,(d.1.length:Int),0)=_:=key
 unfold ψ1u.f
 rw[key];simp
theorem φ94 (l:List φ4) (n:Nat) (h:n<l.length):φ4J l (n+1)=some l[n].1:=by
 show some (l.getD n ([],[],0)).1=_
 rw[φE h]
theorem φM1 {f:List UInt8} (h:φ1i f=true):f.length≤12:=by
 unfold φ1i at h
 simp only[bA,decide_eq_true_eq] at h
 exact h.2.2
theorem φOG (d:φ1) (hl:d.1.length<2 ^ 62) (hu:φH d.1<2 ^ 62) (hn:∀f∈d.1,f.1.length<2 ^ 62):lp ψD.l0 (d,0,d.1,(d.1.length:Int),0)=some (if φ5b d.1=true then .inl (d,(φH d.1:Int)) else .inr false):=by
 have key:=φh (step:=ψD.l0) (fun n (s:Int)=>(d,s,d.1,(d.1.length:Int),(n:Int))) d.1.length (fun n s=>if φ5h (φ4J d.1 n) (d.1.drop n)=true then .inl (d,s+(φH (d.1.drop n):Int)) else .inr false) (fun n s=>0≤s∧s+(φH (d.1.drop n):Int)<2 ^ 62)
  (fun rec n s hn' hi ih=>by
   rcases κ1 n d.1.length with h | h
   ·have e:φH (d.1.drop n)=d.1[n].2.1.length+φH (d.1.drop (n+1)):=φAf _ h
    have h2:=hi.2
    have h1:=hi.1
    rw[e] at h2
    have hw:w64 ((n:Int)+1)=((n+1:Nat):Int):=φR (by omega)
    have hw2:w64 (s+(d.1[n].2.1.length:Int))=s+(d.1[n].2.1.length:Int):=φJ (by omega) (by omega)
    have ih2:=ih (s+(d.1[n].2.1.length:Int)) h ⟨by omega,by omega⟩
    have ea:s+(d.1[n].2.1.length:Int)+(φH (d.1.drop (n+1)):Int)=s+((d.1[n].2.1.length+φH (d.1.drop (n+1)):Nat):Int):=by omega
    rw[φ94 d.1 n h,ea] at ih2
    have hnm:=hn d.1[n] (gM h)
    rw[dG h,φDQ,←dG h,e]
    simp only[ψD.l0,oL,h,dT,cT,φK,φN,φE h,φAG _ hnm,bS,φ1Y]
    unfold φ35
    rcases bE (φ1i d.1[n].1) with k1 | k1
    rotate_left
    ·simp[k1]
    rcases bE (decide (0≤d.1[n].2.2∧d.1[n].2.2≤(d.1[n].2.1.length:Int))) with k2 | k2
    rotate_left
    ·simp only[k1,k2,nZ,nF,cF,cT,bS,φn];simp
    simp only[k1,k2,nZ,cF,tA]
    cases n with
    | zero=>
     have z:¬((0:Nat):Int) > 0:=by omega
     simp only[z,dF,cF,bS,φe,hw2,hw,ih2,φ4J,follows,tA]
    | succ m=>
     have z:((m+1:Nat):Int) > 0:=by omega
     have hm:m<d.1.length:=by omega
     have z2:w64 (((m+1:Nat):Int) - 1)=(m:Int):=by rw[φJ (by omega) (by omega)];omega
     rw[φ94 d.1 m hm]
     simp only[z,dT,cT,z2,φK,hm,φN,φE hm,follows]
     rcases bE (Op.bytesLess d.1[m].1 d.1[m+1].1) with k3 | k3
     ·simp only[k3,nZ,cF,bS,φe,hw2,hw,ih2,tA]
     ·simp[k3]
   ·have:n=d.1.length:=by omega
    subst this
    simp[ψD.l0,φ5h,φ3Q,φH,sumN])
  hl 0 0 (κ3 _) ⟨by omega,by simp only[κC];omega⟩
 have key:lp ψD.l0 (d,0,d.1,(d.1.length:Int),0)=_:=key
 rw[key,κC,Int.zero_add];rfl
theorem φOM (d:φ1) (hl:d.1.length<2 ^ 62) (hn:∀f∈d.1,f.1.length<2 ^ 62):lp ψ2O.l0 (d,0)=some (if φ5b d.1=true then .inl () else .inr false):=by
 have key:=φh (step:=ψ2O.l0) (fun n (_:Unit)=>(d,(n:Int))) d.1.length (fun n _=>if φ5h (φ4J d.1 n) (d.1.drop n)=true then .inl () else .inr false) (fun _ _=>True)
  (fun rec n s hn' _ ih=>by
   rcases κ1 n d.1.length with h | h
   ·have hw:w64 ((n:Int)+1)=((n+1:Nat):Int):=φR (by omega)
    have ih2:=ih () h trivial
    rw[φ94 d.1 n h] at ih2
    have hnm:=hn d.1[n] (gM h)
    rw[dG h,φDQ]
    simp only[ψ2O.l0,oL,h,dT,cT,φK,φN,φE h,φB1 _ hnm,bS,φ2g]
    unfold φ35
    rcases bE (φ1i d.1[n].1) with k1 | k1
    rotate_left
    ·simp[k1]
    rcases bE (decide (0≤d.1[n].2.2∧d.1[n].2.2≤(d.1[n].2.1.length:Int))) with k2 | k2
    rotate_left
    ·simp only[k1,k2,nZ,nF,cF,cT,bS,φn];simp
    simp only[k1,k2,nZ,cF,tA]
    cases n with
    | zero=>
     have z:¬((0:Nat):Int) > 0:=by omega
     simp only[z,dF,cF,bS,φe,hw,ih2,φ4J,follows,tA]
    | succ m=>
     have z:((m+1:Nat):Int) > 0:=by omega
     have hm:m<d.1.length:=by omega
     have z2:w64 (((m+1:Nat):Int) - 1)=(m:Int):=by rw[φJ (by omega) (by omega)];omega
     have z3:(Op.bytesLess d.1[m+1].1 d.1[m].1 || d.1[m+1].1==d.1[m].1)=!Op.bytesLess d.1[m].1 d.1[m+1].1:=φ8N _ _
     rw[φ94 d.1 m hm]
     simp only[z,dT,cT,z2,φK,hm,φN,φE hm,follows,z3]
     rcases bE (Op.bytesLess d.1[m].1 d.1[m+1].1) with k3 | k3
     ·simp only[k3,nZ,cF,bS,φe,hw,ih2,tA]
     ·simp[k3]
   ·have:n=d.1.length:=by omega
    subst this
    simp[ψ2O.l0,φ5h,φ3Q])
  hl 0 () (κ3 _) trivial
 have key:lp ψ2O.l0 (d,0)=_:=key
 rw[key,κC];rfl
def dlim (d:φ1):Prop:=d.1.length<1000000000∧φH d.1<1000000000000∧∀f∈d.1,f.1.length<1000000000000
theorem φ5e (d:φ1) (h:dlim d):ψD.f d=some (φ3 d):=by
 obtain ⟨h1,h2,h3⟩:=h
 unfold ψD.f φ3
 have e1:decide ((d.1.length:Int) > 130)=!decide (d.1.length≤130):=by
  by_cases c:d.1.length≤130
  ·have:¬(d.1.length:Int) > 130:=by omega
   simp[c,this]
  ·have:(d.1.length:Int) > 130:=by omega
   simp[c,this]
 rw[e1,φ1Y,φ1Y,φOG d (by omega) (by omega) fun f hf=>by have:=h3 f hf;omega]
 cases decide (d.1.length≤130)
 ·rfl
 ·simp only[nZ,cF,bS,tA]
  cases decide (0≤d.2.1∧d.2.1≤100000)
  ·rfl
  ·simp only[nZ,cF,bS,tA]
   cases decide (-1≤d.2.2.1∧d.2.2.1≤100000)
   ·rfl
   ·cases φ5b d.1<;>simp
theorem φ9i (d:φ1) (h:dlim d):ψ2O.f d=some (φ3 d):=by
 obtain ⟨h1,h2,h3⟩:=h
 unfold ψ2O.f φ3
 have e1:decide ((d.1.length:Int) > 130)=!decide (d.1.length≤130):=by
  by_cases c:d.1.length≤130
  ·have:¬(d.1.length:Int) > 130:=by omega
   simp[c,this]
  ·have:(d.1.length:Int) > 130:=by omega
   simp[c,this]
 have e2:decide ((φH d.1:Int) > d.2.1)=!decide ((φH d.1:Int)≤d.2.1):=by
  by_cases c:(φH d.1:Int)≤d.2.1
  ·have:¬(φH d.1:Int) > d.2.1:=by omega
   simp[c,this]
  ·have:(φH d.1:Int) > d.2.1:=by omega
   simp[c,this]
 rw[e1,φ2g,φ2g,φEy d (by omega) (by omega),φOM d (by omega) fun f hf=>by have:=h3 f hf;omega]
 cases decide (d.1.length≤130)
 ·rfl
 ·simp only[nZ,cF,bS,tA]
  cases decide (0≤d.2.1∧d.2.1≤100000)
  ·rfl
  ·simp only[nZ,cF,bS,tA]
   cases decide (-1≤d.2.2.1∧d.2.2.1≤100000)
   ·rfl
   ·simp only[nZ,cF,bS,tA,e2]
    cases decide ((φH d.1:Int)≤d.2.1)
    ·rfl
    ·cases φ5b d.1<;>simp
theorem φ5U (d:φ1) (h:d.1.length<1000000000000):ψ1J.f d=some d:=by
 unfold ψ1J.f
 have:(([]:List φ4).length+d.1.length) * 40≤140737488355328:=by simp;omega
 simp only[this,dT,cT,κ9]
theorem φ8g (d:φ1) (h:d.1.length<1000000000000):ψ37.f d=some d:=φ5U d h
def φ1l (l:List φ4) (name:List UInt8):Int:=match l.findIdx? (fun f=>f.1==name) with | some i=>(i:Int) | none=>-1
theorem φGi {A B:Type} {step:(A→Option (B ⊕ Int))→A→Option (B ⊕ Int)} (l:List φ4) (name:List UInt8) (st:Nat→A) (b:B) (hl:l.length<2 ^ 62)
  (hs:∀rec n,(h:n<l.length)→step rec (st n)=if (l[n].1==name)=true then some (.inr (n:Int)) else rec (st (n+1)))
  (he:∀rec,step rec (st l.length)=some (.inl b)):lp step (st 0)=some (match l.findIdx? (fun f=>f.1==name) with | some i=>.inr (i:Int) | none=>.inl b):=by
 have:=φh (step:=step) (fun n (_:Unit)=>st n) l.length (fun n _=>match (l.drop n).findIdx? (fun f=>f.1==name) with | some i=>.inr ((n+i:Nat):Int) | none=>.inl b) (fun _ _=>True)
  (fun rec n s hn _ ih=>by
   rcases κ1 n l.length with h | h
   ·rw[hs rec n h,ih () h trivial,dG h,List.findIdx?_cons]
    cases hf:l[n].1==name
    ·simp only[κ2,if_false]
     cases List.findIdx? (fun f=>f.1==name) (l.drop (n+1)) with
     | none=>rfl
     | some i=>simp only[Option.map_some];congr 2;omega
    ·simp
   ·have:n=l.length:=by omega
    subst this
    rw[he];simp) hl 0 () (κ3 _) trivial
 simpa using this
theorem φ4b (d:φ1) (name:List UInt8) (hl:d.1.length<2 ^ 62):ψ1S.f d name=some (φ1l d.1 name):=by
 have hk:=φGi (step:=ψ1S.l0) d.1 name (fun n=>(name,d.1,(d.1.length:Int),(n:Int))) () hl
  (fun rec n h=>by
   simp only[ψ1S.l0,oL,h,dT,cT,φK,φN,φE h,φR (show n+1<9223372036854775808 by omega)]
   cases d.1[n].1==name<;>simp)
  (fun rec=>by simp[ψ1S.l0])
 have hk:lp ψ1S.l0 (name,d.1,(d.1.length:Int),0)=_:=hk
 unfold ψ1S.f φ1l
 rw[hk,bS]
 cases List.findIdx? (fun f=>f.1==name) d.1<;>rfl
theorem φ4n (d:φ1) (name:List UInt8) (hl:d.1.length<2 ^ 62):ψ38.f d name=some (φ1l d.1 name):=by
 have hk:=φGi (step:=ψ38.l0) d.1 name (fun n=>(name,d,(n:Int))) () hl
  (fun rec n h=>by
   simp only[ψ38.l0,oL,h,dT,cT,φK,φN,φE h,φR (show n+1<9223372036854775808 by omega)]
   cases d.1[n].1==name<;>simp)
  (fun rec=>by simp[ψ38.l0])
 have hk:lp ψ38.l0 (name,d,0)=_:=hk
 unfold ψ38.f φ1l
 rw[hk,bS]
 cases List.findIdx? (fun f=>f.1==name) d.1<;>rfl
theorem φv (l:List φ4) (name:List UInt8):(φ1l l name=-1∧∀f∈l,f.1≠name)∨∃i:Nat,∃h:i<l.length,φ1l l name=(i:Int)∧l[i].1=name:=by
 unfold φ1l
 cases hf:List.findIdx? (fun f=>f.1==name) l with
 | none=>
  left
  refine ⟨rfl,fun f hm=>?_⟩
  have:=List.findIdx?_eq_none_iff.1 hf f hm
  simpa using this
 | some i=>
  right
  obtain ⟨h,h1,_⟩:=List.findIdx?_eq_some_iff_getElem.1 hf
  exact ⟨i,h,rfl,by simpa using h1⟩
def tick (d:φ1):φ1:=if d.2.2.1 > 0 then (d.1,d.2.1,d.2.2.1 - 1,d.2.2.2) else d
def φT (d:φ1) (act:List φ4→Int×List φ4):φ1×Int:=
 if φ3 d=false then (d,5) else if d.2.2.2=true∨d.2.2.1=0 then ((d.1,d.2.1,d.2.2.1,true),1)
 else (((act d.1).2,(tick d).2),(act d.1).1)
theorem φ8A {d:φ1} (h:φ3 d=true):-1≤d.2.2.1∧d.2.2.1≤100000∧d.1.length≤130:=by
 unfold φ3 at h
 simp only[bA,decide_eq_true_eq] at h
 omega
theorem φ1Z (d:φ1):(tick d).1=d.1:=by unfold tick;split<;>rfl
theorem φMl (d:φ1) (h:dlim d):ψ36.f d=some (if φ3 d=false then (d,5) else if d.2.2.2=true∨d.2.2.1=0 then ((d.1,d.2.1,d.2.2.1,true),1) else (tick d,0)):=by
 unfold ψ36.f
 rw[φ8g d (by have:=h.1;omega),φ9i d h]
 simp only[bS]
 rcases bE (φ3 d) with k | k
 ·have hf:=φ8A k
  rcases bE d.2.2.2 with k2 | k2
  ·simp[k,k2]
  ·by_cases k3:d.2.2.1=0
   ·simp[k,k2,k3]
   ·have k4:(d.2.2.1==0)=false:=by simpa using k3
    unfold tick
    by_cases k5:d.2.2.1 > 0
    ·simp[k,k2,k3,k4,k5,φJ (show -9223372036854775808≤d.2.2.1 - 1 by omega) (by omega)]
    ·simp[k,k2,k3,k4,k5]
 ·simp[k]
theorem φ67 {C:Type} (d:φ1) (h:dlim d) (c:C) (does:C→φ1→Option (Int×φ1)) (act:List φ4→Int×List φ4) (hd:φ3 d=true→does c (tick d)=some ((act d.1).1,(act d.1).2,(tick d).2)) :
  ((ψ1J.f d).bind fun t1=>(ψD.f d).bind fun t2=>
   bif !t2 then some (t1,5) else
   bif d.2.2.2 then some ((t1.1,t1.2.1,t1.2.2.1,true),1) else
   bif d.2.2.1==0 then some ((t1.1,t1.2.1,t1.2.2.1,true),1) else
   (bif decide (d.2.2.1 > 0) then let y3:=w64 (t1.2.2.1 - 1);some (c,(([],0,0,false):φ1),(t1.1,t1.2.1,y3,t1.2.2.2)) else some (c,([],0,0,false),t1):Option (C×φ1×φ1)).bind fun (x1,x4,x6)=>
   (does x1 x6).bind fun (t4_0,t4_1)=>some (t4_1,t4_0))=some (φT d act):=by
 rw[φ5U d (by have:=h.1;omega),φ5e d h]
 simp only[bS]
 unfold φT
 rcases bE (φ3 d) with k | k
 ·have hf:=φ8A k
  have hd:=hd k
  rcases bE d.2.2.2 with k2 | k2
  ·simp[k,k2]
  ·by_cases k3:d.2.2.1=0
   ·simp[k,k2,k3]
   ·have k4:(d.2.2.1==0)=false:=by simpa using k3
    have e:(bif decide (d.2.2.1 > 0) then some (c,(([],0,0,false):φ1),((d.1,d.2.1,w64 (d.2.2.1 - 1),d.2.2.2):φ1)) else some (c,([],0,0,false),d))=some (c,([],0,0,false),tick d):=by
     unfold tick
     by_cases k5:d.2.2.1 > 0
     ·simp[k5,φJ (show -9223372036854775808≤d.2.2.1 - 1 by omega) (by omega)]
     ·simp[k5]
    simp only[k,k4,nZ,cF,e,bS,hd]
    simp[k2,k3]
 ·simp[k]
theorem φ3z {l:List φ4} {i:Nat} (h:i<l.length):inB (i:Int) l.length=true:=by simp[h]
theorem φ45 {l:List φ4} {i:Nat} (h:i<l.length):rdA ([],[],0) l (i:Int)=l[i]:=by rw[φN,φE h]
theorem φI6 {d:φ1} (h:dlim d):dlim (tick d):=by unfold dlim;rw[φ1Z];exact h
def φ29 (name:List UInt8) (l:List φ4):Int×List φ4:=
 match l.findIdx? (fun f=>f.1==name) with
 | some i=>(0,l.set i ((l.getD i ([],[],0)).1,(l.getD i ([],[],0)).2.1,((l.getD i ([],[],0)).2.1.length:Int)))
 | none=>(3,l)
theorem φ1D {l:List φ4} {name:List UInt8} (h:φ1l l name=-1):l.findIdx? (fun f=>f.1==name)=none:=by
 unfold φ1l at h
 cases e:l.findIdx? (fun f=>f.1==name) with
 | none=>rfl
 | some i=>rw[e] at h;simp only at h;omega
theorem φ17 {l:List φ4} {name:List UInt8} {i:Nat} (h:φ1l l name=(i:Int)):l.findIdx? (fun f=>f.1==name)=some i:=by
 unfold φ1l at h
 cases e:l.findIdx? (fun f=>f.1==name) with
 | none=>rw[e] at h;simp only at h;omega
 | some j=>rw[e] at h;simp only at h;congr 1;omega
theorem φIK (d:φ1) (name:List UInt8) (h:d.1.length<2 ^ 62):ψ19.f d name=some ((φ29 name d.1).1,(φ29 name d.1).2,d.2):=by
 unfold ψ19.f φ29
 rw[φ4b d name h,bS]
 rcases φv d.1 name with ⟨e,_⟩ | ⟨i,hi,e,_⟩
 ·rw[e,φ1D e];rfl
 ·rw[e,φ17 e]
  simp only[dnn (show (0:Int)≤(i:Int) by omega),cF,φ3z hi,cT,φ45 hi,tN,φE hi]
theorem φJm (d:φ1) (name:List UInt8) (h:dlim d):ψ18.f d name=some (φT d (φ29 name)):=by
 have hs:ψ1p.f d name=some (φT d (φ29 name)):=φ67 d h name (fun n x=>ψ19.f x n) (φ29 name) fun _=>by
  show ψ19.f (tick d) name=_
  rw[φIK (tick d) name (by rw[φ1Z];have:=h.1;omega),φ1Z]
 unfold ψ18.f
 rw[hs];rfl
theorem φ7k (d:φ1) (h:dlim d):(∃(x:φ1) (c:Int),ψ36.f d=some (x,c)∧(c != 0)=true∧∀act,φT d act=(x,c)) ∨
  (φ3 d=true∧ψ36.f d=some (tick d,0)∧∀act,φT d act=(((act d.1).2,(tick d).2),(act d.1).1)):=by
 rw[φMl d h]
 unfold φT
 rcases bE (φ3 d) with k | k
 ·by_cases k2:d.2.2.2=true∨d.2.2.1=0
  ·left
   refine ⟨(d.1,d.2.1,d.2.2.1,true),1,?_,?_,fun act=>?_⟩
   ·rw[if_neg (by simp[k]),if_pos k2]
   ·rfl
   ·rw[if_neg (by simp[k]),if_pos k2]
  ·right
   refine ⟨k,?_,fun act=>?_⟩
   ·rw[if_neg (by simp[k]),if_neg k2]
   ·rw[if_neg (by simp[k]),if_neg k2]
 ·left
  refine ⟨d,5,?_,?_,fun act=>?_⟩
  ·rw[if_pos k]
  ·rfl
  ·rw[if_pos k]
theorem φHv (d:φ1) (name:List UInt8) (h:dlim d):ψ2r.f d name=some (φT d (φ29 name)):=by
 have hl:d.1.length<2 ^ 62:=by have:=h.1;omega
 unfold ψ2r.f
 rcases φ7k d h with ⟨x,c,e1,e2,e3⟩ | ⟨k,e1,e3⟩
 ·rw[e1,e3,bS];simp only[e2,cT]
 rw[e1,e3,bS]
 simp only[bne_self_eq_false,cF,φ4n d name hl,bS]
 unfold φ29
 rcases φv d.1 name with ⟨e,_⟩ | ⟨i,hi,e,_⟩
 ·rw[e,φ1D e]
  show some (tick d,3)=some ((d.1,(tick d).2),3)
  rw[←φ1Z d]
 ·rw[e,φ17 e]
  have ht:i<(tick d).1.length:=by rw[φ1Z];exact hi
  simp only[dnn (show (0:Int)≤(i:Int) by omega),cF,φ3z hi,φ3z ht,cT,φ45 hi,φ45 ht,tN,φE hi]
  simp only[φ1Z]
def φb (l:List φ4) (i:Nat):List φ4:=l.take i++l.drop (i+1)
theorem φ6L {l:List φ4} {i:Nat} (h:i<l.length):(φb l i).length=l.length - 1:=by
 unfold φb
 rw[lA,lT,lD];omega
def φ1W (l:List φ4) (name:List UInt8):List φ4:=
 match l.findIdx? (fun f=>f.1==name) with
 | some i=>φb l i
 | none=>l
theorem φC9 (l:List φ4) (name:List UInt8):(φ1W l name).length≤l.length:=by
 unfold φ1W
 cases e:l.findIdx? (fun f=>f.1==name) with
 | none=>exact κ6 _
 | some i=>
  obtain ⟨h,_⟩:=List.findIdx?_eq_some_iff_getElem.1 e
  have:=φ6L h
  simp only;omega
theorem φGr (l:List φ4) (i:Nat) (h:i<l.length) (hl:l.length<1000000000000) {β:Type} (K:List φ4→Option β) :
  (bif (decide (0≤(i:Int)) && decide ((i:Int)≤(l.length:Int))) then
   bif decide ((([]:List φ4).length+(l.take (i:Int).toNat).length) * 40≤140737488355328) then
   bif (decide (0≤w64 ((i:Int)+1)) && decide (w64 ((i:Int)+1)≤(l.length:Int))) then
   bif decide (((([]:List φ4)++(l.take (i:Int).toNat)).length+(l.drop ((w64 ((i:Int)+1)).toNat)).length) * 40≤140737488355328) then
   K ((([]:List φ4)++(l.take (i:Int).toNat))++(l.drop ((w64 ((i:Int)+1)).toNat))) else none else none else none else none)=K (φb l i):=by
 have hw:w64 ((i:Int)+1)=((i+1:Nat):Int):=φR (by omega)
 rw[hw]
 have c1:(decide (0≤(i:Int)) && decide ((i:Int)≤(l.length:Int)))=true:=by simp;omega
 have c2:(decide (0≤((i+1:Nat):Int)) && decide (((i+1:Nat):Int)≤(l.length:Int)))=true:=by simp;omega
 have c3:(l.take i).length * 40≤140737488355328:=by rw[lT];omega
 have c4:((l.take i).length+(l.drop (i+1)).length) * 40≤140737488355328:=by rw[lT,lD];omega
 simp only[tN,κ9,lN,κT,c1,c2]
 simp only[c3,c4,dT,cT];rfl
theorem φC6 (d:φ1) (name:List UInt8) (h:d.1.length<1000000000):ψE.f d name=some (φ1W d.1 name,d.2):=by
 unfold ψE.f φ1W
 rw[φ4b d name (by omega),bS]
 rcases φv d.1 name with ⟨e,_⟩ | ⟨i,hi,e,_⟩
 ·rw[e,φ1D e];rfl
 ·rw[e,φ17 e]
  have c:(i:Int)≥0:=by omega
  simp only[c,dT,cT]
  exact φGr d.1 i hi (by omega) fun l=>some (l,d.2)
theorem φAq (l:List φ4) (i:Nat) (hi:i<l.length) (h:l.length<1000000000):ψ3B.f l (i:Int)=some (φb l i):=by
 unfold ψ3B.f
 exact φGr l i hi (by omega) fun l=>some l
def φ2A (name:List UInt8) (l:List φ4):Int×List φ4:=
 match l.findIdx? (fun f=>f.1==name) with
 | some i=>(0,φb l i)
 | none=>(3,l)
theorem φJg (d:φ1) (name:List UInt8) (h:d.1.length<1000000000):ψr.f d name=some ((φ2A name d.1).1,(φ2A name d.1).2,d.2):=by
 unfold ψr.f φ2A
 rw[φ4b d name (by omega),bS,φC6 d name h]
 unfold φ1W
 rcases φv d.1 name with ⟨e,_⟩ | ⟨i,hi,e,_⟩
 ·rw[e,φ1D e];rfl
 ·rw[e,φ17 e]
  simp only[dnn (show (0:Int)≤(i:Int) by omega),cF,bS]
theorem φII (d:φ1) (name:List UInt8) (h:dlim d):ψq.f d name=some (φT d (φ2A name)):=by
 have hs:ψ1n.f d name=some (φT d (φ2A name)):=φ67 d h name (fun n x=>ψr.f x n) (φ2A name) fun _=>by
  show ψr.f (tick d) name=_
  rw[φJg (tick d) name (by rw[φ1Z];exact h.1),φ1Z]
 unfold ψq.f
 rw[hs];rfl
theorem φEL (d:φ1) (name:List UInt8) (h:dlim d):ψ2h.f d name=some (φT d (φ2A name)):=by
 have hl:=h.1
 unfold ψ2h.f
 rcases φ7k d h with ⟨x,c,e1,e2,e3⟩ | ⟨k,e1,e3⟩
 ·rw[e1,e3,bS];simp only[e2,cT]
 rw[e1,e3,bS]
 simp only[bne_self_eq_false,cF,φ4n d name (show d.1.length<2 ^ 62 by omega),bS]
 unfold φ2A
 rcases φv d.1 name with ⟨e,_⟩ | ⟨i,hi,e,_⟩
 ·rw[e,φ1D e]
  show some (tick d,3)=some ((d.1,(tick d).2),3)
  rw[←φ1Z d]
 ·rw[e,φ17 e]
  simp only[dnn (show (0:Int)≤(i:Int) by omega),cF,φ1Z,φAq d.1 i hi hl,bS]
def φ42 (name:List UInt8) (n:Int) (l:List φ4):Int×List φ4:=
 match l.findIdx? (fun f=>f.1==name) with
 | some i=>if 0≤n∧n≤((l.getD i ([],[],0)).2.1.length:Int) then
   (0,l.set i ((l.getD i ([],[],0)).1,(l.getD i ([],[],0)).2.1.take n.toNat,if n<(l.getD i ([],[],0)).2.2 then n else (l.getD i ([],[],0)).2.2))
  else (5,l)
 | none=>(3,l)
theorem φMr (d:φ1) (name:List UInt8) (n:Int) (h:d.1.length<1000000000):ψ1B.f d name n=some ((φ42 name n d.1).1,(φ42 name n d.1).2,d.2):=by
 unfold ψ1B.f φ42
 rw[φ4b d name (by omega),bS]
 rcases φv d.1 name with ⟨e,_⟩ | ⟨i,hi,e,_⟩
 ·rw[e,φ1D e];rfl
 ·rw[e,φ17 e]
  simp only[dnn (show (0:Int)≤(i:Int) by omega),cF,φ3z hi,cT,φ45 hi,φ1Y,bS,φE hi]
  by_cases c:0≤n∧n≤(d.1[i].2.1.length:Int)
  ·have c2:(decide (0≤n) && decide (n≤(d.1[i].2.1.length:Int)))=true:=by simp[c.1,c.2]
   simp only[c,c2,dT,nZ,cF,cT,tN,φI4 hi,List.set_set,if_true,and_self,Bool.and_self]
  ·simp[c]
theorem φHw (d:φ1) (name:List UInt8) (n:Int) (h:dlim d):ψ1A.f d name n=some (φT d (φ42 name n)):=by
 have hs:ψ1q.f d (name,n)=some (φT d (φ42 name n)):=φ67 d h (name,n) (fun c x=>ψ1B.f x c.1 c.2) (φ42 name n) fun _=>by
  show ψ1B.f (tick d) name n=_
  rw[φMr (tick d) name n (by rw[φ1Z];exact h.1),φ1Z]
 unfold ψ1A.f
 rw[hs];rfl
def φ2S (cap:Int) (name text:List UInt8) (l:List φ4):Int×List φ4:=
 match l.findIdx? (fun f=>f.1==name) with
 | some i=>if (text.length:Int) > cap - (φH l:Int) then (2,l) else
   (0,l.set i ((l.getD i ([],[],0)).1,(l.getD i ([],[],0)).2.1++text,(l.getD i ([],[],0)).2.2))
 | none=>(3,l)
theorem φAM {l:List φ4} {f:φ4} (h:f∈l):f.2.1.length≤φH l:=φHT (fun f=>f.2.1.length) h
theorem φ9l {d:φ1} (h:φ3 d=true):0≤d.2.1∧d.2.1≤100000∧(φH d.1:Int)≤d.2.1:=by
 unfold φ3 at h
 simp only[bA,decide_eq_true_eq] at h
 omega
theorem φ9B (d:φ1):(tick d).2.1=d.2.1:=by unfold tick;split<;>rfl
theorem φOC (d:φ1) (name text:List UInt8) (h:dlim d) (hc:0≤d.2.1∧d.2.1≤100000) (ht:text.length<1000000000000):ψ1.f d name text=some ((φ2S d.2.1 name text d.1).1,(φ2S d.2.1 name text d.1).2,d.2):=by
 obtain ⟨h1,h2,h3⟩:=h
 unfold ψ1.f φ2S
 rw[φ4b d name (by omega),bS,φEw d (by omega) (by omega)]
 rcases φv d.1 name with ⟨e,_⟩ | ⟨i,hi,e,_⟩
 ·rw[e,φ1D e];rfl
 ·rw[e,φ17 e]
  have hm:=φAM (gM hi)
  have c1:d.1[i].2.1.length+text.length≤9223372036854775807:=by omega
  simp only[dnn (show (0:Int)≤(i:Int) by omega),cF,bS,φ3z hi,cT,φ45 hi,φE hi,c1,dT,tN]
  rw[φJ (by omega) (by omega)]
  by_cases c:(text.length:Int) > d.2.1 - (φH d.1:Int)
  ·simp[c]
  ·simp[c]
theorem φNM (d:φ1) (name text:List UInt8) (h:dlim d) (ht:text.length<1000000000000):ψ0.f d name text=some (φT d (φ2S d.2.1 name text)):=by
 have hs:ψ1l.f d (name,text)=some (φT d (φ2S d.2.1 name text)):=φ67 d h (name,text) (fun c x=>ψ1.f x c.1 c.2) (φ2S d.2.1 name text) fun k=>by
  have hc:=φ9l k
  show ψ1.f (tick d) name text=_
  rw[φOC (tick d) name text (φI6 h) (by rw[φ9B];omega) ht,φ1Z,φ9B]
 unfold ψ0.f
 rw[hs];rfl
theorem φAH (d:φ1) (name text:List UInt8) (h:dlim d) (htx:text.length<1000000000000):ψ2I.f d name text=some (φT d (φ2S d.2.1 name text)):=by
 have h1:=h.1
 have h2:=h.2.1
 unfold ψ2I.f
 rcases φ7k d h with ⟨x,c,e1,e2,e3⟩ | ⟨k,e1,e3⟩
 ·rw[e1,e3,bS];simp only[e2,cT]
 rw[e1,e3,bS]
 have hc:=φ9l k
 simp only[bne_self_eq_false,cF,φ4n d name (show d.1.length<2 ^ 62 by omega),bS,φEy d (show d.1.length<2 ^ 62 by omega) (show φH d.1<2 ^ 62 by omega)]
 unfold φ2S
 rcases φv d.1 name with ⟨e,_⟩ | ⟨i,hi,e,_⟩
 ·rw[e,φ1D e]
  show some (tick d,3)=some ((d.1,(tick d).2),3)
  rw[←φ1Z d]
 ·rw[e,φ17 e]
  have ht:i<(tick d).1.length:=by rw[φ1Z];exact hi
  have hm:=φAM (gM hi)
  have c1:d.1[i].2.1.length+text.length≤9223372036854775807:=by omega
  simp only[dnn (show (0:Int)≤(i:Int) by omega),cF,φ3z hi,φ3z ht,cT,φ45 hi,φ45 ht,φE hi,c1,dT,tN]
  rw[φJ (by omega) (by omega)]
  simp only[φ1Z]
  by_cases c:(text.length:Int) > d.2.1 - (φH d.1:Int)
  ·simp only[c,dT,cT,if_true]
   rw[←φ1Z d]
  ·simp only[c,dF,cF,if_false]
def putF (l:List φ4) (f:φ4):List φ4:=
 let k:=(l.takeWhile fun x=>Op.bytesLess x.1 f.1).length
 l.take k++[f]++l.drop k
theorem φFN (d:φ1) (f:φ4) (h:d.1.length<1000000000):ψF.f d f=some (putF d.1 f,d.2):=by
 have key:=φh (step:=ψF.l0) (fun n (_:Unit)=>(d,f,(n:Int))) d.1.length (fun n _=>(d,f,((n+((d.1.drop n).takeWhile fun x=>Op.bytesLess x.1 f.1).length:Nat):Int))) (fun _ _=>True)
  (fun rec n s hn _ ih=>by
   rcases κ1 n d.1.length with h2 | h2
   ·rw[φHl _ _ _ h2]
    simp only[ψF.l0,oL,h2,dT,cT,φK,φN,φE h2,φR (show n+1<9223372036854775808 by omega)]
    cases Op.bytesLess d.1[n].1 f.1
    ·simp
    ·simp only[cT,if_true]
     rw[ih () h2 trivial]
     congr 3;congr 1;omega
   ·have:n=d.1.length:=by omega
    subst this
    simp[ψF.l0])
  (by omega) 0 () (κ3 _) trivial
 have key:lp ψF.l0 (d,f,0)=_:=key
 unfold ψF.f putF
 rw[key,bS]
 simp only[κC,κT]
 have htw:(d.1.takeWhile fun x=>Op.bytesLess x.1 f.1).length≤d.1.length:=(List.takeWhile_sublist _).length_le
 generalize (d.1.takeWhile fun x=>Op.bytesLess x.1 f.1).length=k at *
 have c1:(decide (0≤(k:Int)) && decide ((k:Int)≤(d.1.length:Int)))=true:=by simp;omega
 have c2:(d.1.take k).length * 40≤140737488355328:=by rw[lT];omega
 have c3:((d.1.take k).length+[f].length) * 40≤140737488355328:=by rw[lT];exact φ4y (by omega)
 have c4:((d.1.take k++[f]).length+(d.1.drop k).length) * 40≤140737488355328:=by
  rw[lA,lT,lD]
  show (min k d.1.length+1+(d.1.length - k)) * 40≤_
  omega
 simp only[tN,κ9,lN,κT,c1]
 simp only[c2,c3,c4,dT,cT]
def φ37 (f:φ4) (s:List φ4×Bool) (x:φ4):List φ4×Bool:=
 if s.2=false∧leK x.1 f.1=false then (s.1++[f]++[x],true) else (s.1++[x],s.2)
theorem φCk (f:φ4) (s:List φ4×Bool) (x:φ4):(φ37 f s x).1.length≤s.1.length+2:=by
 unfold φ37;split<;>simp<;>omega
theorem φGt (f:φ4):∀(l out:List φ4),l.foldl (φ37 f) (out,true)=(out++l,true)
 | [],out=>by simp
 | x::l,out=>by
  have e1:φ37 f (out,true) x=(out++[x],true):=by unfold φ37;rw[if_neg (by simp)]
  rw[κM,e1,φGt f l];simp
theorem φCN (f:φ4):∀(l out:List φ4),(let s:=l.foldl (φ37 f) (out,false);if s.2=true then s.1 else s.1++[f])=out++insB l f
 | [],out=>by simp[insB]
 | x::l,out=>by
  rw[κM]
  cases hk:leK x.1 f.1
  ·have e1:φ37 f (out,false) x=(out++[f]++[x],true):=by unfold φ37;rw[if_pos ⟨rfl,hk⟩]
   rw[e1,φGt]
   simp[insB,hk]
  ·have e1:φ37 f (out,false) x=(out++[x],false):=by unfold φ37;rw[if_neg (by simp[hk])]
   rw[e1,φCN f l (out++[x])]
   simp[insB,hk]
theorem φAE (l:List φ4) (f:φ4) (hl:l.length<1000000000):ψ39.f l f=some (insB l f):=by
 have hk:=φ3m (step:=ψ39.l0) l (φ37 f) (fun n (s:List φ4×Bool)=>(l,f,s.1,s.2,(n:Int))) (fun s=>(f,s.1,s.2)) (fun n s=>s.1.length≤2 * n) (by omega)
  (fun rec n s h hi=>by
   have hi:s.1.length≤2 * n:=hi
   have hq:s.1.length<1000000000000:=by omega
   have hb1:(s.1.length+[f].length) * 40≤140737488355328:=φ4y (Nat.lt_succ_of_lt hq)
   have hb2:(s.1.length+([l[n]]:List φ4).length) * 40≤140737488355328:=φ4y (Nat.lt_succ_of_lt hq)
   have hb3:((s.1++[f]).length+([l[n]]:List φ4).length) * 40≤140737488355328:=by rw[lA];exact φ4y (Nat.succ_lt_succ hq)
   have hw:w64 ((n:Int)+1)=(n:Int)+1:=φJ (by omega) (by omega)
   have hle:(Op.bytesLess l[n].1 f.1 || l[n].1==f.1)=leK l[n].1 f.1:=rfl
   simp only[ψ39.l0,oL,h,dT,cT,φK,φN,φE h,φ2c,hle]
   unfold φ37
   rcases bE s.2 with h2 | h2
   ·simp only[h2,cF,nZ,bS,φK,φN,φE h,φ2c,h,dT,cT,hb2]
    simp[hw]
   ·rcases bE (leK l[n].1 f.1) with h3 | h3
    ·simp only[h2,h3,cF,nZ,nF,bS,φK,φN,φE h,φ2c,h,dT,cT,hb2]
     simp[hw]
    ·simp only[h2,h3,cF,nZ,nF,bS,φK,φN,φE h,φ2c,h,dT,cT,hb1,hb3]
     simp[hw])
  (fun n s h hi=>by have:=φCk f s l[n];have hi:s.1.length≤2 * n:=hi;show _≤2 * (n+1);omega)
  (fun rec s hi=>by simp[ψ39.l0]) ([],false) (by simp)
 have hk:lp ψ39.l0 (l,f,[],false,0)=_:=hk
 have hlen:∀(m:List φ4) (s:List φ4×Bool),(m.foldl (φ37 f) s).1.length≤s.1.length+2 * m.length:=by
  intro m
  induction m with
  | nil=>intro s;simp
  | cons x m ih=>intro s;rw[κM];have:=ih (φ37 f s x);have:=φCk f s x;simp only[lC];omega
 unfold ψ39.f
 rw[hk,bS]
 have hf:=φCN f l []
 have hb:=hlen l ([],false)
 generalize l.foldl (φ37 f) ([],false)=s at *
 obtain ⟨s1,s2⟩:=s
 simp only[lN,κT] at hb
 have hb1:(s1.length+[f].length) * 40≤140737488355328:=φ4y (by omega)
 cases s2
 ·simp only[κ2,if_false,κ9] at hf
  simp only[nF,cT,hb1,dT,hf]
 ·simp only[if_true,κ9] at hf
  simp[hf]
theorem φHg {α:Type} {f g:α→Bool}:∀{l:List α},(∀x∈l,f x=g x)→l.takeWhile f=l.takeWhile g
 | [],_=>rfl
 | x::l,h=>by
  rw[List.takeWhile_cons,List.takeWhile_cons,h x (by simp),φHg fun y hy=>h y (mC _ hy)]
theorem φDu {l:List φ4} {f:φ4} (h:∀x∈l,x.1≠f.1):putF l f=insB l f:=by
 unfold putF insB
 have:(l.takeWhile fun x=>Op.bytesLess x.1 f.1)=l.takeWhile fun x=>leK x.1 f.1:=φHg fun x hx=>by
  unfold leK
  have:(x.1==f.1)=false:=by simpa using h x hx
  rw[this,Bool.or_false]
 rw[this]
def φ2e (name:List UInt8) (l:List φ4):Int×List φ4:=
 if φ1i name=false then (5,l) else if φ1l l name≥0 then (4,l) else if 130≤l.length then (2,l) else (0,insB l (name,[],0))
theorem φJ6 (d:φ1) (name:List UInt8) (h:d.1.length<1000000000) (hn:name.length<2 ^ 62):ψ5.f d name=some ((φ2e name d.1).1,(φ2e name d.1).2,d.2):=by
 unfold ψ5.f φ2e
 rw[φAG name hn,bS,φ4b d name (by omega)]
 rcases bE (φ1i name) with k | k
 rotate_left
 ·simp[k]
 simp only[k,nZ,cF,bS,κ8,if_false]
 rcases φv d.1 name with ⟨e,hno⟩ | ⟨i,hi,e,_⟩
 ·have c:¬φ1l d.1 name≥0:=by omega
  simp only[c,dF,cF,if_false]
  by_cases c2:130≤d.1.length
  ·have c3:(d.1.length:Int)≥130:=by omega
   simp[c2,c3]
  ·have c3:¬(d.1.length:Int)≥130:=by omega
   simp only[c2,c3,dF,cF,if_false,φFN d _ h,bS,φDu (l:=d.1) (f:=(name,[],0)) hno]
 ·have c:φ1l d.1 name≥0:=by omega
  simp[c]
theorem φNo (d:φ1) (name:List UInt8) (h:dlim d) (hn:name.length<2 ^ 62):ψ4.f d name=some (φT d (φ2e name)):=by
 have hs:ψ1m.f d name=some (φT d (φ2e name)):=φ67 d h name (fun n x=>ψ5.f x n) (φ2e name) fun _=>by
  show ψ5.f (tick d) name=_
  rw[φJ6 (tick d) name (by rw[φ1Z];exact h.1) hn,φ1Z]
 unfold ψ4.f
 rw[hs];rfl
theorem φCq (d:φ1) (name:List UInt8) (h:dlim d) (hn:name.length<2 ^ 62):ψ2K.f d name=some (φT d (φ2e name)):=by
 have hl:=h.1
 unfold ψ2K.f
 rcases φ7k d h with ⟨x,c,e1,e2,e3⟩ | ⟨k,e1,e3⟩
 ·rw[e1,e3,bS];simp only[e2,cT]
 rw[e1,e3,bS]
 simp only[bne_self_eq_false,cF,φB1 name hn,φ4n d name (show d.1.length<2 ^ 62 by omega),bS]
 unfold φ2e
 have ht:(d.1,(tick d).2)=tick d:=by rw[←φ1Z d]
 rcases bE (φ1i name) with k | k
 rotate_left
 ·simp[k,ht]
 simp only[k,nZ,cF,κ8,if_false]
 by_cases c:φ1l d.1 name≥0
 ·simp[c,ht]
 simp only[c,dF,cF,if_false]
 by_cases c2:130≤d.1.length
 ·have c3:(d.1.length:Int)≥130:=by omega
  simp[c2,c3,ht]
 ·have c3:¬(d.1.length:Int)≥130:=by omega
  simp only[c2,c3,dF,cF,if_false,φ1Z,φAE d.1 _ hl,bS]
theorem φGp:∀(l:List φ4) (p:List UInt8),φ3Q (some p) l=true→(∀x∈l,Op.bytesLess p x.1=true)∧l.Pairwise (fun a b=>Op.bytesLess a.1 b.1=true)
 | [],p,_=>⟨by simp,List.Pairwise.nil⟩
 | f::l,p,h=>by
  simp only[φ3Q,bA] at h
  obtain ⟨h1,h2⟩:=φGp l f.1 h.2
  refine ⟨fun x hx=>?_,List.Pairwise.cons h1 h2⟩
  rcases mc.1 hx with e | hx
  ·rw[e];exact h.1
  ·exact φ74 _ _ _ h.1 (h1 x hx)
theorem φH7 (l:List φ4) (h:φ3Q none l=true):l.Pairwise (fun a b=>Op.bytesLess a.1 b.1=true):=by
 cases l with
 | nil=>exact List.Pairwise.nil
 | cons f l=>
  obtain ⟨h1,h2⟩:=φGp l f.1 h
  exact List.Pairwise.cons h1 h2
theorem φ5l {d:φ1} (h:φ3 d=true):d.1.Pairwise (fun a b=>Op.bytesLess a.1 b.1=true):=by
 unfold φ3 φ5b at h
 simp only[bA] at h
 exact φH7 _ h.2.2.2.2.2
theorem φ8u {l:List φ4} {i:Nat} (h:i<l.length):l=l.take i++l[i]::l.drop (i+1):=by
 rw[←dG h,κE]
theorem φ5Z (l:List φ4) (i:Nat):(φb l i).Sublist l:=by
 unfold φb
 have:(l.take i++l.drop (i+1)).Sublist (l.take i++l.drop i):=List.Sublist.append (List.Sublist.refl _) (List.drop_sublist_drop_left l (by omega))
 rw[κE] at this
 exact this
theorem φAr {l:List φ4} {i:Nat} (h:i<l.length) (hp:l.Pairwise (fun a b=>Op.bytesLess a.1 b.1=true)):∀x∈φb l i,x.1≠l[i].1:=by
 rw[φ8u h,κd] at hp
 obtain ⟨_,h2,h3⟩:=hp
 intro x hx
 rcases mA.1 hx with hx | hx
 ·exact φ5z (h3 x hx _ κ0)
 ·exact (φ5z ((κY.1 h2).1 x hx)).symm
theorem φD4 {l:List φ4} {name:List UInt8} (hp:l.Pairwise (fun a b=>Op.bytesLess a.1 b.1=true)):∀x∈φ1W l name,x.1≠name:=by
 unfold φ1W
 rcases φv l name with ⟨e,hno⟩ | ⟨i,hi,e,hn⟩
 ·rw[φ1D e];exact hno
 ·rw[φ17 e,←hn];exact φAr hi hp
theorem φEB {l:List φ4} {name:List UInt8} (h:∀x∈l,x.1≠name):φ1W l name=l:=by
 unfold φ1W
 have:l.findIdx? (fun f=>f.1==name)=none:=by
  rw[List.findIdx?_eq_none_iff]
  intro x hx
  simpa using h x hx
 rw[this]
theorem φLy {l:List φ4} {i:Nat} (h:i<l.length) (hp:l.Pairwise (fun a b=>Op.bytesLess a.1 b.1=true)):putF (φb l i) l[i]=l:=by
 have hs:=hp
 rw[φ8u h,κd] at hs
 obtain ⟨_,h2,h3⟩:=hs
 have e1:((φb l i).takeWhile fun x=>Op.bytesLess x.1 l[i].1)=l.take i:=by
  unfold φb
  rw[List.takeWhile_append_of_pos (fun x hx=>h3 x hx _ κ0)]
  have:(l.drop (i+1)).takeWhile (fun x=>Op.bytesLess x.1 l[i].1)=[]:=by
   cases e:l.drop (i+1) with
   | nil=>rfl
   | cons y r=>
    rw[List.takeWhile_cons,φGO _ _ ((κY.1 h2).1 y (by rw[e];simp))];rfl
  rw[this,κ7]
 unfold putF
 rw[e1]
 have hk:(l.take i).length=i:=by rw[lT];omega
 simp only[hk]
 unfold φb
 rw[List.take_append_of_le_length (by omega),List.take_take,Nat.min_self,List.drop_append_of_le_length (by omega),List.drop_take,Nat.sub_self,List.take_zero,κ9,aA,List.singleton_append]
 exact (φ8u h).symm
def φ2B (src dst:List UInt8) (l:List φ4):Int×List φ4:=
 if φ1i dst=false then (5,l) else
 match l.findIdx? (fun f=>f.1==src) with
 | some i=>(0,if src=dst then l else insB (φ1W (φb l i) dst) (dst,(l.getD i ([],[],0)).2))
 | none=>(3,l)
theorem φIB (d:φ1) (src dst:List UInt8) (h:d.1.length<1000000000) (hn:dst.length<2 ^ 62) (hp:d.1.Pairwise (fun a b=>Op.bytesLess a.1 b.1=true)):ψt.f d src dst=some ((φ2B src dst d.1).1,(φ2B src dst d.1).2,d.2):=by
 unfold ψt.f φ2B
 rw[φ4b d src (by omega),bS,φAG dst hn,bS,φC6 d src h]
 rcases bE (φ1i dst) with k | k
 rotate_left
 ·simp[k]
 simp only[k,nZ,cF,κ8,if_false]
 rcases φv d.1 src with ⟨e,_⟩ | ⟨i,hi,e,hsrc⟩
 ·rw[e,φ1D e];rfl
 ·have e0:φ1W d.1 src=φb d.1 i:=by unfold φ1W;rw[φ17 e]
  rw[e,φ17 e,e0]
  have hl:=φ6L hi
  have hl2:=φC9 (φb d.1 i) dst
  simp only[dnn (show (0:Int)≤(i:Int) by omega),cF,φ3z hi,cT,φ45 hi,bS,φE hi,φC6 (φb d.1 i,d.2) dst (show (φb d.1 i).length<1000000000 by omega),φFN (φ1W (φb d.1 i) dst,d.2) (dst,d.1[i].2.1,d.1[i].2.2) (show (φ1W (φb d.1 i) dst).length<1000000000 by omega)]
  by_cases c:src=dst
  ·simp only[c,if_true]
   have hd:d.1[i].1=dst:=by rw[hsrc,c]
   have e2:φ1W (φb d.1 i) dst=φb d.1 i:=φEB (by rw[←hd];exact φAr hi hp)
   have e3:putF (φb d.1 i) (dst,d.1[i].2.1,d.1[i].2.2)=d.1:=by
    have:=φLy hi hp
    rw[←hd];exact this
   rw[e2,e3]
  ·simp only[c,if_false]
   rw[φDu (l:=φ1W (φb d.1 i) dst) (f:=(dst,d.1[i].2.1,d.1[i].2.2)) (φD4 (hp.sublist (φ5Z d.1 i)))]
theorem φLd (d:φ1) (src dst:List UInt8) (h:dlim d) (hn:dst.length<2 ^ 62):ψs.f d src dst=some (φT d (φ2B src dst)):=by
 have hs:ψ1o.f d (src,dst)=some (φT d (φ2B src dst)):=φ67 d h (src,dst) (fun c x=>ψt.f x c.1 c.2) (φ2B src dst) fun k=>by
  show ψt.f (tick d) src dst=_
  rw[φIB (tick d) src dst (by rw[φ1Z];exact h.1) hn (by rw[φ1Z];exact φ5l k),φ1Z]
 unfold ψs.f
 rw[hs];rfl
theorem φNz (d:φ1) (src dst:List UInt8) (h:dlim d) (hn:dst.length<2 ^ 62):ψ2i.f d src dst=some (φT d (φ2B src dst)):=by
 have hl:=h.1
 unfold ψ2i.f
 rcases φ7k d h with ⟨x,c,e1,e2,e3⟩ | ⟨k,e1,e3⟩
 ·rw[e1,e3,bS];simp only[e2,cT]
 rw[e1,e3,bS]
 have hp:=φ5l k
 simp only[bne_self_eq_false,cF,φB1 dst hn,φ4n d src (show d.1.length<2 ^ 62 by omega),bS]
 unfold φ2B
 have ht:(d.1,(tick d).2)=tick d:=by rw[←φ1Z d]
 rcases bE (φ1i dst) with k2 | k2
 rotate_left
 ·simp[k2,ht]
 simp only[k2,nZ,cF,κ8,if_false]
 rcases φv d.1 src with ⟨e,_⟩ | ⟨i,hi,e,hsrc⟩
 ·rw[e,φ1D e]
  show some (tick d,3)=some ((d.1,(tick d).2),3)
  rw[←φ1Z d]
 ·rw[e,φ17 e]
  have hlr:=φ6L hi
  have hl2:=φC9 (φb d.1 i) dst
  simp only[dnn (show (0:Int)≤(i:Int) by omega),cF]
  by_cases c:src=dst
  ·simp[c,ht]
  have c1:(src==dst)=false:=by simpa using c
  simp only[c,c1,cF,if_false,φ3z hi,cT,φ45 hi,φE hi,φ1Z,φAq d.1 i hi hl,bS,φ4n (φb d.1 i,(tick d).2) dst (show (φb d.1 i).length<2 ^ 62 by omega)]
  rcases φv (φb d.1 i) dst with ⟨e',hno⟩ | ⟨j,hj,e',hdst⟩
  ·have c2:¬φ1l (φb d.1 i) dst≥0:=by omega
   simp only[c2,dF,cF,bS,φAE (φb d.1 i) _ (show (φb d.1 i).length<1000000000 by omega),φEB hno]
  ·have c2:φ1l (φb d.1 i) dst≥0:=by omega
   have e4:φ1W (φb d.1 i) dst=φb (φb d.1 i) j:=by unfold φ1W;rw[φ17 e']
   rw[e4] at hl2
   simp only[c2,dT,cT]
   simp only[e',φAq (φb d.1 i) j hj (by omega),bS,φAE (φb (φb d.1 i) j) _ (show (φb (φb d.1 i) j).length<1000000000 by omega),e4]
theorem φA4 (t:TxnT) (h1:t.2.1.length<1000000000000) (h2:t.2.2.length<1000000000000):ψ1O.f t=some t:=by
 unfold ψ1O.f ψ1M.f
 have c1:t.2.1.length * 24≤140737488355328:=by omega
 have c2:t.2.2.length * 40≤140737488355328:=by omega
 simp[c1,c2]
def φ2F (t:TxnT) (p:PutT):TxnT×Bool:=
 if t.1=true∧φ2H p=true∧(netW (t.2.2++[p])).length≤8∧t.2.2.length<50 then ((t.1,t.2.1,t.2.2++[p]),true) else (t,false)
theorem φIk (t:TxnT) (p:PutT) (h1:t.2.1.length<1000000000) (h2:t.2.2.length<1000000000):ψ1D.f t p=some (φ2F t p):=by
 have hc:=φA4 t (by omega) (by omega)
 have hb:(t.2.2.length+([p]:List PutT).length) * 40≤140737488355328:=φ4y (by omega)
 have hn:ψb.f (t.1,t.2.1,t.2.2++[p])=some (netW (t.2.2++[p])):=φBJ (t.1,t.2.1,t.2.2++[p]) (by show (t.2.2++[p]).length<_;rw[lA];show _+1<_;omega)
 have hl:(t.2.2++[p]).length=t.2.2.length+1:=lA
 unfold ψ1D.f φ2F
 simp only[hc,bS,hb,dT,cT,φBW,hn]
 rcases bE t.1 with k | k
 rotate_left
 ·simp[k]
 rcases bE (φ2H p) with k2 | k2
 rotate_left
 ·simp[k,k2]
 simp only[k,k2,nZ,cF,true_and]
 by_cases c:(netW (t.2.2++[p])).length≤8
 rotate_left
 ·have c1:((netW (t.2.2++[p])).length:Int) > 8:=by omega
  simp only[c,c1,dT,cT,false_and,if_false]
 have c1:¬((netW (t.2.2++[p])).length:Int) > 8:=by omega
 by_cases c2:t.2.2.length<50
 ·have c3:¬(((t.2.2++[p]).length:Nat):Int) > 50:=by omega
  simp only[c,c1,c2,c3,dF,cF,and_self,if_true]
 ·have c3:(((t.2.2++[p]).length:Nat):Int) > 50:=by omega
  simp only[c,c1,c2,c3,dT,dF,cT,cF,and_false,if_false]
theorem φE7 {n:Nat} (h:n<9223372036854775808):IntKind.wrap .i64 (n:Int)=n:=φ3i h
theorem φAN {n:Nat} (h:n<4294967296):IntKind.wrap .u32 (n:Int)=n:=by
 unfold IntKind.wrap
 simp only[IntKind.bits,IntKind.signed]
 simp;omega
theorem φDa (a b:Nat) (ha:a<2 ^ 63) (hb:b<2 ^ 63):bits (fun _ a b=>a ^^^ b) .i64 (a:Int) (b:Int)=((a ^^^ b:Nat):Int):=by
 unfold bits
 have h:a ^^^ b<2 ^ 63:=Nat.xor_lt_two_pow ha hb
 have e:(BitVec.ofInt 64 (a:Int) ^^^ BitVec.ofInt 64 (b:Int)).toNat=a ^^^ b:=by
  rw[BitVec.ofInt_natCast,BitVec.ofInt_natCast,BitVec.toNat_xor,BitVec.toNat_ofNat,BitVec.toNat_ofNat,κb (by omega),κb (by omega)]
 show IntKind.wrap .i64 ((BitVec.ofInt 64 (a:Int) ^^^ BitVec.ofInt 64 (b:Int)).toNat:Int)=_
 rw[e]
 exact φE7 (by omega)
theorem φBg (a b:Nat) (ha:a<2 ^ 32) (hb:b<2 ^ 32):bits (fun _ a b=>a ^^^ b) .u32 (a:Int) (b:Int)=((a ^^^ b:Nat):Int):=by
 unfold bits
 have h:a ^^^ b<2 ^ 32:=Nat.xor_lt_two_pow ha hb
 have e:(BitVec.ofInt 32 (a:Int) ^^^ BitVec.ofInt 32 (b:Int)).toNat=a ^^^ b:=by
  rw[BitVec.ofInt_natCast,BitVec.ofInt_natCast,BitVec.toNat_xor,BitVec.toNat_ofNat,BitVec.toNat_ofNat,κb (by omega),κb (by omega)]
 show IntKind.wrap .u32 ((BitVec.ofInt 32 (a:Int) ^^^ BitVec.ofInt 32 (b:Int)).toNat:Int)=_
 rw[e]
 exact φAN (by omega)
theorem φHy (a:Nat) (ha:a<2 ^ 32):bits (fun _ a b=>a &&& b) .u32 (a:Int) 1=((a % 2:Nat):Int):=by
 unfold bits
 have e:(BitVec.ofInt 32 (a:Int) &&& BitVec.ofInt 32 ((1:Nat):Int)).toNat=a % 2:=by
  rw[BitVec.ofInt_natCast,BitVec.ofInt_natCast,BitVec.toNat_and,BitVec.toNat_ofNat,BitVec.toNat_ofNat,κb (by omega)]
  exact Nat.and_one_is_mod a
 show IntKind.wrap .u32 ((BitVec.ofInt 32 (a:Int) &&& BitVec.ofInt 32 ((1:Nat):Int)).toNat:Int)=_
 rw[e]
 exact φAN (by omega)
def crc1 (c:Nat):Nat:=if c % 2=1 then (c / 2) ^^^ 2197175160 else c / 2
def crcK:Nat→Nat→Nat
 | 0,c=>c
 | k+1,c=>crcK k (crc1 c)
def crcB (c:Nat) (b:UInt8):Nat:=crcK 8 (c ^^^ b.toNat)
def crcN (s:List UInt8):Nat:=s.foldl crcB 4294967295
def crcT (s:List UInt8):Int:=((4294967295 - crcN s:Nat):Int)
theorem φAL {c:Nat} (h:c<2 ^ 32):crc1 c<2 ^ 32:=by
 unfold crc1
 split
 ·exact Nat.xor_lt_two_pow (by omega) (by decide)
 ·omega
theorem φGC:∀(k:Nat) {c:Nat},c<2 ^ 32→crcK k c<2 ^ 32
 | 0,_,h=>h
 | k+1,_,h=>φGC k (φAL h)
theorem φBS {c:Nat} (h:c<2 ^ 32) (b:UInt8):crcB c b<2 ^ 32:=
 φGC 8 (Nat.xor_lt_two_pow h (by have:=b.toNat_lt;omega))
theorem φAg:∀(s:List UInt8) {c:Nat},c<2 ^ 32→s.foldl crcB c<2 ^ 32
 | [],_,h=>h
 | b::s,_,h=>φAg s (φBS h b)
theorem φ5D (s:List UInt8):0≤crcT s∧crcT s≤4294967295:=by unfold crcT;omega
theorem φM5 (s:List UInt8) (c:Nat) (i:Int) (hc:c<2 ^ 32):lp ψ2J.l2 (s,(c:Int),i,0)=some (s,((crcK 8 c:Nat):Int),i):=by
 have:=φh (step:=ψ2J.l2) (fun n (c:Nat)=>(s,(c:Int),i,(n:Int))) 8 (fun n c=>(s,((crcK (8 - n) c:Nat):Int),i)) (fun _ c=>c<2 ^ 32)
  (fun rec n c hn hc ih=>by
   rcases κ1 n 8 with h | h
   ·have h8:(n:Int)<8:=by omega
    have hw:w64 ((n:Int)+1)=((n+1:Nat):Int):=φR (by omega)
    have e1:w64 (Int.tdiv (c:Int) 2)=((c / 2:Nat):Int):=by
     rw[show Int.tdiv (c:Int) 2=((c / 2:Nat):Int) from rfl];exact φ3i (by omega)
    have e2:Int.tmod (c:Int) 2=((c % 2:Nat):Int):=rfl
    have e3:bits (fun _ a b=>a ^^^ b) .i64 ((c / 2:Nat):Int) 2197175160=(((c / 2) ^^^ 2197175160:Nat):Int):=φDa (c / 2) 2197175160 (by omega) (by decide)
    have e4:crcK (8 - n) c=crcK (8 - (n+1)) (crc1 c):=by
     rw[show 8 - n=(8 - (n+1))+1 by omega];rfl
    have ih:=ih (crc1 c) h (φAL hc)
    rw[e4,←ih]
    simp only[ψ2J.l2,h8,dT,cT,e1,e2]
    unfold crc1
    by_cases k:c % 2=1
    ·have k2:(((c % 2:Nat):Int)==1)=true:=by rw[k];rfl
     simp only[k2,cT,e3,bS,hw]
     rw[if_pos k]
    ·have k2:(((c % 2:Nat):Int)==1)=false:=by simp;omega
     simp only[k2,cF,bS,hw]
     rw[if_neg k]
   ·have:n=8:=by omega
    subst this
    simp[ψ2J.l2,crcK])
  (by omega) 0 c (κ3 _) hc
 exact this
theorem φLZ (s:List UInt8) (c:Nat) (i:Int) (hc:c<2 ^ 32):lp ψ3.l2 (s,(c:Int),i,0)=some (s,((crcK 8 c:Nat):Int),i):=by
 have:=φh (step:=ψ3.l2) (fun n (c:Nat)=>(s,(c:Int),i,(n:Int))) 8 (fun n c=>(s,((crcK (8 - n) c:Nat):Int),i)) (fun _ c=>c<2 ^ 32)
  (fun rec n c hn hc ih=>by
   rcases κ1 n 8 with h | h
   ·have h8:(n:Int)<8:=by omega
    have hw:w64 ((n:Int)+1)=((n+1:Nat):Int):=φR (by omega)
    have e1:Int.fdiv (c:Int) (2 ^ (min 1 32))=((c / 2:Nat):Int):=by
     show Int.fdiv (c:Int) 2=_
     rw[Int.fdiv_eq_ediv_of_nonneg _ (by omega)];rfl
    have e3:bits (fun _ a b=>a ^^^ b) .u32 ((c / 2:Nat):Int) 2197175160=(((c / 2) ^^^ 2197175160:Nat):Int):=φBg (c / 2) 2197175160 (by omega) (by decide)
    have e4:crcK (8 - n) c=crcK (8 - (n+1)) (crc1 c):=by
     rw[show 8 - n=(8 - (n+1))+1 by omega];rfl
    have ih:=ih (crc1 c) h (φAL hc)
    rw[e4,←ih]
    simp only[ψ3.l2,h8,dT,cT,e1,φHy c hc]
    unfold crc1
    by_cases k:c % 2=1
    ·have k2:(((c % 2:Nat):Int)==1)=true:=by rw[k];rfl
     simp only[k2,cT,e3,bS,hw]
     rw[if_pos k]
    ·have k2:(((c % 2:Nat):Int)==1)=false:=by simp;omega
     simp only[k2,cF,bS,hw]
     rw[if_neg k]
   ·have:n=8:=by omega
    subst this
    simp[ψ3.l2,crcK])
  (by omega) 0 c (κ3 _) hc
 exact this
theorem φAy (s:List UInt8) (hl:s.length<2 ^ 62):ψ2J.f s=some (crcT s):=by
 have hk:=φ3m (step:=ψ2J.l0) s crcB (fun n (c:Nat)=>(s,(c:Int),(n:Int))) (fun c=>(c:Int)) (fun _ c=>c<2 ^ 32) hl
  (fun rec n c h hc=>by
   have hc:c<2 ^ 32:=hc
   have hw:w64 ((n:Int)+1)=((n+1:Nat):Int):=φR (by omega)
   have hb:=s[n].toNat_lt
   have e1:w64 (bAt s (n:Int))=((s[n].toNat:Nat):Int):=by rw[φ55 s n h];exact φ3i (by omega)
   have e2:=φDa c s[n].toNat (by omega) (by omega)
   simp only[ψ2J.l0,oL,h,dT,cT,φK,e1,e2]
   rw[φM5 s _ _ (Nat.xor_lt_two_pow hc (by omega))]
   simp only[bS,hw];rfl)
  (fun n c h hc=>φBS hc _)
  (fun rec c hc=>by simp[ψ2J.l0]) 4294967295 (by decide)
 have hk:lp ψ2J.l0 (s,4294967295,0)=_:=hk
 unfold ψ2J.f crcT crcN
 rw[hk,bS]
 have:=φAg s (c:=4294967295) (by decide)
 generalize s.foldl crcB 4294967295=c at *
 simp only
 rw[φJ (by omega) (by omega)]
 congr 1;omega
theorem φIT (c:Nat) (h:c<2 ^ 32):4294967295 ^^^ c=4294967295 - c:=by
 have e:(BitVec.allOnes 32 ^^^ BitVec.ofNat 32 c).toNat=(~~~ BitVec.ofNat 32 c).toNat:=by rw[BitVec.allOnes_xor]
 rw[BitVec.toNat_xor,BitVec.toNat_not,BitVec.toNat_allOnes,BitVec.toNat_ofNat,κb h] at e
 have e:4294967295 ^^^ c=4294967296 - 1 - c:=e
 omega
theorem φA3 (s:List UInt8) (hl:s.length<2 ^ 62):ψ3.f s=some (crcT s):=by
 have hk:=φ3m (step:=ψ3.l0) s crcB (fun n (c:Nat)=>(s,(c:Int),(n:Int))) (fun c=>(c:Int)) (fun _ c=>c<2 ^ 32) hl
  (fun rec n c h hc=>by
   have hc:c<2 ^ 32:=hc
   have hw:w64 ((n:Int)+1)=((n+1:Nat):Int):=φR (by omega)
   have hb:=s[n].toNat_lt
   have e1:IntKind.wrap .u32 (bAt s (n:Int))=((s[n].toNat:Nat):Int):=by rw[φ55 s n h];exact φAN (by omega)
   have e2:=φBg c s[n].toNat (by omega) (by omega)
   simp only[ψ3.l0,oL,h,dT,cT,φK,e1,e2]
   rw[φLZ s _ _ (Nat.xor_lt_two_pow hc (by omega))]
   simp only[bS,hw];rfl)
  (fun n c h hc=>φBS hc _)
  (fun rec c hc=>by simp[ψ3.l0]) 4294967295 (by decide)
 have hk:lp ψ3.l0 (s,4294967295,0)=_:=hk
 unfold ψ3.f crcT crcN
 rw[hk,bS]
 have:=φAg s (c:=4294967295) (by decide)
 generalize s.foldl crcB 4294967295=c at *
 have e:bits (fun _ a b=>a ^^^ b) .u32 4294967295 (c:Int)=((4294967295 ^^^ c:Nat):Int):=φBg 4294967295 c (by decide) this
 simp only[e,φIT c this]
 rw[φ3i (by omega)]
def vLow (n:Nat):List UInt8:=if h:n<128 then [] else UInt8.ofNat (128+n % 128)::vLow (n / 128)
termination_by n
decreasing_by omega
def vTop (n:Nat):Nat:=if h:n<128 then n else vTop (n / 128)
termination_by n
decreasing_by omega
theorem φ7t:∀(k n:Nat),n<128 ^ (k+1)→(vLow n).length≤k
 | 0,n,h=>by unfold vLow;rw[dif_pos (by simpa using h)];simp
 | k+1,n,h=>by
  unfold vLow
  split
  ·simp
  ·have:=φ7t k (n / 128) (by rw[Nat.div_lt_iff_lt_mul (by omega)];rw[κZ] at h;exact h)
   simp only[lC];omega
def varT (n:Int):List UInt8:=if 0≤n∧n≤562949953421311 then vLow n.toNat++[UInt8.ofNat (vTop n.toNat)] else []
theorem φj (n:Int):(varT n).length≤7:=by
 unfold varT
 split
 ·rename_i h
  have:=φ7t 6 n.toNat (by show _<562949953421312;omega)
  rw[lA,κB];omega
 ·simp
theorem φ7H (n:Nat):UInt8.ofNat (IntKind.wrap .u8 (n:Int)).toNat=UInt8.ofNat n:=by
 have e:IntKind.wrap .u8 (n:Int)=((n % 256:Nat):Int):=by
  unfold IntKind.wrap
  simp only[IntKind.bits,IntKind.signed]
  simp
 rw[e,tN]
 exact UInt8.ofNat_mod_size
theorem φK5:ψ1G.l0=ψ2t.l0:=by
 funext rec x
 obtain ⟨x0,x3⟩:=x
 have e1:decide (x0 > 127)=decide (x0≥128):=decide_eq_decide.2 (by omega)
 simp only[ψ1G.l0,ψ2t.l0,e1,Int.add_comm 128]
theorem φI5:ψ1G.f=ψ2t.f:=by
 funext n
 unfold ψ1G.f ψ2t.f
 rw[φ1Y,φ2g,φK5]
theorem φJr (a b:List Int):φ1g (a++b)=φ1g a++φ1g b:=mp
def φ3O (n:Nat):List Int:=if h:n<128 then [] else IntKind.wrap .u8 (w64 (128+(n % 128:Nat)))::φ3O (n / 128)
termination_by n
decreasing_by omega
theorem φCG (n:Nat):φ1g (φ3O n)=vLow n:=by
 unfold φ3O vLow
 split
 ·rfl
 ·rw[show φ1g (IntKind.wrap .u8 (w64 (128+(n % 128:Nat)))::φ3O (n / 128))=UInt8.ofNat (IntKind.wrap .u8 (w64 (128+(n % 128:Nat)))).toNat::φ1g (φ3O (n / 128)) from rfl,φCG (n / 128)]
  have e:w64 (128+((n % 128:Nat):Int))=((128+n % 128:Nat):Int):=by rw[φJ (by omega) (by omega)];omega
  rw[e,φ7H]
termination_by n
decreasing_by omega
theorem φIZ (n:Nat):(φ3O n).length=(vLow n).length:=by rw[←φCG];unfold φ1g;rw[lM]
theorem φM4 (m:Nat) (hm:m<128 ^ 7):lp ψ2t.l0 ((m:Int),[])=some (((vTop m:Nat):Int),φ3O m):=by
 have:=φ7o (step:=ψ2t.l0) (a:=((m:Int),([]:List Int)))
  (fun a=>(((vTop a.1.toNat:Nat):Int),a.2++φ3O a.1.toNat)) (fun a=>0≤a.1∧a.2.length≤7∧a.1.toNat<128 ^ (7 - a.2.length)) (fun a=>a.1.toNat)
  (fun rec a ha ih=>by
   obtain ⟨x,l⟩:=a
   obtain ⟨n,rfl⟩:∃n:Nat,x=(n:Int):=⟨x.toNat,by have:=ha.1;simp only at this;omega⟩
   obtain ⟨_,h2,h3⟩:=ha
   simp only[tN] at h2 h3 ih ⊢
   have hn:n<128 ^ 7:=κG h3 (Nat.pow_le_pow_right (by omega) (by omega))
   have hn:n<562949953421312:=hn
   by_cases c:n<128
   ·have c1:¬(n:Int)≥128:=by omega
    simp only[ψ2t.l0,c1,dF,cF]
    rw[show vTop n=n by unfold vTop;rw[dif_pos c],show φ3O n=[] by unfold φ3O;rw[dif_pos c],κ7]
   ·have c1:(n:Int)≥128:=by omega
    have h4:l.length<7:=by
     rcases κ1 l.length 7 with h | h
     ·exact h
     ·rw[show 7 - l.length=0 by omega] at h3;simp at h3;omega
    have e1:Int.tmod (n:Int) 128=((n % 128:Nat):Int):=rfl
    have e2:w64 (Int.tdiv (n:Int) 128)=((n / 128:Nat):Int):=by
     rw[show Int.tdiv (n:Int) 128=((n / 128:Nat):Int) from rfl];exact φ3i (by omega)
    have hb:(l.length+[IntKind.wrap .u8 (w64 (128+((n % 128:Nat):Int)))].length) * 1≤140737488355328:=by
     show (l.length+1) * 1≤_;omega
    have ih:=ih (((n / 128:Nat):Int),l++[IntKind.wrap .u8 (w64 (128+((n % 128:Nat):Int)))]) ⟨by simp only;omega,by rw[lA];show _+1≤_;omega,by
     rw[lA,tN]
     show _<128 ^ (7 - (l.length+1))
     rw[Nat.div_lt_iff_lt_mul (by omega),←κZ,show (7 - (l.length+1)).succ=7 - l.length by omega];exact h3⟩ (by simp only[tN];omega)
    simp only[tN] at ih
    simp only[ψ2t.l0,c1,dT,cT,e1,e2,hb,ih]
    rw[show vTop n=vTop (n / 128) by rw[vTop,dif_neg c],show φ3O n=IntKind.wrap .u8 (w64 (128+(n % 128:Nat)))::φ3O (n / 128) by rw[φ3O,dif_neg c],aA];rfl)
  ⟨by simp only;omega,by simp,by simpa using hm⟩ (by simp only[tN];have:m<562949953421312:=hm;omega)
 simpa using this
theorem φ4r (n:Int):ψ2t.f n=some (varT n):=by
 unfold ψ2t.f varT
 rw[φ2g,bS]
 by_cases h:0≤n∧n≤562949953421311
 rotate_left
 ·simp[h]
 obtain ⟨m,rfl⟩:∃m:Nat,n=(m:Int):=⟨n.toNat,by omega⟩
 have hm:m<128 ^ 7:=by show m<562949953421312;omega
 have key:∃L:List Int,φ1g L=vLow m∧L.length≤7∧lp ψ2t.l0 ((m:Int),[])=some (((vTop m:Nat):Int),L):=
  ⟨φ3O m,φCG m,by rw[φIZ];have:=φ7t 6 m hm;omega,φM4 m hm⟩
 obtain ⟨L,e1,e2,e3⟩:=key
 have hb:(L.length+[IntKind.wrap .u8 ((vTop m:Nat):Int)].length) * 1≤140737488355328:=by
  show (L.length+1) * 1≤_;omega
 simp only[h,and_self,dT,nZ,cF,e3,bS,hb,cT,if_true,φJr,e1,tN]
 unfold φ1g
 simp only[κ5,List.map_nil,φ7H]
theorem φC3 (n:Int):ψ1G.f n=some (varT n):=by rw[φI5,φ4r]
def fixL (n:Nat):Nat→List UInt8
 | 0=>[]
 | k+1=>UInt8.ofNat (n / 256 ^ k)::fixL n k
theorem φBX (n:Nat):∀k,(fixL n k).length=k
 | 0=>rfl
 | k+1=>by simp[fixL,φBX n k]
theorem φ8O (n:Nat):∀k,fixL n (k+1)=fixL (n / 256) k++[UInt8.ofNat n]
 | 0=>by simp[fixL]
 | k+1=>by
  rw[fixL,φ8O n k]
  show _=UInt8.ofNat (n / 256 / 256 ^ k)::fixL (n / 256) k++[UInt8.ofNat n]
  rw[Nat.div_div_eq_div_mul,κZ,Nat.mul_comm (256 ^ k) 256];rfl
def fix4 (n:Int):List UInt8:=if 0≤n∧n≤4294967295 then fixL n.toNat 4 else []
theorem φBu (n:Int) (hn:n<9223372036854775808):ψ2R.f n 4=some (fix4 n):=by
 unfold ψ2R.f fix4
 rw[φ2g,bS]
 by_cases h:0≤n
 rotate_left
 ·have h1:n<0:=by omega
  simp[h,h1]
 obtain ⟨m,rfl⟩:∃m:Nat,n=(m:Int):=⟨n.toNat,by omega⟩
 have key:=φh (step:=ψ2R.l0) (fun i (s:Nat×List UInt8)=>((s.1:Int),4,s.2,(i:Int))) 4 (fun i s=>(((s.1 / 256 ^ (4 - i):Nat):Int),fixL s.1 (4 - i)++s.2)) (fun i s=>s.1<9223372036854775808∧s.2.length≤i)
  (fun rec i s hi hv ih=>by
   obtain ⟨a,l⟩:=s
   obtain ⟨hv1,hv2⟩:=hv
   simp only at hv1 hv2 ih ⊢
   rcases κ1 i 4 with h4 | h4
   ·have e0:(i:Int)<4:=by omega
    have e1:Int.tmod (a:Int) 256=((a % 256:Nat):Int):=rfl
    have e2:w64 (Int.tdiv (a:Int) 256)=((a / 256:Nat):Int):=by
     rw[show Int.tdiv (a:Int) 256=((a / 256:Nat):Int) from rfl];exact φ3i (by omega)
    have e3:φ1g [IntKind.wrap .u8 ((a % 256:Nat):Int)]=[UInt8.ofNat a]:=by
     unfold φ1g
     simp only[κ5,List.map_nil,φ7H]
     congr 1;exact UInt8.ofNat_mod_size
    have hw:w64 ((i:Int)+1)=((i+1:Nat):Int):=φR (by omega)
    have hb:([UInt8.ofNat a]:List UInt8).length+l.length≤9223372036854775807:=by show 1+_≤_;omega
    have ih:=ih (a / 256,[UInt8.ofNat a]++l) h4 ⟨by simp only;omega,by simp;omega⟩
    simp only at ih
    simp only[ψ2R.l0,e0,dT,cT,e1,e2,e3,hb,hw,ih]
    rw[show 4 - i=(4 - (i+1))+1 by omega,φ8O,κZ,Nat.mul_comm,←Nat.div_div_eq_div_mul,aA]
   ·have:i=4:=by omega
    subst this
    simp[ψ2R.l0,fixL])
  (by omega) 0 (m,[]) (κ3 _) ⟨by simp only;omega,by simp⟩
 have key:lp ψ2R.l0 ((m:Int),4,[],0)=some (((m / 256 ^ 4:Nat):Int),fixL m 4++[]):=key
 have h1:¬(m:Int)<0:=by omega
 have h0:decide ((1:Int)≤4∧(4:Int)≤7)=true:=by decide
 have h2:(decide ((((m / 256 ^ 4:Nat):Int)) > 0))=!decide (0≤(m:Int)∧(m:Int)≤4294967295):=by
  have:m / 256 ^ 4=m / 4294967296:=rfl
  by_cases c:m≤4294967295
  ·have:m / 256 ^ 4=0:=by rw[this];omega
   rw[this];simp;omega
  ·have:0<m / 256 ^ 4:=by rw[this];omega
   have c2:¬(0≤(m:Int)∧(m:Int)≤4294967295):=by omega
   simp only[c2,dF,nF,decide_eq_true_eq];omega
 simp only[h0,h1,dF,nZ,cF,key,bS,h2,κ7,tN]
 by_cases c:0≤(m:Int)∧(m:Int)≤4294967295
 ·simp[c]
 ·rw[if_neg c,decide_eq_false c];rfl
def fixI (n:Nat):Nat→List Int
 | 0=>[]
 | k+1=>IntKind.wrap .u8 ((n / 256 ^ k:Nat):Int)::fixI n k
theorem φCo (n:Nat):∀k,φ1g (fixI n k)=fixL n k
 | 0=>rfl
 | k+1=>by
  rw[fixI,fixL,←φCo n k,←φ7H];rfl
theorem φBN (n:Int):ψP.f n 4=some (fix4 n):=by
 unfold ψP.f fix4
 have h0:decide ((1:Int)≤4∧(4:Int)≤7)=true:=by decide
 have h1:decide (0≤w64 (8 * 4))=true:=by decide
 have h2:w64 (w64 (1 * 2 ^ (min (w64 (8 * 4)).toNat 64)) - 1)=4294967295:=by decide
 simp only[φ1Y,bS,h0,h1,h2,nZ,cF,cT]
 by_cases h:0≤n∧n≤4294967295
 rotate_left
 ·simp[h]
 obtain ⟨m,rfl⟩:∃m:Nat,n=(m:Int):=⟨n.toNat,by omega⟩
 have key:=φ7o (step:=ψP.l0) (a:=((m:Int),([]:List Int),(3:Int)))
  (fun a=>a.2.1++(fixI m (a.2.2+1).toNat)) (fun a=>a.1=(m:Int)∧-1≤a.2.2∧a.2.2≤3∧(a.2.1.length:Int)≤3 - a.2.2) (fun a=>(a.2.2+1).toNat)
  (fun rec a ha ih=>by
   obtain ⟨x,l,k⟩:=a
   obtain ⟨hx,ha1,ha2,ha3⟩:=ha
   simp only at hx ha1 ha2 ha3 ih ⊢
   subst hx
   by_cases c:k≥0
   ·obtain ⟨j,rfl⟩:∃j:Nat,k=(j:Int):=⟨k.toNat,by omega⟩
    have e1:w64 (8 * (j:Int))=((8 * j:Nat):Int):=by rw[φJ (by omega) (by omega)];omega
    have e2:Int.fdiv (m:Int) (2 ^ (min ((8 * j:Nat):Int).toNat 64))=((m / 256 ^ j:Nat):Int):=by
     have e:(2:Int) ^ (8 * j)=((256 ^ j:Nat):Int):=by
      rw[show (256:Nat)=2 ^ 8 from rfl,←Nat.pow_mul,Int.natCast_pow];rfl
     rw[tN,Nat.min_eq_left (by omega),e,Int.fdiv_eq_ediv_of_nonneg _ (Int.natCast_nonneg _)]
     rfl
    have e3:w64 ((j:Int) - 1)=(j:Int) - 1:=φJ (by omega) (by omega)
    have hb:(l.length+[IntKind.wrap .u8 ((m / 256 ^ j:Nat):Int)].length) * 1≤140737488355328:=by show (l.length+1) * 1≤_;omega
    have ih:=ih ((m:Int),l++[IntKind.wrap .u8 ((m / 256 ^ j:Nat):Int)],(j:Int) - 1) ⟨rfl,by simp only;omega,by simp only;omega,by simp only[lA,κB];omega⟩ (by simp only;omega)
    simp only at ih
    have h0:(0:Int)≤((8 * j:Nat):Int):=by omega
    simp only[ψP.l0,c,dT,cT,e1,h0,e2,hb,e3,ih]
    rw[show ((j:Int) - 1+1).toNat=j by omega,show ((j:Int)+1).toNat=j+1 by omega,fixI,aA];rfl
   ·have:k=-1:=by omega
    subst this
    simp[ψP.l0,fixI])
  ⟨rfl,by simp only;omega,by simp only;omega,by simp⟩ (by show (4:Nat)<2 ^ 62;decide)
 have e9:w64 (4 - 1)=3:=by decide
 have key:lp ψP.l0 ((m:Int),[],3)=some (fixI m 4):=key
 simp only[h,and_self,dT,nZ,cF,e9,key,bS,if_true,tN,φCo]
abbrev RecT:=Int×Int×List UInt8×List UInt8×Int×Int
def φZ (r:RecT):Bool:=
 decide (0≤r.2.1∧r.2.1≤1000000) && (!(r.2.1==0) || r.1==5) &&
 (if r.1=1∨r.1=4 then φ1A r.2.2.1 && (decide (r.2.2.2.1.length≤24) && (r.2.2.2.2.1==0 && r.2.2.2.2.2==0))
 else if r.1=2 then φ1A r.2.2.1 && (r.2.2.2.1==[] && (r.2.2.2.2.1==0 && r.2.2.2.2.2==0))
 else if r.1=3 then r.2.2.1==[] && (r.2.2.2.1==[] && (decide (0≤r.2.2.2.2.1∧r.2.2.2.2.1≤8) && decide (0≤r.2.2.2.2.2∧r.2.2.2.2.2≤4294967295)))
 else if r.1=5 then r.2.2.1==[] && (r.2.2.2.1==[] && (decide (0≤r.2.2.2.2.1∧r.2.2.2.2.1≤20) && decide (0≤r.2.2.2.2.2∧r.2.2.2.2.2≤4294967295)))
 else false)
theorem φMB (r:RecT):ψ2g.f r=some (φZ r):=by
 obtain ⟨k,b,ky,v,c,s⟩:=r
 have e24:decide ((v.length:Int)≤24)=decide (v.length≤24):=decide_eq_decide.2 (by omega)
 unfold ψ2g.f φZ
 simp only[φ2g,bS,φD5,e24]
 by_cases hb:0≤b∧b≤1000000
 rotate_left
 ·simp only[hb,dF,nF,cT,bS,φn,κD]
 simp only[hb,and_self,dT,nZ,cF,tA]
 rcases bE (b==0 && k != 5) with h | h
 ·simp only[bA] at h
  have h2:(k==5)=false:=by have:=h.2;simpa [bne] using this
  simp only[h.1,h.2,h2,cT,bS,φn,nZ,κQ,κD]
 have e1:(!(b==0) || k==5)=true:=by
  cases h3:(b==0)<;>cases h4:(k==5)<;>simp_all [bne]
 have e2:(bif b==0 then (bif k != 5 then some (Sum.inr false) else some (Sum.inl ((k,b,ky,v,c,s):RecT))) else some (Sum.inl (k,b,ky,v,c,s)):Option (RecT ⊕ Bool))=some (Sum.inl (k,b,ky,v,c,s)):=by
  cases h3:(b==0)
  ·rfl
  ·rw[h3] at h
   have h4:(k != 5)=false:=by simpa using h
   rw[h4];rfl
 simp only[e2,bS,φe,e1,tA]
 by_cases k1:k=1
 ·subst k1
  simp only[cT,cF,bS,e24,beq_self_eq_true,tA,κK,show ((1:Int)==1)=true from rfl,show ((4:Int)==1)=false from rfl,show ((4:Int)==4)=true from rfl,show ((2:Int)==2)=true from rfl,show ((3:Int)==2)=false from rfl,show ((3:Int)==3)=true from rfl,show ((5:Int)==5)=true from rfl,show ((5:Int)==3)=false from rfl,show ((5:Int)==2)=false from rfl,show ((4:Int)==5)=false from rfl,show ((3:Int)==5)=false from rfl,show ((2:Int)==5)=false from rfl,show ((1:Int)==5)=false from rfl]
  cases φ1A ky<;>cases decide (v.length≤24)<;>cases (c==0)<;>simp
 by_cases k4:k=4
 ·subst k4
  simp only[cT,cF,bS,e24,beq_self_eq_true,tA,κK,show ((1:Int)==1)=true from rfl,show ((4:Int)==1)=false from rfl,show ((4:Int)==4)=true from rfl,show ((2:Int)==2)=true from rfl,show ((3:Int)==2)=false from rfl,show ((3:Int)==3)=true from rfl,show ((5:Int)==5)=true from rfl,show ((5:Int)==3)=false from rfl,show ((5:Int)==2)=false from rfl,show ((4:Int)==5)=false from rfl,show ((3:Int)==5)=false from rfl,show ((2:Int)==5)=false from rfl,show ((1:Int)==5)=false from rfl]
  cases φ1A ky<;>cases decide (v.length≤24)<;>cases (c==0)<;>simp
 have b1:(k==1)=false:=by simpa using k1
 have b4:(k==4)=false:=by simpa using k4
 simp only[b1,b4,cF,bS,k1,k4,or_self,if_false]
 by_cases k2:k=2
 ·subst k2
  simp only[cT,cF,bS,e24,beq_self_eq_true,tA,κK,show ((1:Int)==1)=true from rfl,show ((4:Int)==1)=false from rfl,show ((4:Int)==4)=true from rfl,show ((2:Int)==2)=true from rfl,show ((3:Int)==2)=false from rfl,show ((3:Int)==3)=true from rfl,show ((5:Int)==5)=true from rfl,show ((5:Int)==3)=false from rfl,show ((5:Int)==2)=false from rfl,show ((4:Int)==5)=false from rfl,show ((3:Int)==5)=false from rfl,show ((2:Int)==5)=false from rfl,show ((1:Int)==5)=false from rfl]
  cases φ1A ky<;>cases (v==[])<;>cases (c==0)<;>simp
 have b2:(k==2)=false:=by simpa using k2
 simp only[b2,cF,k2,if_false]
 by_cases k3:k=3
 ·subst k3
  simp only[cT,cF,bS,e24,beq_self_eq_true,tA,κK,show ((1:Int)==1)=true from rfl,show ((4:Int)==1)=false from rfl,show ((4:Int)==4)=true from rfl,show ((2:Int)==2)=true from rfl,show ((3:Int)==2)=false from rfl,show ((3:Int)==3)=true from rfl,show ((5:Int)==5)=true from rfl,show ((5:Int)==3)=false from rfl,show ((5:Int)==2)=false from rfl,show ((4:Int)==5)=false from rfl,show ((3:Int)==5)=false from rfl,show ((2:Int)==5)=false from rfl,show ((1:Int)==5)=false from rfl]
  cases (ky==[])<;>cases (v==[])<;>cases decide (0≤c∧c≤8)<;>simp
 have b3:(k==3)=false:=by simpa using k3
 simp only[b3,cF,k3,if_false]
 by_cases k5:k=5
 ·subst k5
  simp only[cT,cF,bS,e24,beq_self_eq_true,tA,κK,show ((1:Int)==1)=true from rfl,show ((4:Int)==1)=false from rfl,show ((4:Int)==4)=true from rfl,show ((2:Int)==2)=true from rfl,show ((3:Int)==2)=false from rfl,show ((3:Int)==3)=true from rfl,show ((5:Int)==5)=true from rfl,show ((5:Int)==3)=false from rfl,show ((5:Int)==2)=false from rfl,show ((4:Int)==5)=false from rfl,show ((3:Int)==5)=false from rfl,show ((2:Int)==5)=false from rfl,show ((1:Int)==5)=false from rfl]
  cases (ky==[])<;>cases (v==[])<;>cases decide (0≤c∧c≤20)<;>simp
 have b5:(k==5)=false:=by simpa using k5
 simp only[b5,cF,k5,if_false]
theorem φ7l (r:RecT):ψo.f r=some (φZ r):=by
 obtain ⟨k,b,ky,v,c,s⟩:=r
 have e24:decide ((v.length:Int)≤24)=decide (v.length≤24):=decide_eq_decide.2 (by omega)
 have hb0:decide (1≤b∧b≤1000000)=(decide (0≤b∧b≤1000000) && !(b==0)):=by
  by_cases h:b=0
  ·subst h;rfl
  ·have:(b==0)=false:=by simpa using h
   rw[this,nF,κK]
   exact decide_eq_decide.2 (by omega)
 unfold ψo.f φZ
 simp only[φ1Y,bS,φ6K,e24,hb0,beq_self_eq_true,tA,κK]
 by_cases k1:k=1
 ·subst k1
  simp only[cT,cF,bS,e24,hb0,beq_self_eq_true,tA,κK,show ((1:Int)==1)=true from rfl,show ((4:Int)==1)=false from rfl,show ((4:Int)==4)=true from rfl,show ((2:Int)==2)=true from rfl,show ((3:Int)==2)=false from rfl,show ((3:Int)==3)=true from rfl,show ((5:Int)==5)=true from rfl,show ((5:Int)==3)=false from rfl,show ((5:Int)==2)=false from rfl,show ((4:Int)==5)=false from rfl,show ((3:Int)==5)=false from rfl,show ((2:Int)==5)=false from rfl,show ((1:Int)==5)=false from rfl]
  cases φ1A ky<;>cases decide (v.length≤24)<;>cases decide (0≤b∧b≤1000000)<;>cases (b==0)<;>simp
 by_cases k4:k=4
 ·subst k4
  simp only[cT,cF,bS,e24,hb0,beq_self_eq_true,tA,κK,show ((1:Int)==1)=true from rfl,show ((4:Int)==1)=false from rfl,show ((4:Int)==4)=true from rfl,show ((2:Int)==2)=true from rfl,show ((3:Int)==2)=false from rfl,show ((3:Int)==3)=true from rfl,show ((5:Int)==5)=true from rfl,show ((5:Int)==3)=false from rfl,show ((5:Int)==2)=false from rfl,show ((4:Int)==5)=false from rfl,show ((3:Int)==5)=false from rfl,show ((2:Int)==5)=false from rfl,show ((1:Int)==5)=false from rfl]
  cases φ1A ky<;>cases decide (v.length≤24)<;>cases decide (0≤b∧b≤1000000)<;>cases (b==0)<;>simp
 have b1:(k==1)=false:=by simpa using k1
 have b4:(k==4)=false:=by simpa using k4
 simp only[b1,b4,cF,bS,k1,k4,or_self,if_false]
 by_cases k2:k=2
 ·subst k2
  simp only[cT,cF,bS,e24,hb0,beq_self_eq_true,tA,κK,show ((1:Int)==1)=true from rfl,show ((4:Int)==1)=false from rfl,show ((4:Int)==4)=true from rfl,show ((2:Int)==2)=true from rfl,show ((3:Int)==2)=false from rfl,show ((3:Int)==3)=true from rfl,show ((5:Int)==5)=true from rfl,show ((5:Int)==3)=false from rfl,show ((5:Int)==2)=false from rfl,show ((4:Int)==5)=false from rfl,show ((3:Int)==5)=false from rfl,show ((2:Int)==5)=false from rfl,show ((1:Int)==5)=false from rfl]
  cases φ1A ky<;>cases decide (0≤b∧b≤1000000)<;>cases (b==0)<;>simp
 have b2:(k==2)=false:=by simpa using k2
 simp only[b2,cF,k2,if_false]
 by_cases k3:k=3
 ·subst k3
  simp only[cT,cF,bS,e24,hb0,beq_self_eq_true,tA,κK,show ((1:Int)==1)=true from rfl,show ((4:Int)==1)=false from rfl,show ((4:Int)==4)=true from rfl,show ((2:Int)==2)=true from rfl,show ((3:Int)==2)=false from rfl,show ((3:Int)==3)=true from rfl,show ((5:Int)==5)=true from rfl,show ((5:Int)==3)=false from rfl,show ((5:Int)==2)=false from rfl,show ((4:Int)==5)=false from rfl,show ((3:Int)==5)=false from rfl,show ((2:Int)==5)=false from rfl,show ((1:Int)==5)=false from rfl]
  cases decide (0≤c∧c≤8)<;>cases decide (0≤s∧s≤4294967295)<;>cases decide (0≤b∧b≤1000000)<;>cases (b==0)<;>simp
 have b3:(k==3)=false:=by simpa using k3
 simp only[b3,cF,k3,if_false]
 by_cases k5:k=5
 ·subst k5
  simp only[cT,cF,bS,e24,hb0,beq_self_eq_true,tA,κK,show ((1:Int)==1)=true from rfl,show ((4:Int)==1)=false from rfl,show ((4:Int)==4)=true from rfl,show ((2:Int)==2)=true from rfl,show ((3:Int)==2)=false from rfl,show ((3:Int)==3)=true from rfl,show ((5:Int)==5)=true from rfl,show ((5:Int)==3)=false from rfl,show ((5:Int)==2)=false from rfl,show ((4:Int)==5)=false from rfl,show ((3:Int)==5)=false from rfl,show ((2:Int)==5)=false from rfl,show ((1:Int)==5)=false from rfl]
  cases decide (0≤c∧c≤20)<;>cases decide (0≤s∧s≤4294967295)<;>cases decide (0≤b∧b≤1000000)<;>simp
 have b5:(k==5)=false:=by simpa using k5
 simp only[b5,cF,k5,if_false,Bool.and_false]
def φ5 (r:RecT):List UInt8:=
 if φZ r=false then [] else
 if r.1=1∨r.1=4 then varT r.1++varT r.2.1++varT (r.2.2.1.length:Int)++r.2.2.1++varT (r.2.2.2.1.length:Int)++r.2.2.2.1
 else if r.1=2 then varT r.1++varT r.2.1++varT (r.2.2.1.length:Int)++r.2.2.1
 else varT r.1++varT r.2.1++varT r.2.2.2.2.1++fix4 r.2.2.2.2.2
theorem φ4V (n:Int):(fix4 n).length≤4:=by
 unfold fix4;split
 ·rw[φBX];omega
 ·simp
theorem φ3U (r:RecT):(φ5 r).length≤60:=by
 obtain ⟨k,b,ky,v,c,s⟩:=r
 unfold φ5
 split
 ·simp
 rename_i h
 have h:φZ (k,b,ky,v,c,s)=true:=by simpa using h
 have l1:=φj k
 have l2:=φj b
 have l3:=φj (ky.length:Int)
 have l4:=φj (v.length:Int)
 have l5:=φj c
 have l6:=φ4V s
 unfold φZ φ1A at h
 simp only[bA] at h
 have h:=h.2
 split
 ·rename_i c1
  simp only at c1
  simp only[c1,if_true,bA,decide_eq_true_eq] at h
  simp only[lA];omega
 ·rename_i c1
  simp only at c1
  split
  ·rename_i c2
   simp only at c2
   rw[if_neg c1,if_pos c2] at h
   simp only[bA,decide_eq_true_eq] at h
   simp only[lA];omega
  ·simp only[lA];omega
theorem φ1K {a b:Nat} (h:a+b≤1000000000000000):decide (a+b≤9223372036854775807)=true:=by
 rw[decide_eq_true_eq];omega
theorem φ7W (r:RecT):ψ2o.f r=some (φ5 r):=by
 obtain ⟨k,b,ky,v,c,s⟩:=r
 unfold ψ2o.f φ5
 rw[φMB,bS]
 rcases bE (φZ (k,b,ky,v,c,s)) with h | h
 rotate_left
 ·simp[h]
 have hs:s<9223372036854775808∨k=1∨k=4∨k=2:=by
  unfold φZ at h
  simp only[bA] at h
  have h:=h.2
  by_cases c1:k=1∨k=4
  ·omega
  by_cases c2:k=2
  ·omega
  rw[if_neg c1,if_neg c2] at h
  left
  split at h
  ·simp only[bA,decide_eq_true_eq] at h;omega
  ·split at h
   ·simp only[bA,decide_eq_true_eq] at h;omega
   ·simp at h
 have hlen:k=1∨k=4∨k=2→ky.length≤8∧v.length≤24:=by
  intro hk
  unfold φZ φ1A at h
  simp only[bA] at h
  have h:=h.2
  by_cases c1:k=1∨k=4
  ·rw[if_pos c1] at h
   simp only[bA,decide_eq_true_eq] at h;omega
  by_cases c2:k=2
  ·rw[if_neg c1,if_pos c2] at h
   simp only[bA,decide_eq_true_eq,beq_iff_eq] at h
   rw[h.2.1];simp;omega
  ·omega
 have l1:=φj k
 have l2:=φj b
 have l3:=φj (ky.length:Int)
 have l4:=φj (v.length:Int)
 have l5:=φj c
 have l6:=φ4V s
 simp only[h,nZ,cF,φ4r,bS,φ1K (show (varT k).length+(varT b).length≤1000000000000000 by omega),cT,κ8,if_false]
 have kk:(bif k==1 then some (((k,b,ky,v,c,s):RecT),varT k++varT b,k,k==1) else some ((k,b,ky,v,c,s),varT k++varT b,k,k==4))=some ((k,b,ky,v,c,s),varT k++varT b,k,decide (k=1∨k=4)):=by
  by_cases c1:k=1
  ·subst c1;rfl
  ·have b1:(k==1)=false:=by simpa using c1
   rw[b1,cF]
   by_cases c4:k=4
   ·subst c4;rfl
   ·have b4:(k==4)=false:=by simpa using c4
    rw[b4,decide_eq_false (by omega)]
 simp only[kk,bS]
 by_cases c1:k=1∨k=4
 ·have hl:=hlen (by omega)
  simp only[c1,dT,cT,if_true,
   φ1K (show (varT k++varT b).length+(varT (ky.length:Int)).length≤1000000000000000 by simp only[lA];omega),
   φ1K (show (varT k++varT b++varT (ky.length:Int)).length+ky.length≤1000000000000000 by simp only[lA];omega),
   φ1K (show (varT k++varT b++varT (ky.length:Int)++ky).length+(varT (v.length:Int)).length≤1000000000000000 by simp only[lA];omega),
   φ1K (show (varT k++varT b++varT (ky.length:Int)++ky++varT (v.length:Int)).length+v.length≤1000000000000000 by simp only[lA];omega)]
 by_cases c2:k=2
 ·have hl:=hlen (by omega)
  have b2:(k==2)=true:=by simpa using c2
  simp only[c1,b2,dF,cF,cT,if_false,
   φ1K (show (varT k++varT b).length+(varT (ky.length:Int)).length≤1000000000000000 by simp only[lA];omega),
   φ1K (show (varT k++varT b++varT (ky.length:Int)).length+ky.length≤1000000000000000 by simp only[lA];omega)]
  rw[if_pos c2]
 ·have b2:(k==2)=false:=by simpa using c2
  simp only[c1,c2,b2,dF,cF,if_false,
   φ1K (show (varT k++varT b).length+(varT c).length≤1000000000000000 by simp only[lA];omega),cT,
   φBu s (by omega),bS,
   φ1K (show (varT k++varT b++varT c).length+(fix4 s).length≤1000000000000000 by simp only[lA];omega)]
theorem φ6y (s:List UInt8) (h:s.length<2 ^ 62):ψ1r.f s=some (varT (s.length:Int)++s):=by
 have l:=φj (s.length:Int)
 unfold ψ1r.f
 have c:(varT (s.length:Int)).length+s.length≤9223372036854775807:=by omega
 simp only[φC3,bS,c,dT,cT]
theorem φMy (l:List Int):∀n (acc:List UInt8),n≤l.length→acc.length≤7 * n→l.length<1000000000000→lp ψ1v.l0 (acc,l,(l.length:Int),(n:Int))=some (acc++((l.drop n).map varT).flatten):=by
 intro n acc hn ha hl
 have:=φh (step:=ψ1v.l0) (fun n (acc:List UInt8)=>(acc,l,(l.length:Int),(n:Int))) l.length (fun n acc=>acc++((l.drop n).map varT).flatten) (fun n acc=>acc.length≤7 * n)
  (fun rec n acc hn ha ih=>by
   rcases κ1 n l.length with h | h
   ·have hv:=φj l[n]
    have hb:acc.length+(varT l[n]).length≤9223372036854775807:=by omega
    have ih:=ih (acc++varT l[n]) h (by rw[lA];omega)
    simp only[ψ1v.l0,oL,h,dT,cT,φK,φN,φE h,φC3,bS,hb,φR (show n+1<9223372036854775808 by omega),ih]
    rw[dG h,κ5,List.flatten_cons,aA]
   ·have:n=l.length:=by omega
    subst this
    simp[ψ1v.l0])
  (by omega) n acc hn ha
 exact this
theorem φ73 (l:List Int) (hl:l.length<1000000000000):ψ1v.f l=some (l.map varT).flatten:=by
 unfold ψ1v.f
 have:=φMy l 0 [] (κ3 _) (by simp) hl
 have this:lp ψ1v.l0 ([],l,(l.length:Int),0)=_:=this
 rw[this];simp
theorem φAO (r:RecT):ψ10.f r=some (φ5 r):=by
 obtain ⟨k,b,ky,v,c,s⟩:=r
 unfold ψ10.f φ5
 rw[φ7l,bS]
 rcases bE (φZ (k,b,ky,v,c,s)) with h | h
 rotate_left
 ·simp[h]
 have hlen:k=1∨k=4∨k=2→ky.length≤8∧v.length≤24:=by
  intro hk
  unfold φZ φ1A at h
  simp only[bA] at h
  have h:=h.2
  by_cases c1:k=1∨k=4
  ·rw[if_pos c1] at h
   simp only[bA,decide_eq_true_eq] at h;omega
  by_cases c2:k=2
  ·rw[if_neg c1,if_pos c2] at h
   simp only[bA,decide_eq_true_eq,beq_iff_eq] at h
   rw[h.2.1];simp;omega
  ·omega
 have l1:=φj k
 have l2:=φj b
 have l3:=φj (ky.length:Int)
 have l4:=φj (v.length:Int)
 have l5:=φj c
 have l6:=φ4V s
 have hv:ψ1v.f [k,b]=some (varT k++varT b):=by rw[φ73 [k,b] (by show 2<1000000000000;decide)];simp
 simp only[h,nZ,cF,hv,bS,κ8,if_false]
 have kk:(bif k==1 then some (((k,b,ky,v,c,s):RecT),varT k++varT b,k,k==1) else some ((k,b,ky,v,c,s),varT k++varT b,k,k==4))=some ((k,b,ky,v,c,s),varT k++varT b,k,decide (k=1∨k=4)):=by
  by_cases c1:k=1
  ·subst c1;rfl
  ·have b1:(k==1)=false:=by simpa using c1
   rw[b1,cF]
   by_cases c4:k=4
   ·subst c4;rfl
   ·have b4:(k==4)=false:=by simpa using c4
    rw[b4,decide_eq_false (by omega)]
 simp only[kk,bS]
 by_cases c1:k=1∨k=4
 ·have hl:=hlen (by omega)
  simp only[c1,dT,cT,if_true,φ6y ky (by omega),φ6y v (by omega),bS,
   φ1K (show (varT k++varT b).length+(varT (ky.length:Int)++ky).length≤1000000000000000 by simp only[lA];omega),
   φ1K (show (varT k++varT b++(varT (ky.length:Int)++ky)).length+(varT (v.length:Int)++v).length≤1000000000000000 by simp only[lA];omega)]
  simp only[aA]
 by_cases c2:k=2
 ·have hl:=hlen (by omega)
  have b2:(k==2)=true:=by simpa using c2
  simp only[c1,b2,dF,cF,cT,if_false,φ6y ky (by omega),bS,
   φ1K (show (varT k++varT b).length+(varT (ky.length:Int)++ky).length≤1000000000000000 by simp only[lA];omega)]
  rw[if_pos c2]
  simp only[aA]
 ·have b2:(k==2)=false:=by simpa using c2
  simp only[c1,c2,b2,dF,cF,if_false,φC3,bS,
   φ1K (show (varT k++varT b).length+(varT c).length≤1000000000000000 by simp only[lA];omega),cT,
   φBN s,bS,
   φ1K (show (varT k++varT b++varT c).length+(fix4 s).length≤1000000000000000 by simp only[lA];omega)]
def frame (s:List UInt8):List UInt8:=
 if 200<s.length then [] else fix4 (crcT (varT (s.length:Int)++s))++(varT (s.length:Int)++s)
theorem φ52 (s:List UInt8):(frame s).length≤211:=by
 unfold frame
 split
 ·simp
 ·have l1:=φj (s.length:Int)
  have l2:=φ4V (crcT (varT (s.length:Int)++s))
  simp only[lA];omega
theorem φ9J (s:List UInt8) (h:s.length<2 ^ 62):ψ2S.f s=some (frame s):=by
 unfold ψ2S.f frame
 by_cases c:200<s.length
 ·have c1:(s.length:Int) > 200:=by omega
  simp[c,c1]
 have c1:¬(s.length:Int) > 200:=by omega
 have l1:=φj (s.length:Int)
 have l2:=φ4V (crcT (varT (s.length:Int)++s))
 have r:=φ5D (varT (s.length:Int)++s)
 simp only[c,c1,dF,cF,if_false,φ4r,bS,φ1K (show (varT (s.length:Int)).length+s.length≤1000000000000000 by omega),cT,
  φAy (varT (s.length:Int)++s) (by rw[lA];omega),φBu _ (show crcT (varT (s.length:Int)++s)<9223372036854775808 by omega),
  φ1K (show (fix4 (crcT (varT (s.length:Int)++s))).length+(varT (s.length:Int)++s).length≤1000000000000000 by simp only[lA];omega)]
theorem φ9e (s:List UInt8) (h:s.length<2 ^ 62):ψQ.f s=some (frame s):=by
 unfold ψQ.f frame
 by_cases c:200<s.length
 ·have c1:(s.length:Int) > 200:=by omega
  simp[c,c1]
 have c1:¬(s.length:Int) > 200:=by omega
 have l1:=φj (s.length:Int)
 have l2:=φ4V (crcT (varT (s.length:Int)++s))
 have r:=φ5D (varT (s.length:Int)++s)
 simp only[c,c1,dF,cF,if_false,φ6y s (by omega),bS,cT,
  φA3 (varT (s.length:Int)++s) (by rw[lA];omega),φBN,
  φ1K (show (fix4 (crcT (varT (s.length:Int)++s))).length+(varT (s.length:Int)++s).length≤1000000000000000 by simp only[lA];omega)]
def φ3d (l:List RecT):List UInt8:=(l.map φ5).flatten
def φ1j (l:List RecT):Int:=crcT (φ3d l)
theorem φ79:∀(l:List RecT),(φ3d l).length≤60 * l.length
 | []=>by simp[φ3d]
 | r::l=>by
  have h1:=φ79 l
  have h2:=φ3U r
  unfold φ3d at *
  rw[κ5,List.flatten_cons,lA,lC];omega
theorem φCh (l:List RecT) (r:RecT):φ3d (l++[r])=φ3d l++φ5 r:=by
 unfold φ3d;simp
theorem φDB (l:List RecT) (hl:l.length<1000000000000):ψ2q.f l=some (φ1j l):=by
 have hk:=φh (step:=ψ2q.l0) (fun n (_:Unit)=>(l,φ3d (l.take n),(n:Int))) l.length (fun _ _=>φ3d l) (fun _ _=>True)
  (fun rec n s hn _ ih=>by
   rcases κ1 n l.length with h | h
   ·have h1:=φ79 (l.take n)
    have h2:=φ3U l[n]
    rw[lT] at h1
    have ih:=ih () h trivial
    rw[κ4 h,φCh] at ih
    simp only[ψ2q.l0,oL,h,dT,cT,φK,φN,φE h,φ2c,φ7W,bS,φ1K (show (φ3d (l.take n)).length+(φ5 l[n]).length≤1000000000000000 by omega),φR (show n+1<9223372036854775808 by omega),ih]
   ·have:n=l.length:=by omega
    subst this
    simp[ψ2q.l0])
  (by omega) 0 () (κ3 _) trivial
 have hk:lp ψ2q.l0 (l,[],0)=_:=hk
 have hl2:=φ79 l
 unfold ψ2q.f φ1j
 rw[hk,bS,φAy _ (by omega),bS]
theorem φAm (l:List RecT) (hl:l.length<1000000000000):ψ17.f l=some (φ1j l):=by
 have hk:=φh (step:=ψ17.l0) (fun n (_:Unit)=>(φ3d (l.take n),l,(l.length:Int),(n:Int))) l.length (fun _ _=>φ3d l) (fun _ _=>True)
  (fun rec n s hn _ ih=>by
   rcases κ1 n l.length with h | h
   ·have h1:=φ79 (l.take n)
    have h2:=φ3U l[n]
    rw[lT] at h1
    have ih:=ih () h trivial
    rw[κ4 h,φCh] at ih
    simp only[ψ17.l0,oL,h,dT,cT,φK,φN,φE h,φ2c,φAO,bS,φ1K (show (φ3d (l.take n)).length+(φ5 l[n]).length≤1000000000000000 by omega),φR (show n+1<9223372036854775808 by omega),ih]
   ·have:n=l.length:=by omega
    subst this
    simp[ψ17.l0])
  (by omega) 0 () (κ3 _) trivial
 have hk:lp ψ17.l0 ([],l,(l.length:Int),0)=_:=hk
 have hl2:=φ79 l
 unfold ψ17.f φ1j
 rw[hk,bS,φA3 _ (by omega),bS]
theorem φG0 {a:Nat} (h:a<1000000000001):(a+1) * 64≤140737488355328:=by omega
def φQ (p:φX):RecT:=(4,p.2.2,p.1,p.2.1,0,0)
def φOL (r:RecT):Nat:=(frame (φ5 r)).length
def φFq (l:List RecT):Nat:=sumN φOL l
theorem φDV {α:Type} (f:α→Nat):∀(l:List α) (x:α),sumN f (l++[x])=sumN f l+f x
 | [],x=>by simp[sumN]
 | y::l,x=>by
  have:=φDV f l x
  simp only[κF,sumN,this];omega
def φW (l:List φX) (mark:Int):List RecT:=l.map φQ++[(5,mark,[],[],(l.length:Int),φ1j (l.map φQ))]
theorem φK1 (l:List φX) (n:Nat) (h:n<l.length):(l.take (n+1)).map φQ=(l.take n).map φQ++[φQ l[n]]:=by
 rw[κ4 h,mp];rfl
theorem φMA (l:List φX) (mark:Int) (hl:l.length<1000000000):ψ1X.f l mark=some (φW l mark):=by
 have hk:=φh (step:=ψ1X.l0) (fun n (_:Unit)=>(l,mark,(l.take n).map φQ,l,(l.length:Int),(n:Int))) l.length (fun _ _=>(l,mark,l.map φQ)) (fun _ _=>True)
  (fun rec n s hn _ ih=>by
   rcases κ1 n l.length with h | h
   ·have ih:=ih () h trivial
    rw[φK1 l n h] at ih
    have hb:(((l.take n).map φQ).length+([φQ l[n]]:List RecT).length) * 64≤140737488355328:=by
     rw[lM,lT];exact φG0 (by omega)
    have hb2:(((l.take n).map φQ).length+([(4,l[n].2.2,l[n].1,l[n].2.1,0,0)]:List RecT).length) * 64≤140737488355328:=hb
    have hkp:((4,l[n].2.2,l[n].1,l[n].2.1,0,0):RecT)=φQ l[n]:=rfl
    simp only[ψ1X.l0,oL,h,dT,cT,φK,φN,φE h,hkp,φR (show n+1<9223372036854775808 by omega),ih]
    exact congrArg (fun b=>bif b then some (l,mark,l.map φQ) else none) (decide_eq_true hb2)
   ·have:n=l.length:=by omega
    subst this
    simp[ψ1X.l0])
  (by omega) 0 () (κ3 _) trivial
 have hk:lp ψ1X.l0 (l,mark,[],l,(l.length:Int),0)=_:=hk
 unfold ψ1X.f φW
 rw[hk,bS]
 have hb:((l.map φQ).length+([((5,mark,[],[],(l.length:Int),φ1j (l.map φQ)):RecT)]:List RecT).length) * 64≤140737488355328:=by
  rw[lM];exact φG0 (by omega)
 simp only[φAm (l.map φQ) (by rw[lM];omega),bS,hb,dT,cT]
theorem φJu {x n:Int} (hx:0≤x) (hn:0<n):0≤Int.tmod x n∧Int.tmod x n<n:=by
 exact ⟨Int.tmod_nonneg n hx,Int.tmod_lt_of_pos x hn⟩
theorem φKy {A B σ:Type} {step:(A→Option B)→A→Option B} (st:Nat→σ→A) (Inv:Nat→σ→Prop) (Post:B→Prop)
  (hz:∀rec s,Inv 0 s→∃b,step rec (st 0 s)=some b∧Post b)
  (hs:∀rec n s,Inv (n+1) s→∃s',Inv n s'∧step rec (st (n+1) s)=rec (st n s')) (n:Nat) (s:σ) (hi:Inv n s) (hn:n<2 ^ 62):∃b,lp step (st n s)=some b∧Post b:=by
 have key:∀n f s,Inv n s→n<f→∃b,φ3B step f (st n s)=some b∧Post b:=by
  intro n
  induction n with
  | zero=>
   intro f s hi hf
   obtain ⟨f,rfl⟩:∃g,f=g+1:=⟨f - 1,by omega⟩
   exact hz _ s hi
  | succ n ih=>
   intro f s hi hf
   obtain ⟨f,rfl⟩:∃g,f=g+1:=⟨f - 1,by omega⟩
   obtain ⟨s',hi',e⟩:=hs (φ3B step f) n s hi
   show ∃b,step (φ3B step f) (st (n+1) s)=some b∧Post b
   rw[e]
   exact ih f s' hi' (by omega)
 exact key n FUEL s hi (κG hn φ7e)
theorem φ9W {A B:Type} {step:(A→Option B)→A→Option B} (P:A→Prop) (m:A→Nat) (Post:B→Prop)
  (h:∀rec a,P a→(∃b,step rec a=some b∧Post b)∨∃a',P a'∧m a'<m a∧step rec a=rec a') {a:A} (hp:P a) (hm:m a<2 ^ 62):∃b,lp step a=some b∧Post b:=by
 have key:∀f a,P a→m a<f→∃b,φ3B step f a=some b∧Post b:=by
  intro f
  induction f with
  | zero=>intro a _ hf;omega
  | succ f ih=>
   intro a hp hf
   rcases h (φ3B step f) a hp with hx | ⟨a',hp',hlt,e⟩
   ·exact hx
   ·show ∃b,step (φ3B step f) a=some b∧Post b
    rw[e]
    exact ih a' hp' (by omega)
 exact key FUEL a hp (κG hm φ7e)
abbrev φE3:=List UInt8×Int
def φ85 (t:TxnT) (key:List UInt8) (b:Int):TxnT×Int:=
 if t.1=false∨φ1A key=false then (t,4) else
 match t.2.1.find? (fun r=>r.1==key) with
 | some r=>if r.2=b then (t,0) else (t,7)
 | none=>if 20≤t.2.1.length then (t,5) else ((t.1,t.2.1++[(key,b)],t.2.2),0)
def φ1w (t:TxnT) (key:List UInt8) (b:Int):TxnT×Int:=
 if t.1=false∨φ1A key=false then (t,4) else
 if t.2.1.any (fun r=>r.1==key && !(r.2==b))=true then (t,7) else
 if t.2.1.any (fun r=>r.1==key)=true then (t,0) else
 if 20≤t.2.1.length then (t,5) else ((t.1,t.2.1++[(key,b)],t.2.2),0)
theorem φEx {a:Nat} (h:a<1000000000001):(a+1) * 24≤140737488355328:=by omega
theorem φKL (t:TxnT) (key:List UInt8) (b:Int) (h1:t.2.1.length<1000000000) (h2:t.2.2.length<1000000000):ψ1C.f t key b=some (φ1w t key b):=by
 unfold ψ1C.f φ1w
 rw[φA4 t (by omega) (by omega),bS]
 rcases bE t.1 with k | k
 rotate_left
 ·simp[k]
 simp only[k,nZ,cF,φ6K,bS]
 rcases bE (φ1A key) with k2 | k2
 rotate_left
 ·simp[k2]
 have key':=φh (step:=ψ1C.l0) (fun n (f:Bool)=>(key,b,t,((false,[],[]):TxnT),t,f,t.2.1,(t.2.1.length:Int),(n:Int))) t.2.1.length
  (fun n f=>if (t.2.1.drop n).any (fun r=>r.1==key && !(r.2==b))=true then .inr (t,7) else .inl (key,b,t,(false,[],[]),t,f || (t.2.1.drop n).any (fun r=>r.1==key))) (fun _ _=>True)
  (fun rec n f hn _ ih=>by
   rcases κ1 n t.2.1.length with h | h
   ·have hw:=φR (show n+1<9223372036854775808 by omega)
    rw[dG h,List.any_cons,List.any_cons]
    simp only[ψ1C.l0,oL,h,dT,cT,φK,φN,φE h,φR (show n+1<9223372036854775808 by omega)]
    rcases bE (t.2.1[n].1==key) with c | c
    ·by_cases c2:t.2.1[n].2=b
     ·have c3:(t.2.1[n].2 != b)=false:=by simpa using c2
      have c4:(t.2.1[n].2==b)=true:=by simpa using c2
      simp only[c,c3,c4,nZ,cT,cF,bS,φe,hw,ih true h trivial,Bool.and_false,κQ,Bool.true_or,Bool.or_true]
     ·have c3:(t.2.1[n].2 != b)=true:=by simpa using c2
      have c4:(t.2.1[n].2==b)=false:=by simpa using c2
      simp only[c,c3,c4,nZ,nF,cT,cF,bS,φn,κK,Bool.true_or,if_true]
    ·simp only[c,nF,cT,bS,φe,hw,ih f h trivial,κD,κQ]
   ·have:n=t.2.1.length:=by omega
    subst this
    simp[ψ1C.l0])
  (by omega) 0 false (κ3 _) trivial
 have key':lp ψ1C.l0 (key,b,t,(false,[],[]),t,false,t.2.1,(t.2.1.length:Int),0)=_:=key'
 simp only[k2,nZ,cF,key',bS,κ8,or_self,if_false,κC,κQ]
 cases t.2.1.any (fun r=>r.1==key && !(r.2==b))
 rotate_left
 ·simp only[if_true,φn]
 simp only[κ2,if_false,φe]
 cases t.2.1.any (fun r=>r.1==key)
 rotate_left
 ·simp only[if_true,cT]
 simp only[κ2,if_false,cF]
 by_cases c:20≤t.2.1.length
 ·have c2:(t.2.1.length:Int)≥20:=by omega
  simp only[c,c2,dT,cT,if_true]
 ·have c2:¬(t.2.1.length:Int)≥20:=by omega
  have hb:(t.2.1.length+([(key,b)]:List φE3).length) * 24≤140737488355328:=φEx (by omega)
  have hb:decide ((t.2.1.length+([(key,b)]:List φE3).length) * 24≤140737488355328)=true:=decide_eq_true hb
  simp only[c,c2,dF,cF,if_false,hb,cT,k]
structure TxnOk (t:TxnT):Prop where
 keys:t.2.1.Pairwise (fun a b=>a.1≠b.1)
 reads:t.2.1.length≤20
 writes:t.2.2.length≤50
 net:(netW t.2.2).length≤8
theorem φIb {t:TxnT} (h:TxnOk t) (key:List UInt8) (b:Int):TxnOk (φ85 t key b).1:=by
 unfold φ85
 split
 ·exact h
 split
 ·split<;>exact h
 ·rename_i hf
  split
  ·exact h
  ·refine ⟨?_,?_,h.writes,h.net⟩
   ·show (t.2.1++[(key,b)]).Pairwise _
    rw[κd]
    refine ⟨h.keys,by simp,fun x hx y hy=>?_⟩
    rw[mZ.1 hy]
    have:=List.find?_eq_none.1 hf x hx
    simpa using this
   ·show (t.2.1++[(key,b)]).length≤20
    rw[lA];show _+1≤20;omega
theorem φIm {t:TxnT} (h:TxnOk t) (p:PutT):TxnOk (φ2F t p).1:=by
 unfold φ2F
 split
 ·rename_i c
  refine ⟨h.keys,h.reads,?_,c.2.2.1⟩
  show (t.2.2++[p]).length≤50
  rw[lA];show _+1≤50;omega
 ·exact h
theorem φIC {t:TxnT} (h:TxnOk t) (key:List UInt8) (b:Int):φ1w t key b=φ85 t key b:=by
 unfold φ1w φ85
 split
 ·rfl
 have hk:=h.keys
 generalize t.2.1=l at *
 cases hf:l.find? (fun r=>r.1==key) with
 | none=>
  have hn:=List.find?_eq_none.1 hf
  have a1:l.any (fun r=>r.1==key && !(r.2==b))=false:=by
   rw[List.any_eq_false];intro x hx;simp[hn x hx]
  have a2:l.any (fun r=>r.1==key)=false:=by
   rw[List.any_eq_false];exact hn
  simp only[a1,a2,κ2,if_false]
 | some r=>
  have hr:=List.mem_of_find?_eq_some hf
  have hr2:r.1=key:=by simpa using List.find?_some hf
  have a2:l.any (fun r=>r.1==key)=true:=by
   rw[List.any_eq_true];exact ⟨r,hr,by simpa using hr2⟩
  have only:∀x∈l,x.1=key→x=r:=by
   intro x hx e
   rcases List.pairwise_iff_getElem.1 hk with hp
   obtain ⟨i,hi,ei⟩:=List.getElem_of_mem hx
   obtain ⟨j,hj,ej⟩:=List.getElem_of_mem hr
   rcases Nat.lt_trichotomy i j with c | c | c
   ·exact absurd (by rw[ei,ej,e,hr2]) (hp i j hi hj c)
   ·subst c;rw[←ei,ej]
   ·exact absurd (by rw[ei,ej,e,hr2]) (hp j i hj hi c)
  by_cases c:r.2=b
  ·have a1:l.any (fun r=>r.1==key && !(r.2==b))=false:=by
    rw[List.any_eq_false]
    intro x hx
    by_cases e:x.1=key
    ·rw[only x hx e];simp[c]
    ·simp[e]
   simp only[a1,a2,c,κ2,if_false,if_true]
  ·have a1:l.any (fun r=>r.1==key && !(r.2==b))=true:=by
    rw[List.any_eq_true];exact ⟨r,hr,by simp[hr2,c]⟩
   simp only[a1,c,if_true,if_false]
theorem φLj (l:List Int):ψ2G.f l=some (decide ((l.length:Int) > 1048576)):=rfl
def srt {α:Type} (l:List (List UInt8×α)):Prop:=l.Pairwise (fun a b=>Op.bytesLess a.1 b.1=true)
theorem φ62 {α:Type} (x:List UInt8×α) (l:List (List UInt8×α)) (p:List UInt8×α):insB (x::l) p=if leK x.1 p.1=true then x::insB l p else p::x::l:=by
 cases h:leK x.1 p.1<;>simp[insB,h]
theorem φ3W {α:Type} (y p:List UInt8×α):∀l:List (List UInt8×α),y∈insB l p↔y=p∨y∈l
 | []=>by simp[insB]
 | x::l=>by
  rw[φ62]
  split
  ·rw[mc,φ3W y p l,mc]
   constructor
   ·rintro (h | h | h)
    ·exact .inr (.inl h)
    ·exact .inl h
    ·exact .inr (.inr h)
   ·rintro (h | h | h)
    ·exact .inr (.inl h)
    ·exact .inl h
    ·exact .inr (.inr h)
  ·rw[mc]
theorem φ9s {α:Type} (p:List UInt8×α):∀l:List (List UInt8×α),srt l→(∀x∈l,x.1≠p.1)→srt (insB l p)
 | [],_,_=>by simp[insB,srt]
 | x::l,h,hn=>by
  have h:=κY.1 h
  rw[φ62]
  split
  ·rename_i c
   refine List.Pairwise.cons (fun y hy=>?_) (φ9s p l h.2 fun y hy=>hn y (mC _ hy))
   rcases (φ3W y p l).1 hy with e | hy
   ·rw[e]
    unfold leK at c
    rcases κV _ _ ▸ c with c | c
    ·exact c
    ·exact absurd (by simpa using c) (hn x κ0)
   ·exact h.1 y hy
  ·rename_i c
   have c2:Op.bytesLess p.1 x.1=true:=by
    rw[φ8N] at c
    simpa using c
   refine List.Pairwise.cons (fun y hy=>?_) (List.Pairwise.cons h.1 h.2)
   rcases mc.1 hy with e | hy
   ·rw[e];exact c2
   ·exact φ74 _ _ _ c2 (h.1 y hy)
theorem φGA {α:Type} {l:List (List UInt8×α)} (h:srt l) (k:List UInt8):srt (φ18 l k):=h.sublist List.filter_sublist
theorem φ7N {α:Type} (l:List (List UInt8×α)) (k:List UInt8) (y:List UInt8×α):y∈φ18 l k↔y∈l∧y.1≠k:=by
 unfold φ18
 rw[List.mem_filter]
 simp
theorem φEm {l:List PutT} {k:List UInt8} {p:PutT} (h:φ4U l k=some p):p∈l∧p.1=k:=by
 unfold φ4U at h
 exact ⟨by simpa using List.mem_of_find?_eq_some h,by simpa using List.find?_some h⟩
theorem φJz {l:List PutT} {k:List UInt8} {p:PutT} (h:φ4U l k=some p):ownW l k=(p,true):=by unfold ownW;rw[h]
theorem φN4 {l:List PutT} {q:PutT}:q∈netW l↔φ4U l q.1=some q:=by
 unfold netW
 rw[mM]
 constructor
 ·rintro ⟨k,hk,rfl⟩
  have hk2:=φGo l k hk
  rw[hk2.1]
  unfold ownW at hk2 ⊢
  cases e:φ4U l k with
  | none=>rw[e] at hk2;simp at hk2
  | some p=>rfl
 ·intro h
  refine ⟨q.1,(φKH l q.1).2 ⟨q,(φEm h).1,rfl⟩,?_⟩
  rw[φJz h]
theorem φC1 (l:List Int) (hw:∀x∈l,0≤x∧x≤255) (n:Nat) (hn:n<1000000000) (hl:l.length<1000000000):∃a,ψ2F.f l (n:Int)=some a∧0≤a∧a≤255:=by
 unfold ψ2F.f
 by_cases c:n<l.length
 ·have c1:(n:Int)<(l.length:Int):=by omega
  have h:=hw l[n] (gM c)
  simp only[c,c1,dT,cT,φK,φN,φE c]
  exact ⟨_,rfl,by rw[φJ (by omega) (by omega)];omega,by rw[φJ (by omega) (by omega)];omega⟩
 ·have c1:¬(n:Int)<(l.length:Int):=by omega
  simp only[c1,dF,cF]
  rw[φJ (n:=(n:Int) * 37) (by omega) (by omega),φJ (n:=(l.length:Int) * 11) (by omega) (by omega),φJ (n:=(n:Int) * 37+(l.length:Int) * 11) (by omega) (by omega)]
  have:=φJu (x:=(n:Int) * 37+(l.length:Int) * 11) (n:=256) (by omega) (by omega)
  exact ⟨_,rfl,this.1,by omega⟩
abbrev φP:=Int×List Int
def φ1c (hi:Int):Option Int→List Int→Bool
 | _,[]=>true
 | p,x::r=>decide (1≤x∧x≤hi) && ((match p with | none=>true | some q=>decide (q<x)) && φ1c hi (some x) r)
def φ72 (l:List Int):Nat→Option Int
 | 0=>none
 | n+1=>some (l.getD n 0)
theorem φ9I (l:List Int) (n:Nat) (h:n<l.length):φ72 l (n+1)=some l[n]:=by
 show some (l.getD n 0)=_
 rw[φE h]
def φk (v:φP):Bool:=φ1c (w64 (v.1 - 1)) none v.2 && (decide (1≤v.1∧v.1≤100000) && decide (1≤(v.2.length:Int)∧(v.2.length:Int)≤60))
theorem φOJ (v:φP) (hl:v.2.length<2 ^ 62):lp ψY.l0 (v,v.2,(v.2.length:Int),0)=some (if φ1c (w64 (v.1 - 1)) none v.2=true then .inl v else .inr false):=by
 have key:=φh (step:=ψY.l0) (fun n (_:Unit)=>(v,v.2,(v.2.length:Int),(n:Int))) v.2.length (fun n _=>if φ1c (w64 (v.1 - 1)) (φ72 v.2 n) (v.2.drop n)=true then .inl v else .inr false) (fun _ _=>True)
  (fun rec n s hn' _ ih=>by
   rcases κ1 n v.2.length with h | h
   ·have hw:w64 ((n:Int)+1)=((n+1:Nat):Int):=φR (by omega)
    have ih2:=ih () h trivial
    rw[φ9I v.2 n h] at ih2
    rw[dG h]
    simp only[φ1c,ψY.l0,oL,h,dT,cT,φK,φN,φE h,bS,φ1Y]
    rcases bE (decide (1≤v.2[n]∧v.2[n]≤w64 (v.1 - 1))) with k2 | k2
    rotate_left
    ·simp only[k2,nF,cT,bS,φn];simp
    simp only[k2,nZ,cF,tA]
    cases n with
    | zero=>
     have z:¬((0:Nat):Int) > 0:=by omega
     simp only[z,dF,cF,bS,φe,hw,ih2,φ72,tA]
    | succ m=>
     have z:((m+1:Nat):Int) > 0:=by omega
     have hm:m<v.2.length:=by omega
     have z2:w64 (((m+1:Nat):Int) - 1)=(m:Int):=by rw[φJ (by omega) (by omega)];omega
     rw[φ9I v.2 m hm]
     simp only[z,dT,cT,z2,φK,hm,φN,φE hm]
     by_cases k3:v.2[m]<v.2[m+1]
     ·have k4:¬v.2[m]≥v.2[m+1]:=by omega
      simp only[k3,k4,dT,dF,cF,bS,φe,hw,ih2,tA]
     ·have k4:v.2[m]≥v.2[m+1]:=by omega
      simp[k3,k4]
   ·have:n=v.2.length:=by omega
    subst this
    simp[ψY.l0,φ1c])
  hl 0 () (κ3 _) trivial
 have key:lp ψY.l0 (v,v.2,(v.2.length:Int),0)=_:=key
 rw[key,κC];rfl
theorem φMm (v:φP) (hl:v.2.length<2 ^ 62):lp ψ2X.l0 (v,0)=some (if φ1c (w64 (v.1 - 1)) none v.2=true then .inl () else .inr false):=by
 have key:=φh (step:=ψ2X.l0) (fun n (_:Unit)=>(v,(n:Int))) v.2.length (fun n _=>if φ1c (w64 (v.1 - 1)) (φ72 v.2 n) (v.2.drop n)=true then .inl () else .inr false) (fun _ _=>True)
  (fun rec n s hn' _ ih=>by
   rcases κ1 n v.2.length with h | h
   ·have hw:w64 ((n:Int)+1)=((n+1:Nat):Int):=φR (by omega)
    have ih2:=ih () h trivial
    rw[φ9I v.2 n h] at ih2
    rw[dG h]
    simp only[φ1c,ψ2X.l0,oL,h,dT,cT,φK,φN,φE h,bS,φ2g]
    rcases bE (decide (1≤v.2[n]∧v.2[n]≤w64 (v.1 - 1))) with k2 | k2
    rotate_left
    ·simp only[k2,nF,cT,bS,φn];simp
    simp only[k2,nZ,cF,tA]
    cases n with
    | zero=>
     have z:¬((0:Nat):Int) > 0:=by omega
     simp only[z,dF,cF,bS,φe,hw,ih2,φ72,tA]
    | succ m=>
     have z:((m+1:Nat):Int) > 0:=by omega
     have hm:m<v.2.length:=by omega
     have z2:w64 (((m+1:Nat):Int) - 1)=(m:Int):=by rw[φJ (by omega) (by omega)];omega
     rw[φ9I v.2 m hm]
     simp only[z,dT,cT,z2,φK,hm,φN,φE hm]
     by_cases k3:v.2[m]<v.2[m+1]
     ·have k4:¬v.2[m+1]≤v.2[m]:=by omega
      simp only[k3,k4,dT,dF,cF,bS,φe,hw,ih2,tA]
     ·have k4:v.2[m+1]≤v.2[m]:=by omega
      simp[k3,k4]
   ·have:n=v.2.length:=by omega
    subst this
    simp[ψ2X.l0,φ1c])
  hl 0 () (κ3 _) trivial
 have key:lp ψ2X.l0 (v,0)=_:=key
 rw[key,κC];rfl
theorem φ91 (v:φP) (hl:v.2.length<2 ^ 62):ψY.f v=some (φk v):=by
 unfold ψY.f φk
 rw[φOJ v hl,bS]
 rcases bE (φ1c (w64 (v.1 - 1)) none v.2) with k | k
 rotate_left
 ·simp[k]
 simp only[k,if_true,φe,φ1Y,bS,tA]
 cases decide (1≤v.1∧v.1≤100000)<;>rfl
theorem φ7v (v:φP) (hl:v.2.length<2 ^ 62):ψ2X.f v=some (φk v):=by
 unfold ψ2X.f φk
 rw[φMm v hl]
 simp only[φ2g,bS]
 rcases bE (decide (1≤v.1∧v.1≤100000)) with k | k
 rotate_left
 ·simp only[k,nF,cT,κD,Bool.and_false]
 rcases bE (decide (1≤(v.2.length:Int)∧(v.2.length:Int)≤60)) with k2 | k2
 rotate_left
 ·simp only[k,k2,nF,nZ,cF,cT,Bool.and_false]
 simp only[k,k2,nZ,cF,κK]
 cases φ1c (w64 (v.1 - 1)) none v.2<;>simp
theorem φ89 {v:φP} (h:φk v=true):v.2.length≤60:=by
 unfold φk at h
 simp only[bA,decide_eq_true_eq] at h
 omega
theorem φBK:∀l:List Int,((l.map varT).flatten).length≤7 * l.length
 | []=>by simp
 | x::l=>by
  have h1:=φBK l
  have h2:=φj x
  rw[κ5,List.flatten_cons,lA,lC];omega
def φl (v:φP):List UInt8:=if φk v=false then [] else frame (varT v.1++varT (v.2.length:Int)++(v.2.map varT).flatten)
theorem φ5O (v:φP):(φl v).length≤211:=by
 unfold φl;split
 ·simp
 ·exact φ52 _
theorem φMZ (v:φP) (hl:v.2.length<2 ^ 62):ψz.f v=some (φl v):=by
 unfold ψz.f φl
 rw[φ91 v hl,bS]
 rcases bE (φk v) with k | k
 rotate_left
 ·simp[k]
 have h60:=φ89 k
 have h1:=φBK v.2
 have h2:=φj v.1
 have h3:=φj (v.2.length:Int)
 have hv:ψ1v.f [v.1,(v.2.length:Int)]=some (varT v.1++varT (v.2.length:Int)):=by rw[φ73 [v.1,(v.2.length:Int)] (by show 2<1000000000000;decide)];simp
 simp only[k,nZ,cF,hv,bS,φ73 v.2 (by omega),φ1K (show (varT v.1++varT (v.2.length:Int)).length+((v.2.map varT).flatten).length≤1000000000000000 by rw[lA];omega),cT,φ9e _ (show (varT v.1++varT (v.2.length:Int)++(v.2.map varT).flatten).length<2 ^ 62 by rw[lA,lA];omega),κ8,if_false]
theorem φAh (v:φP) (hl:v.2.length<2 ^ 62):ψ2n.f v=some (φl v):=by
 unfold ψ2n.f φl
 rw[φ7v v hl,bS]
 rcases bE (φk v) with k | k
 rotate_left
 ·simp[k]
 have h60:=φ89 k
 have h1:=φBK v.2
 have h2:=φj v.1
 have h3:=φj (v.2.length:Int)
 have key:=φh (step:=ψ2n.l0) (fun n (acc:List UInt8)=>(v,acc,(n:Int))) v.2.length (fun n acc=>acc++((v.2.drop n).map varT).flatten) (fun n acc=>acc.length≤14+7 * n)
  (fun rec n acc hn ha ih=>by
   rcases κ1 n v.2.length with h | h
   ·have hv:=φj v.2[n]
    have hb:acc.length+(varT v.2[n]).length≤9223372036854775807:=by omega
    have ih:=ih (acc++varT v.2[n]) h (by rw[lA];omega)
    simp only[ψ2n.l0,oL,h,dT,cT,φK,φN,φE h,φ4r,bS,hb,φR (show n+1<9223372036854775808 by omega),ih]
    rw[dG h,κ5,List.flatten_cons,aA]
   ·have:n=v.2.length:=by omega
    subst this
    simp[ψ2n.l0])
  (by omega) 0 (varT v.1++varT (v.2.length:Int)) (κ3 _) (by rw[lA];omega)
 have key:lp ψ2n.l0 (v,varT v.1++varT (v.2.length:Int),0)=_:=key
 simp only[k,nZ,cF,φ4r,bS,φ1K (show (varT v.1).length+(varT (v.2.length:Int)).length≤1000000000000000 by omega),cT,key,κC,φ9J _ (show (varT v.1++varT (v.2.length:Int)++(v.2.map varT).flatten).length<2 ^ 62 by rw[lA,lA];omega),κ8,if_false]
def dl (k:Nat) (d:φ1):Prop:=d.1.length<k∧φH d.1<k∧∀f∈d.1,f.1.length<k
theorem φ1X {k:Nat} {d:φ1} (h:dl k d) (hk:k≤1000000000):dlim d:=⟨by have:=h.1;omega,by have:=h.2.1;omega,fun f hf=>by have:=h.2.2 f hf;omega⟩
theorem φ3Z {k m:Nat} {d:φ1} (h:dl k d) (hk:k≤m):dl m d:=⟨by have:=h.1;omega,by have:=h.2.1;omega,fun f hf=>by have:=h.2.2 f hf;omega⟩
theorem φ8o {k m:Nat} {d:φ1} {act:List φ4→Int×List φ4} (h:dl k d) (hm:k≤m) (ha:dl m ((act d.1).2,d.2)):dl m (φT d act).1:=by
 unfold φT
 split
 ·exact φ3Z h hm
 ·split
  ·exact φ3Z h hm
  ·exact ha
theorem φ6U {α:Type} (f:α→Nat) {a b:List α} (h:a.Sublist b):sumN f a≤sumN f b:=by
 induction h with
 | slnil=>exact κ6 _
 | cons x _ ih=>simp only[sumN];omega
 | cons_cons x _ ih=>simp only[sumN];omega
theorem φLf {k:Nat} {d:φ1} {l:List φ4} (h:dl k d) (hs:l.Sublist d.1):dl k (l,d.2):=
 ⟨Nat.lt_of_le_of_lt hs.length_le h.1,Nat.lt_of_le_of_lt (φ6U _ hs) h.2.1,fun f hf=>h.2.2 f (hs.subset hf)⟩
def φ3A (n:List UInt8) (d:φ1):φ1×Int:=φT d (φ2A n)
def φV (n:List UInt8) (d:φ1):φ1×Int:=φT d (φ2e n)
def φL (n t:List UInt8) (d:φ1):φ1×Int:=φT d (φ2S d.2.1 n t)
def φG (n:List UInt8) (d:φ1):φ1×Int:=φT d (φ29 n)
def φ2R (a b:List UInt8) (d:φ1):φ1×Int:=φT d (φ2B a b)
theorem φGK {k:Nat} {d:φ1} (h:dl k d) (n:List UInt8):dl k (φ3A n d).1:=
 φ8o h (κ6 _) (by
  unfold φ2A
  split
  ·exact φLf h (φ5Z _ _)
  ·exact h)
theorem φLa {k m:Nat} {d:φ1} (h:dl k d) (f:φ4) (h1:k+1≤m) (h2:k+f.2.1.length≤m) (h3:f.1.length<m):dl m (insB d.1 f,d.2):=by
 refine ⟨?_,?_,fun g hg=>?_⟩
 ·show (insB d.1 f).length<m
  rw[φ6e];have:=h.1;omega
 ·show φH (insB d.1 f)<m
  have e:φH (insB d.1 f)=φH d.1+f.2.1.length:=by
   unfold φH
   generalize d.1=l
   induction l with
   | nil=>simp[insB,sumN]
   | cons x l ih=>
    rw[φ62]
    split
    ·simp only[sumN,ih];omega
    ·simp only[sumN];omega
  rw[e];have:=h.2.1;omega
 ·rcases (φ3W g f d.1).1 hg with e | hg
  ·rw[e];exact h3
  ·have:=h.2.2 g hg;omega
theorem φ8E {k m:Nat} {d:φ1} (h:dl k d) (n:List UInt8) (h1:k+1≤m) (h3:n.length<m):dl m (φV n d).1:=
 φ8o h (by omega) (by
  unfold φ2e
  split
  ·exact φ3Z h (by omega)
  split
  ·exact φ3Z h (by omega)
  split
  ·exact φ3Z h (by omega)
  ·exact φLa h _ h1 (by simp;omega) h3)
theorem φIA (l:List φ4) (i:Nat) (f:φ4) (k:Nat) (hi:i<l.length) (hf:f.2.1.length≤l[i].2.1.length+k):φH (l.set i f)≤φH l+k:=by
 unfold φH
 induction l generalizing i with
 | nil=>simp at hi
 | cons x l ih=>
  cases i with
  | zero=>
   simp only[List.set_cons_zero,sumN]
   simp only[List.getElem_cons_zero] at hf
   omega
  | succ i=>
   simp only[List.set_cons_succ,sumN]
   have:=ih i (by simpa using hi) (by simpa using hf)
   omega
theorem φGb {k m c:Nat} {d:φ1} (h:dl k d) (i:Nat) (f:φ4) (hi:i<d.1.length) (hn:f.1=(d.1[i]).1) (hf:f.2.1.length≤d.1[i].2.1.length+c) (hm:k+c≤m):dl m (d.1.set i f,d.2):=by
 refine ⟨?_,?_,fun g hg=>?_⟩
 ·show (d.1.set i f).length<m
  rw[List.length_set];have:=h.1;omega
 ·show φH (d.1.set i f)<m
  have:=φIA d.1 i f c hi hf
  have:=h.2.1;omega
 ·rcases κc hg with hg | e
  ·have:=h.2.2 g hg;omega
  ·rw[e,hn];have:=h.2.2 _ (gM hi);omega
theorem φ8W {k m:Nat} {d:φ1} (h:dl k d) (n t:List UInt8) (h1:k+t.length≤m):dl m (φL n t d).1:=
 φ8o h (by omega) (by
  unfold φ2S
  rcases φv d.1 n with ⟨e,_⟩ | ⟨i,hi,e,_⟩
  ·rw[φ1D e];exact φ3Z h (by omega)
  ·rw[φ17 e]
   simp only
   split
   ·exact φ3Z h (by omega)
   ·rw[φE hi]
    exact φGb h i _ hi rfl (by simp) h1)
theorem φEu {k:Nat} {d:φ1} (h:dl k d) (n:List UInt8):dl k (φG n d).1:=
 φ8o h (κ6 _) (by
  unfold φ29
  rcases φv d.1 n with ⟨e,_⟩ | ⟨i,hi,e,_⟩
  ·rw[φ1D e];exact h
  ·rw[φ17 e]
   simp only
   rw[φE hi]
   exact φGb (c:=0) h i _ hi rfl (by simp) (κ6 _))
theorem φ7q (l:List φ4) (n:List UInt8):(φ1W l n).Sublist l:=by
 unfold φ1W;split
 ·exact φ5Z _ _
 ·exact List.Sublist.refl _
abbrev φD:=φ1×Int
def told (c:Int):Int:=if c=0 then 0 else if c=1 then 1 else if c=2 then 2 else 3
theorem φ1C (c:Int):told c=0↔c=0:=by
 unfold told;split
 ·simp[*]
 ·split
  ·simp[*]
  ·split
   ·simp[*]
   ·simp[*]
theorem φE9 (c:Int):ψ1s.f c=some (told c):=by
 unfold ψ1s.f told
 by_cases h0:c=0
 ·simp[h0]
 ·by_cases h1:c=1
  ·simp[h1]
  ·by_cases h2:c=2
   ·simp[h2]
   ·have b0:(c==0)=false:=by simpa using h0
    have b1:(c==1)=false:=by simpa using h1
    have b2:(c==2)=false:=by simpa using h2
    rw[b0,b1,b2];simp[h0,h1,h2]
theorem φ4g (c:Int):ψ2v.f c=some (told c):=φE9 c
def φ9 (op:φ1→φ1×Int) (w:φD):φD:=if w.2=0 then op w.1 else w
def φ1B (op:φ1→φ1×Int) (w:φD):φD:=if w.2=0 then ((op w.1).1,told (op w.1).2) else w
def φA (w:φD):φD:=(w.1,told w.2)
theorem φ2l (op:φ1→φ1×Int) (w:φD):φ1B op (φA w)=φA (φ9 op w):=by
 unfold φ1B φ9 φA
 by_cases h:w.2=0
 ·have h2:told w.2=0:=(φ1C _).2 h
  simp only[h2,if_true]
  rw[if_pos h]
 ·have h2:¬told w.2=0:=fun e=>h ((φ1C _).1 e)
  simp[h,h2]
def φB (n:List UInt8) (d:φ1):φ1×Int:=if φ1l d.1 n≥0 then φ3A n d else (d,0)
theorem φ9c {k:Nat} {d:φ1} (h:dl k d) (n:List UInt8):dl k (φB n d).1:=by
 unfold φB;split
 ·exact φGK h n
 ·exact h
theorem φ6a {k m:Nat} {w:φD} {op:φ1→φ1×Int} (h:dl k w.1) (hm:k≤m) (ho:dl m (op w.1).1):dl m (φ9 op w).1:=by
 unfold φ9;split
 ·exact ho
 ·exact φ3Z h hm
theorem φ5g {k m:Nat} {w:φD} {op:φ1→φ1×Int} (h:dl k w.1) (hm:k≤m) (ho:dl m (op w.1).1):dl m (φ1B op w).1:=by
 unfold φ1B;split
 ·exact ho
 ·exact φ3Z h hm
theorem φ6f (w:φD) (d:φ1) (c:Int):ψ2A.f w d c=some (d,told c):=by
 unfold ψ2A.f;rw[φE9];rfl
theorem φ50 (w:φD) (n:List UInt8) {k:Nat} (h:dl k w.1) (hk:k≤1000000000):ψ22.f w n=some (φ1B (φB n) w):=by
 have hd:=φ1X h hk
 unfold ψ22.f φ1B φB
 by_cases c:w.2=0
 ·have c1:(w.2==0)=true:=by simpa using c
  simp only[c1,cT,φ4b w.1 n (by have:=hd.1;omega),bS,φII w.1 n hd,φ6f]
  by_cases c2:φ1l w.1.1 n≥0
  ·simp only[c2,dT,cT,c,if_true];rfl
  ·simp only[c2,dF,cF,c,if_true,if_false]
   congr 1
   show w=(w.1,told 0)
   rw[show told 0=w.2 by rw[c];rfl]
 ·have c1:(w.2==0)=false:=by simpa using c
  simp[c,c1]
theorem φ8k (w:φD) (n:List UInt8) {k:Nat} (h:dl k w.1) (hk:k≤1000000000) (hn:n.length<2 ^ 62):ψ1y.f w n=some (φ1B (φV n) w):=by
 have hd:=φ1X h hk
 unfold ψ1y.f φ1B
 by_cases c:w.2=0
 ·have c1:(w.2==0)=true:=by simpa using c
  simp only[c1,cT,φNo w.1 n hd hn,bS,φ6f,c,if_true];rfl
 ·have c1:(w.2==0)=false:=by simpa using c
  simp[c,c1]
theorem φ9x (w:φD) (n t:List UInt8) {k:Nat} (h:dl k w.1) (hk:k≤1000000000) (ht:t.length<1000000000000):ψ25.f w n t=some (φ1B (φL n t) w):=by
 have hd:=φ1X h hk
 unfold ψ25.f φ1B
 by_cases c:w.2=0
 ·have c1:(w.2==0)=true:=by simpa using c
  simp only[c1,cT,φNM w.1 n t hd ht,bS,φ6f,c,if_true];rfl
 ·have c1:(w.2==0)=false:=by simpa using c
  simp[c,c1]
theorem φ7f (w:φD) (n:List UInt8) {k:Nat} (h:dl k w.1) (hk:k≤1000000000):ψ29.f w n=some (φ1B (φG n) w):=by
 have hd:=φ1X h hk
 unfold ψ29.f φ1B
 by_cases c:w.2=0
 ·have c1:(w.2==0)=true:=by simpa using c
  simp only[c1,cT,φJm w.1 n hd,bS,φ6f,c,if_true];rfl
 ·have c1:(w.2==0)=false:=by simpa using c
  simp[c,c1]
theorem φNI (w:φD) (a b:List UInt8) {k:Nat} (h:dl k w.1) (hk:k≤1000000000) (hb:b.length<2 ^ 62):ψ27.f w a b=some (φ1B (φ2R a b) w):=by
 have hd:=φ1X h hk
 unfold ψ27.f φ1B
 by_cases c:w.2=0
 ·have c1:(w.2==0)=true:=by simpa using c
  simp only[c1,cT,φLd w.1 a b hd hb,bS,φ6f,c,if_true];rfl
 ·have c1:(w.2==0)=false:=by simpa using c
  simp[c,c1]
def φ1Q (n t:List UInt8) (w:φD):φD:=φ9 (φG n) (φ9 (φL n t) (φ9 (φV n) (φ9 (φB n) w)))
def φ6D (n t:List UInt8) (w:φD):φD:=φ1B (φG n) (φ1B (φL n t) (φ1B (φV n) (φ1B (φB n) w)))
theorem φF1 (n t:List UInt8) (w:φD):φ6D n t (φA w)=φA (φ1Q n t w):=by
 unfold φ6D φ1Q
 rw[φ2l,φ2l,φ2l,φ2l]
theorem φLr {k m:Nat} {w:φD} (h:dl k w.1) (n t:List UInt8) (h1:k+1+n.length+t.length≤m):dl m (φ6D n t w).1:=by
 have g1:=φ5g (op:=φB n) h (κ6 _) (φ9c h n)
 have g2:=φ5g (op:=φV n) (m:=k+1+n.length) g1 (by omega) (φ8E g1 n (by omega) (by omega))
 have g3:=φ5g (op:=φL n t) (m:=m) g2 (by omega) (φ8W g2 n t (by omega))
 exact φ5g (op:=φG n) g3 (κ6 _) (φEu g3 n)
theorem φM2 {k m:Nat} {w:φD} (h:dl k w.1) (n t:List UInt8) (h1:k+1+n.length+t.length≤m):dl m (φ1Q n t w).1:=by
 have g1:=φ6a (op:=φB n) h (κ6 _) (φ9c h n)
 have g2:=φ6a (op:=φV n) (m:=k+1+n.length) g1 (by omega) (φ8E g1 n (by omega) (by omega))
 have g3:=φ6a (op:=φL n t) (m:=m) g2 (by omega) (φ8W g2 n t (by omega))
 exact φ6a (op:=φG n) g3 (κ6 _) (φEu g3 n)
theorem φFP (w:φD) (n t:List UInt8) {k:Nat} (h:dl k w.1) (hk:k+1+n.length+t.length≤1000000000):ψ1z.f w n t=some (φ6D n t w):=by
 have g1:=φ5g (op:=φB n) h (κ6 _) (φ9c h n)
 have g2:=φ5g (op:=φV n) (m:=k+1+n.length) g1 (by omega) (φ8E g1 n (by omega) (by omega))
 have g3:=φ5g (op:=φL n t) (m:=k+1+n.length+t.length) g2 (by omega) (φ8W g2 n t (by omega))
 unfold ψ1z.f ψ1w.f φ6D
 simp only[φ50 w n h (by omega),bS,φ8k _ n g1 (by omega) (by omega),φ9x _ n t g2 (by omega) (by omega),φ7f _ n g3 (by omega)]
theorem φ2o {op:φ1→φ1×Int} {d:φ1} {c:Int} (h:c≠0):φ9 op (d,c)=(d,c):=by
 unfold φ9;simp[h]
theorem φ2V {op:φ1→φ1×Int} {d:φ1}:φ9 op (d,0)=op d:=by
 unfold φ9;simp
theorem φHV (d:φ1) (n:List UInt8) {k:Nat} (h:dl k d) (hk:k≤1000000000) (hn:n.length<2 ^ 62):ψ2x.f d n=some (φ9 (φV n) (φB n d)):=by
 have hd:=φ1X h hk
 unfold ψ2x.f
 rw[φ4n d n (by have:=hd.1;omega),bS]
 by_cases c2:φ1l d.1 n≥0
 ·have e:φB n d=φ3A n d:=by unfold φB;simp[c2]
  have g:=φGK h n
  rw[e]
  have er:ψ2h.f d n=some (φ3A n d):=φEL d n hd
  simp only[c2,dT,cT,er,bS]
  generalize φ3A n d=r at *
  obtain ⟨x,c⟩:=r
  by_cases c3:c=0
  ·have c4:(c != 0)=false:=by simpa using c3
   subst c3
   rw[φ2V]
   simp only[c4,cF,bS,φe,φCq x n (φ1X g hk) hn];rfl
  ·have c4:(c != 0)=true:=by simpa using c3
   rw[φ2o c3]
   simp only[c4,cT,bS,φn]
 ·have e:φB n d=(d,0):=by unfold φB;simp[c2]
  rw[e,φ2V]
  simp only[c2,dF,cF,bS,φe,φCq d n hd hn];rfl
theorem φE5 (d:φ1) (n t:List UInt8) {k:Nat} (h:dl k d) (hk:k+1+n.length+t.length≤1000000000):ψ2w.f d n t=some (φ1Q n t (d,0)):=by
 have g1:=φ9c h n
 have g2:dl (k+1+n.length) (φ9 (φV n) (φB n d)).1:=φ6a (op:=φV n) g1 (by omega) (φ8E g1 n (by omega) (by omega))
 have g3:=φ6a (op:=φL n t) (m:=k+1+n.length+t.length) g2 (by omega) (φ8W g2 n t (by omega))
 unfold ψ2w.f φ1Q
 rw[φHV d n h (by omega) (by omega),bS,φ2V]
 generalize φ9 (φV n) (φB n d)=r at *
 obtain ⟨x,c⟩:=r
 have e2:(bif c==0 then (ψ2I.f x n t).bind fun (t2_0,t2_1)=>some (n,(([],0,0,false):φ1),t2_0,t2_1) else some (n,([],0,0,false),x,c))=some (n,([],0,0,false),(φ9 (φL n t) (x,c)).1,(φ9 (φL n t) (x,c)).2):=by
  by_cases c0:c=0
  ·subst c0
   rw[φ2V]
   simp only[show ((0:Int)==0)=true from rfl,cT,φAH x n t (φ1X g2 (by omega)) (by omega),bS];rfl
  ·have c1:(c==0)=false:=by simpa using c0
   rw[φ2o c0,c1];rfl
 simp only[e2,bS]
 generalize φ9 (φL n t) (x,c)=r at *
 obtain ⟨x,c⟩:=r
 by_cases c0:c=0
 ·subst c0
  rw[φ2V]
  simp only[show ((0:Int)==0)=true from rfl,cT,φHv x n (φ1X g3 (by omega)),bS];rfl
 ·have c1:(c==0)=false:=by simpa using c0
  rw[φ2o c0]
  simp only[c1,cF]
def sPut (v:φP) (w:φD):φD:=φ9 (φ2R [116,101,109,112] [108,105,118,101]) (φ1Q [116,101,109,112] (φl v) w)
def wPut (v:φP) (w:φD):φD:=φ1B (φ2R [116,101,109,112] [108,105,118,101]) (φ6D [116,101,109,112] (φl v) w)
theorem φBw (v:φP) (w:φD):wPut v (φA w)=φA (sPut v w):=by
 unfold wPut sPut
 rw[φF1,φ2l]
theorem φBk (w:φD) (v:φP) {k:Nat} (h:dl k w.1) (hk:k+1000≤1000000000) (hl:v.2.length<2 ^ 62):ψ26.f w v=some (wPut v w):=by
 have h1:=φ5O v
 have g:=φLr h [116,101,109,112] (φl v) (m:=k+1000) (by show k+1+4+_≤_;omega)
 unfold ψ26.f wPut
 simp only[φMZ v hl,bS,φFP w [116,101,109,112] (φl v) h (show k+1+4+(φl v).length≤1000000000 by omega),φNI _ [116,101,109,112] [108,105,118,101] g hk (by show 4<2 ^ 62;decide)]
def φBA (d:φ1) (v:φP):φ1×Int:=if φ3 d=false∨φk v=false then (d,4) else φA (sPut v (d,0))
theorem φKt (d:φ1) (v:φP) {k:Nat} (h:dl k d) (hk:k+1000≤1000000000) (hl:v.2.length<2 ^ 62):ψ2a.f d v=some (φBA d v):=by
 have hd:=φ1X h (by omega)
 have h1:=φ5O v
 unfold ψ2a.f φBA
 rw[φ9i d hd,bS]
 rcases bE (φ3 d) with k1 | k1
 rotate_left
 ·simp[k1,φ8g d (by have:=hd.1;omega)]
 rcases bE (φk v) with k2 | k2
 rotate_left
 ·simp[k1,k2,φ7v v hl,φ8g d (by have:=hd.1;omega)]
 have g:=φM2 (w:=(d,0)) h [116,101,109,112] (φl v) (m:=k+1000) (by show k+1+4+_≤_;omega)
 simp only[k1,k2,nZ,cF,φ7v v hl,φAh v hl,bS,φE5 d [116,101,109,112] (φl v) h (show k+1+4+(φl v).length≤1000000000 by omega),κ8,or_self,if_false]
 unfold sPut
 generalize φ1Q [116,101,109,112] (φl v) (d,0)=r at *
 obtain ⟨x,c⟩:=r
 by_cases c0:c=0
 ·subst c0
  rw[φ2V]
  simp only[show ((0:Int)==0)=true from rfl,cT,φNz x [116,101,109,112] [108,105,118,101] (φ1X g hk) (show 4<2 ^ 62 by decide),bS,φ4g];rfl
 ·have c1:(c==0)=false:=by simpa using c0
  rw[φ2o c0]
  simp only[c1,cF,bS,φ4g];rfl
abbrev φ6:=φP×List φC×Int×Int×Int
theorem φA9 (n:Nat):Lib.itoa (n:Int)=Lib.decDigits n:=by
 unfold Lib.itoa
 rw[if_neg (by omega),tN]
theorem φ5J:∀(k n:Nat),n<10 ^ (k+1)→(Lib.decDigits n).length≤k+1
 | 0,n,h=>by rw[Lib.decDigits,dif_pos (by simpa using h)];simp
 | k+1,n,h=>by
  rw[Lib.decDigits]
  split
  ·simp
  ·have:=φ5J k (n / 10) (by rw[Nat.div_lt_iff_lt_mul (by omega)];rw[κZ] at h;exact h)
   simp only[lA,κB];omega
def digs (n:Nat):List UInt8:=if n=0 then [] else Lib.decDigits n
theorem φ4L {n:Nat} (h:n≠0):digs n=digs (n / 10)++[UInt8.ofNat (48+n % 10)]:=by
 unfold digs
 rw[if_neg h,Lib.decDigits]
 split
 ·rename_i h2
  rw[if_pos (by omega),κb h2];rfl
 ·rename_i h2
  rw[if_neg (by omega)]
theorem φ8Q (n:Nat) (hn:n<1000000000000000000):ψ2L.f (n:Int)=some (Lib.decDigits n):=by
 unfold ψ2L.f
 by_cases c:n=0
 ·subst c
  rw[Lib.decDigits];rfl
 have c1:((n:Int)==0)=false:=by simpa using c
 have c2:decide ((n:Int)<0)=false:=dnn (by omega)
 have key:=φ7o (step:=ψ2L.l0) (a:=((n:Int),([]:List UInt8),false)) (fun a=>(digs a.1.toNat++a.2.1,false)) (fun a=>0≤a.1∧a.2.2=false∧a.2.1.length+a.1.toNat≤n) (fun a=>a.1.toNat)
  (fun rec a ha ih=>by
   obtain ⟨x,s,f⟩:=a
   obtain ⟨h0,hf,hl⟩:=ha
   simp only at hf hl h0 ih ⊢
   subst hf
   obtain ⟨m,rfl⟩:∃m:Nat,x=(m:Int):=⟨x.toNat,by omega⟩
   simp only[tN] at hl ih ⊢
   by_cases d:m=0
   ·subst d
    simp[ψ2L.l0,digs]
   ·have d1:((m:Int) != 0)=true:=by simpa using d
    have e1:Int.tmod (m:Int) 10=((m % 10:Nat):Int):=rfl
    have e2:w64 (Int.tdiv (m:Int) 10)=((m / 10:Nat):Int):=by
     rw[show Int.tdiv (m:Int) 10=((m / 10:Nat):Int) from rfl];exact φ3i (by omega)
    have e3:decide (((m % 10:Nat):Int)<0)=false:=dnn (by omega)
    have e4:φ1g [IntKind.wrap .u8 (w64 (48+((m % 10:Nat):Int)))]=[UInt8.ofNat (48+m % 10)]:=by
     have e:w64 (48+((m % 10:Nat):Int))=((48+m % 10:Nat):Int):=by rw[φJ (by omega) (by omega)];omega
     rw[e]
     unfold φ1g
     simp only[κ5,List.map_nil,φ7H]
    have hb:([UInt8.ofNat (48+m % 10)]:List UInt8).length+s.length≤9223372036854775807:=by show 1+_≤_;omega
    have ih:=ih (((m / 10:Nat):Int),[UInt8.ofNat (48+m % 10)]++s,false) ⟨by simp only;omega,rfl,by simp only[lA,κB,tN];omega⟩ (by simp only[tN];omega)
    simp only[tN] at ih
    simp only[ψ2L.l0,d1,cT,e1,e2,e3,cF,bS,e4,hb,dT,ih]
    rw[φ4L d,aA])
  ⟨by simp only;omega,rfl,by simp⟩ (by simp only[tN];omega)
 simp only[c1,c2,cF,key,bS,tN]
 unfold digs
 simp[c]
theorem φM3 (n:Nat) (hn:n<1000000000000000000):strconv_Itoa.f (n:Int)=some (Lib.decDigits n):=by
 unfold strconv_Itoa.f
 have c:(decide (-9223372036854775808≤(n:Int)) && decide ((n:Int)≤9223372036854775807))=true:=by simp;omega
 rw[c,φA9];rfl
def φ2C (word:List UInt8) (id:Int):List UInt8:=if 1≤id∧id≤100000 then word++Lib.decDigits id.toNat else []
def φ0 (id:Int):List UInt8:=φ2C [115,101,103] id
def φI (id:Int):List UInt8:=φ2C [104,105,110,116] id
theorem φFH (word:List UInt8) (id:Int) (hw:word.length≤100):ψ1Z.f word id=some (φ2C word id):=by
 unfold ψ1Z.f φ2C ψ6.f
 rw[φ1Y,bS]
 by_cases h:1≤id∧id≤100000
 ·obtain ⟨n,rfl⟩:∃n:Nat,id=(n:Int):=⟨id.toNat,by omega⟩
  have hl:=φ5J 5 n (by show n<1000000;omega)
  have hb:word.length+(Lib.decDigits n).length≤9223372036854775807:=by omega
  simp only[h,and_self,dT,nZ,cF,φM3 n (by omega),bS,hb,cT,if_true,tN]
 ·simp[h]
theorem φ3G (id:Int):ψx.f id=some (φ0 id):=by
 unfold ψx.f φ0
 rw[φFH [115,101,103] id (by show 3≤100;decide),bS]
theorem φ4h (id:Int):ψ2l.f id=some (φ0 id):=by
 unfold ψ2l.f φ0 φ2C
 rw[φ2g,bS]
 by_cases h:1≤id∧id≤100000
 ·obtain ⟨n,rfl⟩:∃n:Nat,id=(n:Int):=⟨id.toNat,by omega⟩
  have hl:=φ5J 5 n (by show n<1000000;omega)
  have hb:([115,101,103]:List UInt8).length+(Lib.decDigits n).length≤9223372036854775807:=by show 3+_≤_;omega
  simp only[h,and_self,dT,nZ,cF,φ8Q n (by omega),bS,hb,cT,if_true,tN]
 ·simp[h]
theorem φ4E (id:Int):(φ0 id).length≤9:=by
 unfold φ0 φ2C
 split
 ·have hl:=φ5J 5 id.toNat (by show _<1000000;omega)
  rw[lA];show 3+_≤9;omega
 ·simp
def φ2 (d:φ1) (n:List UInt8):List UInt8×Bool:=
 if φ3 d=false then ([],false) else
 match d.1.findIdx? (fun f=>f.1==n) with
 | some i=>((d.1.getD i ([],[],0)).2.1,true)
 | none=>([],false)
theorem φ4f (d:φ1) (n:List UInt8) (h:dlim d):ψO.f d n=some (φ2 d n):=by
 have hl:=h.1
 unfold ψO.f φ2
 rw[φ4b d n (by omega),bS,φ5e d h]
 rcases φv d.1 n with ⟨e,_⟩ | ⟨i,hi,e,_⟩
 ·rw[e,φ1D e];simp
 ·rw[e,φ17 e]
  rcases bE (φ3 d) with k | k
  ·simp only[dnn (show (0:Int)≤(i:Int) by omega),cF,bS,k,nZ,φ3z hi,cT,φ45 hi,φE hi,κ8,if_false]
  ·simp only[dnn (show (0:Int)≤(i:Int) by omega),cF,bS,k,nF,cT,if_true]
theorem φ9H (d:φ1) (n:List UInt8) (h:dlim d):ψ2Q.f d n=some (φ2 d n):=by
 have hl:=h.1
 unfold ψ2Q.f φ2
 rw[φ9i d h,bS,φ4n d n (by omega)]
 rcases bE (φ3 d) with k | k
 rotate_left
 ·simp[k]
 rcases φv d.1 n with ⟨e,_⟩ | ⟨i,hi,e,_⟩
 ·rw[e,φ1D e];simp[k]
 ·rw[e,φ17 e]
  simp only[dnn (show (0:Int)≤(i:Int) by omega),cF,bS,k,nZ,φ3z hi,cT,φ45 hi,φE hi,κ8,if_false]
theorem φ4e (d:φ1) (n:List UInt8) (h:dlim d):(φ2 d n).1.length≤φH d.1:=by
 unfold φ2
 split
 ·simp
 ·rcases φv d.1 n with ⟨e,_⟩ | ⟨i,hi,e,_⟩
  ·rw[φ1D e];simp
  ·rw[φ17 e]
   simp only[φE hi]
   exact φAM (gM hi)
def segN (d:φ1) (l:List Int):Nat:=sumN (fun id=>(φ2 d (φ0 id)).1.length) l
def varN (n:Nat):List UInt8:=vLow n++[UInt8.ofNat (vTop n)]
theorem φ4q (n:Nat) (h:n≤562949953421311):varT (n:Int)=varN n:=by
 unfold varT varN
 rw[if_pos (by omega),tN]
theorem φ5R {n:Nat} (h:n<128):varN n=[UInt8.ofNat n]:=by
 unfold varN
 rw[vLow,vTop,dif_pos h,dif_pos h];rfl
theorem φB8 {n:Nat} (h:¬n<128):varN n=UInt8.ofNat (128+n % 128)::varN (n / 128):=by
 unfold varN
 rw[vLow,vTop,dif_neg h,dif_neg h];rfl
theorem φ87 (k n:Nat) (h:n<128 ^ (k+1)):1≤(varN n).length∧(varN n).length≤k+1:=by
 have:=φ7t k n h
 unfold varN
 rw[lA,κB];omega
def rvT:Nat→Bool→List UInt8→Option (Nat×Nat)
 | 0,_,_=>none
 | _+1,_,[]=>none
 | f+1,first,x::r=>if x.toNat<128 then (if x.toNat=0∧first=false then none else some (x.toNat,1)) else (rvT f false r).map fun p=>(x.toNat % 128+128 * p.1,p.2+1)
theorem φFW:∀(f:Nat) (first:Bool) (s:List UInt8) (n k:Nat),rvT f first s=some (n,k)→(first=false→1≤n)
 | 0,_,_,_,_,h=>by simp[rvT] at h
 | f+1,_,[],_,_,h=>by simp[rvT] at h
 | f+1,first,x::r,n,k,h=>by
  intro hf
  unfold rvT at h
  split at h
  ·split at h
   ·simp at h
   ·rename_i h1 h2
    simp only[Option.some.injEq,Prod.mk.injEq] at h
    have:¬x.toNat=0:=fun e=>h2 ⟨e,hf⟩
    omega
  ·cases hr:rvT f false r with
   | none=>rw[hr] at h;simp at h
   | some p=>
    rw[hr] at h
    simp only[Option.map_some,Option.some.injEq,Prod.mk.injEq] at h
    have:=φFW f false r p.1 p.2 hr rfl
    omega
theorem φ4T:∀(f:Nat) (first:Bool) (s:List UInt8) (n k:Nat),rvT f first s=some (n,k)→1≤k∧k≤f∧k≤s.length∧s.take k=varN n∧n<128 ^ f
 | 0,_,_,_,_,h=>by simp[rvT] at h
 | f+1,_,[],_,_,h=>by simp[rvT] at h
 | f+1,first,x::r,n,k,h=>by
  have hx:=x.toNat_lt
  unfold rvT at h
  split at h
  ·rename_i h1
   split at h
   ·simp at h
   ·simp only[Option.some.injEq,Prod.mk.injEq] at h
    obtain ⟨rfl,rfl⟩:=h
    refine ⟨κ6 _,by omega,by simp,?_,?_⟩
    ·rw[φ5R h1];simp
    ·exact κG h1 (by rw[κZ];have:=Nat.pow_pos (n:=f) (show 0<128 by omega);omega)
  ·rename_i h1
   cases hr:rvT f false r with
   | none=>rw[hr] at h;simp at h
   | some p=>
    obtain ⟨m,j⟩:=p
    rw[hr] at h
    simp only[Option.map_some,Option.some.injEq,Prod.mk.injEq] at h
    obtain ⟨rfl,rfl⟩:=h
    obtain ⟨q1,q2,q3,q4,q5⟩:=φ4T f false r m j hr
    have hm:=φFW f false r m j hr rfl
    have hbig:¬x.toNat % 128+128 * m<128:=by omega
    refine ⟨by omega,by omega,by simp;omega,?_,?_⟩
    ·rw[φB8 hbig,List.take_succ_cons,q4]
     have e1:(x.toNat % 128+128 * m) % 128=x.toNat % 128:=by omega
     have e2:(x.toNat % 128+128 * m) / 128=m:=by omega
     have e3:128+x.toNat % 128=x.toNat:=by omega
     rw[e1,e2,e3];simp
    ·rw[κZ];omega
theorem φ8t:∀(f:Nat) (first:Bool) (n:Nat) (r:List UInt8),n<128 ^ f→(first=false→1≤n)→1≤f→rvT f first (varN n++r)=some (n,(varN n).length)
 | 0,_,_,_,_,_,h=>by omega
 | f+1,first,n,r,h,h1,_=>by
  by_cases c:n<128
  ·rw[φ5R c,List.singleton_append]
   unfold rvT
   have e:(UInt8.ofNat n).toNat=n:=by simp;omega
   rw[e,if_pos c,if_neg (by intro k;have:=h1 k.2;omega)];rfl
  ·rw[φB8 c,κF]
   unfold rvT
   have e:(UInt8.ofNat (128+n % 128)).toNat=128+n % 128:=by simp;omega
   have hf:1≤f:=by
    rcases Nat.eq_zero_or_pos f with k | k
    ·subst k;simp at h;omega
    ·exact k
   rw[e,if_neg (by omega),φ8t f false (n / 128) r (by rw[Nat.div_lt_iff_lt_mul (by omega)];rw[κZ] at h;exact h) (fun _=>by omega) hf]
   simp only[Option.map_some,lC]
   congr 2;omega
def decV (l:List UInt8):Nat:=l.foldr (fun x a=>x.toNat % 128+128 * a) 0
theorem φCP:∀(l:List UInt8),decV l<128 ^ l.length
 | []=>by simp[decV]
 | x::l=>by
  have:=φCP l
  show x.toNat % 128+128 * decV l<128 ^ (l.length+1)
  rw[κZ];omega
theorem φH2:∀(k n:Nat),n<128 ^ (k+1)→decV (varN n)=n
 | 0,n,h=>by
  have h:n<128:=by simpa using h
  rw[φ5R h]
  show (UInt8.ofNat n).toNat % 128+128 * 0=n
  have e:(UInt8.ofNat n).toNat=n:=by simp;omega
  rw[e];omega
 | k+1,n,h=>by
  by_cases c:n<128
  ·rw[φ5R c]
   show (UInt8.ofNat n).toNat % 128+128 * 0=n
   have e:(UInt8.ofNat n).toNat=n:=by simp;omega
   rw[e];omega
  ·rw[φB8 c]
   show (UInt8.ofNat (128+n % 128)).toNat % 128+128 * decV (varN (n / 128))=n
   have e:(UInt8.ofNat (128+n % 128)).toNat=128+n % 128:=by simp;omega
   rw[e,φH2 k (n / 128) (by rw[Nat.div_lt_iff_lt_mul (by omega)];rw[κZ] at h;exact h)]
   omega
def φy (s:List UInt8):Int×Int:=match rvT 7 true s with
 | some (n,k)=>((n:Int),(k:Int))
 | none=>(0,0)
theorem φ9y (s:List UInt8):φy s=(0,0)∨∃n k:Nat,rvT 7 true s=some (n,k)∧φy s=((n:Int),(k:Int))∧1≤k∧k≤7∧k≤s.length∧s.take k=varN n∧n<562949953421312:=by
 unfold φy
 cases h:rvT 7 true s with
 | none=>exact .inl rfl
 | some p=>
  obtain ⟨n,k⟩:=p
  obtain ⟨h1,h2,h3,h4,h5⟩:=φ4T 7 true s n k h
  exact .inr ⟨n,k,rfl,rfl,h1,h2,h3,h4,h5⟩
theorem φLM (s:List UInt8) (k4:Int) (k:Nat) (hk:k≤s.length) (h7:k≤7):lp ψ2e.l2 (s,k4,0,(k:Int) - 1)=some (s,k4,((decV (s.take k):Nat):Int)):=by
 have key:=φG4 (step:=ψ2e.l2) (fun n (a:Nat)=>(s,k4,(a:Int),(n:Int) - 1)) (fun n a=>(s,k4,((decV (s.take n)+128 ^ n * a:Nat):Int))) (fun n a=>n≤k∧a<128 ^ (k - n))
  (fun rec n a hi ih=>by
   obtain ⟨hn,ha⟩:=hi
   cases n with
   | zero=>
    simp[ψ2e.l2,decV]
   | succ n=>
    have h1:n<s.length:=by omega
    have e0:((n+1:Nat):Int) - 1=(n:Int):=by omega
    have c:(n:Int)≥0:=by omega
    have hx:=s[n].toNat_lt
    have hpow:(128:Nat) ^ (k - (n+1))≤128 ^ 7:=Nat.pow_le_pow_right (by omega) (by omega)
    have ha7:a<562949953421312:=κG ha hpow
    have ha6:a<128 ^ 6:=κG ha (Nat.pow_le_pow_right (by omega) (by omega))
    have ha6:a<4398046511104:=ha6
    have e1:w64 ((a:Int) * 128)=((a * 128:Nat):Int):=by rw[φJ (by omega) (by omega)];omega
    have e2:w64 (bAt s (n:Int))=((s[n].toNat:Nat):Int):=by rw[φ55 s n h1];exact φ3i (by omega)
    have e3:Int.tmod ((s[n].toNat:Nat):Int) 128=((s[n].toNat % 128:Nat):Int):=rfl
    have e4:w64 (((a * 128:Nat):Int)+((s[n].toNat % 128:Nat):Int))=((a * 128+s[n].toNat % 128:Nat):Int):=by rw[φJ (by omega) (by omega)];omega
    have e5:w64 ((n:Int) - 1)=(n:Int) - 1:=φJ (by omega) (by omega)
    have hlt:a * 128+s[n].toNat % 128<128 ^ (k - n):=by
     rw[show k - n=(k - (n+1))+1 by omega,κZ];omega
    have ih:=ih n (a * 128+s[n].toNat % 128) rfl ⟨by omega,hlt⟩
    simp only[ψ2e.l2,e0,c,dT,cT,φK,h1,e1,e2,e3,e4,e5,ih]
    congr 4
    rw[κ4 h1]
    have hd:decV (s.take n++[s[n]])=decV (s.take n)+128 ^ n * (s[n].toNat % 128):=by
     have gen:∀l:List UInt8,decV (l++[s[n]])=decV l+128 ^ l.length * (s[n].toNat % 128):=by
      intro l
      induction l with
      | nil=>simp[decV]
      | cons x l ih=>
       show x.toNat % 128+128 * decV (l++[s[n]])=x.toNat % 128+128 * decV l+128 ^ (l.length+1) * (s[n].toNat % 128)
       rw[ih,κZ,Nat.mul_add,Nat.mul_comm (128 ^ l.length) 128,Nat.mul_assoc];omega
     rw[gen,lT,Nat.min_eq_left (by omega)]
    rw[hd,κZ,Nat.mul_add]
    have:128 ^ n * (a * 128)=128 ^ n * 128 * a:=by rw[Nat.mul_assoc,Nat.mul_comm a 128]
    omega)
  k 0 (by omega) ⟨κ6 _,by simp⟩
 simpa using key
end Go.Rf.G
