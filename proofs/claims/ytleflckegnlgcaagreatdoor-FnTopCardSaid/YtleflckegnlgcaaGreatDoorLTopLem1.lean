import Derived.Test.YtleflckegnlgcaaGreatDoorRf5
import Derived.Test.YtleflckegnlgcaaGreatDoorLTopFns
open Option renaming bind_some→bS
open List renaming length_append→lA,append_assoc→aA,mem_cons_of_mem→mC,mem_append→mA,mem_append_right→mR,mem_append_left→mL,mem_cons→mc,drop_eq_getElem_cons→dG,length_take→lT,length_drop→lD,mem_map→mM,length_map→lM,length_cons→lC,length_nil→lN,getElem_mem→gM,map_append→mp,mem_singleton→mZ,mem_cons_self→κ0,take_succ_eq_append_getElem→κ1,map_cons→κ5,append_nil→κ7,nil_append→κ8,length_singleton→κA,drop_zero→κC,take_append_drop→κE,cons_append→κF,replicate→κH,flatMap_append→κJ,foldl_cons→κL,nodup_append→κM,take_length→κN,drop_left→κQ,all_eq_true→κR,nodup_cons→κS,range'→κT,foldl_append→κX,pairwise_cons→κY,mem_or_eq_of_mem_set→κc,pairwise_append→κd,mem_of_mem_take→κe
open Bool renaming and_eq_true→bA,eq_false_or_eq_true→bE,not_true→nZ,not_false→nF,true_and→tA,not_not→nn,false_eq_true→κ3,true_eq_false→κ9,false_and→κD,or_eq_false_iff→κI,not_eq_true'→κO,and_true→κP,false_or→κU,or_eq_true→κW
open Int renaming toNat_natCast→tN,ofNat_lt→oL,le_refl→κK
open Nat renaming lt_or_ge→κ2,zero_le→κ4,le_refl→κ6,eq_of_beq_eq_true→κB,lt_of_lt_of_le→κG,zero_add→κV,pow_succ→κZ,mod_eq_of_lt→κb,le_trans→κf
open Array renaming length_toList→κa
set_option linter.unusedVariables false
set_option linter.unusedSimpArgs false
namespace Go.Rf.G
open Go Go.Rf
set_option synthInstance.maxSize 4000
theorem φF1 {A B:Type} {step:(A→Option B)→A→Option B} {F:A→B} {P:A→Prop} {m:A→Nat}
  (h:∀rec a,P a→(∀a',P a'→m a'<m a→rec a'=some (F a'))→step rec a=some (F a)):∀n a,P a→m a<n→φ38 step n a=some (F a)
 | 0,_,_,hn=>by omega
 | n+1,a,hp,hn=>h (φ38 step n) a hp fun a' hp' hlt=>φF1 h n a' hp' (by omega)
theorem φ73 {A B:Type} {step:(A→Option B)→A→Option B} (F:A→B) (P:A→Prop) (m:A→Nat)
  (h:∀rec a,P a→(∀a',P a'→m a'<m a→rec a'=some (F a'))→step rec a=some (F a)) {a:A} (hp:P a) (hm:m a<2 ^ 62):lp step a=some (F a):=
 φF1 h FUEL a hp (κG hm φ6u)
theorem φg {A B σ:Type} {step:(A→Option B)→A→Option B} (st:Nat→σ→A) (N:Nat) (F:Nat→σ→B) (Inv:Nat→σ→Prop)
  (h:∀rec n s,n≤N→Inv n s→(∀s',n<N→Inv (n+1) s'→rec (st (n+1) s')=some (F (n+1) s'))→step rec (st n s)=some (F n s))
  (hN:N<2 ^ 62):∀n s,n≤N→Inv n s→lp step (st n s)=some (F n s):=by
 have key:∀k f n s,n≤N→Inv n s→N - n=k→k<f→φ38 step f (st n s)=some (F n s):=by
  intro k
  induction k with
  | zero=>
   intro f n s hn hi hk hf
   obtain ⟨f,rfl⟩:∃g,f=g+1:=⟨f - 1,by omega⟩
   exact h _ n s hn hi fun s' hlt=>by omega
  | succ k ih=>
   intro f n s hn hi hk hf
   obtain ⟨f,rfl⟩:∃g,f=g+1:=⟨f - 1,by omega⟩
   exact h _ n s hn hi fun s' hlt hi'=>ih f (n+1) s' hlt hi' (by omega) (by omega)
 intro n s hn hi
 exact key (N - n) FUEL n s hn hi rfl (κG (by omega) φ6u)
@[simp] theorem φF (n m:Nat):inB (n:Int) m=decide (n<m):=by
 unfold inB
 by_cases h:n<m<;>simp[h,Int.natCast_nonneg]
@[simp] theorem φJ {α:Type} (z:α) (xs:List α) (n:Nat):rdA z xs (n:Int)=xs.getD n z:=rfl
theorem φI {n:Int} (h1:-9223372036854775808≤n) (h2:n<9223372036854775808):w64 n=n:=by
 unfold w64 IntKind.wrap
 simp only[IntKind.bits,IntKind.signed]
 by_cases h:n % 2 ^ 64≥2 ^ 63<;>simp[h]<;>omega
theorem φ3h {n:Nat} (h:n<9223372036854775808):w64 (n:Int)=n:=φI (by omega) (by omega)
theorem φM {n:Nat} (h:n+1<9223372036854775808):w64 ((n:Int)+1)=((n+1:Nat):Int):=by
 rw[φI (by omega) (by omega)];omega
theorem φ9 {α:Type} {xs:List α} {z:α} {n:Nat} (h:n<xs.length):xs.getD n z=xs[n]:=by simp[List.getD,h]
theorem φ9O {α:Type} {a b:List α} {n:Nat} (h1:n<a.length) (h2:n<b.length):a.drop n=b.drop n↔a[n]=b[n]∧a.drop (n+1)=b.drop (n+1):=by
 rw[dG h1,dG h2,List.cons.injEq]
def sumN {α:Type} (f:α→Nat):List α→Nat
 | []=>0
 | x::r=>f x+sumN f r
theorem φAj {α:Type} (f:α→Nat) {l:List α} {n:Nat} (h:n<l.length):sumN f (l.drop n)=f l[n]+sumN f (l.drop (n+1)):=by
 rw[dG h];rfl
theorem φE2 {α:Type} (f:α→Nat):∀{l:List α} {x:α},x∈l→f x≤sumN f l
 | y::l,x,h=>by
  rcases mc.1 h with k | k
  ·subst k;exact Nat.le_add_right _ _
  ·exact κf (φE2 f k) (Nat.le_add_left _ _)
theorem φDj {X:Type} [DecidableEq X] {step:(List X×List X×Int→Option (Unit ⊕ Bool))→List X×List X×Int→Option (Unit ⊕ Bool)} (a b:List X) (hl:a.length=b.length) (ha:a.length<2 ^ 62)
  (hs:∀rec (n:Nat),(h1:n<a.length)→(h2:n<b.length)→step rec (a,b,(n:Int))=if a[n]=b[n] then rec (a,b,((n+1:Nat):Int)) else some (.inr false))
  (he:∀rec,step rec (a,b,(a.length:Int))=some (.inl ())):lp step (a,b,0)=some (if a=b then .inl () else .inr false):=by
 have:=φg (step:=step) (fun n (_:Unit)=>(a,b,(n:Int))) a.length (fun n _=>if a.drop n=b.drop n then .inl () else .inr false) (fun _ _=>True)
  (fun rec n s hn _ ih=>by
   rcases κ2 n a.length with h | h
   ·rw[hs rec n h (by omega),ih () h trivial]
    by_cases hc:a[n]=b[n]
    ·rw[if_pos hc];simp only[φ9O h (by omega:n<b.length),hc,true_and]
    ·rw[if_neg hc,if_neg fun k=>hc ((φ9O h (by omega)).1 k).1]
   ·have:n=a.length:=by omega
    subst this
    rw[he]
    simp[hl])
  ha 0 () (κ4 _) trivial
 simpa using this
def φBR {X:Type} (mk:Int→X→X) (c:Nat):List X→Int→List X
 | [],_=>[]
 | x::r,k=>mk k x::φBR mk c r (k+c)
@[simp] theorem φIz {X:Type} (mk:Int→X→X) (c:Nat):∀(l:List X) (k:Int),(φBR mk c l k).length=l.length
 | [],_=>rfl
 | x::r,k=>by simp[φBR,φIz mk c r]
theorem φ3z {X A B:Type} {step:(A→Option (B ⊕ Bool))→A→Option (B ⊕ Bool)} (l:List X) (f:X→Bool) (st:Nat→A) (b:B) (hl:l.length<2 ^ 62)
  (hs:∀rec n,(h:n<l.length)→step rec (st n)=if f l[n]=true then rec (st (n+1)) else some (.inr false))
  (he:∀rec,step rec (st l.length)=some (.inl b)):lp step (st 0)=some (if l.all f=true then .inl b else .inr false):=by
 have:=φg (step:=step) (fun n (_:Unit)=>st n) l.length (fun n _=>if (l.drop n).all f=true then .inl b else .inr false) (fun _ _=>True)
  (fun rec n s hn _ ih=>by
   rcases κ2 n l.length with h | h
   ·rw[hs rec n h,ih () h trivial,dG h,List.all_cons]
    cases f l[n]<;>simp
   ·have:n=l.length:=by omega
    subst this
    rw[he];simp) hl 0 () (κ4 _) trivial
 simpa using this
theorem φ9m {X A B C:Type} {step:(A→Option (B ⊕ C))→A→Option (B ⊕ C)} (l:List X) (f:X→Bool) (r:X→C) (st:Nat→A) (b:B) (hl:l.length<2 ^ 62)
  (hs:∀rec n,(h:n<l.length)→step rec (st n)=if f l[n]=true then some (.inr (r l[n])) else rec (st (n+1)))
  (he:∀rec,step rec (st l.length)=some (.inl b)):lp step (st 0)=some (match l.find? f with | some x=>.inr (r x) | none=>.inl b):=by
 have:=φg (step:=step) (fun n (_:Unit)=>st n) l.length (fun n _=>match (l.drop n).find? f with | some x=>.inr (r x) | none=>.inl b) (fun _ _=>True)
  (fun rec n s hn _ ih=>by
   rcases κ2 n l.length with h | h
   ·rw[hs rec n h,ih () h trivial,dG h,List.find?_cons]
    cases hf:f l[n]<;>simp
   ·have:n=l.length:=by omega
    subst this
    rw[he];simp) hl 0 () (κ4 _) trivial
 simpa using this
theorem φ3M {X A B S:Type} {step:(A→Option B)→A→Option B} (l:List X) (g:S→X→S) (st:Nat→S→A) (out:S→B) (Inv:Nat→S→Prop) (hl:l.length<2 ^ 62)
  (hs:∀rec n s,(h:n<l.length)→Inv n s→step rec (st n s)=rec (st (n+1) (g s l[n])))
  (hi:∀n s,(h:n<l.length)→Inv n s→Inv (n+1) (g s l[n]))
  (he:∀rec s,Inv l.length s→step rec (st l.length s)=some (out s)) (s:S) (h0:Inv 0 s):lp step (st 0 s)=some (out (l.foldl g s)):=by
 have:=φg (step:=step) st l.length (fun n s=>out ((l.drop n).foldl g s)) Inv
  (fun rec n s hn hv ih=>by
   rcases κ2 n l.length with h | h
   ·rw[hs rec n s h hv,ih _ h (hi n s h hv),dG h];rfl
   ·have:n=l.length:=by omega
    subst this
    rw[he rec s hv];simp) hl 0 s (κ4 _) h0
 simpa using this
theorem φDP {A B σ:Type} {step:(A→Option B)→A→Option B} (st:Nat→σ→A) (F:Nat→σ→B) (Inv:Nat→σ→Prop)
  (h:∀rec n s,Inv n s→(∀m s',n=m+1→Inv m s'→rec (st m s')=some (F m s'))→step rec (st n s)=some (F n s)):∀n s,n<2 ^ 62→Inv n s→lp step (st n s)=some (F n s):=by
 have key:∀n f s,n<f→Inv n s→φ38 step f (st n s)=some (F n s):=by
  intro n
  induction n with
  | zero=>
   intro f s hf hi
   obtain ⟨f,rfl⟩:∃g,f=g+1:=⟨f - 1,by omega⟩
   exact h _ 0 s hi fun m s' he=>by omega
  | succ n ih=>
   intro f s hf hi
   obtain ⟨f,rfl⟩:∃g,f=g+1:=⟨f - 1,by omega⟩
   exact h _ (n+1) s hi fun m s' he hi'=>by
    have:m=n:=by omega
    subst this
    exact ih f s' (by omega) hi'
 intro n s hn hi
 exact key n FUEL s (κG hn φ6u) hi
theorem φMX {X A B C:Type} {step:(A→Option (B ⊕ C))→A→Option (B ⊕ C)} (l:List X) (f:X→Bool) (r:X→C) (st:Nat→A) (b:B) (hl:l.length<2 ^ 62)
  (hs:∀rec n,(h:n<l.length)→step rec (st (n+1))=if f l[n]=true then some (.inr (r l[n])) else rec (st n))
  (he:∀rec,step rec (st 0)=some (.inl b)):lp step (st l.length)=some (match l.reverse.find? f with | some x=>.inr (r x) | none=>.inl b):=by
 have:=φDP (step:=step) (fun n (_:Unit)=>st n) (fun n _=>match (l.take n).reverse.find? f with | some x=>.inr (r x) | none=>.inl b) (fun n _=>n≤l.length)
  (fun rec n s hn ih=>by
   cases n with
   | zero=>rw[he];simp
   | succ n=>
    have h:n<l.length:=hn
    rw[hs rec n h,ih n () rfl (by omega),κ1 h,List.reverse_append]
    simp only[List.reverse_cons,List.reverse_nil,κ8,κF,List.find?_cons]
    cases hf:f l[n]<;>simp) l.length () hl (κ6 _)
 simpa using this
@[simp] theorem φf {A B C:Type} (a:A) (f:A→C) (g:B→C):φV (.inl a) f g=f a:=rfl
@[simp] theorem φp {A B C:Type} (b:B) (f:A→C) (g:B→C):φV (.inr b) f g=g b:=rfl
theorem φ1m {A B:Type} (p:A×B):(p.1,p.2)=p:=rfl
theorem φMt {α:Type} {z:α} {r:List α} {n:Nat} {v:α} (h:n<r.length):rdA z (r.set n v) (n:Int)=v:=by simp[List.getD,h]
theorem φJo {A B C:Type} [BEq A] [BEq B] [BEq C] [LawfulBEq A] [LawfulBEq B] [LawfulBEq C] [DecidableEq (A×B×C)] (x y:A×B×C):(x.1==y.1 && (x.2.1==y.2.1 && x.2.2==y.2.2))=decide (x=y):=by
 obtain ⟨a,b,c⟩:=x
 obtain ⟨d,e,f⟩:=y
 by_cases h1:a=d
 ·by_cases h2:b=e
  ·by_cases h3:c=f
   ·simp[h1,h2,h3]
   ·have:(c==f)=false:=by simpa using h3
    simp[h1,h2,h3,this]
  ·have:(b==e)=false:=by simpa using h2
   simp[h1,h2,this]
 ·have:(a==d)=false:=by simpa using h1
  simp[h1,this]
theorem φ6J {a b:Nat} (h:a≠b):((a:Int) != (b:Int))=true:=by
 have:(a:Int)≠(b:Int):=by omega
 simpa using this
theorem φ61 {a b:Nat} (h:a=b):((a:Int) != (b:Int))=false:=by simp[h]
theorem φEB {β:Type} {P:Prop} [Decidable P] (a b:β):(bif !decide P then a else b)=if P then b else a:=by
 by_cases h:P<;>simp[h]
theorem φId (a b:List (List UInt8×List UInt8×Int)) (ha:a.length<2 ^ 62):ψ2t.f a b=some (decide (a=b)):=by
 unfold ψ2t.f
 by_cases hl:a.length=b.length
 rotate_left
 ·have:a≠b:=fun h=>hl (by rw[h])
  rw[φ6J hl];simp[this]
 rw[φ61 hl,cF,φDj a b hl ha (fun rec n h1 h2=>?_) (fun rec=>?_)]
 ·by_cases e:a=b<;>simp[e]
 ·simp only[ψ2t.l0,oL,h1,h2,dT,cT,φF,φJ,φ9 h1,φ9 h2,φM (show n+1<9223372036854775808 by omega),φJo,φEB]
 ·simp[ψ2t.l0]
theorem φ1a (n a b:Int):ψ1X.f n a b=some (decide (a≤n∧n≤b)):=by
 unfold ψ1X.f
 by_cases h:a≤n
 ·have h2:n≥a:=h
  simp[h,h2]
 ·have h2:¬n≥a:=h
  simp[h,h2]
theorem φ2J (n a b:Int):ψ3S.f n a b=some (decide (a≤n∧n≤b)):=φ1a n a b
def φ1E (s:List UInt8):Bool:=decide (1≤s.length∧s.length≤8)
theorem φ6O (s:List UInt8):ψY.f s=some (φ1E s):=by
 unfold ψY.f φ1E
 rw[φ1a,bS]
 congr 1
 apply decide_eq_decide.2
 omega
theorem φ7s (s:List UInt8):ψ2Z.f s=some (φ1E s):=φ6O s
def φ1h (p:List UInt8×Bool×List UInt8):Bool:=φ1E p.1 && (decide (p.2.2.length≤24) && (!p.2.1 || p.2.2==[]))
theorem φBb (p:List UInt8×Bool×List UInt8):ψ1g.f p=some (φ1h p):=by
 unfold ψ1g.f φ1h
 rw[φ6O,bS]
 cases φ1E p.1
 ·rfl
 ·have:decide ((p.2.2.length:Int)≤24)=decide (p.2.2.length≤24):=decide_eq_decide.2 (by omega)
  rw[this]
  cases decide (p.2.2.length≤24)
  ·rfl
  ·cases p.2.1<;>rfl
def φ1k (l:List (List UInt8×Bool×List UInt8)):Bool:=decide (l.length≤8) && l.all φ1h
theorem φJy (l:List (List UInt8×Bool×List UInt8)) (hl:l.length<2 ^ 62):ψh.f l=some (φ1k l):=by
 have key:=φ3z (step:=ψh.l0) l φ1h (fun n=>(l,l,(l.length:Int),(n:Int))) l hl
  (fun rec n h=>by
   simp only[ψh.l0,oL,h,dT,cT,φF,φJ,φ9 h,φ1m,φBb,bS,φM (show n+1<9223372036854775808 by omega)]
   cases φ1h l[n]<;>simp)
  (fun rec=>by simp[ψh.l0])
 have key:lp ψh.l0 (l,l,(l.length:Int),0)=_:=key
 unfold ψh.f φ1k
 rw[key,bS]
 have:decide ((l.length:Int)≤8)=decide (l.length≤8):=decide_eq_decide.2 (by omega)
 cases h:l.all φ1h<;>simp[this]
theorem φID (l:List (List UInt8×Bool×List UInt8)) (hl:l.length<2 ^ 62):ψ2j.f l=some (φ1k l):=by
 unfold ψ2j.f φ1k
 by_cases h8:l.length≤8
 rotate_left
 ·have:(l.length:Int) > 8:=by omega
  simp[this,h8]
 have h9:¬(l.length:Int) > 8:=by omega
 have key:=φ3z (step:=ψ2j.l0) l φ1h (fun n=>(l,(n:Int))) () hl
  (fun rec n h=>by
   simp only[ψ2j.l0,oL,h,dT,cT,φF,φJ,φ9 h,φ1m,φ7s,bS,φM (show n+1<9223372036854775808 by omega),φ1h]
   have hw:w64 ((n:Int)+1)=(n:Int)+1:=φI (by omega) (by omega)
   rcases bE (φ1E l[n].1) with hko | hko
   rotate_left
   ·simp[hko]
   ·by_cases h24:l[n].2.2.length≤24
    ·have:¬(l[n].2.2.length:Int) > 24:=by omega
     rcases bE l[n].2.1 with hd | hd
     ·rcases bE (l[n].2.2==[]) with he | he<;>simp[this,h24,hd,he,hko,hw]
     ·simp[this,h24,hd,hko,hw]
    ·have:(l[n].2.2.length:Int) > 24:=by omega
     simp[this,h24,hko])
  (fun rec=>by simp[ψ2j.l0])
 have key:lp ψ2j.l0 (l,0)=_:=key
 rw[key]
 cases h:l.all φ1h<;>simp[h8,h9]
def φ56 (l:List (List UInt8×Bool×List UInt8)) (key:List UInt8):Option (List UInt8×Bool×List UInt8):=l.reverse.find? fun p=>p.1==key
def ownW (l:List (List UInt8×Bool×List UInt8)) (key:List UInt8):(List UInt8×Bool×List UInt8)×Bool:=
 match φ56 l key with
 | some p=>(p,true)
 | none=>(([],false,[]),false)
theorem φEA (t:Bool×List (List UInt8×Int)×List (List UInt8×Bool×List UInt8)) (key:List UInt8) (hl:t.2.2.length<2 ^ 62):ψf.f t key=some (ownW t.2.2 key):=by
 have hk:=φMX (step:=ψf.l0) t.2.2 (fun p=>p.1==key) (fun p=>(p,true)) (fun n=>(key,t,([],false,[]),(n:Int) - 1)) ([],false,[]) hl
  (fun rec n h=>by
   have e:((n+1:Nat):Int) - 1=(n:Int):=by omega
   have e2:w64 ((n:Int) - 1)=(n:Int) - 1:=φI (by omega) (by omega)
   have e3:(n:Int)≥0:=by omega
   simp only[e,ψf.l0,e3,dT,cT,φF,φJ,h,φ9 h,e2,φ1m]
   cases h2:(t.2.2[n].1==key)<;>simp)
  (fun rec=>by simp[ψf.l0])
 unfold ψf.f ownW φ56
 rw[φI (by omega) (by omega)]
 simp only[]
 rw[hk,bS]
 cases List.find? (fun p=>p.1==key) t.2.2.reverse<;>rfl
theorem φG4 (t:Bool×List (List UInt8×Int)×List (List UInt8×Bool×List UInt8)) (key:List UInt8) (hl:t.2.2.length<2 ^ 62):ψ2h.f t key=some (ownW t.2.2 key):=φEA t key hl
theorem φIk (a b:Int×List UInt8×List (List UInt8)) (ha:a.2.2.length<2 ^ 62):ψ3P.f a b=some (decide (a=b)):=by
 obtain ⟨a0,a1,a2⟩:=a
 obtain ⟨b0,b1,b2⟩:=b
 have ha:a2.length<2 ^ 62:=ha
 unfold ψ3P.f
 by_cases e0:a0=b0
 rotate_left
 ·have d3:(a0 != b0)=true:=by simpa using e0
  simp[e0,d3]
 by_cases e1:a1=b1
 rotate_left
 ·have d2:(a1==b1)=false:=by simpa using e1
  simp[e0,e1,d2]
 subst e0;subst e1
 by_cases hl:a2.length=b2.length
 rotate_left
 ·have:a2≠b2:=fun h=>hl (by rw[h])
  simp[φ6J hl,this]
 have key:=φg (step:=ψ3P.l0) (fun n (_:Unit)=>((a0,a1,a2),(a0,a1,b2),(n:Int))) a2.length (fun n _=>if a2.drop n=b2.drop n then .inl () else .inr false) (fun _ _=>True)
  (fun rec n s hn _ ih=>by
   rcases κ2 n a2.length with h | h
   ·have h2:n<b2.length:=by omega
    simp only[ψ3P.l0,oL,h,h2,dT,cT,φF,φJ,φ9 h,φ9 h2,φM (show n+1<9223372036854775808 by omega)]
    rw[ih () h trivial]
    by_cases hc:a2[n]=b2[n]
    ·simp only[φ9O h h2,hc,true_and];simp
    ·have d2:(a2[n]==b2[n])=false:=by simpa using hc
     rw[if_neg fun k=>hc ((φ9O h h2).1 k).1];simp[d2]
   ·have:n=a2.length:=by omega
    subst this
    simp[ψ3P.l0,hl])
  ha 0 () (κ4 _) trivial
 have key:lp ψ3P.l0 ((a0,a1,a2),(a0,a1,b2),0)=_:=key
 simp only[bne_self_eq_false,cF,beq_self_eq_true,nZ,φ61 hl,key]
 by_cases e:a2=b2<;>simp[e]
theorem φOC (a b:List (Int×List UInt8×List (List UInt8))) (ha:a.length<2 ^ 62) (hx:∀x∈a,x.2.2.length<2 ^ 62):ψ2s.f a b=some (decide (a=b)):=by
 unfold ψ2s.f
 by_cases hl:a.length=b.length
 rotate_left
 ·have:a≠b:=fun h=>hl (by rw[h])
  rw[φ6J hl];simp[this]
 rw[φ61 hl,cF,φDj a b hl ha (fun rec n h1 h2=>?_) (fun rec=>?_)]
 ·by_cases e:a=b<;>simp[e]
 ·simp only[ψ2s.l0,oL,h1,h2,dT,cT,φF,φJ,φ9 h1,φ9 h2,φM (show n+1<9223372036854775808 by omega),φ1m,φIk _ _ (hx a[n] (gM h1)),bS,φEB]
 ·simp[ψ2s.l0]
abbrev PutT:=List UInt8×Bool×List UInt8
abbrev φX:=List UInt8×List UInt8×Int
abbrev φC:=List UInt8×Int×Int×Int×Int
abbrev TxnT:=Bool×List (List UInt8×Int)×List (List UInt8×Bool×List UInt8)
def φ1s (l:List φC) (key:List UInt8):φC×Bool:=
 match l.find? (fun e=>e.1==key) with
 | some e=>(e,true)
 | none=>(([],0,0,0,0),false)
theorem φCw (l:List φC) (key:List UInt8) (hl:l.length<2 ^ 62):ψ8.f l key=some (φ1s l key):=by
 have hk:=φ9m (step:=ψ8.l0) l (fun e=>e.1==key) (fun e=>(e,true)) (fun n=>(key,([],0,0,0,0),l,(l.length:Int),(n:Int))) ([],0,0,0,0) hl
  (fun rec n h=>by
   simp only[ψ8.l0,oL,h,dT,cT,φF,φJ,φ9 h,φ1m,φM (show n+1<9223372036854775808 by omega)]
   cases l[n].1==key<;>simp)
  (fun rec=>by simp[ψ8.l0])
 have hk:lp ψ8.l0 (key,([],0,0,0,0),l,(l.length:Int),0)=_:=hk
 unfold ψ8.f φ1s
 rw[hk,bS]
 cases List.find? (fun e=>e.1==key) l<;>rfl
theorem φGX (l:List φC) (key:List UInt8) (hl:l.length<2 ^ 62):ψ2M.f l key=some (φ1s l key):=by
 have hk:=φ9m (step:=ψ2M.l0) l (fun e=>e.1==key) (fun e=>(e,true)) (fun n=>(l,key,([],0,0,0,0),(n:Int))) ([],0,0,0,0) hl
  (fun rec n h=>by
   simp only[ψ2M.l0,oL,h,dT,cT,φF,φJ,φ9 h,φ1m,φM (show n+1<9223372036854775808 by omega)]
   cases l[n].1==key<;>simp)
  (fun rec=>by simp[ψ2M.l0])
 have hk:lp ψ2M.l0 (l,key,([],0,0,0,0),0)=_:=hk
 unfold ψ2M.f φ1s
 rw[hk,bS]
 cases List.find? (fun e=>e.1==key) l<;>rfl
def φ36 (t:TxnT) (dir:List φC):Bool:=t.2.1.all fun r=>(φ1s dir r.1).1.2.2.2.2==r.2
theorem φNL (t:TxnT) (dir:List φC) (h1:t.2.1.length<2 ^ 62) (h2:dir.length<2 ^ 62):ψ1G.f t dir=some (φ36 t dir):=by
 have hk:=φ3z (step:=ψ1G.l0) t.2.1 (fun r=>(φ1s dir r.1).1.2.2.2.2==r.2) (fun n=>(dir,t.2.1,(t.2.1.length:Int),(n:Int))) () h1
  (fun rec n h=>by
   simp only[ψ1G.l0,oL,h,dT,cT,φF,φJ,φ9 h,φCw dir _ h2,bS,φM (show n+1<9223372036854775808 by omega),bne]
   cases (φ1s dir t.2.1[n].1).1.2.2.2.2==t.2.1[n].2<;>simp)
  (fun rec=>by simp[ψ1G.l0])
 have hk:lp ψ1G.l0 (dir,t.2.1,(t.2.1.length:Int),0)=_:=hk
 unfold ψ1G.f φ36
 rw[hk,bS]
 cases List.all t.2.1 _<;>rfl
theorem φIq (t:TxnT) (dir:List φC) (h1:t.2.1.length<2 ^ 62) (h2:dir.length<2 ^ 62):ψ35.f t dir=some (φ36 t dir):=by
 have hk:=φ3z (step:=ψ35.l0) t.2.1 (fun r=>(φ1s dir r.1).1.2.2.2.2==r.2) (fun n=>(dir,t,(n:Int))) () h1
  (fun rec n h=>by
   simp only[ψ35.l0,oL,h,dT,cT,φF,φJ,φ9 h,φGX dir _ h2,bS,φM (show n+1<9223372036854775808 by omega),bne]
   cases (φ1s dir t.2.1[n].1).1.2.2.2.2==t.2.1[n].2<;>simp)
  (fun rec=>by simp[ψ35.l0])
 have hk:lp ψ35.l0 (dir,t,0)=_:=hk
 unfold ψ35.f φ36
 rw[hk,bS]
 cases List.all t.2.1 _<;>rfl
def φ21 (l:List PutT):List (List UInt8):=l.foldl (fun ks p=>if p.1∈ks then ks else ks++[p.1]) []
def netW (l:List PutT):List PutT:=(φ21 l).map fun k=>(ownW l k).1
theorem φ5E (l:List PutT) (p:PutT):φ21 (l++[p])=if p.1∈φ21 l then φ21 l else φ21 l++[p.1]:=by
 unfold φ21;rw[κX];rfl
theorem φ7C (l:List PutT) (p:PutT) (k:List UInt8):ownW (l++[p]) k=if p.1=k then (p,true) else ownW l k:=by
 unfold ownW φ56
 rw[List.reverse_append,List.reverse_cons,List.reverse_nil,κ8,κF,κ8,List.find?_cons]
 by_cases h:p.1=k
 ·simp[h]
 ·have:(p.1==k)=false:=by simpa using h
  simp[h,this]
theorem φ5O {α:Type} {P:List α→Prop} (h0:P []) (hs:∀l x,P l→P (l++[x])):∀l,P l:=by
 have key:∀n (l:List α),l.length=n→P l:=by
  intro n
  induction n with
  | zero=>intro l h;rw[List.eq_nil_of_length_eq_zero h];exact h0
  | succ n ih=>
   intro l h
   have hlt:n<l.length:=by omega
   have e:l.take n++[l[n]]=l:=by
    rw[←κ1 hlt,List.take_of_length_le (by omega)]
   rw[←e]
   exact hs _ _ (ih _ (by simp;omega))
 exact fun l=>key l.length l rfl
theorem φCr (l:List PutT) (k:List UInt8):k∈φ21 l↔∃p∈l,p.1=k:=by
 induction l using φ5O with
 | h0=>simp[φ21]
 | hs l p ih=>
  rw[φ5E]
  by_cases h:p.1∈φ21 l
  ·rw[if_pos h,ih]
   constructor
   ·rintro ⟨q,h1,h2⟩;exact ⟨q,mL _ h1,h2⟩
   ·rintro ⟨q,h1,h2⟩
    rcases mA.1 h1 with k1 | k1
    ·exact ⟨q,k1,h2⟩
    ·simp only[mZ] at k1
     subst k1;subst h2
     exact ih.1 h
  ·rw[if_neg h,mA,ih]
   constructor
   ·rintro (⟨q,h1,h2⟩ | h1)
    ·exact ⟨q,mL _ h1,h2⟩
    ·simp only[mZ] at h1
     exact ⟨p,by simp,h1.symm⟩
   ·rintro ⟨q,h1,h2⟩
    rcases mA.1 h1 with k1 | k1
    ·exact .inl ⟨q,k1,h2⟩
    ·simp only[mZ] at k1
     subst k1;right;simp[h2]
theorem φDp (l:List PutT):(φ21 l).Nodup:=by
 induction l using φ5O with
 | h0=>simp[φ21]
 | hs l p ih=>
  rw[φ5E]
  by_cases h:p.1∈φ21 l
  ·rw[if_pos h];exact ih
  ·rw[if_neg h,κM]
   refine ⟨ih,by simp,fun a ha b hb=>?_⟩
   simp only[mZ] at hb
   subst hb
   intro e;subst e;exact h ha
theorem φFT (l:List PutT):(φ21 l).length≤l.length:=by
 induction l using φ5O with
 | h0=>simp[φ21]
 | hs l p ih=>
  rw[φ5E]
  split<;>simp<;>omega
theorem φHb (l:List PutT) (k:List UInt8) (h:k∈φ21 l):(ownW l k).1.1=k∧(ownW l k).2=true:=by
 induction l using φ5O with
 | h0=>simp[φ21] at h
 | hs l p ih=>
  rw[φ7C]
  by_cases e:p.1=k
  ·rw[if_pos e];exact ⟨e,rfl⟩
  ·rw[if_neg e]
   rw[φ5E] at h
   apply ih
   split at h
   ·exact h
   ·rcases mA.1 h with h | h
    ·exact h
    ·simp only[mZ] at h;exact absurd h.symm e
def φ2h (key:List UInt8):List PutT→Nat→Int→Int
 | [],_,s=>s
 | x::r,i,s=>φ2h key r (i+1) (if x.1==key then i else s)
theorem φBy (key:List UInt8):∀(l:List PutT) (i:Nat) (s:Int),(∀p∈l,p.1≠key)→φ2h key l i s=s
 | [],_,_,_=>rfl
 | x::r,i,s,h=>by
  have:(x.1==key)=false:=by simpa using h x (by simp)
  show φ2h key r (i+1) (if (x.1==key)=true then (i:Int) else s)=s
  rw[this]
  exact φBy key r (i+1) s fun p hp=>h p (mC _ hp)
theorem φDE (key:List UInt8):∀(l:List PutT) (i:Nat) (s:Int) (j:Nat) (hj:j<l.length),l[j].1=key→(∀m,(hm:m<l.length)→l[m].1=key→m=j)→φ2h key l i s=((i+j:Nat):Int)
 | x::r,i,s,0,_,h,hu=>by
  show φ2h key r (i+1) (if (x.1==key)=true then (i:Int) else s)=_
  have h:x.1=key:=h
  rw[h]
  simp only[beq_self_eq_true,if_true]
  rw[φBy key r (i+1) i fun p hp=>by
   intro e
   obtain ⟨m,hm,hp⟩:=List.getElem_of_mem hp
   have:=hu (m+1) (by simpa using hm) (by simpa [hp] using e)
   omega]
  simp
 | x::r,i,s,j+1,hj,h,hu=>by
  show φ2h key r (i+1) (if (x.1==key)=true then (i:Int) else s)=_
  rw[φDE key r (i+1) _ j (by simpa using hj) (by simpa using h) fun m hm hk=>by
   have:=hu (m+1) (by simpa using hm) (by simpa using hk);omega]
  congr 1;omega
def φ5i (out:List PutT) (p:PutT):List PutT:=if φ2h p.1 out 0 (-1)≥0 then out.set (φ2h p.1 out 0 (-1)).toNat p else out++[p]
theorem φKj (m:List PutT) (p:PutT):φ5i (netW m) p=netW (m++[p]):=by
 have keys:∀(j:Nat) (hj:j<(netW m).length),(netW m)[j].1=(φ21 m)[j]'(by simpa [netW] using hj):=fun j hj=>by
  simp only[netW,List.getElem_map]
  exact (φHb m _ (gM _)).1
 unfold φ5i
 by_cases h:p.1∈φ21 m
 ·obtain ⟨j,hj,hk⟩:=List.getElem_of_mem h
  have hj':j<(netW m).length:=by simpa [netW] using hj
  have e:=φDE p.1 (netW m) 0 (-1) j hj' (by rw[keys j hj',hk]) fun q hq hqk=>by
   rw[keys q hq] at hqk
   exact (List.getElem_inj (φDp m)).1 (hqk.trans hk.symm)
  rw[e,if_pos (by omega)]
  have e2:((0+j:Nat):Int).toNat=j:=by omega
  rw[e2]
  unfold netW
  rw[φ5E,if_pos h]
  apply List.ext_getElem (by simp)
  intro i h1 h2
  rw[List.getElem_set]
  simp only[List.getElem_map]
  have hi:i<(φ21 m).length:=by simpa using h2
  by_cases hij:j=i
  ·subst hij
   rw[if_pos rfl,φ7C,if_pos hk.symm]
  ·rw[if_neg hij,φ7C,if_neg]
   intro hp
   rw[←hk] at hp
   exact hij ((List.getElem_inj (φDp m)).1 hp)
 ·rw[φBy p.1 (netW m) 0 (-1) fun q hq=>by
   intro e
   obtain ⟨j,hj,hq⟩:=List.getElem_of_mem hq
   have:=keys j hj
   rw[hq,e] at this
   exact h (this ▸ gM _)]
  rw[if_neg (by omega)]
  unfold netW
  rw[φ5E,if_neg h,mp]
  congr 1
  ·apply List.map_congr_left
   intro k hk
   rw[φ7C,if_neg]
   intro e;subst e;exact h hk
  ·simp[φ7C]
theorem φIQ (l:List PutT):l.foldl φ5i []=netW l:=by
 induction l using φ5O with
 | h0=>rfl
 | hs l p ih=>rw[κX,ih];exact φKj l p
theorem φJR (out:List PutT) (p:PutT) (x9:List PutT) (x10 x11:Int) (hl:out.length<2 ^ 62) :
  lp ψ1b.l2 (out,p,-1,x9,x10,x11,(out.length:Int),0)=some (out,p,φ2h p.1 out 0 (-1),x9,x10,x11):=by
 have key:=φg (step:=ψ1b.l2) (fun n (s:Int)=>(out,p,s,x9,x10,x11,(out.length:Int),(n:Int))) out.length (fun n s=>(out,p,φ2h p.1 (out.drop n) n s,x9,x10,x11)) (fun _ _=>True)
  (fun rec n s hn _ ih=>by
   rcases κ2 n out.length with h | h
   ·have hw:w64 ((n:Int)+1)=((n+1:Nat):Int):=φM (show n+1<9223372036854775808 by omega)
    simp only[ψ1b.l2,oL,h,dT,cT,φF,φJ,φ9 h,φM (show n+1<9223372036854775808 by omega)]
    rw[dG h]
    show _=some (out,p,φ2h p.1 (out.drop (n+1)) (n+1) (if (out[n].1==p.1)=true then (n:Int) else s),x9,x10,x11)
    cases out[n].1==p.1
    ·simp only[cF,bS,κ3,if_false];rw[hw];exact ih s h trivial
    ·simp only[cT,bS,if_true];rw[hw];exact ih n h trivial
   ·have:n=out.length:=by omega
    subst this
    simp[ψ1b.l2,φ2h])
  hl 0 (-1) (κ4 _) trivial
 simpa using key
theorem φJg (out:List PutT) (p:PutT):(φ5i out p).length≤out.length+1:=by
 unfold φ5i;split<;>simp
theorem φEh (key:List UInt8):∀(l:List PutT) (i:Nat) (s:Int),φ2h key l i s=s∨(∃j:Nat,φ2h key l i s=((i+j:Nat):Int)∧j<l.length)
 | [],_,_=>.inl rfl
 | x::r,i,s=>by
  show φ2h key r (i+1) (if (x.1==key)=true then (i:Int) else s)=s∨∃j:Nat,φ2h key r (i+1) (if (x.1==key)=true then (i:Int) else s)=_∧_
  rcases φEh key r (i+1) (if (x.1==key)=true then (i:Int) else s) with h | ⟨j,h1,h2⟩
  ·rw[h]
   split
   ·exact .inr ⟨0,by simp,by simp⟩
   ·exact .inl rfl
  ·exact .inr ⟨j+1,by rw[h1];congr 1;omega,by simp;omega⟩
theorem φKW (l:List PutT) (hl:l.length<2 ^ 40):ψ1b.f l=some (netW l):=by
 have hk:=φ3M (step:=ψ1b.l0) l φ5i (fun n (s:List PutT)=>(s,l,(l.length:Int),(n:Int))) id (fun n s=>s.length≤n) (by omega)
  (fun rec n s h hi=>by
   have hs:s.length<2 ^ 62:=by omega
   have hw:w64 ((n:Int)+1)=((n+1:Nat):Int):=φM (show n+1<9223372036854775808 by omega)
   simp only[ψ1b.l0,oL,h,dT,cT,φF,φJ,φ9 h,φ1m,φJR s l[n] l _ _ hs,bS,φM (show n+1<9223372036854775808 by omega)]
   unfold φ5i
   by_cases hp:φ2h l[n].1 s 0 (-1)≥0
   ·rcases φEh l[n].1 s 0 (-1) with k | ⟨j,k1,k2⟩
    ·omega
    ·rw[if_pos hp]
     have:inB (φ2h l[n].1 s 0 (-1)) s.length=true:=by rw[k1];simp[k2]
     simp only[hp,dT,cT,this,bS,hw]
   ·rw[if_neg hp]
    have hb:(s.length+[l[n]].length) * 40≤140737488355328:=by simp;omega
    simp only[hp,dF,cF,hb,dT,cT,bS,hw])
  (fun n s h hi=>by have:=φJg s l[n];omega)
  (fun rec s hi=>by simp[ψ1b.l0]) [] (by simp)
 have hk:lp ψ1b.l0 ([],l,(l.length:Int),0)=_:=hk
 unfold ψ1b.f
 rw[hk,φIQ];rfl
theorem φC5 (t:TxnT) (hl:t.2.2.length<2 ^ 40):ψc.f t=some (netW t.2.2):=by
 unfold ψc.f;rw[φKW _ hl];rfl
def φ6g (l:List PutT) (i:Nat):Bool:=(l.take i).all fun q=>!(q.1==(l.getD i ([],false,[])).1)
theorem φNJ (t:TxnT) (out:List PutT) (i:Nat) (h:i<t.2.2.length) (hl:t.2.2.length<2 ^ 40) :
  lp ψ2g.l2 (t,out,(i:Int),true,0)=some (t,out,(i:Int),φ6g t.2.2 i):=by
 have key:=φg (step:=ψ2g.l2) (fun n (s:Bool)=>(t,out,(i:Int),s,(n:Int))) i (fun n s=>(t,out,(i:Int),s && ((t.2.2.take i).drop n).all fun q=>!(q.1==t.2.2[i].1))) (fun _ _=>True)
  (fun rec n s hn _ ih=>by
   rcases κ2 n i with h2 | h2
   ·have h3:n<t.2.2.length:=by omega
    have h4:n<(t.2.2.take i).length:=by simp;omega
    have hw:w64 ((n:Int)+1)=((n+1:Nat):Int):=φM (show n+1<9223372036854775808 by omega)
    simp only[ψ2g.l2,oL,h,h2,h3,dT,cT,φF,φJ,φ9 h,φ9 h3,φM (show n+1<9223372036854775808 by omega)]
    rw[dG h4,List.all_cons,List.getElem_take]
    cases s
    ·simp only[cF,bS]
     rw[hw,ih false h2 trivial];simp
    ·simp only[cT,bS]
     rw[hw,ih _ h2 trivial];simp
   ·have:n=i:=by omega
    subst this
    have:(t.2.2.take n).drop n=[]:=by simp
    simp[ψ2g.l2,this])
  (by omega) 0 true (κ4 _) trivial
 rw[show φ6g t.2.2 i=(t.2.2.take i).all (fun q=>!(q.1==t.2.2[i].1)) by unfold φ6g;rw[φ9 h]]
 simpa using key
theorem φMO (l:List PutT) (i:Nat) (h:i<l.length):φ6g l i=true↔l[i].1 ∉ φ21 (l.take i):=by
 unfold φ6g
 rw[κR,φCr,φ9 h]
 constructor
 ·rintro h1 ⟨p,hp,e⟩
  have:=h1 p hp
  simp[e] at this
 ·intro h1 q hq
  simp only[κO,beq_eq_false_iff_ne]
  exact fun e=>h1 ⟨q,hq,e⟩
theorem φIE (t:TxnT) (hl:t.2.2.length<2 ^ 40):ψ2g.f t=some (netW t.2.2):=by
 have key:=φg (step:=ψ2g.l0) (fun n (s:List PutT)=>(t,s,(n:Int))) t.2.2.length (fun n s=>netW t.2.2) (fun n s=>s=(φ21 (t.2.2.take n)).map fun k=>(ownW t.2.2 k).1)
  (fun rec n s hn hi ih=>by
   rcases κ2 n t.2.2.length with h | h
   ·have hs:s.length≤n:=by
     have:=φFT (t.2.2.take n)
     rw[hi,lM]
     simp only[lT] at this;omega
    have hb:(s.length+[(ownW t.2.2 t.2.2[n].1).1].length) * 40≤140737488355328:=by simp;omega
    have hw:w64 ((n:Int)+1)=((n+1:Nat):Int):=φM (show n+1<9223372036854775808 by omega)
    simp only[ψ2g.l0,oL,h,dT,cT,φNJ t s n h hl,bS,φF,φJ,φ9 h,φG4 t _ (show t.2.2.length<2 ^ 62 by omega),φM (show n+1<9223372036854775808 by omega)]
    have e:=φMO t.2.2 n h
    cases hf:φ6g t.2.2 n
    ·simp only[cF,bS]
     rw[hw]
     refine ih s h ?_
     rw[hi,κ1 h,φ5E,if_pos]
     by_cases hm:t.2.2[n].1∈φ21 (t.2.2.take n)
     ·exact hm
     ·rw[e.2 hm] at hf;simp at hf
    ·simp only[cT,bS,hb,dT]
     rw[hw]
     refine ih _ h ?_
     rw[hi,κ1 h,φ5E,if_neg (e.1 hf),mp];rfl
   ·have:n=t.2.2.length:=by omega
    subst this
    rw[κN] at hi
    simp[ψ2g.l0,hi,netW])
  (by omega) 0 [] (κ4 _) (by simp[φ21])
 have key:lp ψ2g.l0 (t,[],0)=_:=key
 unfold ψ2g.f
 rw[key];rfl
theorem φ3l {a:Nat} (h:a<1000000000001):(a+1) * 40≤140737488355328:=by omega
def leK (a b:List UInt8):Bool:=Op.bytesLess a b || a==b
def insB {α:Type} (l:List (List UInt8×α)) (p:List UInt8×α):List (List UInt8×α):=
 let k:=(l.takeWhile fun x=>leK x.1 p.1).length
 l.take k++[p]++l.drop k
def φk {α:Type} (l:List (List UInt8×α)) (key:List UInt8):List (List UInt8×α):=l.filter fun x=>!(x.1==key)
theorem φ5s {α:Type} (l:List (List UInt8×α)) (p:List UInt8×α):(insB l p).length=l.length+1:=by
 have:(l.takeWhile fun x=>leK x.1 p.1).length≤l.length:=(List.takeWhile_sublist _).length_le
 simp only[insB,lA,lT,lD,lC,lN];omega
theorem φ7m {α:Type} (l:List (List UInt8×α)) (key:List UInt8):(φk l key).length≤l.length:=List.length_filter_le _ _
theorem φEI {α:Type} (f:α→Bool):∀(l s:List α),l.foldl (fun s x=>if f x=true then s++[x] else s) s=s++l.filter f
 | [],s=>by simp
 | x::l,s=>by
  rw[κL,φEI f l,List.filter_cons]
  cases f x<;>simp
def φ5u (b:Int) (l:List φX) (p:PutT):List φX:=if p.2.1=true then φk l p.1 else insB (φk l p.1) (p.1,p.2.2,b)
def φ2e (l:List φX) (puts:List PutT) (b:Int):List φX:=puts.foldl (φ5u b) l
theorem φLr (b:Int) (l:List φX) (p:PutT):(φ5u b l p).length≤l.length+1:=by
 have:=φ7m l p.1
 unfold φ5u;split
 ·omega
 ·rw[φ5s];omega
theorem φEx {α:Type} (f:α→Bool) (l:List α) (n:Nat) (h:n<l.length):((l.drop n).takeWhile f).length=if f l[n]=true then ((l.drop (n+1)).takeWhile f).length+1 else 0:=by
 rw[dG h,List.takeWhile_cons]
 split<;>simp
def φ2W (p:φX) (s:List φX×Bool) (x:φX):List φX×Bool:=
 if (x.1==p.1)=true then s else if s.2=false∧leK x.1 p.1=false then (s.1++[p]++[x],true) else (s.1++[x],s.2)
theorem φFN (p:φX) (s:List φX×Bool) (x:φX):(φ2W p s x).1.length≤s.1.length+2:=by
 unfold φ2W;split
 ·omega
 ·split<;>simp<;>omega
theorem φ84 (p:φX):∀(l out:List φX),l.foldl (φ2W p) (out,true)=(out++φk l p.1,true)
 | [],out=>by simp[φk]
 | x::l,out=>by
  rw[κL]
  by_cases h:(x.1==p.1)=true
  ·have e1:φ2W p (out,true) x=(out,true):=by unfold φ2W;rw[if_pos h]
   rw[e1,φ84 p l]
   simp[φk,h]
  ·have e1:φ2W p (out,true) x=(out++[x],true):=by unfold φ2W;rw[if_neg h,if_neg (by simp)]
   rw[e1,φ84 p l]
   simp[φk,h]
theorem φAu (p:φX):∀(l out:List φX),(let s:=l.foldl (φ2W p) (out,false);if s.2=true then s.1 else s.1++[p])=out++insB (φk l p.1) p
 | [],out=>by simp[φk,insB]
 | x::l,out=>by
  rw[κL]
  by_cases h:(x.1==p.1)=true
  ·have e1:φ2W p (out,false) x=(out,false):=by unfold φ2W;rw[if_pos h]
   have e2:φk (x::l) p.1=φk l p.1:=by simp[φk,h]
   rw[e1,e2];exact φAu p l out
  ·have e2:φk (x::l) p.1=x::φk l p.1:=by simp[φk,h]
   rw[e2]
   cases hk:leK x.1 p.1
   ·have e1:φ2W p (out,false) x=(out++[p]++[x],true):=by unfold φ2W;rw[if_neg h,if_pos ⟨rfl,hk⟩]
    rw[e1,φ84]
    simp[insB,hk]
   ·have e1:φ2W p (out,false) x=(out++[x],false):=by unfold φ2W;rw[if_neg h,if_neg (by simp[hk])]
    rw[e1,φAu p l (out++[x])]
    simp[insB,hk]
theorem φNY (l:List φX) (p:φX) (del:Bool) (hl:l.length<2 ^ 38):ψ3C.f l p del=some (if del=true then φk l p.1 else insB (φk l p.1) p):=by
 have hk:=φ3M (step:=ψ3C.l0) l (φ2W p) (fun n (s:List φX×Bool)=>(l,p,s.1,s.2,(n:Int))) (fun s=>(p,s.1,s.2)) (fun n s=>s.1.length≤2 * n) (by omega)
  (fun rec n s h hi=>by
   have hi:s.1.length≤2 * n:=hi
   have hq:s.1.length<1000000000000:=by omega
   have hb1:(s.1.length+[p].length) * 40≤140737488355328:=φ3l (Nat.lt_succ_of_lt hq)
   have hb2:(s.1.length+([l[n]]:List φX).length) * 40≤140737488355328:=φ3l (Nat.lt_succ_of_lt hq)
   have hb3:((s.1++[p]).length+([l[n]]:List φX).length) * 40≤140737488355328:=by rw[lA];exact φ3l (Nat.succ_lt_succ hq)
   have hw:w64 ((n:Int)+1)=(n:Int)+1:=φI (by omega) (by omega)
   have hle:(Op.bytesLess l[n].1 p.1 || l[n].1==p.1)=leK l[n].1 p.1:=rfl
   simp only[ψ3C.l0,oL,h,dT,cT,φF,φJ,φ9 h,φ1m,hle]
   unfold φ2W
   rcases bE (l[n].1==p.1) with h1 | h1
   ·simp[h1,hw]
   ·rcases bE s.2 with h2 | h2
    ·simp only[h1,h2,cF,nZ,bS,φF,φJ,φ9 h,φ1m,h,dT,cT,hb2]
     simp[hw]
    ·rcases bE (leK l[n].1 p.1) with h3 | h3
     ·simp only[h1,h2,h3,cF,nZ,nF,bS,φF,φJ,φ9 h,φ1m,h,dT,cT,hb2]
      simp[hw]
     ·simp only[h1,h2,h3,cF,nZ,nF,bS,φF,φJ,φ9 h,φ1m,h,dT,cT,hb1,hb3]
      simp[hw])
  (fun n s h hi=>by have:=φFN p s l[n];have hi:s.1.length≤2 * n:=hi;show _≤2 * (n+1);omega)
  (fun rec s hi=>by simp[ψ3C.l0]) ([],del) (by simp)
 have hk:lp ψ3C.l0 (l,p,[],del,0)=_:=hk
 have hlen:∀(m:List φX) (s:List φX×Bool),(m.foldl (φ2W p) s).1.length≤s.1.length+2 * m.length:=by
  intro m
  induction m with
  | nil=>intro s;simp
  | cons x m ih=>intro s;rw[κL];have:=ih (φ2W p s x);have:=φFN p s x;simp only[lC];omega
 unfold ψ3C.f
 rw[hk,bS]
 cases del with
 | true=>rw[φ84];simp
 | false=>
  have hf:=φAu p l []
  have hb:=hlen l ([],false)
  generalize l.foldl (φ2W p) ([],false)=s at *
  obtain ⟨s1,s2⟩:=s
  simp only[lN,κV] at hb
  have hb1:(s1.length+[p].length) * 40≤140737488355328:=by simp;omega
  cases s2
  ·simp only[κ3,if_false,κ8] at hf ⊢
   simp only[nF,cT,hb1,dT,hf]
  ·simp only[if_true,κ8] at hf
   simp[hf]
theorem φJC (l:List φX) (puts:List PutT) (b:Int) (hl:l.length+puts.length<2 ^ 37):ψ2U.f l puts b=some (φ2e l puts b):=by
 have hk:=φ3M (step:=ψ2U.l0) puts (φ5u b) (fun n (s:List φX)=>(puts,b,s,(n:Int))) id (fun n s=>s.length≤l.length+n) (by omega)
  (fun rec n s h hi=>by
   simp only[ψ2U.l0,oL,h,dT,cT,φF,φJ,φ9 h,φNY s _ _ (show s.length<2 ^ 38 by omega),bS,φM (show n+1<9223372036854775808 by omega)]
   rfl)
  (fun n s h hi=>by have:=φLr b s puts[n];omega)
  (fun rec s hi=>by simp[ψ2U.l0]) l (by simp)
 have hk:lp ψ2U.l0 (puts,b,l,0)=_:=hk
 unfold ψ2U.f
 have:(([]:List φX).length+l.length) * 40≤140737488355328:=by simp;omega
 simp only[this,dT,cT,κ8]
 rw[hk];rfl
theorem dnn {k:Int} (h:0≤k):decide (k<0)=false:=by
 have:¬k<0:=by omega
 simp[this]
theorem φAG (l:List PutT):(netW l).length≤l.length:=by
 unfold netW;rw[lM];exact φFT l
theorem φ4t:∀a:List UInt8,Op.bytesLess a a=false
 | []=>rfl
 | x::a=>by simp[Op.bytesLess,φ4t a]
theorem φEd {a b:UInt8}:a<b↔a.toNat<b.toNat:=UInt8.lt_iff_toNat_lt
theorem φO2 {a b:UInt8} (h:a.toNat=b.toNat):a=b:=UInt8.toNat.inj h
theorem φ7X:∀a b c:List UInt8,Op.bytesLess a b=true→Op.bytesLess b c=true→Op.bytesLess a c=true
 | _,[],_,h,_=>by simp[Op.bytesLess] at h
 | _,_::_,[],_,h=>by simp[Op.bytesLess] at h
 | [],_::_,_::_,_,_=>rfl
 | x::a,y::b,z::c,h1,h2=>by
  simp only[Op.bytesLess,κW,decide_eq_true_eq,bA,beq_iff_eq] at h1 h2 ⊢
  rcases h1 with h1 | ⟨h1,k1⟩
  ·rcases h2 with h2 | ⟨h2,k2⟩
   ·left;rw[φEd] at *;omega
   ·left;rw[←h2];exact h1
  ·rcases h2 with h2 | ⟨h2,k2⟩
   ·left;rw[h1];exact h2
   ·exact .inr ⟨h1.trans h2,φ7X a b c k1 k2⟩
theorem φFu:∀a b:List UInt8,Op.bytesLess a b=false→a≠b→Op.bytesLess b a=true
 | [],[],_,h=>absurd rfl h
 | [],_::_,h,_=>by simp[Op.bytesLess] at h
 | _::_,[],_,_=>rfl
 | x::a,y::b,h1,h2=>by
  simp only[Op.bytesLess,κI,decide_eq_false_iff_not,Bool.and_eq_false_iff] at h1
  simp only[Op.bytesLess,κW,decide_eq_true_eq,bA,beq_iff_eq]
  by_cases e:x=y
  ·subst e
   right
   refine ⟨rfl,φFu a b ?_ fun e=>h2 (by rw[e])⟩
   rcases h1.2 with k | k
   ·simp at k
   ·exact k
  ·left
   rw[φEd] at *
   have:=h1.1
   have hne:x.toNat≠y.toNat:=fun k=>e (φO2 k)
   omega
theorem φGL (a b:List UInt8) (h:Op.bytesLess a b=true):Op.bytesLess b a=false:=by
 cases hb:Op.bytesLess b a with
 | false=>rfl
 | true=>have:=φ7X a b a h hb;rw[φ4t] at this;simp at this
theorem φ6Y {a b:List UInt8} (h:Op.bytesLess a b=true):a≠b:=fun e=>by rw[e,φ4t] at h;simp at h
theorem φ9p (a b:List UInt8):leK a b=!Op.bytesLess b a:=by
 unfold leK
 cases h:Op.bytesLess a b with
 | true=>rw[φGL a b h];rfl
 | false=>
  by_cases e:a=b
  ·subst e;simp[h]
  ·rw[φFu a b h e]
   have:(a==b)=false:=by simpa using e
   simp[this]
def φ4L (b:UInt8):Bool:=(decide (97≤b.toNat) && decide (b.toNat≤122)) || (decide (48≤b.toNat) && decide (b.toNat≤57))
def φ1n (s:List UInt8):Bool:=s.all φ4L && decide (1≤s.length∧s.length≤12)
theorem φ5K (s:List UInt8) (n:Nat) (h:n<s.length):bAt s (n:Int)=(s[n].toNat:Int):=by
 unfold bAt
 rw[tN,φ9 h]
theorem φ9Q {a:Nat} {k:Nat}:decide ((a:Int)≥(k:Int))=decide (k≤a):=decide_eq_decide.2 (by omega)
theorem φ9T {a:Nat} {k:Nat}:decide ((a:Int)≤(k:Int))=decide (a≤k):=decide_eq_decide.2 (by omega)
theorem φAk (s:List UInt8) (hl:s.length<2 ^ 62):ψb.f s=some (φ1n s):=by
 have key:=φ3z (step:=ψb.l0) s φ4L (fun n=>(s,(n:Int))) s hl
  (fun rec n h=>by
   have hw:w64 ((n:Int)+1)=((n+1:Nat):Int):=φM (by omega)
   have e1:decide ((s[n].toNat:Int)≥97)=decide (97≤s[n].toNat):=φ9Q (k:=97)
   have e2:decide ((s[n].toNat:Int)≤122)=decide (s[n].toNat≤122):=φ9T (k:=122)
   have e3:decide ((s[n].toNat:Int)≥48)=decide (48≤s[n].toNat):=φ9Q (k:=48)
   have e4:decide ((s[n].toNat:Int)≤57)=decide (s[n].toNat≤57):=φ9T (k:=57)
   simp only[ψb.l0,oL,h,dT,cT,φF,φ5K s n h,e1,e2,e3,e4]
   unfold φ4L
   cases decide (97≤s[n].toNat)<;>cases decide (s[n].toNat≤122)<;>cases decide (48≤s[n].toNat)<;>cases decide (s[n].toNat≤57)<;>simp[hw])
  (fun rec=>by simp[ψb.l0])
 have key:lp ψb.l0 (s,0)=_:=key
 unfold ψb.f φ1n
 rw[key,bS]
 have e:decide ((1:Int)≤(s.length:Int)∧(s.length:Int)≤12)=decide (1≤s.length∧s.length≤12):=decide_eq_decide.2 (by omega)
 cases h:s.all φ4L
 ·simp
 ·simp only[if_true,φf,φ1a,bS,e,tA]
theorem φAP (s:List UInt8) (hl:s.length<2 ^ 62):ψ2f.f s=some (φ1n s):=by
 have key:=φ3z (step:=ψ2f.l0) s φ4L (fun n=>(s,(n:Int))) s hl
  (fun rec n h=>by
   have hw:w64 ((n:Int)+1)=((n+1:Nat):Int):=φM (by omega)
   have e1:decide ((s[n].toNat:Int)≥97)=decide (97≤s[n].toNat):=φ9Q (k:=97)
   have e2:decide ((s[n].toNat:Int)≤122)=decide (s[n].toNat≤122):=φ9T (k:=122)
   have e3:decide ((s[n].toNat:Int)≥48)=decide (48≤s[n].toNat):=φ9Q (k:=48)
   have e4:decide ((s[n].toNat:Int)≤57)=decide (s[n].toNat≤57):=φ9T (k:=57)
   simp only[ψ2f.l0,oL,h,dT,cT,φF,φ5K s n h,e1,e2,e3,e4]
   unfold φ4L
   cases decide (97≤s[n].toNat)<;>cases decide (s[n].toNat≤122)<;>cases decide (48≤s[n].toNat)<;>cases decide (s[n].toNat≤57)<;>simp[hw])
  (fun rec=>by simp[ψ2f.l0])
 have key:lp ψ2f.l0 (s,0)=_:=key
 unfold ψ2f.f φ1n
 rw[key,bS]
 have e:decide ((1:Int)≤(s.length:Int)∧(s.length:Int)≤12)=decide (1≤s.length∧s.length≤12):=decide_eq_decide.2 (by omega)
 cases h:s.all φ4L
 ·simp
 ·simp only[if_true,φf,φ2J,bS,e,tA]
abbrev φ6:=List UInt8×List UInt8×Int
abbrev φ1:=List φ6×Int×Int×Bool
def φK (l:List φ6):Nat:=sumN (fun f=>f.2.1.length) l
def φ39 (f:φ6):Bool:=φ1n f.1 && decide (0≤f.2.2∧f.2.2≤(f.2.1.length:Int))
def φ3c:Option (List UInt8)→List φ6→Bool
 | _,[]=>true
 | none,f::r=>φ3c (some f.1) r
 | some p,f::r=>Op.bytesLess p f.1 && φ3c (some f.1) r
def φ5f (l:List φ6):Bool:=l.all φ39 && φ3c none l
def φ3 (d:φ1):Bool:=decide (d.1.length≤130) && (decide (0≤d.2.1∧d.2.1≤100000) && (decide (-1≤d.2.2.1∧d.2.2.1≤100000) && (decide ((φK d.1:Int)≤d.2.1) && φ5f d.1)))
def φ4F (l:List φ6):Nat→Option (List UInt8)
 | 0=>none
 | n+1=>some (l.getD n ([],[],0)).1
def φ5c (p:Option (List UInt8)) (l:List φ6):Bool:=l.all φ39 && φ3c p l
def follows (p:Option (List UInt8)) (f:φ6):Bool:=match p with | none=>true | some q=>Op.bytesLess q f.1
theorem φD9 (p:Option (List UInt8)) (f:φ6) (l:List φ6):φ5c p (f::l)=(φ39 f && follows p f && φ5c (some f.1) l):=by
 unfold φ5c follows
 cases p<;>simp only[List.all_cons,φ3c]<;>cases φ39 f<;>simp[Bool.and_comm,Bool.and_assoc,Bool.and_left_comm]
theorem φFB (d:φ1) (hl:d.1.length<2 ^ 62) (hu:φK d.1<2 ^ 62):ψ3c.f d=some (φK d.1:Int):=by
 have key:=φg (step:=ψ3c.l0) (fun n (s:Int)=>(d,s,(n:Int))) d.1.length (fun n s=>s+(φK (d.1.drop n):Int)) (fun n s=>0≤s∧s+(φK (d.1.drop n):Int)<2 ^ 62)
  (fun rec n s hn hi ih=>by
   rcases κ2 n d.1.length with h | h
   ·have e:φK (d.1.drop n)=d.1[n].2.1.length+φK (d.1.drop (n+1)):=φAj _ h
    have h2:=hi.2
    have h1:=hi.1
    rw[e] at h2
    simp only[ψ3c.l0,oL,h,dT,cT,φF,φJ,φ9 h,φM (show n+1<9223372036854775808 by omega)]
    rw[φI (by omega) (by omega),ih _ h ⟨by omega,by omega⟩,e]
    congr 1;omega
   ·have:n=d.1.length:=by omega
    subst this
    simp[ψ3c.l0,φK,sumN])
  hl 0 0 (κ4 _) ⟨by omega,by simp only[κC];omega⟩
 have key:lp ψ3c.l0 (d,0,0)=_:=key
 unfold ψ3c.f
 rw[key];simp
theorem φFO (d:φ1) (hl:d.1.length<2 ^ 62) (hu:φK d.1<2 ^ 62):ψ1v.f d=some (φK d.1:Int):=by
 have key:=φg (step:=ψ1v.l0) (fun n (s:Int)=>(s,d.1,(d.1.length:Int),(n:Int))) d.1.length (fun n s=>s+(φK (d.1.drop n):Int)) (fun n s=>0≤s∧s+(φK (d.1.drop n):Int)<2 ^ 62)
  (fun rec n s hn hi ih=>by
   rcases κ2 n d.1.length with h | h
   ·have e:φK (d.1.drop n)=d.1[n].2.1.length+φK (d.1.drop (n+1)):=φAj _ h
    have h2:=hi.2
    have h1:=hi.1
    rw[e] at h2
    simp only[ψ1v.l0,oL,h,dT,cT,φF,φJ,φ9 h,φM (show n+1<9223372036854775808 by omega)]
    rw[φI (by omega) (by omega),ih _ h ⟨by omega,by omega⟩,e]
    congr 1;omega
   ·have:n=d.1.length:=by omega
    subst this
    simp[ψ1v.l0,φK,sumN])
  hl 0 0 (κ4 _) ⟨by omega,by simp only[κC];omega⟩
 have key:lp ψ1v.l0 (0,d.1,(d.1.length:Int),0)=_:=key
 unfold ψ1v.f
 rw[key];simp
theorem φ8u (l:List φ6) (n:Nat) (h:n<l.length):φ4F l (n+1)=some l[n].1:=by
 show some (l.getD n ([],[],0)).1=_
 rw[φ9 h]
theorem φKU {f:List UInt8} (h:φ1n f=true):f.length≤12:=by
 unfold φ1n at h
 simp only[bA,decide_eq_true_eq] at h
 exact h.2.2
theorem φLd (d:φ1) (hl:d.1.length<2 ^ 62) (hu:φK d.1<2 ^ 62) (hn:∀f∈d.1,f.1.length<2 ^ 62):lp ψD.l0 (d,0,d.1,(d.1.length:Int),0)=some (if φ5f d.1=true then .inl (d,(φK d.1:Int)) else .inr false):=by
 have key:=φg (step:=ψD.l0) (fun n (s:Int)=>(d,s,d.1,(d.1.length:Int),(n:Int))) d.1.length (fun n s=>if φ5c (φ4F d.1 n) (d.1.drop n)=true then .inl (d,s+(φK (d.1.drop n):Int)) else .inr false) (fun n s=>0≤s∧s+(φK (d.1.drop n):Int)<2 ^ 62)
  (fun rec n s hn' hi ih=>by
   rcases κ2 n d.1.length with h | h
   ·have e:φK (d.1.drop n)=d.1[n].2.1.length+φK (d.1.drop (n+1)):=φAj _ h
    have h2:=hi.2
    have h1:=hi.1
    rw[e] at h2
    have hw:w64 ((n:Int)+1)=((n+1:Nat):Int):=φM (by omega)
    have hw2:w64 (s+(d.1[n].2.1.length:Int))=s+(d.1[n].2.1.length:Int):=φI (by omega) (by omega)
    have ih2:=ih (s+(d.1[n].2.1.length:Int)) h ⟨by omega,by omega⟩
    have ea:s+(d.1[n].2.1.length:Int)+(φK (d.1.drop (n+1)):Int)=s+((d.1[n].2.1.length+φK (d.1.drop (n+1)):Nat):Int):=by omega
    rw[φ8u d.1 n h,ea] at ih2
    have hnm:=hn d.1[n] (gM h)
    rw[dG h,φD9,←dG h,e]
    simp only[ψD.l0,oL,h,dT,cT,φF,φJ,φ9 h,φAk _ hnm,bS,φ1a]
    unfold φ39
    rcases bE (φ1n d.1[n].1) with k1 | k1
    rotate_left
    ·simp[k1]
    rcases bE (decide (0≤d.1[n].2.2∧d.1[n].2.2≤(d.1[n].2.1.length:Int))) with k2 | k2
    rotate_left
    ·simp only[k1,k2,nZ,nF,cF,cT,bS,φp];simp
    simp only[k1,k2,nZ,cF,tA]
    cases n with
    | zero=>
     have z:¬((0:Nat):Int) > 0:=by omega
     simp only[z,dF,cF,bS,φf,hw2,hw,ih2,φ4F,follows,tA]
    | succ m=>
     have z:((m+1:Nat):Int) > 0:=by omega
     have hm:m<d.1.length:=by omega
     have z2:w64 (((m+1:Nat):Int) - 1)=(m:Int):=by rw[φI (by omega) (by omega)];omega
     rw[φ8u d.1 m hm]
     simp only[z,dT,cT,z2,φF,hm,φJ,φ9 hm,follows]
     rcases bE (Op.bytesLess d.1[m].1 d.1[m+1].1) with k3 | k3
     ·simp only[k3,nZ,cF,bS,φf,hw2,hw,ih2,tA]
     ·simp[k3]
   ·have:n=d.1.length:=by omega
    subst this
    simp[ψD.l0,φ5c,φ3c,φK,sumN])
  hl 0 0 (κ4 _) ⟨by omega,by simp only[κC];omega⟩
 have key:lp ψD.l0 (d,0,d.1,(d.1.length:Int),0)=_:=key
 rw[key,κC,Int.zero_add];rfl
theorem φMk (d:φ1) (hl:d.1.length<2 ^ 62) (hn:∀f∈d.1,f.1.length<2 ^ 62):lp ψ2P.l0 (d,0)=some (if φ5f d.1=true then .inl () else .inr false):=by
 have key:=φg (step:=ψ2P.l0) (fun n (_:Unit)=>(d,(n:Int))) d.1.length (fun n _=>if φ5c (φ4F d.1 n) (d.1.drop n)=true then .inl () else .inr false) (fun _ _=>True)
  (fun rec n s hn' _ ih=>by
   rcases κ2 n d.1.length with h | h
   ·have hw:w64 ((n:Int)+1)=((n+1:Nat):Int):=φM (by omega)
    have ih2:=ih () h trivial
    rw[φ8u d.1 n h] at ih2
    have hnm:=hn d.1[n] (gM h)
    rw[dG h,φD9]
    simp only[ψ2P.l0,oL,h,dT,cT,φF,φJ,φ9 h,φAP _ hnm,bS,φ2J]
    unfold φ39
    rcases bE (φ1n d.1[n].1) with k1 | k1
    rotate_left
    ·simp[k1]
    rcases bE (decide (0≤d.1[n].2.2∧d.1[n].2.2≤(d.1[n].2.1.length:Int))) with k2 | k2
    rotate_left
    ·simp only[k1,k2,nZ,nF,cF,cT,bS,φp];simp
    simp only[k1,k2,nZ,cF,tA]
    cases n with
    | zero=>
     have z:¬((0:Nat):Int) > 0:=by omega
     simp only[z,dF,cF,bS,φf,hw,ih2,φ4F,follows,tA]
    | succ m=>
     have z:((m+1:Nat):Int) > 0:=by omega
     have hm:m<d.1.length:=by omega
     have z2:w64 (((m+1:Nat):Int) - 1)=(m:Int):=by rw[φI (by omega) (by omega)];omega
     have z3:(Op.bytesLess d.1[m+1].1 d.1[m].1 || d.1[m+1].1==d.1[m].1)=!Op.bytesLess d.1[m].1 d.1[m+1].1:=φ9p _ _
     rw[φ8u d.1 m hm]
     simp only[z,dT,cT,z2,φF,hm,φJ,φ9 hm,follows,z3]
     rcases bE (Op.bytesLess d.1[m].1 d.1[m+1].1) with k3 | k3
     ·simp only[k3,nZ,cF,bS,φf,hw,ih2,tA]
     ·simp[k3]
   ·have:n=d.1.length:=by omega
    subst this
    simp[ψ2P.l0,φ5c,φ3c])
  hl 0 () (κ4 _) trivial
 have key:lp ψ2P.l0 (d,0)=_:=key
 rw[key,κC];rfl
def dlim (d:φ1):Prop:=d.1.length<1000000000∧φK d.1<1000000000000∧∀f∈d.1,f.1.length<1000000000000
theorem φ5q (d:φ1) (h:dlim d):ψD.f d=some (φ3 d):=by
 obtain ⟨h1,h2,h3⟩:=h
 unfold ψD.f φ3
 have e1:decide ((d.1.length:Int) > 130)=!decide (d.1.length≤130):=by
  by_cases c:d.1.length≤130
  ·have:¬(d.1.length:Int) > 130:=by omega
   simp[c,this]
  ·have:(d.1.length:Int) > 130:=by omega
   simp[c,this]
 rw[e1,φ1a,φ1a,φLd d (by omega) (by omega) fun f hf=>by have:=h3 f hf;omega]
 cases decide (d.1.length≤130)
 ·rfl
 ·simp only[nZ,cF,bS,tA]
  cases decide (0≤d.2.1∧d.2.1≤100000)
  ·rfl
  ·simp only[nZ,cF,bS,tA]
   cases decide (-1≤d.2.2.1∧d.2.2.1≤100000)
   ·rfl
   ·cases φ5f d.1<;>simp
theorem φ91 (d:φ1) (h:dlim d):ψ2P.f d=some (φ3 d):=by
 obtain ⟨h1,h2,h3⟩:=h
 unfold ψ2P.f φ3
 have e1:decide ((d.1.length:Int) > 130)=!decide (d.1.length≤130):=by
  by_cases c:d.1.length≤130
  ·have:¬(d.1.length:Int) > 130:=by omega
   simp[c,this]
  ·have:(d.1.length:Int) > 130:=by omega
   simp[c,this]
 have e2:decide ((φK d.1:Int) > d.2.1)=!decide ((φK d.1:Int)≤d.2.1):=by
  by_cases c:(φK d.1:Int)≤d.2.1
  ·have:¬(φK d.1:Int) > d.2.1:=by omega
   simp[c,this]
  ·have:(φK d.1:Int) > d.2.1:=by omega
   simp[c,this]
 rw[e1,φ2J,φ2J,φFB d (by omega) (by omega),φMk d (by omega) fun f hf=>by have:=h3 f hf;omega]
 cases decide (d.1.length≤130)
 ·rfl
 ·simp only[nZ,cF,bS,tA]
  cases decide (0≤d.2.1∧d.2.1≤100000)
  ·rfl
  ·simp only[nZ,cF,bS,tA]
   cases decide (-1≤d.2.2.1∧d.2.2.1≤100000)
   ·rfl
   ·simp only[nZ,cF,bS,tA,e2]
    cases decide ((φK d.1:Int)≤d.2.1)
    ·rfl
    ·cases φ5f d.1<;>simp
theorem φ5R (d:φ1) (h:d.1.length<1000000000000):ψ1K.f d=some d:=by
 unfold ψ1K.f
 have:(([]:List φ6).length+d.1.length) * 40≤140737488355328:=by simp;omega
 simp only[this,dT,cT,κ8]
theorem φ9S (d:φ1) (h:d.1.length<1000000000000):ψ3Z.f d=some d:=φ5R d h
def φ1j (l:List φ6) (name:List UInt8):Int:=match l.findIdx? (fun f=>f.1==name) with | some i=>(i:Int) | none=>-1
theorem φFZ {A B:Type} {step:(A→Option (B ⊕ Int))→A→Option (B ⊕ Int)} (l:List φ6) (name:List UInt8) (st:Nat→A) (b:B) (hl:l.length<2 ^ 62)
  (hs:∀rec n,(h:n<l.length)→step rec (st n)=if (l[n].1==name)=true then some (.inr (n:Int)) else rec (st (n+1)))
  (he:∀rec,step rec (st l.length)=some (.inl b)):lp step (st 0)=some (match l.findIdx? (fun f=>f.1==name) with | some i=>.inr (i:Int) | none=>.inl b):=by
 have:=φg (step:=step) (fun n (_:Unit)=>st n) l.length (fun n _=>match (l.drop n).findIdx? (fun f=>f.1==name) with | some i=>.inr ((n+i:Nat):Int) | none=>.inl b) (fun _ _=>True)
  (fun rec n s hn _ ih=>by
   rcases κ2 n l.length with h | h
   ·rw[hs rec n h,ih () h trivial,dG h,List.findIdx?_cons]
    cases hf:l[n].1==name
    ·simp only[κ3,if_false]
     cases List.findIdx? (fun f=>f.1==name) (l.drop (n+1)) with
     | none=>rfl
     | some i=>simp only[Option.map_some];congr 2;omega
    ·simp
   ·have:n=l.length:=by omega
    subst this
    rw[he];simp) hl 0 () (κ4 _) trivial
 simpa using this
theorem φ4R (d:φ1) (name:List UInt8) (hl:d.1.length<2 ^ 62):ψ1T.f d name=some (φ1j d.1 name):=by
 have hk:=φFZ (step:=ψ1T.l0) d.1 name (fun n=>(name,d.1,(d.1.length:Int),(n:Int))) () hl
  (fun rec n h=>by
   simp only[ψ1T.l0,oL,h,dT,cT,φF,φJ,φ9 h,φM (show n+1<9223372036854775808 by omega)]
   cases d.1[n].1==name<;>simp)
  (fun rec=>by simp[ψ1T.l0])
 have hk:lp ψ1T.l0 (name,d.1,(d.1.length:Int),0)=_:=hk
 unfold ψ1T.f φ1j
 rw[hk,bS]
 cases List.findIdx? (fun f=>f.1==name) d.1<;>rfl
theorem φ4S (d:φ1) (name:List UInt8) (hl:d.1.length<2 ^ 62):ψ3a.f d name=some (φ1j d.1 name):=by
 have hk:=φFZ (step:=ψ3a.l0) d.1 name (fun n=>(name,d,(n:Int))) () hl
  (fun rec n h=>by
   simp only[ψ3a.l0,oL,h,dT,cT,φF,φJ,φ9 h,φM (show n+1<9223372036854775808 by omega)]
   cases d.1[n].1==name<;>simp)
  (fun rec=>by simp[ψ3a.l0])
 have hk:lp ψ3a.l0 (name,d,0)=_:=hk
 unfold ψ3a.f φ1j
 rw[hk,bS]
 cases List.findIdx? (fun f=>f.1==name) d.1<;>rfl
theorem φw (l:List φ6) (name:List UInt8):(φ1j l name=-1∧∀f∈l,f.1≠name)∨∃i:Nat,∃h:i<l.length,φ1j l name=(i:Int)∧l[i].1=name:=by
 unfold φ1j
 cases hf:List.findIdx? (fun f=>f.1==name) l with
 | none=>
  left
  refine ⟨rfl,fun f hm=>?_⟩
  have:=List.findIdx?_eq_none_iff.1 hf f hm
  simpa using this
 | some i=>
  right
  obtain ⟨h,h1,_⟩:=List.findIdx?_eq_some_iff_getElem.1 hf
  exact ⟨i,h,rfl,by simpa using h1⟩
def tick (d:φ1):φ1:=if d.2.2.1 > 0 then (d.1,d.2.1,d.2.2.1 - 1,d.2.2.2) else d
def φT (d:φ1) (act:List φ6→Int×List φ6):φ1×Int:=
 if φ3 d=false then (d,5) else if d.2.2.2=true∨d.2.2.1=0 then ((d.1,d.2.1,d.2.2.1,true),1)
 else (((act d.1).2,(tick d).2),(act d.1).1)
theorem φ8T {d:φ1} (h:φ3 d=true):-1≤d.2.2.1∧d.2.2.1≤100000∧d.1.length≤130:=by
 unfold φ3 at h
 simp only[bA,decide_eq_true_eq] at h
 omega
theorem φ1b (d:φ1):(tick d).1=d.1:=by unfold tick;split<;>rfl
theorem φIV (d:φ1) (h:dlim d):ψ3Y.f d=some (if φ3 d=false then (d,5) else if d.2.2.2=true∨d.2.2.1=0 then ((d.1,d.2.1,d.2.2.1,true),1) else (tick d,0)):=by
 unfold ψ3Y.f
 rw[φ9S d (by have:=h.1;omega),φ91 d h]
 simp only[bS]
 rcases bE (φ3 d) with k | k
 ·have hf:=φ8T k
  rcases bE d.2.2.2 with k2 | k2
  ·simp[k,k2]
  ·by_cases k3:d.2.2.1=0
   ·simp[k,k2,k3]
   ·have k4:(d.2.2.1==0)=false:=by simpa using k3
    unfold tick
    by_cases k5:d.2.2.1 > 0
    ·simp[k,k2,k3,k4,k5,φI (show -9223372036854775808≤d.2.2.1 - 1 by omega) (by omega)]
    ·simp[k,k2,k3,k4,k5]
 ·simp[k]
theorem φ6E {C:Type} (d:φ1) (h:dlim d) (c:C) (does:C→φ1→Option (Int×φ1)) (act:List φ6→Int×List φ6) (hd:φ3 d=true→does c (tick d)=some ((act d.1).1,(act d.1).2,(tick d).2)) :
  ((ψ1K.f d).bind fun t1=>(ψD.f d).bind fun t2=>
   bif !t2 then some (t1,5) else
   bif d.2.2.2 then some ((t1.1,t1.2.1,t1.2.2.1,true),1) else
   bif d.2.2.1==0 then some ((t1.1,t1.2.1,t1.2.2.1,true),1) else
   (bif decide (d.2.2.1 > 0) then let y3:=w64 (t1.2.2.1 - 1);some (c,(([],0,0,false):φ1),(t1.1,t1.2.1,y3,t1.2.2.2)) else some (c,([],0,0,false),t1):Option (C×φ1×φ1)).bind fun (x1,x4,x6)=>
   (does x1 x6).bind fun (t4_0,t4_1)=>some (t4_1,t4_0))=some (φT d act):=by
 rw[φ5R d (by have:=h.1;omega),φ5q d h]
 simp only[bS]
 unfold φT
 rcases bE (φ3 d) with k | k
 ·have hf:=φ8T k
  have hd:=hd k
  rcases bE d.2.2.2 with k2 | k2
  ·simp[k,k2]
  ·by_cases k3:d.2.2.1=0
   ·simp[k,k2,k3]
   ·have k4:(d.2.2.1==0)=false:=by simpa using k3
    have e:(bif decide (d.2.2.1 > 0) then some (c,(([],0,0,false):φ1),((d.1,d.2.1,w64 (d.2.2.1 - 1),d.2.2.2):φ1)) else some (c,([],0,0,false),d))=some (c,([],0,0,false),tick d):=by
     unfold tick
     by_cases k5:d.2.2.1 > 0
     ·simp[k5,φI (show -9223372036854775808≤d.2.2.1 - 1 by omega) (by omega)]
     ·simp[k5]
    simp only[k,k4,nZ,cF,e,bS,hd]
    simp[k2,k3]
 ·simp[k]
theorem φ45 {l:List φ6} {i:Nat} (h:i<l.length):inB (i:Int) l.length=true:=by simp[h]
theorem φ42 {l:List φ6} {i:Nat} (h:i<l.length):rdA ([],[],0) l (i:Int)=l[i]:=by rw[φJ,φ9 h]
theorem φMh {d:φ1} (h:dlim d):dlim (tick d):=by unfold dlim;rw[φ1b];exact h
def φ28 (name:List UInt8) (l:List φ6):Int×List φ6:=
 match l.findIdx? (fun f=>f.1==name) with
 | some i=>(0,l.set i ((l.getD i ([],[],0)).1,(l.getD i ([],[],0)).2.1,((l.getD i ([],[],0)).2.1.length:Int)))
 | none=>(3,l)
theorem φ1C {l:List φ6} {name:List UInt8} (h:φ1j l name=-1):l.findIdx? (fun f=>f.1==name)=none:=by
 unfold φ1j at h
 cases e:l.findIdx? (fun f=>f.1==name) with
 | none=>rfl
 | some i=>rw[e] at h;simp only at h;omega
theorem φ17 {l:List φ6} {name:List UInt8} {i:Nat} (h:φ1j l name=(i:Int)):l.findIdx? (fun f=>f.1==name)=some i:=by
 unfold φ1j at h
 cases e:l.findIdx? (fun f=>f.1==name) with
 | none=>rw[e] at h;simp only at h;omega
 | some j=>rw[e] at h;simp only at h;congr 1;omega
theorem φKn (d:φ1) (name:List UInt8) (h:d.1.length<2 ^ 62):ψ1A.f d name=some ((φ28 name d.1).1,(φ28 name d.1).2,d.2):=by
 unfold ψ1A.f φ28
 rw[φ4R d name h,bS]
 rcases φw d.1 name with ⟨e,_⟩ | ⟨i,hi,e,_⟩
 ·rw[e,φ1C e];rfl
 ·rw[e,φ17 e]
  simp only[dnn (show (0:Int)≤(i:Int) by omega),cF,φ45 hi,cT,φ42 hi,tN,φ9 hi]
theorem φK4 (d:φ1) (name:List UInt8) (h:dlim d):ψ19.f d name=some (φT d (φ28 name)):=by
 have hs:ψ1q.f d name=some (φT d (φ28 name)):=φ6E d h name (fun n x=>ψ1A.f x n) (φ28 name) fun _=>by
  show ψ1A.f (tick d) name=_
  rw[φKn (tick d) name (by rw[φ1b];have:=h.1;omega),φ1b]
 unfold ψ19.f
 rw[hs];rfl
theorem φ7c (d:φ1) (h:dlim d):(∃(x:φ1) (c:Int),ψ3Y.f d=some (x,c)∧(c != 0)=true∧∀act,φT d act=(x,c)) ∨
  (φ3 d=true∧ψ3Y.f d=some (tick d,0)∧∀act,φT d act=(((act d.1).2,(tick d).2),(act d.1).1)):=by
 rw[φIV d h]
 unfold φT
 rcases bE (φ3 d) with k | k
 ·by_cases k2:d.2.2.2=true∨d.2.2.1=0
  ·left
   refine ⟨(d.1,d.2.1,d.2.2.1,true),1,?_,?_,fun act=>?_⟩
   ·rw[if_neg (by simp[k]),if_pos k2]
   ·rfl
   ·rw[if_neg (by simp[k]),if_pos k2]
  ·right
   refine ⟨k,?_,fun act=>?_⟩
   ·rw[if_neg (by simp[k]),if_neg k2]
   ·rw[if_neg (by simp[k]),if_neg k2]
 ·left
  refine ⟨d,5,?_,?_,fun act=>?_⟩
  ·rw[if_pos k]
  ·rfl
  ·rw[if_pos k]
theorem φHk (d:φ1) (name:List UInt8) (h:dlim d):ψ31.f d name=some (φT d (φ28 name)):=by
 have hl:d.1.length<2 ^ 62:=by have:=h.1;omega
 unfold ψ31.f
 rcases φ7c d h with ⟨x,c,e1,e2,e3⟩ | ⟨k,e1,e3⟩
 ·rw[e1,e3,bS];simp only[e2,cT]
 rw[e1,e3,bS]
 simp only[bne_self_eq_false,cF,φ4S d name hl,bS]
 unfold φ28
 rcases φw d.1 name with ⟨e,_⟩ | ⟨i,hi,e,_⟩
 ·rw[e,φ1C e]
  show some (tick d,3)=some ((d.1,(tick d).2),3)
  rw[←φ1b d]
 ·rw[e,φ17 e]
  have ht:i<(tick d).1.length:=by rw[φ1b];exact hi
  simp only[dnn (show (0:Int)≤(i:Int) by omega),cF,φ45 hi,φ45 ht,cT,φ42 hi,φ42 ht,tN,φ9 hi]
  simp only[φ1b]
def φc (l:List φ6) (i:Nat):List φ6:=l.take i++l.drop (i+1)
theorem φ6m {l:List φ6} {i:Nat} (h:i<l.length):(φc l i).length=l.length - 1:=by
 unfold φc
 rw[lA,lT,lD];omega
def φ1Y (l:List φ6) (name:List UInt8):List φ6:=
 match l.findIdx? (fun f=>f.1==name) with
 | some i=>φc l i
 | none=>l
theorem φBt (l:List φ6) (name:List UInt8):(φ1Y l name).length≤l.length:=by
 unfold φ1Y
 cases e:l.findIdx? (fun f=>f.1==name) with
 | none=>exact κ6 _
 | some i=>
  obtain ⟨h,_⟩:=List.findIdx?_eq_some_iff_getElem.1 e
  have:=φ6m h
  simp only;omega
theorem φFK (l:List φ6) (i:Nat) (h:i<l.length) (hl:l.length<1000000000000) {β:Type} (K:List φ6→Option β) :
  (bif (decide (0≤(i:Int)) && decide ((i:Int)≤(l.length:Int))) then
   bif decide ((([]:List φ6).length+(l.take (i:Int).toNat).length) * 40≤140737488355328) then
   bif (decide (0≤w64 ((i:Int)+1)) && decide (w64 ((i:Int)+1)≤(l.length:Int))) then
   bif decide (((([]:List φ6)++(l.take (i:Int).toNat)).length+(l.drop ((w64 ((i:Int)+1)).toNat)).length) * 40≤140737488355328) then
   K ((([]:List φ6)++(l.take (i:Int).toNat))++(l.drop ((w64 ((i:Int)+1)).toNat))) else none else none else none else none)=K (φc l i):=by
 have hw:w64 ((i:Int)+1)=((i+1:Nat):Int):=φM (by omega)
 rw[hw]
 have c1:(decide (0≤(i:Int)) && decide ((i:Int)≤(l.length:Int)))=true:=by simp;omega
 have c2:(decide (0≤((i+1:Nat):Int)) && decide (((i+1:Nat):Int)≤(l.length:Int)))=true:=by simp;omega
 have c3:(l.take i).length * 40≤140737488355328:=by rw[lT];omega
 have c4:((l.take i).length+(l.drop (i+1)).length) * 40≤140737488355328:=by rw[lT,lD];omega
 simp only[tN,κ8,lN,κV,c1,c2]
 simp only[c3,c4,dT,cT];rfl
theorem φC1 (d:φ1) (name:List UInt8) (h:d.1.length<1000000000):ψE.f d name=some (φ1Y d.1 name,d.2):=by
 unfold ψE.f φ1Y
 rw[φ4R d name (by omega),bS]
 rcases φw d.1 name with ⟨e,_⟩ | ⟨i,hi,e,_⟩
 ·rw[e,φ1C e];rfl
 ·rw[e,φ17 e]
  have c:(i:Int)≥0:=by omega
  simp only[c,dT,cT]
  exact φFK d.1 i hi (by omega) fun l=>some (l,d.2)
theorem φ9t (l:List φ6) (i:Nat) (hi:i<l.length) (h:l.length<1000000000):ψ3d.f l (i:Int)=some (φc l i):=by
 unfold ψ3d.f
 exact φFK l i hi (by omega) fun l=>some l
def φ2F (name:List UInt8) (l:List φ6):Int×List φ6:=
 match l.findIdx? (fun f=>f.1==name) with
 | some i=>(0,φc l i)
 | none=>(3,l)
theorem φJQ (d:φ1) (name:List UInt8) (h:d.1.length<1000000000):ψs.f d name=some ((φ2F name d.1).1,(φ2F name d.1).2,d.2):=by
 unfold ψs.f φ2F
 rw[φ4R d name (by omega),bS,φC1 d name h]
 unfold φ1Y
 rcases φw d.1 name with ⟨e,_⟩ | ⟨i,hi,e,_⟩
 ·rw[e,φ1C e];rfl
 ·rw[e,φ17 e]
  simp only[dnn (show (0:Int)≤(i:Int) by omega),cF,bS]
theorem φLy (d:φ1) (name:List UInt8) (h:dlim d):ψr.f d name=some (φT d (φ2F name)):=by
 have hs:ψ1o.f d name=some (φT d (φ2F name)):=φ6E d h name (fun n x=>ψs.f x n) (φ2F name) fun _=>by
  show ψs.f (tick d) name=_
  rw[φJQ (tick d) name (by rw[φ1b];exact h.1),φ1b]
 unfold ψr.f
 rw[hs];rfl
theorem φHc (d:φ1) (name:List UInt8) (h:dlim d):ψ2q.f d name=some (φT d (φ2F name)):=by
 have hl:=h.1
 unfold ψ2q.f
 rcases φ7c d h with ⟨x,c,e1,e2,e3⟩ | ⟨k,e1,e3⟩
 ·rw[e1,e3,bS];simp only[e2,cT]
 rw[e1,e3,bS]
 simp only[bne_self_eq_false,cF,φ4S d name (show d.1.length<2 ^ 62 by omega),bS]
 unfold φ2F
 rcases φw d.1 name with ⟨e,_⟩ | ⟨i,hi,e,_⟩
 ·rw[e,φ1C e]
  show some (tick d,3)=some ((d.1,(tick d).2),3)
  rw[←φ1b d]
 ·rw[e,φ17 e]
  simp only[dnn (show (0:Int)≤(i:Int) by omega),cF,φ1b,φ9t d.1 i hi hl,bS]
def φ40 (name:List UInt8) (n:Int) (l:List φ6):Int×List φ6:=
 match l.findIdx? (fun f=>f.1==name) with
 | some i=>if 0≤n∧n≤((l.getD i ([],[],0)).2.1.length:Int) then
   (0,l.set i ((l.getD i ([],[],0)).1,(l.getD i ([],[],0)).2.1.take n.toNat,if n<(l.getD i ([],[],0)).2.2 then n else (l.getD i ([],[],0)).2.2))
  else (5,l)
 | none=>(3,l)
theorem φKd (d:φ1) (name:List UInt8) (n:Int) (h:d.1.length<1000000000):ψ1C.f d name n=some ((φ40 name n d.1).1,(φ40 name n d.1).2,d.2):=by
 unfold ψ1C.f φ40
 rw[φ4R d name (by omega),bS]
 rcases φw d.1 name with ⟨e,_⟩ | ⟨i,hi,e,_⟩
 ·rw[e,φ1C e];rfl
 ·rw[e,φ17 e]
  simp only[dnn (show (0:Int)≤(i:Int) by omega),cF,φ45 hi,cT,φ42 hi,φ1a,bS,φ9 hi]
  by_cases c:0≤n∧n≤(d.1[i].2.1.length:Int)
  ·have c2:(decide (0≤n) && decide (n≤(d.1[i].2.1.length:Int)))=true:=by simp[c.1,c.2]
   simp only[c,c2,dT,nZ,cF,cT,tN,φMt hi,List.set_set,if_true,and_self,Bool.and_self]
  ·simp[c]
theorem φIh (d:φ1) (name:List UInt8) (n:Int) (h:dlim d):ψ1B.f d name n=some (φT d (φ40 name n)):=by
 have hs:ψ1r.f d (name,n)=some (φT d (φ40 name n)):=φ6E d h (name,n) (fun c x=>ψ1C.f x c.1 c.2) (φ40 name n) fun _=>by
  show ψ1C.f (tick d) name n=_
  rw[φKd (tick d) name n (by rw[φ1b];exact h.1),φ1b]
 unfold ψ1B.f
 rw[hs];rfl
def φ2T (cap:Int) (name text:List UInt8) (l:List φ6):Int×List φ6:=
 match l.findIdx? (fun f=>f.1==name) with
 | some i=>if (text.length:Int) > cap - (φK l:Int) then (2,l) else
   (0,l.set i ((l.getD i ([],[],0)).1,(l.getD i ([],[],0)).2.1++text,(l.getD i ([],[],0)).2.2))
 | none=>(3,l)
theorem φCQ {l:List φ6} {f:φ6} (h:f∈l):f.2.1.length≤φK l:=φE2 (fun f=>f.2.1.length) h
theorem φ8K {d:φ1} (h:φ3 d=true):0≤d.2.1∧d.2.1≤100000∧(φK d.1:Int)≤d.2.1:=by
 unfold φ3 at h
 simp only[bA,decide_eq_true_eq] at h
 omega
theorem φ8U (d:φ1):(tick d).2.1=d.2.1:=by unfold tick;split<;>rfl
theorem φOZ (d:φ1) (name text:List UInt8) (h:dlim d) (hc:0≤d.2.1∧d.2.1≤100000) (ht:text.length<1000000000000):ψ1.f d name text=some ((φ2T d.2.1 name text d.1).1,(φ2T d.2.1 name text d.1).2,d.2):=by
 obtain ⟨h1,h2,h3⟩:=h
 unfold ψ1.f φ2T
 rw[φ4R d name (by omega),bS,φFO d (by omega) (by omega)]
 rcases φw d.1 name with ⟨e,_⟩ | ⟨i,hi,e,_⟩
 ·rw[e,φ1C e];rfl
 ·rw[e,φ17 e]
  have hm:=φCQ (gM hi)
  have c1:d.1[i].2.1.length+text.length≤9223372036854775807:=by omega
  simp only[dnn (show (0:Int)≤(i:Int) by omega),cF,bS,φ45 hi,cT,φ42 hi,φ9 hi,c1,dT,tN]
  rw[φI (by omega) (by omega)]
  by_cases c:(text.length:Int) > d.2.1 - (φK d.1:Int)
  ·simp[c]
  ·simp[c]
theorem φMi (d:φ1) (name text:List UInt8) (h:dlim d) (ht:text.length<1000000000000):ψ0.f d name text=some (φT d (φ2T d.2.1 name text)):=by
 have hs:ψ1m.f d (name,text)=some (φT d (φ2T d.2.1 name text)):=φ6E d h (name,text) (fun c x=>ψ1.f x c.1 c.2) (φ2T d.2.1 name text) fun k=>by
  have hc:=φ8K k
  show ψ1.f (tick d) name text=_
  rw[φOZ (tick d) name text (φMh h) (by rw[φ8U];omega) ht,φ1b,φ8U]
 unfold ψ0.f
 rw[hs];rfl
theorem φA0 (d:φ1) (name text:List UInt8) (h:dlim d) (htx:text.length<1000000000000):ψ2I.f d name text=some (φT d (φ2T d.2.1 name text)):=by
 have h1:=h.1
 have h2:=h.2.1
 unfold ψ2I.f
 rcases φ7c d h with ⟨x,c,e1,e2,e3⟩ | ⟨k,e1,e3⟩
 ·rw[e1,e3,bS];simp only[e2,cT]
 rw[e1,e3,bS]
 have hc:=φ8K k
 simp only[bne_self_eq_false,cF,φ4S d name (show d.1.length<2 ^ 62 by omega),bS,φFB d (show d.1.length<2 ^ 62 by omega) (show φK d.1<2 ^ 62 by omega)]
 unfold φ2T
 rcases φw d.1 name with ⟨e,_⟩ | ⟨i,hi,e,_⟩
 ·rw[e,φ1C e]
  show some (tick d,3)=some ((d.1,(tick d).2),3)
  rw[←φ1b d]
 ·rw[e,φ17 e]
  have ht:i<(tick d).1.length:=by rw[φ1b];exact hi
  have hm:=φCQ (gM hi)
  have c1:d.1[i].2.1.length+text.length≤9223372036854775807:=by omega
  simp only[dnn (show (0:Int)≤(i:Int) by omega),cF,φ45 hi,φ45 ht,cT,φ42 hi,φ42 ht,φ9 hi,c1,dT,tN]
  rw[φI (by omega) (by omega)]
  simp only[φ1b]
  by_cases c:(text.length:Int) > d.2.1 - (φK d.1:Int)
  ·simp only[c,dT,cT,if_true]
   rw[←φ1b d]
  ·simp only[c,dF,cF,if_false]
def putF (l:List φ6) (f:φ6):List φ6:=
 let k:=(l.takeWhile fun x=>Op.bytesLess x.1 f.1).length
 l.take k++[f]++l.drop k
theorem φHF (d:φ1) (f:φ6) (h:d.1.length<1000000000):ψF.f d f=some (putF d.1 f,d.2):=by
 have key:=φg (step:=ψF.l0) (fun n (_:Unit)=>(d,f,(n:Int))) d.1.length (fun n _=>(d,f,((n+((d.1.drop n).takeWhile fun x=>Op.bytesLess x.1 f.1).length:Nat):Int))) (fun _ _=>True)
  (fun rec n s hn _ ih=>by
   rcases κ2 n d.1.length with h2 | h2
   ·rw[φEx _ _ _ h2]
    simp only[ψF.l0,oL,h2,dT,cT,φF,φJ,φ9 h2,φM (show n+1<9223372036854775808 by omega)]
    cases Op.bytesLess d.1[n].1 f.1
    ·simp
    ·simp only[cT,if_true]
     rw[ih () h2 trivial]
     congr 3;congr 1;omega
   ·have:n=d.1.length:=by omega
    subst this
    simp[ψF.l0])
  (by omega) 0 () (κ4 _) trivial
 have key:lp ψF.l0 (d,f,0)=_:=key
 unfold ψF.f putF
 rw[key,bS]
 simp only[κC,κV]
 have htw:(d.1.takeWhile fun x=>Op.bytesLess x.1 f.1).length≤d.1.length:=(List.takeWhile_sublist _).length_le
 generalize (d.1.takeWhile fun x=>Op.bytesLess x.1 f.1).length=k at *
 have c1:(decide (0≤(k:Int)) && decide ((k:Int)≤(d.1.length:Int)))=true:=by simp;omega
 have c2:(d.1.take k).length * 40≤140737488355328:=by rw[lT];omega
 have c3:((d.1.take k).length+[f].length) * 40≤140737488355328:=by rw[lT];exact φ3l (by omega)
 have c4:((d.1.take k++[f]).length+(d.1.drop k).length) * 40≤140737488355328:=by
  rw[lA,lT,lD]
  show (min k d.1.length+1+(d.1.length - k)) * 40≤_
  omega
 simp only[tN,κ8,lN,κV,c1]
 simp only[c2,c3,c4,dT,cT]
def φ3D (f:φ6) (s:List φ6×Bool) (x:φ6):List φ6×Bool:=
 if s.2=false∧leK x.1 f.1=false then (s.1++[f]++[x],true) else (s.1++[x],s.2)
theorem φHr (f:φ6) (s:List φ6×Bool) (x:φ6):(φ3D f s x).1.length≤s.1.length+2:=by
 unfold φ3D;split<;>simp<;>omega
theorem φHK (f:φ6):∀(l out:List φ6),l.foldl (φ3D f) (out,true)=(out++l,true)
 | [],out=>by simp
 | x::l,out=>by
  have e1:φ3D f (out,true) x=(out++[x],true):=by unfold φ3D;rw[if_neg (by simp)]
  rw[κL,e1,φHK f l];simp
theorem φHa (f:φ6):∀(l out:List φ6),(let s:=l.foldl (φ3D f) (out,false);if s.2=true then s.1 else s.1++[f])=out++insB l f
 | [],out=>by simp[insB]
 | x::l,out=>by
  rw[κL]
  cases hk:leK x.1 f.1
  ·have e1:φ3D f (out,false) x=(out++[f]++[x],true):=by unfold φ3D;rw[if_pos ⟨rfl,hk⟩]
   rw[e1,φHK]
   simp[insB,hk]
  ·have e1:φ3D f (out,false) x=(out++[x],false):=by unfold φ3D;rw[if_neg (by simp[hk])]
   rw[e1,φHa f l (out++[x])]
   simp[insB,hk]
theorem φBE (l:List φ6) (f:φ6) (hl:l.length<1000000000):ψ3b.f l f=some (insB l f):=by
 have hk:=φ3M (step:=ψ3b.l0) l (φ3D f) (fun n (s:List φ6×Bool)=>(l,f,s.1,s.2,(n:Int))) (fun s=>(f,s.1,s.2)) (fun n s=>s.1.length≤2 * n) (by omega)
  (fun rec n s h hi=>by
   have hi:s.1.length≤2 * n:=hi
   have hq:s.1.length<1000000000000:=by omega
   have hb1:(s.1.length+[f].length) * 40≤140737488355328:=φ3l (Nat.lt_succ_of_lt hq)
   have hb2:(s.1.length+([l[n]]:List φ6).length) * 40≤140737488355328:=φ3l (Nat.lt_succ_of_lt hq)
   have hb3:((s.1++[f]).length+([l[n]]:List φ6).length) * 40≤140737488355328:=by rw[lA];exact φ3l (Nat.succ_lt_succ hq)
   have hw:w64 ((n:Int)+1)=(n:Int)+1:=φI (by omega) (by omega)
   have hle:(Op.bytesLess l[n].1 f.1 || l[n].1==f.1)=leK l[n].1 f.1:=rfl
   simp only[ψ3b.l0,oL,h,dT,cT,φF,φJ,φ9 h,φ1m,hle]
   unfold φ3D
   rcases bE s.2 with h2 | h2
   ·simp only[h2,cF,nZ,bS,φF,φJ,φ9 h,φ1m,h,dT,cT,hb2]
    simp[hw]
   ·rcases bE (leK l[n].1 f.1) with h3 | h3
    ·simp only[h2,h3,cF,nZ,nF,bS,φF,φJ,φ9 h,φ1m,h,dT,cT,hb2]
     simp[hw]
    ·simp only[h2,h3,cF,nZ,nF,bS,φF,φJ,φ9 h,φ1m,h,dT,cT,hb1,hb3]
     simp[hw])
  (fun n s h hi=>by have:=φHr f s l[n];have hi:s.1.length≤2 * n:=hi;show _≤2 * (n+1);omega)
  (fun rec s hi=>by simp[ψ3b.l0]) ([],false) (by simp)
 have hk:lp ψ3b.l0 (l,f,[],false,0)=_:=hk
 have hlen:∀(m:List φ6) (s:List φ6×Bool),(m.foldl (φ3D f) s).1.length≤s.1.length+2 * m.length:=by
  intro m
  induction m with
  | nil=>intro s;simp
  | cons x m ih=>intro s;rw[κL];have:=ih (φ3D f s x);have:=φHr f s x;simp only[lC];omega
 unfold ψ3b.f
 rw[hk,bS]
 have hf:=φHa f l []
 have hb:=hlen l ([],false)
 generalize l.foldl (φ3D f) ([],false)=s at *
 obtain ⟨s1,s2⟩:=s
 simp only[lN,κV] at hb
 have hb1:(s1.length+[f].length) * 40≤140737488355328:=φ3l (by omega)
 cases s2
 ·simp only[κ3,if_false,κ8] at hf
  simp only[nF,cT,hb1,dT,hf]
 ·simp only[if_true,κ8] at hf
  simp[hf]
theorem φHX {α:Type} {f g:α→Bool}:∀{l:List α},(∀x∈l,f x=g x)→l.takeWhile f=l.takeWhile g
 | [],_=>rfl
 | x::l,h=>by
  rw[List.takeWhile_cons,List.takeWhile_cons,h x (by simp),φHX fun y hy=>h y (mC _ hy)]
theorem φFo {l:List φ6} {f:φ6} (h:∀x∈l,x.1≠f.1):putF l f=insB l f:=by
 unfold putF insB
 have:(l.takeWhile fun x=>Op.bytesLess x.1 f.1)=l.takeWhile fun x=>leK x.1 f.1:=φHX fun x hx=>by
  unfold leK
  have:(x.1==f.1)=false:=by simpa using h x hx
  rw[this,Bool.or_false]
 rw[this]
def φ2g (name:List UInt8) (l:List φ6):Int×List φ6:=
 if φ1n name=false then (5,l) else if φ1j l name≥0 then (4,l) else if 130≤l.length then (2,l) else (0,insB l (name,[],0))
theorem φLx (d:φ1) (name:List UInt8) (h:d.1.length<1000000000) (hn:name.length<2 ^ 62):ψ5.f d name=some ((φ2g name d.1).1,(φ2g name d.1).2,d.2):=by
 unfold ψ5.f φ2g
 rw[φAk name hn,bS,φ4R d name (by omega)]
 rcases bE (φ1n name) with k | k
 rotate_left
 ·simp[k]
 simp only[k,nZ,cF,bS,κ9,if_false]
 rcases φw d.1 name with ⟨e,hno⟩ | ⟨i,hi,e,_⟩
 ·have c:¬φ1j d.1 name≥0:=by omega
  simp only[c,dF,cF,if_false]
  by_cases c2:130≤d.1.length
  ·have c3:(d.1.length:Int)≥130:=by omega
   simp[c2,c3]
  ·have c3:¬(d.1.length:Int)≥130:=by omega
   simp only[c2,c3,dF,cF,if_false,φHF d _ h,bS,φFo (l:=d.1) (f:=(name,[],0)) hno]
 ·have c:φ1j d.1 name≥0:=by omega
  simp[c]
theorem φM3 (d:φ1) (name:List UInt8) (h:dlim d) (hn:name.length<2 ^ 62):ψ4.f d name=some (φT d (φ2g name)):=by
 have hs:ψ1n.f d name=some (φT d (φ2g name)):=φ6E d h name (fun n x=>ψ5.f x n) (φ2g name) fun _=>by
  show ψ5.f (tick d) name=_
  rw[φLx (tick d) name (by rw[φ1b];exact h.1) hn,φ1b]
 unfold ψ4.f
 rw[hs];rfl
theorem φFw (d:φ1) (name:List UInt8) (h:dlim d) (hn:name.length<2 ^ 62):ψ2K.f d name=some (φT d (φ2g name)):=by
 have hl:=h.1
 unfold ψ2K.f
 rcases φ7c d h with ⟨x,c,e1,e2,e3⟩ | ⟨k,e1,e3⟩
 ·rw[e1,e3,bS];simp only[e2,cT]
 rw[e1,e3,bS]
 simp only[bne_self_eq_false,cF,φAP name hn,φ4S d name (show d.1.length<2 ^ 62 by omega),bS]
 unfold φ2g
 have ht:(d.1,(tick d).2)=tick d:=by rw[←φ1b d]
 rcases bE (φ1n name) with k | k
 rotate_left
 ·simp[k,ht]
 simp only[k,nZ,cF,κ9,if_false]
 by_cases c:φ1j d.1 name≥0
 ·simp[c,ht]
 simp only[c,dF,cF,if_false]
 by_cases c2:130≤d.1.length
 ·have c3:(d.1.length:Int)≥130:=by omega
  simp[c2,c3,ht]
 ·have c3:¬(d.1.length:Int)≥130:=by omega
  simp only[c2,c3,dF,cF,if_false,φ1b,φBE d.1 _ hl,bS]
theorem φHS:∀(l:List φ6) (p:List UInt8),φ3c (some p) l=true→(∀x∈l,Op.bytesLess p x.1=true)∧l.Pairwise (fun a b=>Op.bytesLess a.1 b.1=true)
 | [],p,_=>⟨by simp,List.Pairwise.nil⟩
 | f::l,p,h=>by
  simp only[φ3c,bA] at h
  obtain ⟨h1,h2⟩:=φHS l f.1 h.2
  refine ⟨fun x hx=>?_,List.Pairwise.cons h1 h2⟩
  rcases mc.1 hx with e | hx
  ·rw[e];exact h.1
  ·exact φ7X _ _ _ h.1 (h1 x hx)
theorem φGC (l:List φ6) (h:φ3c none l=true):l.Pairwise (fun a b=>Op.bytesLess a.1 b.1=true):=by
 cases l with
 | nil=>exact List.Pairwise.nil
 | cons f l=>
  obtain ⟨h1,h2⟩:=φHS l f.1 h
  exact List.Pairwise.cons h1 h2
theorem φ5b {d:φ1} (h:φ3 d=true):d.1.Pairwise (fun a b=>Op.bytesLess a.1 b.1=true):=by
 unfold φ3 φ5f at h
 simp only[bA] at h
 exact φGC _ h.2.2.2.2.2
theorem φ9a {l:List φ6} {i:Nat} (h:i<l.length):l=l.take i++l[i]::l.drop (i+1):=by
 rw[←dG h,κE]
theorem φ5o (l:List φ6) (i:Nat):(φc l i).Sublist l:=by
 unfold φc
 have:(l.take i++l.drop (i+1)).Sublist (l.take i++l.drop i):=List.Sublist.append (List.Sublist.refl _) (List.drop_sublist_drop_left l (by omega))
 rw[κE] at this
 exact this
theorem φBB {l:List φ6} {i:Nat} (h:i<l.length) (hp:l.Pairwise (fun a b=>Op.bytesLess a.1 b.1=true)):∀x∈φc l i,x.1≠l[i].1:=by
 rw[φ9a h,κd] at hp
 obtain ⟨_,h2,h3⟩:=hp
 intro x hx
 rcases mA.1 hx with hx | hx
 ·exact φ6Y (h3 x hx _ κ0)
 ·exact (φ6Y ((κY.1 h2).1 x hx)).symm
theorem φCq {l:List φ6} {name:List UInt8} (hp:l.Pairwise (fun a b=>Op.bytesLess a.1 b.1=true)):∀x∈φ1Y l name,x.1≠name:=by
 unfold φ1Y
 rcases φw l name with ⟨e,hno⟩ | ⟨i,hi,e,hn⟩
 ·rw[φ1C e];exact hno
 ·rw[φ17 e,←hn];exact φBB hi hp
theorem φD5 {l:List φ6} {name:List UInt8} (h:∀x∈l,x.1≠name):φ1Y l name=l:=by
 unfold φ1Y
 have:l.findIdx? (fun f=>f.1==name)=none:=by
  rw[List.findIdx?_eq_none_iff]
  intro x hx
  simpa using h x hx
 rw[this]
theorem φNz {l:List φ6} {i:Nat} (h:i<l.length) (hp:l.Pairwise (fun a b=>Op.bytesLess a.1 b.1=true)):putF (φc l i) l[i]=l:=by
 have hs:=hp
 rw[φ9a h,κd] at hs
 obtain ⟨_,h2,h3⟩:=hs
 have e1:((φc l i).takeWhile fun x=>Op.bytesLess x.1 l[i].1)=l.take i:=by
  unfold φc
  rw[List.takeWhile_append_of_pos (fun x hx=>h3 x hx _ κ0)]
  have:(l.drop (i+1)).takeWhile (fun x=>Op.bytesLess x.1 l[i].1)=[]:=by
   cases e:l.drop (i+1) with
   | nil=>rfl
   | cons y r=>
    rw[List.takeWhile_cons,φGL _ _ ((κY.1 h2).1 y (by rw[e];simp))];rfl
  rw[this,κ7]
 unfold putF
 rw[e1]
 have hk:(l.take i).length=i:=by rw[lT];omega
 simp only[hk]
 unfold φc
 rw[List.take_append_of_le_length (by omega),List.take_take,Nat.min_self,List.drop_append_of_le_length (by omega),List.drop_take,Nat.sub_self,List.take_zero,κ8,aA,List.singleton_append]
 exact (φ9a h).symm
def φ2L (src dst:List UInt8) (l:List φ6):Int×List φ6:=
 if φ1n dst=false then (5,l) else
 match l.findIdx? (fun f=>f.1==src) with
 | some i=>(0,if src=dst then l else insB (φ1Y (φc l i) dst) (dst,(l.getD i ([],[],0)).2))
 | none=>(3,l)
theorem φJK (d:φ1) (src dst:List UInt8) (h:d.1.length<1000000000) (hn:dst.length<2 ^ 62) (hp:d.1.Pairwise (fun a b=>Op.bytesLess a.1 b.1=true)):ψu.f d src dst=some ((φ2L src dst d.1).1,(φ2L src dst d.1).2,d.2):=by
 unfold ψu.f φ2L
 rw[φ4R d src (by omega),bS,φAk dst hn,bS,φC1 d src h]
 rcases bE (φ1n dst) with k | k
 rotate_left
 ·simp[k]
 simp only[k,nZ,cF,κ9,if_false]
 rcases φw d.1 src with ⟨e,_⟩ | ⟨i,hi,e,hsrc⟩
 ·rw[e,φ1C e];rfl
 ·have e0:φ1Y d.1 src=φc d.1 i:=by unfold φ1Y;rw[φ17 e]
  rw[e,φ17 e,e0]
  have hl:=φ6m hi
  have hl2:=φBt (φc d.1 i) dst
  simp only[dnn (show (0:Int)≤(i:Int) by omega),cF,φ45 hi,cT,φ42 hi,bS,φ9 hi,φC1 (φc d.1 i,d.2) dst (show (φc d.1 i).length<1000000000 by omega),φHF (φ1Y (φc d.1 i) dst,d.2) (dst,d.1[i].2.1,d.1[i].2.2) (show (φ1Y (φc d.1 i) dst).length<1000000000 by omega)]
  by_cases c:src=dst
  ·simp only[c,if_true]
   have hd:d.1[i].1=dst:=by rw[hsrc,c]
   have e2:φ1Y (φc d.1 i) dst=φc d.1 i:=φD5 (by rw[←hd];exact φBB hi hp)
   have e3:putF (φc d.1 i) (dst,d.1[i].2.1,d.1[i].2.2)=d.1:=by
    have:=φNz hi hp
    rw[←hd];exact this
   rw[e2,e3]
  ·simp only[c,if_false]
   rw[φFo (l:=φ1Y (φc d.1 i) dst) (f:=(dst,d.1[i].2.1,d.1[i].2.2)) (φCq (hp.sublist (φ5o d.1 i)))]
theorem φOe (d:φ1) (src dst:List UInt8) (h:dlim d) (hn:dst.length<2 ^ 62):ψt.f d src dst=some (φT d (φ2L src dst)):=by
 have hs:ψ1p.f d (src,dst)=some (φT d (φ2L src dst)):=φ6E d h (src,dst) (fun c x=>ψu.f x c.1 c.2) (φ2L src dst) fun k=>by
  show ψu.f (tick d) src dst=_
  rw[φJK (tick d) src dst (by rw[φ1b];exact h.1) hn (by rw[φ1b];exact φ5b k),φ1b]
 unfold ψt.f
 rw[hs];rfl
theorem φIc (d:φ1) (src dst:List UInt8) (h:dlim d) (hn:dst.length<2 ^ 62):ψ2r.f d src dst=some (φT d (φ2L src dst)):=by
 have hl:=h.1
 unfold ψ2r.f
 rcases φ7c d h with ⟨x,c,e1,e2,e3⟩ | ⟨k,e1,e3⟩
 ·rw[e1,e3,bS];simp only[e2,cT]
 rw[e1,e3,bS]
 have hp:=φ5b k
 simp only[bne_self_eq_false,cF,φAP dst hn,φ4S d src (show d.1.length<2 ^ 62 by omega),bS]
 unfold φ2L
 have ht:(d.1,(tick d).2)=tick d:=by rw[←φ1b d]
 rcases bE (φ1n dst) with k2 | k2
 rotate_left
 ·simp[k2,ht]
 simp only[k2,nZ,cF,κ9,if_false]
 rcases φw d.1 src with ⟨e,_⟩ | ⟨i,hi,e,hsrc⟩
 ·rw[e,φ1C e]
  show some (tick d,3)=some ((d.1,(tick d).2),3)
  rw[←φ1b d]
 ·rw[e,φ17 e]
  have hlr:=φ6m hi
  have hl2:=φBt (φc d.1 i) dst
  simp only[dnn (show (0:Int)≤(i:Int) by omega),cF]
  by_cases c:src=dst
  ·simp[c,ht]
  have c1:(src==dst)=false:=by simpa using c
  simp only[c,c1,cF,if_false,φ45 hi,cT,φ42 hi,φ9 hi,φ1b,φ9t d.1 i hi hl,bS,φ4S (φc d.1 i,(tick d).2) dst (show (φc d.1 i).length<2 ^ 62 by omega)]
  rcases φw (φc d.1 i) dst with ⟨e',hno⟩ | ⟨j,hj,e',hdst⟩
  ·have c2:¬φ1j (φc d.1 i) dst≥0:=by omega
   simp only[c2,dF,cF,bS,φBE (φc d.1 i) _ (show (φc d.1 i).length<1000000000 by omega),φD5 hno]
  ·have c2:φ1j (φc d.1 i) dst≥0:=by omega
   have e4:φ1Y (φc d.1 i) dst=φc (φc d.1 i) j:=by unfold φ1Y;rw[φ17 e']
   rw[e4] at hl2
   simp only[c2,dT,cT]
   simp only[e',φ9t (φc d.1 i) j hj (by omega),bS,φBE (φc (φc d.1 i) j) _ (show (φc (φc d.1 i) j).length<1000000000 by omega),e4]
theorem φAw (t:TxnT) (h1:t.2.1.length<1000000000000) (h2:t.2.2.length<1000000000000):ψ1P.f t=some t:=by
 unfold ψ1P.f ψ1N.f
 have c1:t.2.1.length * 24≤140737488355328:=by omega
 have c2:t.2.2.length * 40≤140737488355328:=by omega
 simp[c1,c2]
theorem φBT (t:TxnT) (h1:t.2.1.length<1000000000000) (h2:t.2.2.length<1000000000000):ψ3I.f t=some t:=by
 unfold ψ3I.f
 have c1:t.2.1.length * 24≤140737488355328:=by omega
 have c2:t.2.2.length * 40≤140737488355328:=by omega
 simp[c1,c2]
def φ1r (t:TxnT) (p:PutT):TxnT×Bool:=
 if t.1=true∧φ1h p=true∧(netW (t.2.2++[p])).length≤8∧t.2.2.length<50 then ((t.1,t.2.1,t.2.2++[p]),true) else (t,false)
theorem φLw (t:TxnT) (p:PutT) (h1:t.2.1.length<1000000000) (h2:t.2.2.length<1000000000):ψ1E.f t p=some (φ1r t p):=by
 have hc:=φAw t (by omega) (by omega)
 have hb:(t.2.2.length+([p]:List PutT).length) * 40≤140737488355328:=φ3l (by omega)
 have hn:ψc.f (t.1,t.2.1,t.2.2++[p])=some (netW (t.2.2++[p])):=φC5 (t.1,t.2.1,t.2.2++[p]) (by show (t.2.2++[p]).length<_;rw[lA];show _+1<_;omega)
 have hl:(t.2.2++[p]).length=t.2.2.length+1:=lA
 unfold ψ1E.f φ1r
 simp only[hc,bS,hb,dT,cT,φBb,hn]
 rcases bE t.1 with k | k
 rotate_left
 ·simp[k]
 rcases bE (φ1h p) with k2 | k2
 rotate_left
 ·simp[k,k2]
 simp only[k,k2,nZ,cF,true_and]
 by_cases c:(netW (t.2.2++[p])).length≤8
 rotate_left
 ·have c1:((netW (t.2.2++[p])).length:Int) > 8:=by omega
  simp only[c,c1,dT,cT,false_and,if_false]
 have c1:¬((netW (t.2.2++[p])).length:Int) > 8:=by omega
 by_cases c2:t.2.2.length<50
 ·have c3:¬(((t.2.2++[p]).length:Nat):Int) > 50:=by omega
  simp only[c,c1,c2,c3,dF,cF,and_self,if_true]
 ·have c3:(((t.2.2++[p]).length:Nat):Int) > 50:=by omega
  simp only[c,c1,c2,c3,dT,dF,cT,cF,and_false,if_false]
theorem φK2 (t:TxnT) (p:PutT) (h1:t.2.1.length<1000000000) (h2:t.2.2.length<1000000000):ψ33.f t p=some (φ1r t p):=by
 have hc:=φBT t (by omega) (by omega)
 have hb:(t.2.2.length+([p]:List PutT).length) * 40≤140737488355328:=φ3l (by omega)
 have hn:ψ2g.f (t.1,t.2.1,t.2.2++[p])=some (netW (t.2.2++[p])):=φIE (t.1,t.2.1,t.2.2++[p]) (by show (t.2.2++[p]).length<_;rw[lA];show _+1<_;omega)
 have hl:(t.2.2++[p]).length=t.2.2.length+1:=lA
 have hp:ψ2j.f [p]=some (φ1h p):=by
  rw[φID [p] (by show 1<2 ^ 62;decide)]
  unfold φ1k
  simp
 unfold ψ33.f φ1r
 simp only[hc,bS,hb,dT,cT,hp,hn]
 rcases bE t.1 with k | k
 rotate_left
 ·simp[k]
 rcases bE (φ1h p) with k2 | k2
 rotate_left
 ·simp[k,k2]
 simp only[k,k2,nZ,cF,true_and]
 by_cases c:(netW (t.2.2++[p])).length≤8
 rotate_left
 ·have c1:((netW (t.2.2++[p])).length:Int) > 8:=by omega
  simp only[c,c1,dT,cT,false_and,if_false]
 have c1:¬((netW (t.2.2++[p])).length:Int) > 8:=by omega
 by_cases c2:t.2.2.length<50
 ·have c3:¬(((t.2.2++[p]).length:Nat):Int) > 50:=by omega
  simp only[c,c1,c2,c3,dF,cF,and_self,if_true]
 ·have c3:(((t.2.2++[p]).length:Nat):Int) > 50:=by omega
  simp only[c,c1,c2,c3,dT,dF,cT,cF,and_false,if_false]
theorem φCY {n:Nat} (h:n<9223372036854775808):IntKind.wrap .i64 (n:Int)=n:=φ3h h
theorem φAR {n:Nat} (h:n<4294967296):IntKind.wrap .u32 (n:Int)=n:=by
 unfold IntKind.wrap
 simp only[IntKind.bits,IntKind.signed]
 simp;omega
theorem φCb (a b:Nat) (ha:a<2 ^ 63) (hb:b<2 ^ 63):bits (fun _ a b=>a ^^^ b) .i64 (a:Int) (b:Int)=((a ^^^ b:Nat):Int):=by
 unfold bits
 have h:a ^^^ b<2 ^ 63:=Nat.xor_lt_two_pow ha hb
 have e:(BitVec.ofInt 64 (a:Int) ^^^ BitVec.ofInt 64 (b:Int)).toNat=a ^^^ b:=by
  rw[BitVec.ofInt_natCast,BitVec.ofInt_natCast,BitVec.toNat_xor,BitVec.toNat_ofNat,BitVec.toNat_ofNat,κb (by omega),κb (by omega)]
 show IntKind.wrap .i64 ((BitVec.ofInt 64 (a:Int) ^^^ BitVec.ofInt 64 (b:Int)).toNat:Int)=_
 rw[e]
 exact φCY (by omega)
theorem φBI (a b:Nat) (ha:a<2 ^ 32) (hb:b<2 ^ 32):bits (fun _ a b=>a ^^^ b) .u32 (a:Int) (b:Int)=((a ^^^ b:Nat):Int):=by
 unfold bits
 have h:a ^^^ b<2 ^ 32:=Nat.xor_lt_two_pow ha hb
 have e:(BitVec.ofInt 32 (a:Int) ^^^ BitVec.ofInt 32 (b:Int)).toNat=a ^^^ b:=by
  rw[BitVec.ofInt_natCast,BitVec.ofInt_natCast,BitVec.toNat_xor,BitVec.toNat_ofNat,BitVec.toNat_ofNat,κb (by omega),κb (by omega)]
 show IntKind.wrap .u32 ((BitVec.ofInt 32 (a:Int) ^^^ BitVec.ofInt 32 (b:Int)).toNat:Int)=_
 rw[e]
 exact φAR (by omega)
theorem φOd (a:Nat) (ha:a<2 ^ 32):bits (fun _ a b=>a &&& b) .u32 (a:Int) 1=((a % 2:Nat):Int):=by
 unfold bits
 have e:(BitVec.ofInt 32 (a:Int) &&& BitVec.ofInt 32 ((1:Nat):Int)).toNat=a % 2:=by
  rw[BitVec.ofInt_natCast,BitVec.ofInt_natCast,BitVec.toNat_and,BitVec.toNat_ofNat,BitVec.toNat_ofNat,κb (by omega)]
  exact Nat.and_one_is_mod a
 show IntKind.wrap .u32 ((BitVec.ofInt 32 (a:Int) &&& BitVec.ofInt 32 ((1:Nat):Int)).toNat:Int)=_
 rw[e]
 exact φAR (by omega)
def crc1 (c:Nat):Nat:=if c % 2=1 then (c / 2) ^^^ 2197175160 else c / 2
def crcK:Nat→Nat→Nat
 | 0,c=>c
 | k+1,c=>crcK k (crc1 c)
def crcB (c:Nat) (b:UInt8):Nat:=crcK 8 (c ^^^ b.toNat)
def crcN (s:List UInt8):Nat:=s.foldl crcB 4294967295
def crcT (s:List UInt8):Int:=((4294967295 - crcN s:Nat):Int)
theorem φC3 {c:Nat} (h:c<2 ^ 32):crc1 c<2 ^ 32:=by
 unfold crc1
 split
 ·exact Nat.xor_lt_two_pow (by omega) (by decide)
 ·omega
theorem φEM:∀(k:Nat) {c:Nat},c<2 ^ 32→crcK k c<2 ^ 32
 | 0,_,h=>h
 | k+1,_,h=>φEM k (φC3 h)
theorem φA1 {c:Nat} (h:c<2 ^ 32) (b:UInt8):crcB c b<2 ^ 32:=
 φEM 8 (Nat.xor_lt_two_pow h (by have:=b.toNat_lt;omega))
theorem φA8:∀(s:List UInt8) {c:Nat},c<2 ^ 32→s.foldl crcB c<2 ^ 32
 | [],_,h=>h
 | b::s,_,h=>φA8 s (φA1 h b)
theorem φ59 (s:List UInt8):0≤crcT s∧crcT s≤4294967295:=by unfold crcT;omega
theorem φMg (s:List UInt8) (c:Nat) (i:Int) (hc:c<2 ^ 32):lp ψ2J.l2 (s,(c:Int),i,0)=some (s,((crcK 8 c:Nat):Int),i):=by
 have:=φg (step:=ψ2J.l2) (fun n (c:Nat)=>(s,(c:Int),i,(n:Int))) 8 (fun n c=>(s,((crcK (8 - n) c:Nat):Int),i)) (fun _ c=>c<2 ^ 32)
  (fun rec n c hn hc ih=>by
   rcases κ2 n 8 with h | h
   ·have h8:(n:Int)<8:=by omega
    have hw:w64 ((n:Int)+1)=((n+1:Nat):Int):=φM (by omega)
    have e1:w64 (Int.tdiv (c:Int) 2)=((c / 2:Nat):Int):=by
     rw[show Int.tdiv (c:Int) 2=((c / 2:Nat):Int) from rfl];exact φ3h (by omega)
    have e2:Int.tmod (c:Int) 2=((c % 2:Nat):Int):=rfl
    have e3:bits (fun _ a b=>a ^^^ b) .i64 ((c / 2:Nat):Int) 2197175160=(((c / 2) ^^^ 2197175160:Nat):Int):=φCb (c / 2) 2197175160 (by omega) (by decide)
    have e4:crcK (8 - n) c=crcK (8 - (n+1)) (crc1 c):=by
     rw[show 8 - n=(8 - (n+1))+1 by omega];rfl
    have ih:=ih (crc1 c) h (φC3 hc)
    rw[e4,←ih]
    simp only[ψ2J.l2,h8,dT,cT,e1,e2]
    unfold crc1
    by_cases k:c % 2=1
    ·have k2:(((c % 2:Nat):Int)==1)=true:=by rw[k];rfl
     simp only[k2,cT,e3,bS,hw]
     rw[if_pos k]
    ·have k2:(((c % 2:Nat):Int)==1)=false:=by simp;omega
     simp only[k2,cF,bS,hw]
     rw[if_neg k]
   ·have:n=8:=by omega
    subst this
    simp[ψ2J.l2,crcK])
  (by omega) 0 c (κ4 _) hc
 exact this
theorem φMR (s:List UInt8) (c:Nat) (i:Int) (hc:c<2 ^ 32):lp ψ3.l2 (s,(c:Int),i,0)=some (s,((crcK 8 c:Nat):Int),i):=by
 have:=φg (step:=ψ3.l2) (fun n (c:Nat)=>(s,(c:Int),i,(n:Int))) 8 (fun n c=>(s,((crcK (8 - n) c:Nat):Int),i)) (fun _ c=>c<2 ^ 32)
  (fun rec n c hn hc ih=>by
   rcases κ2 n 8 with h | h
   ·have h8:(n:Int)<8:=by omega
    have hw:w64 ((n:Int)+1)=((n+1:Nat):Int):=φM (by omega)
    have e1:Int.fdiv (c:Int) (2 ^ (min 1 32))=((c / 2:Nat):Int):=by
     show Int.fdiv (c:Int) 2=_
     rw[Int.fdiv_eq_ediv_of_nonneg _ (by omega)];rfl
    have e3:bits (fun _ a b=>a ^^^ b) .u32 ((c / 2:Nat):Int) 2197175160=(((c / 2) ^^^ 2197175160:Nat):Int):=φBI (c / 2) 2197175160 (by omega) (by decide)
    have e4:crcK (8 - n) c=crcK (8 - (n+1)) (crc1 c):=by
     rw[show 8 - n=(8 - (n+1))+1 by omega];rfl
    have ih:=ih (crc1 c) h (φC3 hc)
    rw[e4,←ih]
    simp only[ψ3.l2,h8,dT,cT,e1,φOd c hc]
    unfold crc1
    by_cases k:c % 2=1
    ·have k2:(((c % 2:Nat):Int)==1)=true:=by rw[k];rfl
     simp only[k2,cT,e3,bS,hw]
     rw[if_pos k]
    ·have k2:(((c % 2:Nat):Int)==1)=false:=by simp;omega
     simp only[k2,cF,bS,hw]
     rw[if_neg k]
   ·have:n=8:=by omega
    subst this
    simp[ψ3.l2,crcK])
  (by omega) 0 c (κ4 _) hc
 exact this
theorem φAa (s:List UInt8) (hl:s.length<2 ^ 62):ψ2J.f s=some (crcT s):=by
 have hk:=φ3M (step:=ψ2J.l0) s crcB (fun n (c:Nat)=>(s,(c:Int),(n:Int))) (fun c=>(c:Int)) (fun _ c=>c<2 ^ 32) hl
  (fun rec n c h hc=>by
   have hc:c<2 ^ 32:=hc
   have hw:w64 ((n:Int)+1)=((n+1:Nat):Int):=φM (by omega)
   have hb:=s[n].toNat_lt
   have e1:w64 (bAt s (n:Int))=((s[n].toNat:Nat):Int):=by rw[φ5K s n h];exact φ3h (by omega)
   have e2:=φCb c s[n].toNat (by omega) (by omega)
   simp only[ψ2J.l0,oL,h,dT,cT,φF,e1,e2]
   rw[φMg s _ _ (Nat.xor_lt_two_pow hc (by omega))]
   simp only[bS,hw];rfl)
  (fun n c h hc=>φA1 hc _)
  (fun rec c hc=>by simp[ψ2J.l0]) 4294967295 (by decide)
 have hk:lp ψ2J.l0 (s,4294967295,0)=_:=hk
 unfold ψ2J.f crcT crcN
 rw[hk,bS]
 have:=φA8 s (c:=4294967295) (by decide)
 generalize s.foldl crcB 4294967295=c at *
 simp only
 rw[φI (by omega) (by omega)]
 congr 1;omega
theorem φLb (c:Nat) (h:c<2 ^ 32):4294967295 ^^^ c=4294967295 - c:=by
 have e:(BitVec.allOnes 32 ^^^ BitVec.ofNat 32 c).toNat=(~~~ BitVec.ofNat 32 c).toNat:=by rw[BitVec.allOnes_xor]
 rw[BitVec.toNat_xor,BitVec.toNat_not,BitVec.toNat_allOnes,BitVec.toNat_ofNat,κb h] at e
 have e:4294967295 ^^^ c=4294967296 - 1 - c:=e
 omega
theorem φAz (s:List UInt8) (hl:s.length<2 ^ 62):ψ3.f s=some (crcT s):=by
 have hk:=φ3M (step:=ψ3.l0) s crcB (fun n (c:Nat)=>(s,(c:Int),(n:Int))) (fun c=>(c:Int)) (fun _ c=>c<2 ^ 32) hl
  (fun rec n c h hc=>by
   have hc:c<2 ^ 32:=hc
   have hw:w64 ((n:Int)+1)=((n+1:Nat):Int):=φM (by omega)
   have hb:=s[n].toNat_lt
   have e1:IntKind.wrap .u32 (bAt s (n:Int))=((s[n].toNat:Nat):Int):=by rw[φ5K s n h];exact φAR (by omega)
   have e2:=φBI c s[n].toNat (by omega) (by omega)
   simp only[ψ3.l0,oL,h,dT,cT,φF,e1,e2]
   rw[φMR s _ _ (Nat.xor_lt_two_pow hc (by omega))]
   simp only[bS,hw];rfl)
  (fun n c h hc=>φA1 hc _)
  (fun rec c hc=>by simp[ψ3.l0]) 4294967295 (by decide)
 have hk:lp ψ3.l0 (s,4294967295,0)=_:=hk
 unfold ψ3.f crcT crcN
 rw[hk,bS]
 have:=φA8 s (c:=4294967295) (by decide)
 generalize s.foldl crcB 4294967295=c at *
 have e:bits (fun _ a b=>a ^^^ b) .u32 4294967295 (c:Int)=((4294967295 ^^^ c:Nat):Int):=φBI 4294967295 c (by decide) this
 simp only[e,φLb c this]
 rw[φ3h (by omega)]
def vLow (n:Nat):List UInt8:=if h:n<128 then [] else UInt8.ofNat (128+n % 128)::vLow (n / 128)
termination_by n
decreasing_by omega
def vTop (n:Nat):Nat:=if h:n<128 then n else vTop (n / 128)
termination_by n
decreasing_by omega
theorem φ9c:∀(k n:Nat),n<128 ^ (k+1)→(vLow n).length≤k
 | 0,n,h=>by unfold vLow;rw[dif_pos (by simpa using h)];simp
 | k+1,n,h=>by
  unfold vLow
  split
  ·simp
  ·have:=φ9c k (n / 128) (by rw[Nat.div_lt_iff_lt_mul (by omega)];rw[κZ] at h;exact h)
   simp only[lC];omega
def varT (n:Int):List UInt8:=if 0≤n∧n≤562949953421311 then vLow n.toNat++[UInt8.ofNat (vTop n.toNat)] else []
theorem φl (n:Int):(varT n).length≤7:=by
 unfold varT
 split
 ·rename_i h
  have:=φ9c 6 n.toNat (by show _<562949953421312;omega)
  rw[lA,κA];omega
 ·simp
theorem φ6y (n:Nat):UInt8.ofNat (IntKind.wrap .u8 (n:Int)).toNat=UInt8.ofNat n:=by
 have e:IntKind.wrap .u8 (n:Int)=((n % 256:Nat):Int):=by
  unfold IntKind.wrap
  simp only[IntKind.bits,IntKind.signed]
  simp
 rw[e,tN]
 exact UInt8.ofNat_mod_size
theorem φMB:ψ1H.l0=ψ36.l0:=by
 funext rec x
 obtain ⟨x0,x3⟩:=x
 have e1:decide (x0 > 127)=decide (x0≥128):=decide_eq_decide.2 (by omega)
 simp only[ψ1H.l0,ψ36.l0,e1,Int.add_comm 128]
theorem φIS:ψ1H.f=ψ36.f:=by
 funext n
 unfold ψ1H.f ψ36.f
 rw[φ1a,φ2J,φMB]
theorem φMY (a b:List Int):φ1R (a++b)=φ1R a++φ1R b:=mp
def φ3J (n:Nat):List Int:=if h:n<128 then [] else IntKind.wrap .u8 (w64 (128+(n % 128:Nat)))::φ3J (n / 128)
termination_by n
decreasing_by omega
theorem φBk (n:Nat):φ1R (φ3J n)=vLow n:=by
 unfold φ3J vLow
 split
 ·rfl
 ·rw[show φ1R (IntKind.wrap .u8 (w64 (128+(n % 128:Nat)))::φ3J (n / 128))=UInt8.ofNat (IntKind.wrap .u8 (w64 (128+(n % 128:Nat)))).toNat::φ1R (φ3J (n / 128)) from rfl,φBk (n / 128)]
  have e:w64 (128+((n % 128:Nat):Int))=((128+n % 128:Nat):Int):=by rw[φI (by omega) (by omega)];omega
  rw[e,φ6y]
termination_by n
decreasing_by omega
theorem φNq (n:Nat):(φ3J n).length=(vLow n).length:=by rw[←φBk];unfold φ1R;rw[lM]
theorem φJD (m:Nat) (hm:m<128 ^ 7):lp ψ36.l0 ((m:Int),[])=some (((vTop m:Nat):Int),φ3J m):=by
 have:=φ73 (step:=ψ36.l0) (a:=((m:Int),([]:List Int)))
  (fun a=>(((vTop a.1.toNat:Nat):Int),a.2++φ3J a.1.toNat)) (fun a=>0≤a.1∧a.2.length≤7∧a.1.toNat<128 ^ (7 - a.2.length)) (fun a=>a.1.toNat)
  (fun rec a ha ih=>by
   obtain ⟨x,l⟩:=a
   obtain ⟨n,rfl⟩:∃n:Nat,x=(n:Int):=⟨x.toNat,by have:=ha.1;simp only at this;omega⟩
   obtain ⟨_,h2,h3⟩:=ha
   simp only[tN] at h2 h3 ih ⊢
   have hn:n<128 ^ 7:=κG h3 (Nat.pow_le_pow_right (by omega) (by omega))
   have hn:n<562949953421312:=hn
   by_cases c:n<128
   ·have c1:¬(n:Int)≥128:=by omega
    simp only[ψ36.l0,c1,dF,cF]
    rw[show vTop n=n by unfold vTop;rw[dif_pos c],show φ3J n=[] by unfold φ3J;rw[dif_pos c],κ7]
   ·have c1:(n:Int)≥128:=by omega
    have h4:l.length<7:=by
     rcases κ2 l.length 7 with h | h
     ·exact h
     ·rw[show 7 - l.length=0 by omega] at h3;simp at h3;omega
    have e1:Int.tmod (n:Int) 128=((n % 128:Nat):Int):=rfl
    have e2:w64 (Int.tdiv (n:Int) 128)=((n / 128:Nat):Int):=by
     rw[show Int.tdiv (n:Int) 128=((n / 128:Nat):Int) from rfl];exact φ3h (by omega)
    have hb:(l.length+[IntKind.wrap .u8 (w64 (128+((n % 128:Nat):Int)))].length) * 1≤140737488355328:=by
     show (l.length+1) * 1≤_;omega
    have ih:=ih (((n / 128:Nat):Int),l++[IntKind.wrap .u8 (w64 (128+((n % 128:Nat):Int)))]) ⟨by simp only;omega,by rw[lA];show _+1≤_;omega,by
     rw[lA,tN]
     show _<128 ^ (7 - (l.length+1))
     rw[Nat.div_lt_iff_lt_mul (by omega),←κZ,show (7 - (l.length+1)).succ=7 - l.length by omega];exact h3⟩ (by simp only[tN];omega)
    simp only[tN] at ih
    simp only[ψ36.l0,c1,dT,cT,e1,e2,hb,ih]
    rw[show vTop n=vTop (n / 128) by rw[vTop,dif_neg c],show φ3J n=IntKind.wrap .u8 (w64 (128+(n % 128:Nat)))::φ3J (n / 128) by rw[φ3J,dif_neg c],aA];rfl)
  ⟨by simp only;omega,by simp,by simpa using hm⟩ (by simp only[tN];have:m<562949953421312:=hm;omega)
 simpa using this
theorem φ4s (n:Int):ψ36.f n=some (varT n):=by
 unfold ψ36.f varT
 rw[φ2J,bS]
 by_cases h:0≤n∧n≤562949953421311
 rotate_left
 ·simp[h]
 obtain ⟨m,rfl⟩:∃m:Nat,n=(m:Int):=⟨n.toNat,by omega⟩
 have hm:m<128 ^ 7:=by show m<562949953421312;omega
 have key:∃L:List Int,φ1R L=vLow m∧L.length≤7∧lp ψ36.l0 ((m:Int),[])=some (((vTop m:Nat):Int),L):=
  ⟨φ3J m,φBk m,by rw[φNq];have:=φ9c 6 m hm;omega,φJD m hm⟩
 obtain ⟨L,e1,e2,e3⟩:=key
 have hb:(L.length+[IntKind.wrap .u8 ((vTop m:Nat):Int)].length) * 1≤140737488355328:=by
  show (L.length+1) * 1≤_;omega
 simp only[h,and_self,dT,nZ,cF,e3,bS,hb,cT,if_true,φMY,e1,tN]
 unfold φ1R
 simp only[κ5,List.map_nil,φ6y]
theorem φCC (n:Int):ψ1H.f n=some (varT n):=by rw[φIS,φ4s]
def fixL (n:Nat):Nat→List UInt8
 | 0=>[]
 | k+1=>UInt8.ofNat (n / 256 ^ k)::fixL n k
theorem φCM (n:Nat):∀k,(fixL n k).length=k
 | 0=>rfl
 | k+1=>by simp[fixL,φCM n k]
theorem φ7w (n:Nat):∀k,fixL n (k+1)=fixL (n / 256) k++[UInt8.ofNat n]
 | 0=>by simp[fixL]
 | k+1=>by
  rw[fixL,φ7w n k]
  show _=UInt8.ofNat (n / 256 / 256 ^ k)::fixL (n / 256) k++[UInt8.ofNat n]
  rw[Nat.div_div_eq_div_mul,κZ,Nat.mul_comm (256 ^ k) 256];rfl
def fix4 (n:Int):List UInt8:=if 0≤n∧n≤4294967295 then fixL n.toNat 4 else []
theorem φAY (n:Int) (hn:n<9223372036854775808):ψ2T.f n 4=some (fix4 n):=by
 unfold ψ2T.f fix4
 rw[φ2J,bS]
 by_cases h:0≤n
 rotate_left
 ·have h1:n<0:=by omega
  simp[h,h1]
 obtain ⟨m,rfl⟩:∃m:Nat,n=(m:Int):=⟨n.toNat,by omega⟩
 have key:=φg (step:=ψ2T.l0) (fun i (s:Nat×List UInt8)=>((s.1:Int),4,s.2,(i:Int))) 4 (fun i s=>(((s.1 / 256 ^ (4 - i):Nat):Int),fixL s.1 (4 - i)++s.2)) (fun i s=>s.1<9223372036854775808∧s.2.length≤i)
  (fun rec i s hi hv ih=>by
   obtain ⟨a,l⟩:=s
   obtain ⟨hv1,hv2⟩:=hv
   simp only at hv1 hv2 ih ⊢
   rcases κ2 i 4 with h4 | h4
   ·have e0:(i:Int)<4:=by omega
    have e1:Int.tmod (a:Int) 256=((a % 256:Nat):Int):=rfl
    have e2:w64 (Int.tdiv (a:Int) 256)=((a / 256:Nat):Int):=by
     rw[show Int.tdiv (a:Int) 256=((a / 256:Nat):Int) from rfl];exact φ3h (by omega)
    have e3:φ1R [IntKind.wrap .u8 ((a % 256:Nat):Int)]=[UInt8.ofNat a]:=by
     unfold φ1R
     simp only[κ5,List.map_nil,φ6y]
     congr 1;exact UInt8.ofNat_mod_size
    have hw:w64 ((i:Int)+1)=((i+1:Nat):Int):=φM (by omega)
    have hb:([UInt8.ofNat a]:List UInt8).length+l.length≤9223372036854775807:=by show 1+_≤_;omega
    have ih:=ih (a / 256,[UInt8.ofNat a]++l) h4 ⟨by simp only;omega,by simp;omega⟩
    simp only at ih
    simp only[ψ2T.l0,e0,dT,cT,e1,e2,e3,hb,hw,ih]
    rw[show 4 - i=(4 - (i+1))+1 by omega,φ7w,κZ,Nat.mul_comm,←Nat.div_div_eq_div_mul,aA]
   ·have:i=4:=by omega
    subst this
    simp[ψ2T.l0,fixL])
  (by omega) 0 (m,[]) (κ4 _) ⟨by simp only;omega,by simp⟩
 have key:lp ψ2T.l0 ((m:Int),4,[],0)=some (((m / 256 ^ 4:Nat):Int),fixL m 4++[]):=key
 have h1:¬(m:Int)<0:=by omega
 have h0:decide ((1:Int)≤4∧(4:Int)≤7)=true:=by decide
 have h2:(decide ((((m / 256 ^ 4:Nat):Int)) > 0))=!decide (0≤(m:Int)∧(m:Int)≤4294967295):=by
  have:m / 256 ^ 4=m / 4294967296:=rfl
  by_cases c:m≤4294967295
  ·have:m / 256 ^ 4=0:=by rw[this];omega
   rw[this];simp;omega
  ·have:0<m / 256 ^ 4:=by rw[this];omega
   have c2:¬(0≤(m:Int)∧(m:Int)≤4294967295):=by omega
   simp only[c2,dF,nF,decide_eq_true_eq];omega
 simp only[h0,h1,dF,nZ,cF,key,bS,h2,κ7,tN]
 by_cases c:0≤(m:Int)∧(m:Int)≤4294967295
 ·simp[c]
 ·rw[if_neg c,decide_eq_false c];rfl
def fixI (n:Nat):Nat→List Int
 | 0=>[]
 | k+1=>IntKind.wrap .u8 ((n / 256 ^ k:Nat):Int)::fixI n k
theorem φCa (n:Nat):∀k,φ1R (fixI n k)=fixL n k
 | 0=>rfl
 | k+1=>by
  rw[fixI,fixL,←φCa n k,←φ6y];rfl
theorem φBq (n:Int):ψQ.f n 4=some (fix4 n):=by
 unfold ψQ.f fix4
 have h0:decide ((1:Int)≤4∧(4:Int)≤7)=true:=by decide
 have h1:decide (0≤w64 (8 * 4))=true:=by decide
 have h2:w64 (w64 (1 * 2 ^ (min (w64 (8 * 4)).toNat 64)) - 1)=4294967295:=by decide
 simp only[φ1a,bS,h0,h1,h2,nZ,cF,cT]
 by_cases h:0≤n∧n≤4294967295
 rotate_left
 ·simp[h]
 obtain ⟨m,rfl⟩:∃m:Nat,n=(m:Int):=⟨n.toNat,by omega⟩
 have key:=φ73 (step:=ψQ.l0) (a:=((m:Int),([]:List Int),(3:Int)))
  (fun a=>a.2.1++(fixI m (a.2.2+1).toNat)) (fun a=>a.1=(m:Int)∧-1≤a.2.2∧a.2.2≤3∧(a.2.1.length:Int)≤3 - a.2.2) (fun a=>(a.2.2+1).toNat)
  (fun rec a ha ih=>by
   obtain ⟨x,l,k⟩:=a
   obtain ⟨hx,ha1,ha2,ha3⟩:=ha
   simp only at hx ha1 ha2 ha3 ih ⊢
   subst hx
   by_cases c:k≥0
   ·obtain ⟨j,rfl⟩:∃j:Nat,k=(j:Int):=⟨k.toNat,by omega⟩
    have e1:w64 (8 * (j:Int))=((8 * j:Nat):Int):=by rw[φI (by omega) (by omega)];omega
    have e2:Int.fdiv (m:Int) (2 ^ (min ((8 * j:Nat):Int).toNat 64))=((m / 256 ^ j:Nat):Int):=by
     have e:(2:Int) ^ (8 * j)=((256 ^ j:Nat):Int):=by
      rw[show (256:Nat)=2 ^ 8 from rfl,←Nat.pow_mul,Int.natCast_pow];rfl
     rw[tN,Nat.min_eq_left (by omega),e,Int.fdiv_eq_ediv_of_nonneg _ (Int.natCast_nonneg _)]
     rfl
    have e3:w64 ((j:Int) - 1)=(j:Int) - 1:=φI (by omega) (by omega)
    have hb:(l.length+[IntKind.wrap .u8 ((m / 256 ^ j:Nat):Int)].length) * 1≤140737488355328:=by show (l.length+1) * 1≤_;omega
    have ih:=ih ((m:Int),l++[IntKind.wrap .u8 ((m / 256 ^ j:Nat):Int)],(j:Int) - 1) ⟨rfl,by simp only;omega,by simp only;omega,by simp only[lA,κA];omega⟩ (by simp only;omega)
    simp only at ih
    have h0:(0:Int)≤((8 * j:Nat):Int):=by omega
    simp only[ψQ.l0,c,dT,cT,e1,h0,e2,hb,e3,ih]
    rw[show ((j:Int) - 1+1).toNat=j by omega,show ((j:Int)+1).toNat=j+1 by omega,fixI,aA];rfl
   ·have:k=-1:=by omega
    subst this
    simp[ψQ.l0,fixI])
  ⟨rfl,by simp only;omega,by simp only;omega,by simp⟩ (by show (4:Nat)<2 ^ 62;decide)
 have e9:w64 (4 - 1)=3:=by decide
 have key:lp ψQ.l0 ((m:Int),[],3)=some (fixI m 4):=key
 simp only[h,and_self,dT,nZ,cF,e9,key,bS,if_true,tN,φCa]
abbrev RecT:=Int×Int×List UInt8×List UInt8×Int×Int
def φa (r:RecT):Bool:=
 decide (0≤r.2.1∧r.2.1≤1000000) && (!(r.2.1==0) || r.1==5) &&
 (if r.1=1∨r.1=4 then φ1E r.2.2.1 && (decide (r.2.2.2.1.length≤24) && (r.2.2.2.2.1==0 && r.2.2.2.2.2==0))
 else if r.1=2 then φ1E r.2.2.1 && (r.2.2.2.1==[] && (r.2.2.2.2.1==0 && r.2.2.2.2.2==0))
 else if r.1=3 then r.2.2.1==[] && (r.2.2.2.1==[] && (decide (0≤r.2.2.2.2.1∧r.2.2.2.2.1≤8) && decide (0≤r.2.2.2.2.2∧r.2.2.2.2.2≤4294967295)))
 else if r.1=5 then r.2.2.1==[] && (r.2.2.2.1==[] && (decide (0≤r.2.2.2.2.1∧r.2.2.2.2.1≤20) && decide (0≤r.2.2.2.2.2∧r.2.2.2.2.2≤4294967295)))
 else false)
theorem φKH (r:RecT):ψ2p.f r=some (φa r):=by
 obtain ⟨k,b,ky,v,c,s⟩:=r
 have e24:decide ((v.length:Int)≤24)=decide (v.length≤24):=decide_eq_decide.2 (by omega)
 unfold ψ2p.f φa
 simp only[φ2J,bS,φ7s,e24]
 by_cases hb:0≤b∧b≤1000000
 rotate_left
 ·simp only[hb,dF,nF,cT,bS,φp,κD]
 simp only[hb,and_self,dT,nZ,cF,tA]
 rcases bE (b==0 && k != 5) with h | h
 ·simp only[bA] at h
  have h2:(k==5)=false:=by have:=h.2;simpa [bne] using this
  simp only[h.1,h.2,h2,cT,bS,φp,nZ,κU,κD]
 have e1:(!(b==0) || k==5)=true:=by
  cases h3:(b==0)<;>cases h4:(k==5)<;>simp_all [bne]
 have e2:(bif b==0 then (bif k != 5 then some (Sum.inr false) else some (Sum.inl ((k,b,ky,v,c,s):RecT))) else some (Sum.inl (k,b,ky,v,c,s)):Option (RecT ⊕ Bool))=some (Sum.inl (k,b,ky,v,c,s)):=by
  cases h3:(b==0)
  ·rfl
  ·rw[h3] at h
   have h4:(k != 5)=false:=by simpa using h
   rw[h4];rfl
 simp only[e2,bS,φf,e1,tA]
 by_cases k1:k=1
 ·subst k1
  simp only[cT,cF,bS,e24,beq_self_eq_true,tA,κP,show ((1:Int)==1)=true from rfl,show ((4:Int)==1)=false from rfl,show ((4:Int)==4)=true from rfl,show ((2:Int)==2)=true from rfl,show ((3:Int)==2)=false from rfl,show ((3:Int)==3)=true from rfl,show ((5:Int)==5)=true from rfl,show ((5:Int)==3)=false from rfl,show ((5:Int)==2)=false from rfl,show ((4:Int)==5)=false from rfl,show ((3:Int)==5)=false from rfl,show ((2:Int)==5)=false from rfl,show ((1:Int)==5)=false from rfl]
  cases φ1E ky<;>cases decide (v.length≤24)<;>cases (c==0)<;>simp
 by_cases k4:k=4
 ·subst k4
  simp only[cT,cF,bS,e24,beq_self_eq_true,tA,κP,show ((1:Int)==1)=true from rfl,show ((4:Int)==1)=false from rfl,show ((4:Int)==4)=true from rfl,show ((2:Int)==2)=true from rfl,show ((3:Int)==2)=false from rfl,show ((3:Int)==3)=true from rfl,show ((5:Int)==5)=true from rfl,show ((5:Int)==3)=false from rfl,show ((5:Int)==2)=false from rfl,show ((4:Int)==5)=false from rfl,show ((3:Int)==5)=false from rfl,show ((2:Int)==5)=false from rfl,show ((1:Int)==5)=false from rfl]
  cases φ1E ky<;>cases decide (v.length≤24)<;>cases (c==0)<;>simp
 have b1:(k==1)=false:=by simpa using k1
 have b4:(k==4)=false:=by simpa using k4
 simp only[b1,b4,cF,bS,k1,k4,or_self,if_false]
 by_cases k2:k=2
 ·subst k2
  simp only[cT,cF,bS,e24,beq_self_eq_true,tA,κP,show ((1:Int)==1)=true from rfl,show ((4:Int)==1)=false from rfl,show ((4:Int)==4)=true from rfl,show ((2:Int)==2)=true from rfl,show ((3:Int)==2)=false from rfl,show ((3:Int)==3)=true from rfl,show ((5:Int)==5)=true from rfl,show ((5:Int)==3)=false from rfl,show ((5:Int)==2)=false from rfl,show ((4:Int)==5)=false from rfl,show ((3:Int)==5)=false from rfl,show ((2:Int)==5)=false from rfl,show ((1:Int)==5)=false from rfl]
  cases φ1E ky<;>cases (v==[])<;>cases (c==0)<;>simp
 have b2:(k==2)=false:=by simpa using k2
 simp only[b2,cF,k2,if_false]
 by_cases k3:k=3
 ·subst k3
  simp only[cT,cF,bS,e24,beq_self_eq_true,tA,κP,show ((1:Int)==1)=true from rfl,show ((4:Int)==1)=false from rfl,show ((4:Int)==4)=true from rfl,show ((2:Int)==2)=true from rfl,show ((3:Int)==2)=false from rfl,show ((3:Int)==3)=true from rfl,show ((5:Int)==5)=true from rfl,show ((5:Int)==3)=false from rfl,show ((5:Int)==2)=false from rfl,show ((4:Int)==5)=false from rfl,show ((3:Int)==5)=false from rfl,show ((2:Int)==5)=false from rfl,show ((1:Int)==5)=false from rfl]
  cases (ky==[])<;>cases (v==[])<;>cases decide (0≤c∧c≤8)<;>simp
 have b3:(k==3)=false:=by simpa using k3
 simp only[b3,cF,k3,if_false]
 by_cases k5:k=5
 ·subst k5
  simp only[cT,cF,bS,e24,beq_self_eq_true,tA,κP,show ((1:Int)==1)=true from rfl,show ((4:Int)==1)=false from rfl,show ((4:Int)==4)=true from rfl,show ((2:Int)==2)=true from rfl,show ((3:Int)==2)=false from rfl,show ((3:Int)==3)=true from rfl,show ((5:Int)==5)=true from rfl,show ((5:Int)==3)=false from rfl,show ((5:Int)==2)=false from rfl,show ((4:Int)==5)=false from rfl,show ((3:Int)==5)=false from rfl,show ((2:Int)==5)=false from rfl,show ((1:Int)==5)=false from rfl]
  cases (ky==[])<;>cases (v==[])<;>cases decide (0≤c∧c≤20)<;>simp
 have b5:(k==5)=false:=by simpa using k5
 simp only[b5,cF,k5,if_false]
theorem φ6x (r:RecT):ψp.f r=some (φa r):=by
 obtain ⟨k,b,ky,v,c,s⟩:=r
 have e24:decide ((v.length:Int)≤24)=decide (v.length≤24):=decide_eq_decide.2 (by omega)
 have hb0:decide (1≤b∧b≤1000000)=(decide (0≤b∧b≤1000000) && !(b==0)):=by
  by_cases h:b=0
  ·subst h;rfl
  ·have:(b==0)=false:=by simpa using h
   rw[this,nF,κP]
   exact decide_eq_decide.2 (by omega)
 unfold ψp.f φa
 simp only[φ1a,bS,φ6O,e24,hb0,beq_self_eq_true,tA,κP]
 by_cases k1:k=1
 ·subst k1
  simp only[cT,cF,bS,e24,hb0,beq_self_eq_true,tA,κP,show ((1:Int)==1)=true from rfl,show ((4:Int)==1)=false from rfl,show ((4:Int)==4)=true from rfl,show ((2:Int)==2)=true from rfl,show ((3:Int)==2)=false from rfl,show ((3:Int)==3)=true from rfl,show ((5:Int)==5)=true from rfl,show ((5:Int)==3)=false from rfl,show ((5:Int)==2)=false from rfl,show ((4:Int)==5)=false from rfl,show ((3:Int)==5)=false from rfl,show ((2:Int)==5)=false from rfl,show ((1:Int)==5)=false from rfl]
  cases φ1E ky<;>cases decide (v.length≤24)<;>cases decide (0≤b∧b≤1000000)<;>cases (b==0)<;>simp
 by_cases k4:k=4
 ·subst k4
  simp only[cT,cF,bS,e24,hb0,beq_self_eq_true,tA,κP,show ((1:Int)==1)=true from rfl,show ((4:Int)==1)=false from rfl,show ((4:Int)==4)=true from rfl,show ((2:Int)==2)=true from rfl,show ((3:Int)==2)=false from rfl,show ((3:Int)==3)=true from rfl,show ((5:Int)==5)=true from rfl,show ((5:Int)==3)=false from rfl,show ((5:Int)==2)=false from rfl,show ((4:Int)==5)=false from rfl,show ((3:Int)==5)=false from rfl,show ((2:Int)==5)=false from rfl,show ((1:Int)==5)=false from rfl]
  cases φ1E ky<;>cases decide (v.length≤24)<;>cases decide (0≤b∧b≤1000000)<;>cases (b==0)<;>simp
 have b1:(k==1)=false:=by simpa using k1
 have b4:(k==4)=false:=by simpa using k4
 simp only[b1,b4,cF,bS,k1,k4,or_self,if_false]
 by_cases k2:k=2
 ·subst k2
  simp only[cT,cF,bS,e24,hb0,beq_self_eq_true,tA,κP,show ((1:Int)==1)=true from rfl,show ((4:Int)==1)=false from rfl,show ((4:Int)==4)=true from rfl,show ((2:Int)==2)=true from rfl,show ((3:Int)==2)=false from rfl,show ((3:Int)==3)=true from rfl,show ((5:Int)==5)=true from rfl,show ((5:Int)==3)=false from rfl,show ((5:Int)==2)=false from rfl,show ((4:Int)==5)=false from rfl,show ((3:Int)==5)=false from rfl,show ((2:Int)==5)=false from rfl,show ((1:Int)==5)=false from rfl]
  cases φ1E ky<;>cases decide (0≤b∧b≤1000000)<;>cases (b==0)<;>simp
 have b2:(k==2)=false:=by simpa using k2
 simp only[b2,cF,k2,if_false]
 by_cases k3:k=3
 ·subst k3
  simp only[cT,cF,bS,e24,hb0,beq_self_eq_true,tA,κP,show ((1:Int)==1)=true from rfl,show ((4:Int)==1)=false from rfl,show ((4:Int)==4)=true from rfl,show ((2:Int)==2)=true from rfl,show ((3:Int)==2)=false from rfl,show ((3:Int)==3)=true from rfl,show ((5:Int)==5)=true from rfl,show ((5:Int)==3)=false from rfl,show ((5:Int)==2)=false from rfl,show ((4:Int)==5)=false from rfl,show ((3:Int)==5)=false from rfl,show ((2:Int)==5)=false from rfl,show ((1:Int)==5)=false from rfl]
  cases decide (0≤c∧c≤8)<;>cases decide (0≤s∧s≤4294967295)<;>cases decide (0≤b∧b≤1000000)<;>cases (b==0)<;>simp
 have b3:(k==3)=false:=by simpa using k3
 simp only[b3,cF,k3,if_false]
 by_cases k5:k=5
 ·subst k5
  simp only[cT,cF,bS,e24,hb0,beq_self_eq_true,tA,κP,show ((1:Int)==1)=true from rfl,show ((4:Int)==1)=false from rfl,show ((4:Int)==4)=true from rfl,show ((2:Int)==2)=true from rfl,show ((3:Int)==2)=false from rfl,show ((3:Int)==3)=true from rfl,show ((5:Int)==5)=true from rfl,show ((5:Int)==3)=false from rfl,show ((5:Int)==2)=false from rfl,show ((4:Int)==5)=false from rfl,show ((3:Int)==5)=false from rfl,show ((2:Int)==5)=false from rfl,show ((1:Int)==5)=false from rfl]
  cases decide (0≤c∧c≤20)<;>cases decide (0≤s∧s≤4294967295)<;>cases decide (0≤b∧b≤1000000)<;>simp
 have b5:(k==5)=false:=by simpa using k5
 simp only[b5,cF,k5,if_false,Bool.and_false]
def φ7 (r:RecT):List UInt8:=
 if φa r=false then [] else
 if r.1=1∨r.1=4 then varT r.1++varT r.2.1++varT (r.2.2.1.length:Int)++r.2.2.1++varT (r.2.2.2.1.length:Int)++r.2.2.2.1
 else if r.1=2 then varT r.1++varT r.2.1++varT (r.2.2.1.length:Int)++r.2.2.1
 else varT r.1++varT r.2.1++varT r.2.2.2.2.1++fix4 r.2.2.2.2.2
theorem φ4Y (n:Int):(fix4 n).length≤4:=by
 unfold fix4;split
 ·rw[φCM];omega
 ·simp
theorem φ3Y (r:RecT):(φ7 r).length≤60:=by
 obtain ⟨k,b,ky,v,c,s⟩:=r
 unfold φ7
 split
 ·simp
 rename_i h
 have h:φa (k,b,ky,v,c,s)=true:=by simpa using h
 have l1:=φl k
 have l2:=φl b
 have l3:=φl (ky.length:Int)
 have l4:=φl (v.length:Int)
 have l5:=φl c
 have l6:=φ4Y s
 unfold φa φ1E at h
 simp only[bA] at h
 have h:=h.2
 split
 ·rename_i c1
  simp only at c1
  simp only[c1,if_true,bA,decide_eq_true_eq] at h
  simp only[lA];omega
 ·rename_i c1
  simp only at c1
  split
  ·rename_i c2
   simp only at c2
   rw[if_neg c1,if_pos c2] at h
   simp only[bA,decide_eq_true_eq] at h
   simp only[lA];omega
  ·simp only[lA];omega
theorem φ1K {a b:Nat} (h:a+b≤1000000000000000):decide (a+b≤9223372036854775807)=true:=by
 rw[decide_eq_true_eq];omega
theorem φ7K (r:RecT):ψ2y.f r=some (φ7 r):=by
 obtain ⟨k,b,ky,v,c,s⟩:=r
 unfold ψ2y.f φ7
 rw[φKH,bS]
 rcases bE (φa (k,b,ky,v,c,s)) with h | h
 rotate_left
 ·simp[h]
 have hs:s<9223372036854775808∨k=1∨k=4∨k=2:=by
  unfold φa at h
  simp only[bA] at h
  have h:=h.2
  by_cases c1:k=1∨k=4
  ·omega
  by_cases c2:k=2
  ·omega
  rw[if_neg c1,if_neg c2] at h
  left
  split at h
  ·simp only[bA,decide_eq_true_eq] at h;omega
  ·split at h
   ·simp only[bA,decide_eq_true_eq] at h;omega
   ·simp at h
 have hlen:k=1∨k=4∨k=2→ky.length≤8∧v.length≤24:=by
  intro hk
  unfold φa φ1E at h
  simp only[bA] at h
  have h:=h.2
  by_cases c1:k=1∨k=4
  ·rw[if_pos c1] at h
   simp only[bA,decide_eq_true_eq] at h;omega
  by_cases c2:k=2
  ·rw[if_neg c1,if_pos c2] at h
   simp only[bA,decide_eq_true_eq,beq_iff_eq] at h
   rw[h.2.1];simp;omega
  ·omega
 have l1:=φl k
 have l2:=φl b
 have l3:=φl (ky.length:Int)
 have l4:=φl (v.length:Int)
 have l5:=φl c
 have l6:=φ4Y s
 simp only[h,nZ,cF,φ4s,bS,φ1K (show (varT k).length+(varT b).length≤1000000000000000 by omega),cT,κ9,if_false]
 have kk:(bif k==1 then some (((k,b,ky,v,c,s):RecT),varT k++varT b,k,k==1) else some ((k,b,ky,v,c,s),varT k++varT b,k,k==4))=some ((k,b,ky,v,c,s),varT k++varT b,k,decide (k=1∨k=4)):=by
  by_cases c1:k=1
  ·subst c1;rfl
  ·have b1:(k==1)=false:=by simpa using c1
   rw[b1,cF]
   by_cases c4:k=4
   ·subst c4;rfl
   ·have b4:(k==4)=false:=by simpa using c4
    rw[b4,decide_eq_false (by omega)]
 simp only[kk,bS]
 by_cases c1:k=1∨k=4
 ·have hl:=hlen (by omega)
  simp only[c1,dT,cT,if_true,
   φ1K (show (varT k++varT b).length+(varT (ky.length:Int)).length≤1000000000000000 by simp only[lA];omega),
   φ1K (show (varT k++varT b++varT (ky.length:Int)).length+ky.length≤1000000000000000 by simp only[lA];omega),
   φ1K (show (varT k++varT b++varT (ky.length:Int)++ky).length+(varT (v.length:Int)).length≤1000000000000000 by simp only[lA];omega),
   φ1K (show (varT k++varT b++varT (ky.length:Int)++ky++varT (v.length:Int)).length+v.length≤1000000000000000 by simp only[lA];omega)]
 by_cases c2:k=2
 ·have hl:=hlen (by omega)
  have b2:(k==2)=true:=by simpa using c2
  simp only[c1,b2,dF,cF,cT,if_false,
   φ1K (show (varT k++varT b).length+(varT (ky.length:Int)).length≤1000000000000000 by simp only[lA];omega),
   φ1K (show (varT k++varT b++varT (ky.length:Int)).length+ky.length≤1000000000000000 by simp only[lA];omega)]
  rw[if_pos c2]
 ·have b2:(k==2)=false:=by simpa using c2
  simp only[c1,c2,b2,dF,cF,if_false,
   φ1K (show (varT k++varT b).length+(varT c).length≤1000000000000000 by simp only[lA];omega),cT,
   φAY s (by omega),bS,
   φ1K (show (varT k++varT b++varT c).length+(fix4 s).length≤1000000000000000 by simp only[lA];omega)]
theorem φ76 (s:List UInt8) (h:s.length<2 ^ 62):ψ1s.f s=some (varT (s.length:Int)++s):=by
 have l:=φl (s.length:Int)
 unfold ψ1s.f
 have c:(varT (s.length:Int)).length+s.length≤9223372036854775807:=by omega
 simp only[φCC,bS,c,dT,cT]
theorem φK9 (l:List Int):∀n (acc:List UInt8),n≤l.length→acc.length≤7 * n→l.length<1000000000000→lp ψ1w.l0 (acc,l,(l.length:Int),(n:Int))=some (acc++((l.drop n).map varT).flatten):=by
 intro n acc hn ha hl
 have:=φg (step:=ψ1w.l0) (fun n (acc:List UInt8)=>(acc,l,(l.length:Int),(n:Int))) l.length (fun n acc=>acc++((l.drop n).map varT).flatten) (fun n acc=>acc.length≤7 * n)
  (fun rec n acc hn ha ih=>by
   rcases κ2 n l.length with h | h
   ·have hv:=φl l[n]
    have hb:acc.length+(varT l[n]).length≤9223372036854775807:=by omega
    have ih:=ih (acc++varT l[n]) h (by rw[lA];omega)
    simp only[ψ1w.l0,oL,h,dT,cT,φF,φJ,φ9 h,φCC,bS,hb,φM (show n+1<9223372036854775808 by omega),ih]
    rw[dG h,κ5,List.flatten_cons,aA]
   ·have:n=l.length:=by omega
    subst this
    simp[ψ1w.l0])
  (by omega) n acc hn ha
 exact this
theorem φ7i (l:List Int) (hl:l.length<1000000000000):ψ1w.f l=some (l.map varT).flatten:=by
 unfold ψ1w.f
 have:=φK9 l 0 [] (κ4 _) (by simp) hl
 have this:lp ψ1w.l0 ([],l,(l.length:Int),0)=_:=this
 rw[this];simp
theorem φBl (r:RecT):ψ11.f r=some (φ7 r):=by
 obtain ⟨k,b,ky,v,c,s⟩:=r
 unfold ψ11.f φ7
 rw[φ6x,bS]
 rcases bE (φa (k,b,ky,v,c,s)) with h | h
 rotate_left
 ·simp[h]
 have hlen:k=1∨k=4∨k=2→ky.length≤8∧v.length≤24:=by
  intro hk
  unfold φa φ1E at h
  simp only[bA] at h
  have h:=h.2
  by_cases c1:k=1∨k=4
  ·rw[if_pos c1] at h
   simp only[bA,decide_eq_true_eq] at h;omega
  by_cases c2:k=2
  ·rw[if_neg c1,if_pos c2] at h
   simp only[bA,decide_eq_true_eq,beq_iff_eq] at h
   rw[h.2.1];simp;omega
  ·omega
 have l1:=φl k
 have l2:=φl b
 have l3:=φl (ky.length:Int)
 have l4:=φl (v.length:Int)
 have l5:=φl c
 have l6:=φ4Y s
 have hv:ψ1w.f [k,b]=some (varT k++varT b):=by rw[φ7i [k,b] (by show 2<1000000000000;decide)];simp
 simp only[h,nZ,cF,hv,bS,κ9,if_false]
 have kk:(bif k==1 then some (((k,b,ky,v,c,s):RecT),varT k++varT b,k,k==1) else some ((k,b,ky,v,c,s),varT k++varT b,k,k==4))=some ((k,b,ky,v,c,s),varT k++varT b,k,decide (k=1∨k=4)):=by
  by_cases c1:k=1
  ·subst c1;rfl
  ·have b1:(k==1)=false:=by simpa using c1
   rw[b1,cF]
   by_cases c4:k=4
   ·subst c4;rfl
   ·have b4:(k==4)=false:=by simpa using c4
    rw[b4,decide_eq_false (by omega)]
 simp only[kk,bS]
 by_cases c1:k=1∨k=4
 ·have hl:=hlen (by omega)
  simp only[c1,dT,cT,if_true,φ76 ky (by omega),φ76 v (by omega),bS,
   φ1K (show (varT k++varT b).length+(varT (ky.length:Int)++ky).length≤1000000000000000 by simp only[lA];omega),
   φ1K (show (varT k++varT b++(varT (ky.length:Int)++ky)).length+(varT (v.length:Int)++v).length≤1000000000000000 by simp only[lA];omega)]
  simp only[aA]
 by_cases c2:k=2
 ·have hl:=hlen (by omega)
  have b2:(k==2)=true:=by simpa using c2
  simp only[c1,b2,dF,cF,cT,if_false,φ76 ky (by omega),bS,
   φ1K (show (varT k++varT b).length+(varT (ky.length:Int)++ky).length≤1000000000000000 by simp only[lA];omega)]
  rw[if_pos c2]
  simp only[aA]
 ·have b2:(k==2)=false:=by simpa using c2
  simp only[c1,c2,b2,dF,cF,if_false,φCC,bS,
   φ1K (show (varT k++varT b).length+(varT c).length≤1000000000000000 by simp only[lA];omega),cT,
   φBq s,bS,
   φ1K (show (varT k++varT b++varT c).length+(fix4 s).length≤1000000000000000 by simp only[lA];omega)]
def frame (s:List UInt8):List UInt8:=
 if 200<s.length then [] else fix4 (crcT (varT (s.length:Int)++s))++(varT (s.length:Int)++s)
theorem φ4p (s:List UInt8):(frame s).length≤211:=by
 unfold frame
 split
 ·simp
 ·have l1:=φl (s.length:Int)
  have l2:=φ4Y (crcT (varT (s.length:Int)++s))
  simp only[lA];omega
theorem φ9e (s:List UInt8) (h:s.length<2 ^ 62):ψ2V.f s=some (frame s):=by
 unfold ψ2V.f frame
 by_cases c:200<s.length
 ·have c1:(s.length:Int) > 200:=by omega
  simp[c,c1]
 have c1:¬(s.length:Int) > 200:=by omega
 have l1:=φl (s.length:Int)
 have l2:=φ4Y (crcT (varT (s.length:Int)++s))
 have r:=φ59 (varT (s.length:Int)++s)
 simp only[c,c1,dF,cF,if_false,φ4s,bS,φ1K (show (varT (s.length:Int)).length+s.length≤1000000000000000 by omega),cT,
  φAa (varT (s.length:Int)++s) (by rw[lA];omega),φAY _ (show crcT (varT (s.length:Int)++s)<9223372036854775808 by omega),
  φ1K (show (fix4 (crcT (varT (s.length:Int)++s))).length+(varT (s.length:Int)++s).length≤1000000000000000 by simp only[lA];omega)]
theorem φ8Y (s:List UInt8) (h:s.length<2 ^ 62):ψR.f s=some (frame s):=by
 unfold ψR.f frame
 by_cases c:200<s.length
 ·have c1:(s.length:Int) > 200:=by omega
  simp[c,c1]
 have c1:¬(s.length:Int) > 200:=by omega
 have l1:=φl (s.length:Int)
 have l2:=φ4Y (crcT (varT (s.length:Int)++s))
 have r:=φ59 (varT (s.length:Int)++s)
 simp only[c,c1,dF,cF,if_false,φ76 s (by omega),bS,cT,
  φAz (varT (s.length:Int)++s) (by rw[lA];omega),φBq,
  φ1K (show (fix4 (crcT (varT (s.length:Int)++s))).length+(varT (s.length:Int)++s).length≤1000000000000000 by simp only[lA];omega)]
def φ3a (l:List RecT):List UInt8:=(l.map φ7).flatten
def φ1i (l:List RecT):Int:=crcT (φ3a l)
theorem φ6s:∀(l:List RecT),(φ3a l).length≤60 * l.length
 | []=>by simp[φ3a]
 | r::l=>by
  have h1:=φ6s l
  have h2:=φ3Y r
  unfold φ3a at *
  rw[κ5,List.flatten_cons,lA,lC];omega
theorem φDn (l:List RecT) (r:RecT):φ3a (l++[r])=φ3a l++φ7 r:=by
 unfold φ3a;simp
theorem φD0 (l:List RecT) (hl:l.length<1000000000000):ψ30.f l=some (φ1i l):=by
 have hk:=φg (step:=ψ30.l0) (fun n (_:Unit)=>(l,φ3a (l.take n),(n:Int))) l.length (fun _ _=>φ3a l) (fun _ _=>True)
  (fun rec n s hn _ ih=>by
   rcases κ2 n l.length with h | h
   ·have h1:=φ6s (l.take n)
    have h2:=φ3Y l[n]
    rw[lT] at h1
    have ih:=ih () h trivial
    rw[κ1 h,φDn] at ih
    simp only[ψ30.l0,oL,h,dT,cT,φF,φJ,φ9 h,φ1m,φ7K,bS,φ1K (show (φ3a (l.take n)).length+(φ7 l[n]).length≤1000000000000000 by omega),φM (show n+1<9223372036854775808 by omega),ih]
   ·have:n=l.length:=by omega
    subst this
    simp[ψ30.l0])
  (by omega) 0 () (κ4 _) trivial
 have hk:lp ψ30.l0 (l,[],0)=_:=hk
 have hl2:=φ6s l
 unfold ψ30.f φ1i
 rw[hk,bS,φAa _ (by omega),bS]
theorem φCK (l:List RecT) (hl:l.length<1000000000000):ψ18.f l=some (φ1i l):=by
 have hk:=φg (step:=ψ18.l0) (fun n (_:Unit)=>(φ3a (l.take n),l,(l.length:Int),(n:Int))) l.length (fun _ _=>φ3a l) (fun _ _=>True)
  (fun rec n s hn _ ih=>by
   rcases κ2 n l.length with h | h
   ·have h1:=φ6s (l.take n)
    have h2:=φ3Y l[n]
    rw[lT] at h1
    have ih:=ih () h trivial
    rw[κ1 h,φDn] at ih
    simp only[ψ18.l0,oL,h,dT,cT,φF,φJ,φ9 h,φ1m,φBl,bS,φ1K (show (φ3a (l.take n)).length+(φ7 l[n]).length≤1000000000000000 by omega),φM (show n+1<9223372036854775808 by omega),ih]
   ·have:n=l.length:=by omega
    subst this
    simp[ψ18.l0])
  (by omega) 0 () (κ4 _) trivial
 have hk:lp ψ18.l0 ([],l,(l.length:Int),0)=_:=hk
 have hl2:=φ6s l
 unfold ψ18.f φ1i
 rw[hk,bS,φAz _ (by omega),bS]
theorem φCz {a:Nat} (h:a<1000000000001):(a+1) * 64≤140737488355328:=by omega
def φS (p:φX):RecT:=(4,p.2.2,p.1,p.2.1,0,0)
def φOL (r:RecT):Nat:=(frame (φ7 r)).length
def φE5 (l:List RecT):Nat:=sumN φOL l
theorem φDZ {α:Type} (f:α→Nat):∀(l:List α) (x:α),sumN f (l++[x])=sumN f l+f x
 | [],x=>by simp[sumN]
 | y::l,x=>by
  have:=φDZ f l x
  simp only[κF,sumN,this];omega
def φZ (l:List φX) (mark:Int):List RecT:=l.map φS++[(5,mark,[],[],(l.length:Int),φ1i (l.map φS))]
theorem φJs (l:List φX) (n:Nat) (h:n<l.length):(l.take (n+1)).map φS=(l.take n).map φS++[φS l[n]]:=by
 rw[κ1 h,mp];rfl
theorem φJi (l:List φX) (mark:Int) (hl:l.length<1000000000):ψ1Y.f l mark=some (φZ l mark):=by
 have hk:=φg (step:=ψ1Y.l0) (fun n (_:Unit)=>(l,mark,(l.take n).map φS,l,(l.length:Int),(n:Int))) l.length (fun _ _=>(l,mark,l.map φS)) (fun _ _=>True)
  (fun rec n s hn _ ih=>by
   rcases κ2 n l.length with h | h
   ·have ih:=ih () h trivial
    rw[φJs l n h] at ih
    have hb:(((l.take n).map φS).length+([φS l[n]]:List RecT).length) * 64≤140737488355328:=by
     rw[lM,lT];exact φCz (by omega)
    have hb2:(((l.take n).map φS).length+([(4,l[n].2.2,l[n].1,l[n].2.1,0,0)]:List RecT).length) * 64≤140737488355328:=hb
    have hkp:((4,l[n].2.2,l[n].1,l[n].2.1,0,0):RecT)=φS l[n]:=rfl
    simp only[ψ1Y.l0,oL,h,dT,cT,φF,φJ,φ9 h,hkp,φM (show n+1<9223372036854775808 by omega),ih]
    exact congrArg (fun b=>bif b then some (l,mark,l.map φS) else none) (decide_eq_true hb2)
   ·have:n=l.length:=by omega
    subst this
    simp[ψ1Y.l0])
  (by omega) 0 () (κ4 _) trivial
 have hk:lp ψ1Y.l0 (l,mark,[],l,(l.length:Int),0)=_:=hk
 unfold ψ1Y.f φZ
 rw[hk,bS]
 have hb:((l.map φS).length+([((5,mark,[],[],(l.length:Int),φ1i (l.map φS)):RecT)]:List RecT).length) * 64≤140737488355328:=by
  rw[lM];exact φCz (by omega)
 simp only[φCK (l.map φS) (by rw[lM];omega),bS,hb,dT,cT]
abbrev CurT:=List Int×Int×Int
def Cur (c:CurT):Prop:=0≤c.2.1∧c.1.length<2 ^ 60
theorem φ97 (x:Int):0≤bits (fun _ a b=>a &&& b) .i64 x 255∧bits (fun _ a b=>a &&& b) .i64 x 255≤255:=by
 have e:bits (fun _ a b=>a &&& b) .i64 x 255=IntKind.wrap .i64 ((BitVec.ofInt 64 x &&& BitVec.ofInt 64 255).toNat:Int):=rfl
 have h:(BitVec.ofInt 64 x &&& BitVec.ofInt 64 255).toNat≤255:=by
  rw[BitVec.toNat_and]
  exact κf Nat.and_le_right (by decide)
 rw[e,φCY (by omega)]
 omega
theorem φ69 {c:CurT} (h:Cur c):∃x c',ψ3R.f c=some (x,c')∧0≤x∧x≤255∧Cur c':=by
 obtain ⟨l,i,s⟩:=c
 obtain ⟨h1,h2⟩:=h
 simp only at h1 h2
 unfold ψ3R.f
 simp only
 generalize bits (fun _ a b=>a ^^^ b) .i64 _ _=y
 by_cases c:i<(l.length:Int)
 ·obtain ⟨j,rfl⟩:∃j:Nat,i=(j:Int):=⟨i.toNat,by omega⟩
  have c2:j<l.length:=by omega
  simp only[c,dT,cT,φF,c2]
  refine ⟨_,_,rfl,(φ97 _).1,(φ97 _).2,?_,h2⟩
  show 0≤w64 _
  rw[φI (by omega) (by omega)];omega
 ·simp only[c,dF,cF]
  exact ⟨_,_,rfl,(φ97 _).1,(φ97 _).2,h1,h2⟩
theorem φGP {x n:Int} (hx:0≤x) (hn:0<n):0≤Int.tmod x n∧Int.tmod x n<n:=by
 exact ⟨Int.tmod_nonneg n hx,Int.tmod_lt_of_pos x hn⟩
theorem φ5D {c:CurT} (h:Cur c) (n:Int):∃x c',ψ3Q.f c n=some (x,c')∧0≤x∧(0<n→x<n)∧(n≤0→x=0)∧Cur c':=by
 unfold ψ3Q.f
 by_cases c0:n≤0
 ·simp only[c0,dT,cT]
  exact ⟨0,c,rfl,κK _,fun h=>by omega,fun _=>rfl,h⟩
 have hn:(n != 0)=true:=by simp;omega
 by_cases c1:n≤256
 ·obtain ⟨x,c',e,h1,h2,h3⟩:=φ69 h
  simp only[c0,c1,dT,dF,cT,cF,e,bS,hn]
  have:=φGP h1 (show 0<n by omega)
  exact ⟨_,_,rfl,this.1,fun _=>this.2,fun h=>h.elim,h3⟩
 ·obtain ⟨x,c1',e1,a1,b1,h1⟩:=φ69 h
  obtain ⟨y,c2',e2,a2,b2,h2⟩:=φ69 h1
  obtain ⟨z,c3',e3,a3,b3,h3⟩:=φ69 h2
  obtain ⟨w,c4',e4,a4,b4,h4⟩:=φ69 h3
  simp only[c0,c1,dF,cF,e1,e2,e3,e4,bS,hn,cT]
  rw[φI (n:=x * 16777216) (by omega) (by omega),φI (n:=y * 65536) (by omega) (by omega),φI (n:=z * 256) (by omega) (by omega),φI (n:=x * 16777216+y * 65536) (by omega) (by omega),φI (n:=x * 16777216+y * 65536+z * 256) (by omega) (by omega),φI (n:=x * 16777216+y * 65536+z * 256+w) (by omega) (by omega)]
  have:=φGP (x:=x * 16777216+y * 65536+z * 256+w) (n:=n) (by omega) (by omega)
  exact ⟨_,_,rfl,this.1,fun _=>this.2,fun h=>h.elim,h4⟩
theorem φFV {c:CurT} (h:Cur c) (n:Int):∃b c',ψ3U.f c n=some (b,c')∧Cur c':=by
 obtain ⟨x,c',e,_,_,_,h'⟩:=φ5D h n
 unfold ψ3U.f
 simp only[e,bS]
 exact ⟨_,_,rfl,h'⟩
theorem φEk {c:CurT} (h:Cur c) (l:List (List UInt8)) (hl:0<l.length):∃x c',ψ3V.f c l=some (x,c')∧x∈l∧Cur c':=by
 obtain ⟨x,c',e,h1,h2,_,h'⟩:=φ5D h (l.length:Int)
 have h2:=h2 (by omega)
 unfold ψ3V.f
 simp only[e,bS]
 obtain ⟨j,rfl⟩:∃j:Nat,x=(j:Int):=⟨x.toNat,by omega⟩
 have c2:j<l.length:=by omega
 simp only[φF,c2,dT,cT,φJ,φ9 c2]
 exact ⟨_,_,rfl,gM c2,h'⟩
def φFM:List (List UInt8):=[[97],[98],[99],[107,101,121],[108,111,110,103,110,97,109,101]]
theorem φCJ {c:CurT} (h:Cur c):∃x c',ψ3e.f c=some (x,c')∧φ1E x=true∧Cur c':=by
 obtain ⟨x,c',e,hm,h'⟩:=φEk h φFM (by decide)
 unfold ψ3e.f
 have e:ψ3V.f c [[97],[98],[99],[107,101,121],[108,111,110,103,110,97,109,101]]=some (x,c'):=e
 simp only[e,bS]
 refine ⟨_,_,rfl,?_,h'⟩
 have:∀y∈φFM,φ1E y=true:=by decide
 exact this x hm
theorem φAV {A B σ:Type} {step:(A→Option B)→A→Option B} (st:Nat→σ→A) (Inv:Nat→σ→Prop) (Post:B→Prop)
  (hz:∀rec s,Inv 0 s→∃b,step rec (st 0 s)=some b∧Post b)
  (hs:∀rec n s,Inv (n+1) s→∃s',Inv n s'∧step rec (st (n+1) s)=rec (st n s')) (n:Nat) (s:σ) (hi:Inv n s) (hn:n<2 ^ 62):∃b,lp step (st n s)=some b∧Post b:=by
 have key:∀n f s,Inv n s→n<f→∃b,φ38 step f (st n s)=some b∧Post b:=by
  intro n
  induction n with
  | zero=>
   intro f s hi hf
   obtain ⟨f,rfl⟩:∃g,f=g+1:=⟨f - 1,by omega⟩
   exact hz _ s hi
  | succ n ih=>
   intro f s hi hf
   obtain ⟨f,rfl⟩:∃g,f=g+1:=⟨f - 1,by omega⟩
   obtain ⟨s',hi',e⟩:=hs (φ38 step f) n s hi
   show ∃b,step (φ38 step f) (st (n+1) s)=some b∧Post b
   rw[e]
   exact ih f s' hi' (by omega)
 exact key n FUEL s hi (κG hn φ6u)
theorem φ7Q {A B:Type} {step:(A→Option B)→A→Option B} (P:A→Prop) (m:A→Nat) (Post:B→Prop)
  (h:∀rec a,P a→(∃b,step rec a=some b∧Post b)∨∃a',P a'∧m a'<m a∧step rec a=rec a') {a:A} (hp:P a) (hm:m a<2 ^ 62):∃b,lp step a=some b∧Post b:=by
 have key:∀f a,P a→m a<f→∃b,φ38 step f a=some b∧Post b:=by
  intro f
  induction f with
  | zero=>intro a _ hf;omega
  | succ f ih=>
   intro a hp hf
   rcases h (φ38 step f) a hp with hx | ⟨a',hp',hlt,e⟩
   ·exact hx
   ·show ∃b,step (φ38 step f) a=some b∧Post b
    rw[e]
    exact ih a' hp' (by omega)
 exact key FUEL a hp (κG hm φ6u)
theorem φKV {c:CurT} (h:Cur c) (most:Int) (h0:0≤most) (h1:most<1000000000):∃x c',ψ3X.f c most=some (x,c')∧(x.length:Int)≤most∧Cur c':=by
 obtain ⟨st,c1,e1,_,_,_,hc1⟩:=φ5D h 4
 obtain ⟨n,c2,e2,a2,b2,_,hc2⟩:=φ5D hc1 (most+1)
 have b2:=b2 (by omega)
 obtain ⟨m,rfl⟩:∃m:Nat,n=(m:Int):=⟨n.toNat,by omega⟩
 have key:=φAV (step:=ψ3X.l0) (fun k (s:CurT×List Int)=>(s.1,s.2,st,(k:Int))) (fun k s=>Cur s.1∧s.2.length+k=m) (fun b=>Cur b.1∧b.2.length=m)
  (fun rec s hi=>⟨_,by simp[ψ3X.l0],hi.1,by simpa using hi.2⟩)
  (fun rec k s hi=>by
   obtain ⟨hi1,hi2⟩:=hi
   obtain ⟨x,c',e,_,_,h'⟩:=φ69 hi1
   have e0:((k+1:Nat):Int) > 0:=by omega
   have hw:w64 (((k+1:Nat):Int) - 1)=(k:Int):=by rw[φI (by omega) (by omega)];omega
   have hb:∀v:Int,(s.2.length+[v].length) * 1≤140737488355328:=fun v=>by show (s.2.length+1) * 1≤_;omega
   cases d1:(st==1)<;>cases d2:(st==2)<;>simp only[ψ3X.l0,e0,dT,cT,cF,e,bS,d1,d2,hb,hw]
   all_goals exact ⟨(c',s.2++[_]),⟨h',by simp only[lA,κA];omega⟩,rfl⟩)
  m (c2,[]) ⟨hc2,by simp⟩ (by omega)
 obtain ⟨⟨c3,xs⟩,e3,hc3,hl⟩:=key
 have e3:lp ψ3X.l0 (c2,[],st,(m:Int))=some (c3,xs):=e3
 unfold ψ3X.f
 rw[e1,bS]
 simp only[φI (n:=most+1) (by omega) (by omega),e2,bS,e3]
 refine ⟨_,_,rfl,?_,hc3⟩
 unfold φ1R
 simp only at hl
 rw[lM,hl];omega
theorem φMe (l:List Int) (hl:l.length<2 ^ 60):∃c,ψ3T.f l=some c∧Cur c:=by
 have key:∃s,lp ψ3T.l0 (l,w64 (10101+(l.length:Int)),0)=some (l,s):=by
  have:=φ7Q (step:=ψ3T.l0) (a:=(l,w64 (10101+(l.length:Int)),((0:Nat):Int))) (fun a=>a.1=l∧∃n:Nat,a.2.2=(n:Int)∧n≤l.length) (fun a=>l.length - a.2.2.toNat) (fun b=>b.1=l)
   (fun rec a ha=>by
    obtain ⟨x,s,i⟩:=a
    obtain ⟨hx,n,hn,hle⟩:=ha
    simp only at hx hn
    subst hx hn
    by_cases c:n<x.length
    ·by_cases c2:(n:Int)<4000
     ·right
      have c3:(n:Int)<(x.length:Int):=by omega
      refine ⟨(x,bits (fun _ a b=>a &&& b) .i64 (w64 ((w64 ((w64 (s * 131))+(w64 (x.getD n 0))))+7)) 1073741823,((n+1:Nat):Int)),⟨rfl,n+1,rfl,c⟩,by simp only[tN];omega,?_⟩
      simp only[ψ3T.l0,c3,c2,dT,cT,φF,c,φJ,φM (show n+1<9223372036854775808 by omega)]
     ·left
      have c3:(n:Int)<(x.length:Int):=by omega
      exact ⟨(x,s),by simp only[ψ3T.l0,c3,c2,dT,dF,cT,cF],rfl⟩
    ·left
     have c3:¬(n:Int)<(x.length:Int):=by omega
     exact ⟨(x,s),by simp only[ψ3T.l0,c3,dF,cF],rfl⟩)
   ⟨rfl,0,rfl,κ4 _⟩ (by simp only;omega)
  obtain ⟨⟨b1,b2⟩,e,hb⟩:=this
  simp only at hb
  subst hb
  exact ⟨b2,e⟩
 obtain ⟨s,e⟩:=key
 unfold ψ3T.f
 simp only[e,bS]
 exact ⟨_,rfl,κK _,hl⟩
abbrev φ87:=List UInt8×Int
def φ4B (t:TxnT) (key:List UInt8) (b:Int):TxnT×Int:=
 if t.1=false∨φ1E key=false then (t,4) else
 match t.2.1.find? (fun r=>r.1==key) with
 | some r=>if r.2=b then (t,0) else (t,7)
 | none=>if 20≤t.2.1.length then (t,5) else ((t.1,t.2.1++[(key,b)],t.2.2),0)
def φ2A (t:TxnT) (key:List UInt8) (b:Int):TxnT×Int:=
 if t.1=false∨φ1E key=false then (t,4) else
 if t.2.1.any (fun r=>r.1==key && !(r.2==b))=true then (t,7) else
 if t.2.1.any (fun r=>r.1==key)=true then (t,0) else
 if 20≤t.2.1.length then (t,5) else ((t.1,t.2.1++[(key,b)],t.2.2),0)
theorem φBZ {a:Nat} (h:a<1000000000001):(a+1) * 24≤140737488355328:=by omega
theorem φJn (t:TxnT) (key:List UInt8) (b:Int) (h1:t.2.1.length<1000000000) (h2:t.2.2.length<1000000000):ψ32.f t key b=some (φ4B t key b):=by
 unfold ψ32.f φ4B
 rw[φBT t (by omega) (by omega),bS]
 rcases bE t.1 with k | k
 rotate_left
 ·simp[k]
 simp only[k,nZ,cF,φ7s,bS]
 rcases bE (φ1E key) with k2 | k2
 rotate_left
 ·simp[k2]
 have key':=φ9m (step:=ψ32.l0) t.2.1 (fun r=>r.1==key) (fun r=>(t,if r.2=b then (0:Int) else 7)) (fun n=>(key,b,t,((false,[],[]):TxnT),t,(n:Int))) (key,b,t,(false,[],[]),t) (by omega)
  (fun rec n h=>by
   simp only[ψ32.l0,oL,h,dT,cT,φF,φJ,φ9 h,φM (show n+1<9223372036854775808 by omega)]
   rcases bE (t.2.1[n].1==key) with c | c
   ·by_cases c2:t.2.1[n].2=b
    ·have c3:(t.2.1[n].2 != b)=false:=by simpa using c2
     simp only[c,c3,cT,cF,if_true]
     rw[if_pos c2]
    ·have c3:(t.2.1[n].2 != b)=true:=by simpa using c2
     simp only[c,c2,c3,cT,if_true,if_false]
   ·simp only[c,cF,κ3,if_false])
  (fun rec=>by simp[ψ32.l0])
 have key':lp ψ32.l0 (key,b,t,(false,[],[]),t,0)=_:=key'
 simp only[k2,nZ,cF,key',bS,κ9,or_self,if_false]
 cases t.2.1.find? (fun r=>r.1==key) with
 | some r=>
  simp only[φp]
  split<;>rfl
 | none=>
  simp only[φf]
  by_cases c:20≤t.2.1.length
  ·have c2:(t.2.1.length:Int)≥20:=by omega
   simp only[c,c2,dT,cT,if_true]
  ·have c2:¬(t.2.1.length:Int)≥20:=by omega
   have hb:(t.2.1.length+([(key,b)]:List φ87).length) * 24≤140737488355328:=φBZ (by omega)
   have hb:decide ((t.2.1.length+([(key,b)]:List φ87).length) * 24≤140737488355328)=true:=decide_eq_true hb
   simp only[c,c2,dF,cF,if_false,hb,cT,k]
theorem φNh (t:TxnT) (key:List UInt8) (b:Int) (h1:t.2.1.length<1000000000) (h2:t.2.2.length<1000000000):ψ1D.f t key b=some (φ2A t key b):=by
 unfold ψ1D.f φ2A
 rw[φAw t (by omega) (by omega),bS]
 rcases bE t.1 with k | k
 rotate_left
 ·simp[k]
 simp only[k,nZ,cF,φ6O,bS]
 rcases bE (φ1E key) with k2 | k2
 rotate_left
 ·simp[k2]
 have key':=φg (step:=ψ1D.l0) (fun n (f:Bool)=>(key,b,t,((false,[],[]):TxnT),t,f,t.2.1,(t.2.1.length:Int),(n:Int))) t.2.1.length
  (fun n f=>if (t.2.1.drop n).any (fun r=>r.1==key && !(r.2==b))=true then .inr (t,7) else .inl (key,b,t,(false,[],[]),t,f || (t.2.1.drop n).any (fun r=>r.1==key))) (fun _ _=>True)
  (fun rec n f hn _ ih=>by
   rcases κ2 n t.2.1.length with h | h
   ·have hw:=φM (show n+1<9223372036854775808 by omega)
    rw[dG h,List.any_cons,List.any_cons]
    simp only[ψ1D.l0,oL,h,dT,cT,φF,φJ,φ9 h,φM (show n+1<9223372036854775808 by omega)]
    rcases bE (t.2.1[n].1==key) with c | c
    ·by_cases c2:t.2.1[n].2=b
     ·have c3:(t.2.1[n].2 != b)=false:=by simpa using c2
      have c4:(t.2.1[n].2==b)=true:=by simpa using c2
      simp only[c,c3,c4,nZ,cT,cF,bS,φf,hw,ih true h trivial,Bool.and_false,κU,Bool.true_or,Bool.or_true]
     ·have c3:(t.2.1[n].2 != b)=true:=by simpa using c2
      have c4:(t.2.1[n].2==b)=false:=by simpa using c2
      simp only[c,c3,c4,nZ,nF,cT,cF,bS,φp,κP,Bool.true_or,if_true]
    ·simp only[c,nF,cT,bS,φf,hw,ih f h trivial,κD,κU]
   ·have:n=t.2.1.length:=by omega
    subst this
    simp[ψ1D.l0])
  (by omega) 0 false (κ4 _) trivial
 have key':lp ψ1D.l0 (key,b,t,(false,[],[]),t,false,t.2.1,(t.2.1.length:Int),0)=_:=key'
 simp only[k2,nZ,cF,key',bS,κ9,or_self,if_false,κC,κU]
 cases t.2.1.any (fun r=>r.1==key && !(r.2==b))
 rotate_left
 ·simp only[if_true,φp]
 simp only[κ3,if_false,φf]
 cases t.2.1.any (fun r=>r.1==key)
 rotate_left
 ·simp only[if_true,cT]
 simp only[κ3,if_false,cF]
 by_cases c:20≤t.2.1.length
 ·have c2:(t.2.1.length:Int)≥20:=by omega
  simp only[c,c2,dT,cT,if_true]
 ·have c2:¬(t.2.1.length:Int)≥20:=by omega
  have hb:(t.2.1.length+([(key,b)]:List φ87).length) * 24≤140737488355328:=φBZ (by omega)
  have hb:decide ((t.2.1.length+([(key,b)]:List φ87).length) * 24≤140737488355328)=true:=decide_eq_true hb
  simp only[c,c2,dF,cF,if_false,hb,cT,k]
structure TxnOk (t:TxnT):Prop where
 keys:t.2.1.Pairwise (fun a b=>a.1≠b.1)
 reads:t.2.1.length≤20
 writes:t.2.2.length≤50
 net:(netW t.2.2).length≤8
theorem φL4 {t:TxnT} (h:TxnOk t) (key:List UInt8) (b:Int):TxnOk (φ4B t key b).1:=by
 unfold φ4B
 split
 ·exact h
 split
 ·split<;>exact h
 ·rename_i hf
  split
  ·exact h
  ·refine ⟨?_,?_,h.writes,h.net⟩
   ·show (t.2.1++[(key,b)]).Pairwise _
    rw[κd]
    refine ⟨h.keys,by simp,fun x hx y hy=>?_⟩
    rw[mZ.1 hy]
    have:=List.find?_eq_none.1 hf x hx
    simpa using this
   ·show (t.2.1++[(key,b)]).length≤20
    rw[lA];show _+1≤20;omega
theorem φMT {t:TxnT} (h:TxnOk t) (p:PutT):TxnOk (φ1r t p).1:=by
 unfold φ1r
 split
 ·rename_i c
  refine ⟨h.keys,h.reads,?_,c.2.2.1⟩
  show (t.2.2++[p]).length≤50
  rw[lA];show _+1≤50;omega
 ·exact h
theorem φHZ {t:TxnT} (h:TxnOk t) (key:List UInt8) (b:Int):φ2A t key b=φ4B t key b:=by
 unfold φ2A φ4B
 split
 ·rfl
 have hk:=h.keys
 generalize t.2.1=l at *
 cases hf:l.find? (fun r=>r.1==key) with
 | none=>
  have hn:=List.find?_eq_none.1 hf
  have a1:l.any (fun r=>r.1==key && !(r.2==b))=false:=by
   rw[List.any_eq_false];intro x hx;simp[hn x hx]
  have a2:l.any (fun r=>r.1==key)=false:=by
   rw[List.any_eq_false];exact hn
  simp only[a1,a2,κ3,if_false]
 | some r=>
  have hr:=List.mem_of_find?_eq_some hf
  have hr2:r.1=key:=by simpa using List.find?_some hf
  have a2:l.any (fun r=>r.1==key)=true:=by
   rw[List.any_eq_true];exact ⟨r,hr,by simpa using hr2⟩
  have only:∀x∈l,x.1=key→x=r:=by
   intro x hx e
   rcases List.pairwise_iff_getElem.1 hk with hp
   obtain ⟨i,hi,ei⟩:=List.getElem_of_mem hx
   obtain ⟨j,hj,ej⟩:=List.getElem_of_mem hr
   rcases Nat.lt_trichotomy i j with c | c | c
   ·exact absurd (by rw[ei,ej,e,hr2]) (hp i j hi hj c)
   ·subst c;rw[←ei,ej]
   ·exact absurd (by rw[ei,ej,e,hr2]) (hp j i hj hi c)
  by_cases c:r.2=b
  ·have a1:l.any (fun r=>r.1==key && !(r.2==b))=false:=by
    rw[List.any_eq_false]
    intro x hx
    by_cases e:x.1=key
    ·rw[only x hx e];simp[c]
    ·simp[e]
   simp only[a1,a2,c,κ3,if_false,if_true]
  ·have a1:l.any (fun r=>r.1==key && !(r.2==b))=true:=by
    rw[List.any_eq_true];exact ⟨r,hr,by simp[hr2,c]⟩
   simp only[a1,c,if_true,if_false]
theorem φMG {k:Nat} (hk:k<2 ^ 60):w64 (((k+1:Nat):Int) - 1)=(k:Int):=by rw[φI (by omega) (by omega)];omega
theorem φOr (l:List Int):ψ2G.f l=some (decide ((l.length:Int) > 1048576)):=rfl
def srt {α:Type} (l:List (List UInt8×α)):Prop:=l.Pairwise (fun a b=>Op.bytesLess a.1 b.1=true)
theorem φ6W {α:Type} (x:List UInt8×α) (l:List (List UInt8×α)) (p:List UInt8×α):insB (x::l) p=if leK x.1 p.1=true then x::insB l p else p::x::l:=by
 cases h:leK x.1 p.1<;>simp[insB,h]
theorem φ3b {α:Type} (y p:List UInt8×α):∀l:List (List UInt8×α),y∈insB l p↔y=p∨y∈l
 | []=>by simp[insB]
 | x::l=>by
  rw[φ6W]
  split
  ·rw[mc,φ3b y p l,mc]
   constructor
   ·rintro (h | h | h)
    ·exact .inr (.inl h)
    ·exact .inl h
    ·exact .inr (.inr h)
   ·rintro (h | h | h)
    ·exact .inr (.inl h)
    ·exact .inl h
    ·exact .inr (.inr h)
  ·rw[mc]
theorem φCT {α:Type} (p:List UInt8×α):∀l:List (List UInt8×α),srt l→(∀x∈l,x.1≠p.1)→srt (insB l p)
 | [],_,_=>by simp[insB,srt]
 | x::l,h,hn=>by
  have h:=κY.1 h
  rw[φ6W]
  split
  ·rename_i c
   refine List.Pairwise.cons (fun y hy=>?_) (φCT p l h.2 fun y hy=>hn y (mC _ hy))
   rcases (φ3b y p l).1 hy with e | hy
   ·rw[e]
    unfold leK at c
    rcases κW _ _ ▸ c with c | c
    ·exact c
    ·exact absurd (by simpa using c) (hn x κ0)
   ·exact h.1 y hy
  ·rename_i c
   have c2:Op.bytesLess p.1 x.1=true:=by
    rw[φ9p] at c
    simpa using c
   refine List.Pairwise.cons (fun y hy=>?_) (List.Pairwise.cons h.1 h.2)
   rcases mc.1 hy with e | hy
   ·rw[e];exact c2
   ·exact φ7X _ _ _ c2 (h.1 y hy)
theorem φCZ {α:Type} {l:List (List UInt8×α)} (h:srt l) (k:List UInt8):srt (φk l k):=h.sublist List.filter_sublist
theorem φ7o {α:Type} (l:List (List UInt8×α)) (k:List UInt8) (y:List UInt8×α):y∈φk l k↔y∈l∧y.1≠k:=by
 unfold φk
 rw[List.mem_filter]
 simp
theorem φGB {l:List PutT} {k:List UInt8} {p:PutT} (h:φ56 l k=some p):p∈l∧p.1=k:=by
 unfold φ56 at h
 exact ⟨by simpa using List.mem_of_find?_eq_some h,by simpa using List.find?_some h⟩
theorem φMS {l:List PutT} {k:List UInt8} {p:PutT} (h:φ56 l k=some p):ownW l k=(p,true):=by unfold ownW;rw[h]
theorem φOG {l:List PutT} {q:PutT}:q∈netW l↔φ56 l q.1=some q:=by
 unfold netW
 rw[mM]
 constructor
 ·rintro ⟨k,hk,rfl⟩
  have hk2:=φHb l k hk
  rw[hk2.1]
  unfold ownW at hk2 ⊢
  cases e:φ56 l k with
  | none=>rw[e] at hk2;simp at hk2
  | some p=>rfl
 ·intro h
  refine ⟨q.1,(φCr l q.1).2 ⟨q,(φGB h).1,rfl⟩,?_⟩
  rw[φMS h]
abbrev φQ:=Int×List Int
def φ1c (hi:Int):Option Int→List Int→Bool
 | _,[]=>true
 | p,x::r=>decide (1≤x∧x≤hi) && ((match p with | none=>true | some q=>decide (q<x)) && φ1c hi (some x) r)
def φ6t (l:List Int):Nat→Option Int
 | 0=>none
 | n+1=>some (l.getD n 0)
theorem φ8V (l:List Int) (n:Nat) (h:n<l.length):φ6t l (n+1)=some l[n]:=by
 show some (l.getD n 0)=_
 rw[φ9 h]
def φm (v:φQ):Bool:=φ1c (w64 (v.1 - 1)) none v.2 && (decide (1≤v.1∧v.1≤100000) && decide (1≤(v.2.length:Int)∧(v.2.length:Int)≤60))
theorem φMo (v:φQ) (hl:v.2.length<2 ^ 62):lp ψZ.l0 (v,v.2,(v.2.length:Int),0)=some (if φ1c (w64 (v.1 - 1)) none v.2=true then .inl v else .inr false):=by
 have key:=φg (step:=ψZ.l0) (fun n (_:Unit)=>(v,v.2,(v.2.length:Int),(n:Int))) v.2.length (fun n _=>if φ1c (w64 (v.1 - 1)) (φ6t v.2 n) (v.2.drop n)=true then .inl v else .inr false) (fun _ _=>True)
  (fun rec n s hn' _ ih=>by
   rcases κ2 n v.2.length with h | h
   ·have hw:w64 ((n:Int)+1)=((n+1:Nat):Int):=φM (by omega)
    have ih2:=ih () h trivial
    rw[φ8V v.2 n h] at ih2
    rw[dG h]
    simp only[φ1c,ψZ.l0,oL,h,dT,cT,φF,φJ,φ9 h,bS,φ1a]
    rcases bE (decide (1≤v.2[n]∧v.2[n]≤w64 (v.1 - 1))) with k2 | k2
    rotate_left
    ·simp only[k2,nF,cT,bS,φp];simp
    simp only[k2,nZ,cF,tA]
    cases n with
    | zero=>
     have z:¬((0:Nat):Int) > 0:=by omega
     simp only[z,dF,cF,bS,φf,hw,ih2,φ6t,tA]
    | succ m=>
     have z:((m+1:Nat):Int) > 0:=by omega
     have hm:m<v.2.length:=by omega
     have z2:w64 (((m+1:Nat):Int) - 1)=(m:Int):=by rw[φI (by omega) (by omega)];omega
     rw[φ8V v.2 m hm]
     simp only[z,dT,cT,z2,φF,hm,φJ,φ9 hm]
     by_cases k3:v.2[m]<v.2[m+1]
     ·have k4:¬v.2[m]≥v.2[m+1]:=by omega
      simp only[k3,k4,dT,dF,cF,bS,φf,hw,ih2,tA]
     ·have k4:v.2[m]≥v.2[m+1]:=by omega
      simp[k3,k4]
   ·have:n=v.2.length:=by omega
    subst this
    simp[ψZ.l0,φ1c])
  hl 0 () (κ4 _) trivial
 have key:lp ψZ.l0 (v,v.2,(v.2.length:Int),0)=_:=key
 rw[key,κC];rfl
theorem φME (v:φQ) (hl:v.2.length<2 ^ 62):lp ψ2a.l0 (v,0)=some (if φ1c (w64 (v.1 - 1)) none v.2=true then .inl () else .inr false):=by
 have key:=φg (step:=ψ2a.l0) (fun n (_:Unit)=>(v,(n:Int))) v.2.length (fun n _=>if φ1c (w64 (v.1 - 1)) (φ6t v.2 n) (v.2.drop n)=true then .inl () else .inr false) (fun _ _=>True)
  (fun rec n s hn' _ ih=>by
   rcases κ2 n v.2.length with h | h
   ·have hw:w64 ((n:Int)+1)=((n+1:Nat):Int):=φM (by omega)
    have ih2:=ih () h trivial
    rw[φ8V v.2 n h] at ih2
    rw[dG h]
    simp only[φ1c,ψ2a.l0,oL,h,dT,cT,φF,φJ,φ9 h,bS,φ2J]
    rcases bE (decide (1≤v.2[n]∧v.2[n]≤w64 (v.1 - 1))) with k2 | k2
    rotate_left
    ·simp only[k2,nF,cT,bS,φp];simp
    simp only[k2,nZ,cF,tA]
    cases n with
    | zero=>
     have z:¬((0:Nat):Int) > 0:=by omega
     simp only[z,dF,cF,bS,φf,hw,ih2,φ6t,tA]
    | succ m=>
     have z:((m+1:Nat):Int) > 0:=by omega
     have hm:m<v.2.length:=by omega
     have z2:w64 (((m+1:Nat):Int) - 1)=(m:Int):=by rw[φI (by omega) (by omega)];omega
     rw[φ8V v.2 m hm]
     simp only[z,dT,cT,z2,φF,hm,φJ,φ9 hm]
     by_cases k3:v.2[m]<v.2[m+1]
     ·have k4:¬v.2[m+1]≤v.2[m]:=by omega
      simp only[k3,k4,dT,dF,cF,bS,φf,hw,ih2,tA]
     ·have k4:v.2[m+1]≤v.2[m]:=by omega
      simp[k3,k4]
   ·have:n=v.2.length:=by omega
    subst this
    simp[ψ2a.l0,φ1c])
  hl 0 () (κ4 _) trivial
 have key:lp ψ2a.l0 (v,0)=_:=key
 rw[key,κC];rfl
theorem φ8s (v:φQ) (hl:v.2.length<2 ^ 62):ψZ.f v=some (φm v):=by
 unfold ψZ.f φm
 rw[φMo v hl,bS]
 rcases bE (φ1c (w64 (v.1 - 1)) none v.2) with k | k
 rotate_left
 ·simp[k]
 simp only[k,if_true,φf,φ1a,bS,tA]
 cases decide (1≤v.1∧v.1≤100000)<;>rfl
theorem φ8x (v:φQ) (hl:v.2.length<2 ^ 62):ψ2a.f v=some (φm v):=by
 unfold ψ2a.f φm
 rw[φME v hl]
 simp only[φ2J,bS]
 rcases bE (decide (1≤v.1∧v.1≤100000)) with k | k
 rotate_left
 ·simp only[k,nF,cT,κD,Bool.and_false]
 rcases bE (decide (1≤(v.2.length:Int)∧(v.2.length:Int)≤60)) with k2 | k2
 rotate_left
 ·simp only[k,k2,nF,nZ,cF,cT,Bool.and_false]
 simp only[k,k2,nZ,cF,κP]
 cases φ1c (w64 (v.1 - 1)) none v.2<;>simp
theorem φ8l {v:φQ} (h:φm v=true):v.2.length≤60:=by
 unfold φm at h
 simp only[bA,decide_eq_true_eq] at h
 omega
theorem φAr:∀l:List Int,((l.map varT).flatten).length≤7 * l.length
 | []=>by simp
 | x::l=>by
  have h1:=φAr l
  have h2:=φl x
  rw[κ5,List.flatten_cons,lA,lC];omega
def φn (v:φQ):List UInt8:=if φm v=false then [] else frame (varT v.1++varT (v.2.length:Int)++(v.2.map varT).flatten)
theorem φ5Q (v:φQ):(φn v).length≤211:=by
 unfold φn;split
 ·simp
 ·exact φ4p _
theorem φLM (v:φQ) (hl:v.2.length<2 ^ 62):ψ10.f v=some (φn v):=by
 unfold ψ10.f φn
 rw[φ8s v hl,bS]
 rcases bE (φm v) with k | k
 rotate_left
 ·simp[k]
 have h60:=φ8l k
 have h1:=φAr v.2
 have h2:=φl v.1
 have h3:=φl (v.2.length:Int)
 have hv:ψ1w.f [v.1,(v.2.length:Int)]=some (varT v.1++varT (v.2.length:Int)):=by rw[φ7i [v.1,(v.2.length:Int)] (by show 2<1000000000000;decide)];simp
 simp only[k,nZ,cF,hv,bS,φ7i v.2 (by omega),φ1K (show (varT v.1++varT (v.2.length:Int)).length+((v.2.map varT).flatten).length≤1000000000000000 by rw[lA];omega),cT,φ8Y _ (show (varT v.1++varT (v.2.length:Int)++(v.2.map varT).flatten).length<2 ^ 62 by rw[lA,lA];omega),κ9,if_false]
theorem φAv (v:φQ) (hl:v.2.length<2 ^ 62):ψ2x.f v=some (φn v):=by
 unfold ψ2x.f φn
 rw[φ8x v hl,bS]
 rcases bE (φm v) with k | k
 rotate_left
 ·simp[k]
 have h60:=φ8l k
 have h1:=φAr v.2
 have h2:=φl v.1
 have h3:=φl (v.2.length:Int)
 have key:=φg (step:=ψ2x.l0) (fun n (acc:List UInt8)=>(v,acc,(n:Int))) v.2.length (fun n acc=>acc++((v.2.drop n).map varT).flatten) (fun n acc=>acc.length≤14+7 * n)
  (fun rec n acc hn ha ih=>by
   rcases κ2 n v.2.length with h | h
   ·have hv:=φl v.2[n]
    have hb:acc.length+(varT v.2[n]).length≤9223372036854775807:=by omega
    have ih:=ih (acc++varT v.2[n]) h (by rw[lA];omega)
    simp only[ψ2x.l0,oL,h,dT,cT,φF,φJ,φ9 h,φ4s,bS,hb,φM (show n+1<9223372036854775808 by omega),ih]
    rw[dG h,κ5,List.flatten_cons,aA]
   ·have:n=v.2.length:=by omega
    subst this
    simp[ψ2x.l0])
  (by omega) 0 (varT v.1++varT (v.2.length:Int)) (κ4 _) (by rw[lA];omega)
 have key:lp ψ2x.l0 (v,varT v.1++varT (v.2.length:Int),0)=_:=key
 simp only[k,nZ,cF,φ4s,bS,φ1K (show (varT v.1).length+(varT (v.2.length:Int)).length≤1000000000000000 by omega),cT,key,κC,φ9e _ (show (varT v.1++varT (v.2.length:Int)++(v.2.map varT).flatten).length<2 ^ 62 by rw[lA,lA];omega),κ9,if_false]
def dl (k:Nat) (d:φ1):Prop:=d.1.length<k∧φK d.1<k∧∀f∈d.1,f.1.length<k
theorem φ1X {k:Nat} {d:φ1} (h:dl k d) (hk:k≤1000000000):dlim d:=⟨by have:=h.1;omega,by have:=h.2.1;omega,fun f hf=>by have:=h.2.2 f hf;omega⟩
theorem φ3Z {k m:Nat} {d:φ1} (h:dl k d) (hk:k≤m):dl m d:=⟨by have:=h.1;omega,by have:=h.2.1;omega,fun f hf=>by have:=h.2.2 f hf;omega⟩
theorem φ8I {k m:Nat} {d:φ1} {act:List φ6→Int×List φ6} (h:dl k d) (hm:k≤m) (ha:dl m ((act d.1).2,d.2)):dl m (φT d act).1:=by
 unfold φT
 split
 ·exact φ3Z h hm
 ·split
  ·exact φ3Z h hm
  ·exact ha
theorem φ6M {α:Type} (f:α→Nat) {a b:List α} (h:a.Sublist b):sumN f a≤sumN f b:=by
 induction h with
 | slnil=>exact κ6 _
 | cons x _ ih=>simp only[sumN];omega
 | cons_cons x _ ih=>simp only[sumN];omega
theorem φNm {k:Nat} {d:φ1} {l:List φ6} (h:dl k d) (hs:l.Sublist d.1):dl k (l,d.2):=
 ⟨Nat.lt_of_le_of_lt hs.length_le h.1,Nat.lt_of_le_of_lt (φ6M _ hs) h.2.1,fun f hf=>h.2.2 f (hs.subset hf)⟩
def φ2v (n:List UInt8) (d:φ1):φ1×Int:=φT d (φ2F n)
def φW (n:List UInt8) (d:φ1):φ1×Int:=φT d (φ2g n)
def φN (n t:List UInt8) (d:φ1):φ1×Int:=φT d (φ2T d.2.1 n t)
def φH (n:List UInt8) (d:φ1):φ1×Int:=φT d (φ28 n)
def φ2Z (a b:List UInt8) (d:φ1):φ1×Int:=φT d (φ2L a b)
theorem φDx {k:Nat} {d:φ1} (h:dl k d) (n:List UInt8):dl k (φ2v n d).1:=
 φ8I h (κ6 _) (by
  unfold φ2F
  split
  ·exact φNm h (φ5o _ _)
  ·exact h)
theorem φNM {k m:Nat} {d:φ1} (h:dl k d) (f:φ6) (h1:k+1≤m) (h2:k+f.2.1.length≤m) (h3:f.1.length<m):dl m (insB d.1 f,d.2):=by
 refine ⟨?_,?_,fun g hg=>?_⟩
 ·show (insB d.1 f).length<m
  rw[φ5s];have:=h.1;omega
 ·show φK (insB d.1 f)<m
  have e:φK (insB d.1 f)=φK d.1+f.2.1.length:=by
   unfold φK
   generalize d.1=l
   induction l with
   | nil=>simp[insB,sumN]
   | cons x l ih=>
    rw[φ6W]
    split
    ·simp only[sumN,ih];omega
    ·simp only[sumN];omega
  rw[e];have:=h.2.1;omega
 ·rcases (φ3b g f d.1).1 hg with e | hg
  ·rw[e];exact h3
  ·have:=h.2.2 g hg;omega
theorem φ8F {k m:Nat} {d:φ1} (h:dl k d) (n:List UInt8) (h1:k+1≤m) (h3:n.length<m):dl m (φW n d).1:=
 φ8I h (by omega) (by
  unfold φ2g
  split
  ·exact φ3Z h (by omega)
  split
  ·exact φ3Z h (by omega)
  split
  ·exact φ3Z h (by omega)
  ·exact φNM h _ h1 (by simp;omega) h3)
theorem φOO (l:List φ6) (i:Nat) (f:φ6) (k:Nat) (hi:i<l.length) (hf:f.2.1.length≤l[i].2.1.length+k):φK (l.set i f)≤φK l+k:=by
 unfold φK
 induction l generalizing i with
 | nil=>simp at hi
 | cons x l ih=>
  cases i with
  | zero=>
   simp only[List.set_cons_zero,sumN]
   simp only[List.getElem_cons_zero] at hf
   omega
  | succ i=>
   simp only[List.set_cons_succ,sumN]
   have:=ih i (by simpa using hi) (by simpa using hf)
   omega
theorem φCi {k m c:Nat} {d:φ1} (h:dl k d) (i:Nat) (f:φ6) (hi:i<d.1.length) (hn:f.1=(d.1[i]).1) (hf:f.2.1.length≤d.1[i].2.1.length+c) (hm:k+c≤m):dl m (d.1.set i f,d.2):=by
 refine ⟨?_,?_,fun g hg=>?_⟩
 ·show (d.1.set i f).length<m
  rw[List.length_set];have:=h.1;omega
 ·show φK (d.1.set i f)<m
  have:=φOO d.1 i f c hi hf
  have:=h.2.1;omega
 ·rcases κc hg with hg | e
  ·have:=h.2.2 g hg;omega
  ·rw[e,hn];have:=h.2.2 _ (gM hi);omega
theorem φ8N {k m:Nat} {d:φ1} (h:dl k d) (n t:List UInt8) (h1:k+t.length≤m):dl m (φN n t d).1:=
 φ8I h (by omega) (by
  unfold φ2T
  rcases φw d.1 n with ⟨e,_⟩ | ⟨i,hi,e,_⟩
  ·rw[φ1C e];exact φ3Z h (by omega)
  ·rw[φ17 e]
   simp only
   split
   ·exact φ3Z h (by omega)
   ·rw[φ9 hi]
    exact φCi h i _ hi rfl (by simp) h1)
theorem φHj {k:Nat} {d:φ1} (h:dl k d) (n:List UInt8):dl k (φH n d).1:=
 φ8I h (κ6 _) (by
  unfold φ28
  rcases φw d.1 n with ⟨e,_⟩ | ⟨i,hi,e,_⟩
  ·rw[φ1C e];exact h
  ·rw[φ17 e]
   simp only
   rw[φ9 hi]
   exact φCi (c:=0) h i _ hi rfl (by simp) (κ6 _))
theorem φ8b (l:List φ6) (n:List UInt8):(φ1Y l n).Sublist l:=by
 unfold φ1Y;split
 ·exact φ5o _ _
 ·exact List.Sublist.refl _
abbrev φE:=φ1×Int
def told (c:Int):Int:=if c=0 then 0 else if c=1 then 1 else if c=2 then 2 else 3
theorem φ1B (c:Int):told c=0↔c=0:=by
 unfold told;split
 ·simp[*]
 ·split
  ·simp[*]
  ·split
   ·simp[*]
   ·simp[*]
theorem φFv (c:Int):ψ1t.f c=some (told c):=by
 unfold ψ1t.f told
 by_cases h0:c=0
 ·simp[h0]
 ·by_cases h1:c=1
  ·simp[h1]
  ·by_cases h2:c=2
   ·simp[h2]
   ·have b0:(c==0)=false:=by simpa using h0
    have b1:(c==1)=false:=by simpa using h1
    have b2:(c==2)=false:=by simpa using h2
    rw[b0,b1,b2];simp[h0,h1,h2]
theorem φ4X (c:Int):ψ38.f c=some (told c):=φFv c
def φA (op:φ1→φ1×Int) (w:φE):φE:=if w.2=0 then op w.1 else w
def φ1A (op:φ1→φ1×Int) (w:φE):φE:=if w.2=0 then ((op w.1).1,told (op w.1).2) else w
def φB (w:φE):φE:=(w.1,told w.2)
theorem φ2q (op:φ1→φ1×Int) (w:φE):φ1A op (φB w)=φB (φA op w):=by
 unfold φ1A φA φB
 by_cases h:w.2=0
 ·have h2:told w.2=0:=(φ1B _).2 h
  simp only[h2,if_true]
  rw[if_pos h]
 ·have h2:¬told w.2=0:=fun e=>h ((φ1B _).1 e)
  simp[h,h2]
def φD (n:List UInt8) (d:φ1):φ1×Int:=if φ1j d.1 n≥0 then φ2v n d else (d,0)
theorem φ8e {k:Nat} {d:φ1} (h:dl k d) (n:List UInt8):dl k (φD n d).1:=by
 unfold φD;split
 ·exact φDx h n
 ·exact h
theorem φ6a {k m:Nat} {w:φE} {op:φ1→φ1×Int} (h:dl k w.1) (hm:k≤m) (ho:dl m (op w.1).1):dl m (φA op w).1:=by
 unfold φA;split
 ·exact ho
 ·exact φ3Z h hm
theorem φ5U {k m:Nat} {w:φE} {op:φ1→φ1×Int} (h:dl k w.1) (hm:k≤m) (ho:dl m (op w.1).1):dl m (φ1A op w).1:=by
 unfold φ1A;split
 ·exact ho
 ·exact φ3Z h hm
theorem φ6T (w:φE) (d:φ1) (c:Int):ψ2B.f w d c=some (d,told c):=by
 unfold ψ2B.f;rw[φFv];rfl
theorem φ5A (w:φE) (n:List UInt8) {k:Nat} (h:dl k w.1) (hk:k≤1000000000):ψ23.f w n=some (φ1A (φD n) w):=by
 have hd:=φ1X h hk
 unfold ψ23.f φ1A φD
 by_cases c:w.2=0
 ·have c1:(w.2==0)=true:=by simpa using c
  simp only[c1,cT,φ4R w.1 n (by have:=hd.1;omega),bS,φLy w.1 n hd,φ6T]
  by_cases c2:φ1j w.1.1 n≥0
  ·simp only[c2,dT,cT,c,if_true];rfl
  ·simp only[c2,dF,cF,c,if_true,if_false]
   congr 1
   show w=(w.1,told 0)
   rw[show told 0=w.2 by rw[c];rfl]
 ·have c1:(w.2==0)=false:=by simpa using c
  simp[c,c1]
theorem φ9N (w:φE) (n:List UInt8) {k:Nat} (h:dl k w.1) (hk:k≤1000000000) (hn:n.length<2 ^ 62):ψ1z.f w n=some (φ1A (φW n) w):=by
 have hd:=φ1X h hk
 unfold ψ1z.f φ1A
 by_cases c:w.2=0
 ·have c1:(w.2==0)=true:=by simpa using c
  simp only[c1,cT,φM3 w.1 n hd hn,bS,φ6T,c,if_true];rfl
 ·have c1:(w.2==0)=false:=by simpa using c
  simp[c,c1]
theorem φB1 (w:φE) (n t:List UInt8) {k:Nat} (h:dl k w.1) (hk:k≤1000000000) (ht:t.length<1000000000000):ψ26.f w n t=some (φ1A (φN n t) w):=by
 have hd:=φ1X h hk
 unfold ψ26.f φ1A
 by_cases c:w.2=0
 ·have c1:(w.2==0)=true:=by simpa using c
  simp only[c1,cT,φMi w.1 n t hd ht,bS,φ6T,c,if_true];rfl
 ·have c1:(w.2==0)=false:=by simpa using c
  simp[c,c1]
theorem φ7M (w:φE) (n:List UInt8) {k:Nat} (h:dl k w.1) (hk:k≤1000000000):ψ2A.f w n=some (φ1A (φH n) w):=by
 have hd:=φ1X h hk
 unfold ψ2A.f φ1A
 by_cases c:w.2=0
 ·have c1:(w.2==0)=true:=by simpa using c
  simp only[c1,cT,φK4 w.1 n hd,bS,φ6T,c,if_true];rfl
 ·have c1:(w.2==0)=false:=by simpa using c
  simp[c,c1]
theorem φKD (w:φE) (a b:List UInt8) {k:Nat} (h:dl k w.1) (hk:k≤1000000000) (hb:b.length<2 ^ 62):ψ28.f w a b=some (φ1A (φ2Z a b) w):=by
 have hd:=φ1X h hk
 unfold ψ28.f φ1A
 by_cases c:w.2=0
 ·have c1:(w.2==0)=true:=by simpa using c
  simp only[c1,cT,φOe w.1 a b hd hb,bS,φ6T,c,if_true];rfl
 ·have c1:(w.2==0)=false:=by simpa using c
  simp[c,c1]
end Go.Rf.G
