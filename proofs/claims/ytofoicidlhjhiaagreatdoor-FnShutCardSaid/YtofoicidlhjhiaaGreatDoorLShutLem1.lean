import Derived.Test.YtofoicidlhjhiaaGreatDoorRf5
import Derived.Test.YtofoicidlhjhiaaGreatDoorLShutFns
open Option renaming bind_some→bS
open List renaming length_append→lA,append_assoc→aA,mem_cons_of_mem→mC,mem_append→mA,mem_append_right→mR,mem_append_left→mL,mem_cons→mc,drop_eq_getElem_cons→dG,length_take→lT,length_drop→lD,mem_map→mM,length_map→lM,length_cons→lC,length_nil→lN,getElem_mem→gM,map_append→mp,mem_singleton→mZ,mem_cons_self→κ1,take_succ_eq_append_getElem→κ3,length_singleton→κ5,append_nil→κ6,map_cons→κ8,nil_append→κA,drop_zero→κB,take_append_drop→κD,cons_append→κG,foldl_cons→κH,replicate→κI,flatMap_append→κK,nodup_append→κM,all_eq_true→κN,drop_left→κO,take_length→κQ,nodup_cons→κS,range'→κU,pairwise_cons→κZ,not_mem_nil→κc,flatten_cons→κd,foldl_append→κe
open Bool renaming and_eq_true→bA,eq_false_or_eq_true→bE,not_true→nZ,not_false→nF,true_and→tA,not_not→nn,false_eq_true→κ0,true_eq_false→κ7,false_and→κF,or_eq_false_iff→κJ,not_eq_true'→κL,and_true→κP,false_or→κR,or_eq_true→κY
open Int renaming toNat_natCast→tN,ofNat_lt→oL,le_refl→κT
open Nat renaming lt_or_ge→κ2,zero_le→κ4,le_refl→κ9,eq_of_beq_eq_true→κC,lt_of_lt_of_le→κE,zero_add→κV,pow_succ→κW,pow_le_pow_right→κX,mod_eq_of_lt→κb
open Array renaming length_toList→κa
set_option linter.unusedVariables false
set_option linter.unusedSimpArgs false
namespace Go.Rf.G
open Go Go.Rf
set_option synthInstance.maxSize 4000
theorem φFQ {A B:Type} {step:(A→Option B)→A→Option B} {F:A→B} {P:A→Prop} {m:A→Nat}
  (h:∀rec a,P a→(∀a',P a'→m a'<m a→rec a'=some (F a'))→step rec a=some (F a)):∀n a,P a→m a<n→φ2k step n a=some (F a)
 | 0,_,_,hn=>by omega
 | n+1,a,hp,hn=>h (φ2k step n) a hp fun a' hp' hlt=>φFQ h n a' hp' (by omega)
theorem φ5l {A B:Type} {step:(A→Option B)→A→Option B} (F:A→B) (P:A→Prop) (m:A→Nat)
  (h:∀rec a,P a→(∀a',P a'→m a'<m a→rec a'=some (F a'))→step rec a=some (F a)) {a:A} (hp:P a) (hm:m a<2 ^ 62):lp step a=some (F a):=
 φFQ h FUEL a hp (κE hm φ7R)
theorem φd {A B σ:Type} {step:(A→Option B)→A→Option B} (st:Nat→σ→A) (N:Nat) (F:Nat→σ→B) (Inv:Nat→σ→Prop)
  (h:∀rec n s,n≤N→Inv n s→(∀s',n<N→Inv (n+1) s'→rec (st (n+1) s')=some (F (n+1) s'))→step rec (st n s)=some (F n s))
  (hN:N<2 ^ 62):∀n s,n≤N→Inv n s→lp step (st n s)=some (F n s):=by
 have key:∀k f n s,n≤N→Inv n s→N - n=k→k<f→φ2k step f (st n s)=some (F n s):=by
  intro k
  induction k with
  | zero=>
   intro f n s hn hi hk hf
   obtain ⟨f,rfl⟩:∃g,f=g+1:=⟨f - 1,by omega⟩
   exact h _ n s hn hi fun s' hlt=>by omega
  | succ k ih=>
   intro f n s hn hi hk hf
   obtain ⟨f,rfl⟩:∃g,f=g+1:=⟨f - 1,by omega⟩
   exact h _ n s hn hi fun s' hlt hi'=>ih f (n+1) s' hlt hi' (by omega) (by omega)
 intro n s hn hi
 exact key (N - n) FUEL n s hn hi rfl (κE (by omega) φ7R)
@[simp] theorem φD (n m:Nat):inB (n:Int) m=decide (n<m):=by
 unfold inB
 by_cases h:n<m<;>simp[h,Int.natCast_nonneg]
@[simp] theorem φI {α:Type} (z:α) (xs:List α) (n:Nat):rdA z xs (n:Int)=xs.getD n z:=rfl
theorem φG {n:Int} (h1:-9223372036854775808≤n) (h2:n<9223372036854775808):w64 n=n:=by
 unfold w64 IntKind.wrap
 simp only[IntKind.bits,IntKind.signed]
 by_cases h:n % 2 ^ 64≥2 ^ 63<;>simp[h]<;>omega
theorem φ3G {n:Nat} (h:n<9223372036854775808):w64 (n:Int)=n:=φG (by omega) (by omega)
theorem φL {n:Nat} (h:n+1<9223372036854775808):w64 ((n:Int)+1)=((n+1:Nat):Int):=by
 rw[φG (by omega) (by omega)];omega
theorem φ8 {α:Type} {xs:List α} {z:α} {n:Nat} (h:n<xs.length):xs.getD n z=xs[n]:=by simp[List.getD,h]
theorem φGj {α:Type} {a b:List α} {n:Nat} (h1:n<a.length) (h2:n<b.length):a.drop n=b.drop n↔a[n]=b[n]∧a.drop (n+1)=b.drop (n+1):=by
 rw[dG h1,dG h2,List.cons.injEq]
def sumN {α:Type} (f:α→Nat):List α→Nat
 | []=>0
 | x::r=>f x+sumN f r
theorem φAz {α:Type} (f:α→Nat) {l:List α} {n:Nat} (h:n<l.length):sumN f (l.drop n)=f l[n]+sumN f (l.drop (n+1)):=by
 rw[dG h];rfl
theorem φGv {α:Type} (f:α→Nat):∀{l:List α} {x:α},x∈l→f x≤sumN f l
 | y::l,x,h=>by
  rcases mc.1 h with k | k
  ·subst k;exact Nat.le_add_right _ _
  ·exact Nat.le_trans (φGv f k) (Nat.le_add_left _ _)
theorem φKO {X:Type} [DecidableEq X] {step:(List X×List X×Int→Option (Unit ⊕ Bool))→List X×List X×Int→Option (Unit ⊕ Bool)} (a b:List X) (hl:a.length=b.length) (ha:a.length<2 ^ 62)
  (hs:∀rec (n:Nat),(h1:n<a.length)→(h2:n<b.length)→step rec (a,b,(n:Int))=if a[n]=b[n] then rec (a,b,((n+1:Nat):Int)) else some (.inr false))
  (he:∀rec,step rec (a,b,(a.length:Int))=some (.inl ())):lp step (a,b,0)=some (if a=b then .inl () else .inr false):=by
 have:=φd (step:=step) (fun n (_:Unit)=>(a,b,(n:Int))) a.length (fun n _=>if a.drop n=b.drop n then .inl () else .inr false) (fun _ _=>True)
  (fun rec n s hn _ ih=>by
   rcases κ2 n a.length with h | h
   ·rw[hs rec n h (by omega),ih () h trivial]
    by_cases hc:a[n]=b[n]
    ·rw[if_pos hc];simp only[φGj h (by omega:n<b.length),hc,true_and]
    ·rw[if_neg hc,if_neg fun k=>hc ((φGj h (by omega)).1 k).1]
   ·have:n=a.length:=by omega
    subst this
    rw[he]
    simp[hl])
  ha 0 () (κ4 _) trivial
 simpa using this
def φBf {X:Type} (mk:Int→X→X) (c:Nat):List X→Int→List X
 | [],_=>[]
 | x::r,k=>mk k x::φBf mk c r (k+c)
@[simp] theorem φJF {X:Type} (mk:Int→X→X) (c:Nat):∀(l:List X) (k:Int),(φBf mk c l k).length=l.length
 | [],_=>rfl
 | x::r,k=>by simp[φBf,φJF mk c r]
theorem φ41 {X A B:Type} {step:(A→Option (B ⊕ Bool))→A→Option (B ⊕ Bool)} (l:List X) (f:X→Bool) (st:Nat→A) (b:B) (hl:l.length<2 ^ 62)
  (hs:∀rec n,(h:n<l.length)→step rec (st n)=if f l[n]=true then rec (st (n+1)) else some (.inr false))
  (he:∀rec,step rec (st l.length)=some (.inl b)):lp step (st 0)=some (if l.all f=true then .inl b else .inr false):=by
 have:=φd (step:=step) (fun n (_:Unit)=>st n) l.length (fun n _=>if (l.drop n).all f=true then .inl b else .inr false) (fun _ _=>True)
  (fun rec n s hn _ ih=>by
   rcases κ2 n l.length with h | h
   ·rw[hs rec n h,ih () h trivial,dG h,List.all_cons]
    cases f l[n]<;>simp
   ·have:n=l.length:=by omega
    subst this
    rw[he];simp) hl 0 () (κ4 _) trivial
 simpa using this
theorem φ9R {X A B C:Type} {step:(A→Option (B ⊕ C))→A→Option (B ⊕ C)} (l:List X) (f:X→Bool) (r:X→C) (st:Nat→A) (b:B) (hl:l.length<2 ^ 62)
  (hs:∀rec n,(h:n<l.length)→step rec (st n)=if f l[n]=true then some (.inr (r l[n])) else rec (st (n+1)))
  (he:∀rec,step rec (st l.length)=some (.inl b)):lp step (st 0)=some (match l.find? f with | some x=>.inr (r x) | none=>.inl b):=by
 have:=φd (step:=step) (fun n (_:Unit)=>st n) l.length (fun n _=>match (l.drop n).find? f with | some x=>.inr (r x) | none=>.inl b) (fun _ _=>True)
  (fun rec n s hn _ ih=>by
   rcases κ2 n l.length with h | h
   ·rw[hs rec n h,ih () h trivial,dG h,List.find?_cons]
    cases hf:f l[n]<;>simp
   ·have:n=l.length:=by omega
    subst this
    rw[he];simp) hl 0 () (κ4 _) trivial
 simpa using this
theorem φ2U {X A B S:Type} {step:(A→Option B)→A→Option B} (l:List X) (g:S→X→S) (st:Nat→S→A) (out:S→B) (Inv:Nat→S→Prop) (hl:l.length<2 ^ 62)
  (hs:∀rec n s,(h:n<l.length)→Inv n s→step rec (st n s)=rec (st (n+1) (g s l[n])))
  (hi:∀n s,(h:n<l.length)→Inv n s→Inv (n+1) (g s l[n]))
  (he:∀rec s,Inv l.length s→step rec (st l.length s)=some (out s)) (s:S) (h0:Inv 0 s):lp step (st 0 s)=some (out (l.foldl g s)):=by
 have:=φd (step:=step) st l.length (fun n s=>out ((l.drop n).foldl g s)) Inv
  (fun rec n s hn hv ih=>by
   rcases κ2 n l.length with h | h
   ·rw[hs rec n s h hv,ih _ h (hi n s h hv),dG h];rfl
   ·have:n=l.length:=by omega
    subst this
    rw[he rec s hv];simp) hl 0 s (κ4 _) h0
 simpa using this
theorem φF8 {A B σ:Type} {step:(A→Option B)→A→Option B} (st:Nat→σ→A) (F:Nat→σ→B) (Inv:Nat→σ→Prop)
  (h:∀rec n s,Inv n s→(∀m s',n=m+1→Inv m s'→rec (st m s')=some (F m s'))→step rec (st n s)=some (F n s)):∀n s,n<2 ^ 62→Inv n s→lp step (st n s)=some (F n s):=by
 have key:∀n f s,n<f→Inv n s→φ2k step f (st n s)=some (F n s):=by
  intro n
  induction n with
  | zero=>
   intro f s hf hi
   obtain ⟨f,rfl⟩:∃g,f=g+1:=⟨f - 1,by omega⟩
   exact h _ 0 s hi fun m s' he=>by omega
  | succ n ih=>
   intro f s hf hi
   obtain ⟨f,rfl⟩:∃g,f=g+1:=⟨f - 1,by omega⟩
   exact h _ (n+1) s hi fun m s' he hi'=>by
    have:m=n:=by omega
    subst this
    exact ih f s' (by omega) hi'
 intro n s hn hi
 exact key n FUEL s (κE hn φ7R) hi
theorem φKT {X A B C:Type} {step:(A→Option (B ⊕ C))→A→Option (B ⊕ C)} (l:List X) (f:X→Bool) (r:X→C) (st:Nat→A) (b:B) (hl:l.length<2 ^ 62)
  (hs:∀rec n,(h:n<l.length)→step rec (st (n+1))=if f l[n]=true then some (.inr (r l[n])) else rec (st n))
  (he:∀rec,step rec (st 0)=some (.inl b)):lp step (st l.length)=some (match l.reverse.find? f with | some x=>.inr (r x) | none=>.inl b):=by
 have:=φF8 (step:=step) (fun n (_:Unit)=>st n) (fun n _=>match (l.take n).reverse.find? f with | some x=>.inr (r x) | none=>.inl b) (fun n _=>n≤l.length)
  (fun rec n s hn ih=>by
   cases n with
   | zero=>rw[he];simp
   | succ n=>
    have h:n<l.length:=hn
    rw[hs rec n h,ih n () rfl (by omega),κ3 h,List.reverse_append]
    simp only[List.reverse_cons,List.reverse_nil,κA,κG,List.find?_cons]
    cases hf:f l[n]<;>simp) l.length () hl (κ9 _)
 simpa using this
@[simp] theorem φT {A B C:Type} (a:A) (f:A→C) (g:B→C):φM (.inl a) f g=f a:=rfl
@[simp] theorem φZ {A B C:Type} (b:B) (f:A→C) (g:B→C):φM (.inr b) f g=g b:=rfl
theorem φ2S {A B:Type} (p:A×B):(p.1,p.2)=p:=rfl
theorem φEz {α:Type} {z:α} {r:List α} {n:Nat} {v:α} (h:n<r.length):rdA z (r.set n v) (n:Int)=v:=by simp[List.getD,h]
theorem φKQ {A B C:Type} [BEq A] [BEq B] [BEq C] [LawfulBEq A] [LawfulBEq B] [LawfulBEq C] [DecidableEq (A×B×C)] (x y:A×B×C):(x.1==y.1 && (x.2.1==y.2.1 && x.2.2==y.2.2))=decide (x=y):=by
 obtain ⟨a,b,c⟩:=x
 obtain ⟨d,e,f⟩:=y
 by_cases h1:a=d
 ·by_cases h2:b=e
  ·by_cases h3:c=f
   ·simp[h1,h2,h3]
   ·have:(c==f)=false:=by simpa using h3
    simp[h1,h2,h3,this]
  ·have:(b==e)=false:=by simpa using h2
   simp[h1,h2,this]
 ·have:(a==d)=false:=by simpa using h1
  simp[h1,this]
theorem φ6q {a b:Nat} (h:a≠b):((a:Int) != (b:Int))=true:=by
 have:(a:Int)≠(b:Int):=by omega
 simpa using this
theorem φ6y {a b:Nat} (h:a=b):((a:Int) != (b:Int))=false:=by simp[h]
theorem φM6 {β:Type} {P:Prop} [Decidable P] (a b:β):(bif !decide P then a else b)=if P then b else a:=by
 by_cases h:P<;>simp[h]
theorem φHU (a b:List (List UInt8×List UInt8×Int)) (ha:a.length<2 ^ 62):ψ2w.f a b=some (decide (a=b)):=by
 unfold ψ2w.f
 by_cases hl:a.length=b.length
 rotate_left
 ·have:a≠b:=fun h=>hl (by rw[h])
  rw[φ6q hl];simp[this]
 rw[φ6y hl,cF,φKO a b hl ha (fun rec n h1 h2=>?_) (fun rec=>?_)]
 ·by_cases e:a=b<;>simp[e]
 ·simp only[ψ2w.l0,oL,h1,h2,dT,cT,φD,φI,φ8 h1,φ8 h2,φL (show n+1<9223372036854775808 by omega),φKQ,φM6]
 ·simp[ψ2w.l0]
theorem φ1q (n a b:Int):ψ1R.f n a b=some (decide (a≤n∧n≤b)):=by
 unfold ψ1R.f
 by_cases h:a≤n
 ·have h2:n≥a:=h
  simp[h,h2]
 ·have h2:¬n≥a:=h
  simp[h,h2]
theorem φ1u (n a b:Int):ψ3e.f n a b=some (decide (a≤n∧n≤b)):=φ1q n a b
def φ1c (s:List UInt8):Bool:=decide (1≤s.length∧s.length≤8)
theorem φ9t (s:List UInt8):ψV.f s=some (φ1c s):=by
 unfold ψV.f φ1c
 rw[φ1q,bS]
 congr 1
 apply decide_eq_decide.2
 omega
theorem φ7J (s:List UInt8):ψ2Z.f s=some (φ1c s):=φ9t s
def φ3R (p:List UInt8×Bool×List UInt8):Bool:=φ1c p.1 && (decide (p.2.2.length≤24) && (!p.2.1 || p.2.2==[]))
def φ2K (l:List (List UInt8×Bool×List UInt8)):Bool:=decide (l.length≤8) && l.all φ3R
theorem φAS (l:List (List UInt8×Bool×List UInt8)) (hl:l.length<2 ^ 62):ψ2i.f l=some (φ2K l):=by
 unfold ψ2i.f φ2K
 by_cases h8:l.length≤8
 rotate_left
 ·have:(l.length:Int) > 8:=by omega
  simp[this,h8]
 have h9:¬(l.length:Int) > 8:=by omega
 have key:=φ41 (step:=ψ2i.l0) l φ3R (fun n=>(l,(n:Int))) () hl
  (fun rec n h=>by
   simp only[ψ2i.l0,oL,h,dT,cT,φD,φI,φ8 h,φ2S,φ7J,bS,φL (show n+1<9223372036854775808 by omega),φ3R]
   have hw:w64 ((n:Int)+1)=(n:Int)+1:=φG (by omega) (by omega)
   rcases bE (φ1c l[n].1) with hko | hko
   rotate_left
   ·simp[hko]
   ·by_cases h24:l[n].2.2.length≤24
    ·have:¬(l[n].2.2.length:Int) > 24:=by omega
     rcases bE l[n].2.1 with hd | hd
     ·rcases bE (l[n].2.2==[]) with he | he<;>simp[this,h24,hd,he,hko,hw]
     ·simp[this,h24,hd,hko,hw]
    ·have:(l[n].2.2.length:Int) > 24:=by omega
     simp[this,h24,hko])
  (fun rec=>by simp[ψ2i.l0])
 have key:lp ψ2i.l0 (l,0)=_:=key
 rw[key]
 cases h:l.all φ3R<;>simp[h8,h9]
def φFn (l:List (List UInt8×Bool×List UInt8)) (key:List UInt8):Option (List UInt8×Bool×List UInt8):=l.reverse.find? fun p=>p.1==key
def ownW (l:List (List UInt8×Bool×List UInt8)) (key:List UInt8):(List UInt8×Bool×List UInt8)×Bool:=
 match φFn l key with
 | some p=>(p,true)
 | none=>(([],false,[]),false)
theorem φHm (t:Bool×List (List UInt8×Int)×List (List UInt8×Bool×List UInt8)) (key:List UInt8) (hl:t.2.2.length<2 ^ 62):ψc.f t key=some (ownW t.2.2 key):=by
 have hk:=φKT (step:=ψc.l0) t.2.2 (fun p=>p.1==key) (fun p=>(p,true)) (fun n=>(key,t,([],false,[]),(n:Int) - 1)) ([],false,[]) hl
  (fun rec n h=>by
   have e:((n+1:Nat):Int) - 1=(n:Int):=by omega
   have e2:w64 ((n:Int) - 1)=(n:Int) - 1:=φG (by omega) (by omega)
   have e3:(n:Int)≥0:=by omega
   simp only[e,ψc.l0,e3,dT,cT,φD,φI,h,φ8 h,e2,φ2S]
   cases h2:(t.2.2[n].1==key)<;>simp)
  (fun rec=>by simp[ψc.l0])
 unfold ψc.f ownW φFn
 rw[φG (by omega) (by omega)]
 simp only[]
 rw[hk,bS]
 cases List.find? (fun p=>p.1==key) t.2.2.reverse<;>rfl
theorem φCh (t:Bool×List (List UInt8×Int)×List (List UInt8×Bool×List UInt8)) (key:List UInt8) (hl:t.2.2.length<2 ^ 62):ψ2g.f t key=some (ownW t.2.2 key):=φHm t key hl
abbrev PutT:=List UInt8×Bool×List UInt8
abbrev φ1C:=List UInt8×List UInt8×Int
abbrev φB:=List UInt8×Int×Int×Int×Int
abbrev TxnT:=Bool×List (List UInt8×Int)×List (List UInt8×Bool×List UInt8)
def φ3L (l:List φB) (key:List UInt8):φB×Bool:=
 match l.find? (fun e=>e.1==key) with
 | some e=>(e,true)
 | none=>(([],0,0,0,0),false)
theorem φKt (l:List φB) (key:List UInt8) (hl:l.length<2 ^ 62):ψ8.f l key=some (φ3L l key):=by
 have hk:=φ9R (step:=ψ8.l0) l (fun e=>e.1==key) (fun e=>(e,true)) (fun n=>(key,([],0,0,0,0),l,(l.length:Int),(n:Int))) ([],0,0,0,0) hl
  (fun rec n h=>by
   simp only[ψ8.l0,oL,h,dT,cT,φD,φI,φ8 h,φ2S,φL (show n+1<9223372036854775808 by omega)]
   cases l[n].1==key<;>simp)
  (fun rec=>by simp[ψ8.l0])
 have hk:lp ψ8.l0 (key,([],0,0,0,0),l,(l.length:Int),0)=_:=hk
 unfold ψ8.f φ3L
 rw[hk,bS]
 cases List.find? (fun e=>e.1==key) l<;>rfl
theorem φDV (l:List φB) (key:List UInt8) (hl:l.length<2 ^ 62):ψ2G.f l key=some (φ3L l key):=by
 have hk:=φ9R (step:=ψ2G.l0) l (fun e=>e.1==key) (fun e=>(e,true)) (fun n=>(l,key,([],0,0,0,0),(n:Int))) ([],0,0,0,0) hl
  (fun rec n h=>by
   simp only[ψ2G.l0,oL,h,dT,cT,φD,φI,φ8 h,φ2S,φL (show n+1<9223372036854775808 by omega)]
   cases l[n].1==key<;>simp)
  (fun rec=>by simp[ψ2G.l0])
 have hk:lp ψ2G.l0 (l,key,([],0,0,0,0),0)=_:=hk
 unfold ψ2G.f φ3L
 rw[hk,bS]
 cases List.find? (fun e=>e.1==key) l<;>rfl
def φ9g (t:TxnT) (dir:List φB):Bool:=t.2.1.all fun r=>(φ3L dir r.1).1.2.2.2.2==r.2
theorem φLC (t:TxnT) (dir:List φB) (h1:t.2.1.length<2 ^ 62) (h2:dir.length<2 ^ 62):ψ3A.f t dir=some (φ9g t dir):=by
 have hk:=φ41 (step:=ψ3A.l0) t.2.1 (fun r=>(φ3L dir r.1).1.2.2.2.2==r.2) (fun n=>(dir,t,(n:Int))) () h1
  (fun rec n h=>by
   simp only[ψ3A.l0,oL,h,dT,cT,φD,φI,φ8 h,φDV dir _ h2,bS,φL (show n+1<9223372036854775808 by omega),bne]
   cases (φ3L dir t.2.1[n].1).1.2.2.2.2==t.2.1[n].2<;>simp)
  (fun rec=>by simp[ψ3A.l0])
 have hk:lp ψ3A.l0 (dir,t,0)=_:=hk
 unfold ψ3A.f φ9g
 rw[hk,bS]
 cases List.all t.2.1 _<;>rfl
def φ2i (l:List PutT):List (List UInt8):=l.foldl (fun ks p=>if p.1∈ks then ks else ks++[p.1]) []
def netW (l:List PutT):List PutT:=(φ2i l).map fun k=>(ownW l k).1
theorem φ8J (l:List PutT) (p:PutT):φ2i (l++[p])=if p.1∈φ2i l then φ2i l else φ2i l++[p.1]:=by
 unfold φ2i;rw[κe];rfl
theorem φ8W {α:Type} {P:List α→Prop} (h0:P []) (hs:∀l x,P l→P (l++[x])):∀l,P l:=by
 have key:∀n (l:List α),l.length=n→P l:=by
  intro n
  induction n with
  | zero=>intro l h;rw[List.eq_nil_of_length_eq_zero h];exact h0
  | succ n ih=>
   intro l h
   have hlt:n<l.length:=by omega
   have e:l.take n++[l[n]]=l:=by
    rw[←κ3 hlt,List.take_of_length_le (by omega)]
   rw[←e]
   exact hs _ _ (ih _ (by simp;omega))
 exact fun l=>key l.length l rfl
theorem φLe (l:List PutT) (k:List UInt8):k∈φ2i l↔∃p∈l,p.1=k:=by
 induction l using φ8W with
 | h0=>simp[φ2i]
 | hs l p ih=>
  rw[φ8J]
  by_cases h:p.1∈φ2i l
  ·rw[if_pos h,ih]
   constructor
   ·rintro ⟨q,h1,h2⟩;exact ⟨q,mL _ h1,h2⟩
   ·rintro ⟨q,h1,h2⟩
    rcases mA.1 h1 with k1 | k1
    ·exact ⟨q,k1,h2⟩
    ·simp only[mZ] at k1
     subst k1;subst h2
     exact ih.1 h
  ·rw[if_neg h,mA,ih]
   constructor
   ·rintro (⟨q,h1,h2⟩ | h1)
    ·exact ⟨q,mL _ h1,h2⟩
    ·simp only[mZ] at h1
     exact ⟨p,by simp,h1.symm⟩
   ·rintro ⟨q,h1,h2⟩
    rcases mA.1 h1 with k1 | k1
    ·exact .inl ⟨q,k1,h2⟩
    ·simp only[mZ] at k1
     subst k1;right;simp[h2]
theorem φEF (l:List PutT):(φ2i l).length≤l.length:=by
 induction l using φ8W with
 | h0=>simp[φ2i]
 | hs l p ih=>
  rw[φ8J]
  split<;>simp<;>omega
def φ6Y (l:List PutT) (i:Nat):Bool:=(l.take i).all fun q=>!(q.1==(l.getD i ([],false,[])).1)
theorem φJz (t:TxnT) (out:List PutT) (i:Nat) (h:i<t.2.2.length) (hl:t.2.2.length<2 ^ 40) :
  lp ψ2d.l2 (t,out,(i:Int),true,0)=some (t,out,(i:Int),φ6Y t.2.2 i):=by
 have key:=φd (step:=ψ2d.l2) (fun n (s:Bool)=>(t,out,(i:Int),s,(n:Int))) i (fun n s=>(t,out,(i:Int),s && ((t.2.2.take i).drop n).all fun q=>!(q.1==t.2.2[i].1))) (fun _ _=>True)
  (fun rec n s hn _ ih=>by
   rcases κ2 n i with h2 | h2
   ·have h3:n<t.2.2.length:=by omega
    have h4:n<(t.2.2.take i).length:=by simp;omega
    have hw:w64 ((n:Int)+1)=((n+1:Nat):Int):=φL (show n+1<9223372036854775808 by omega)
    simp only[ψ2d.l2,oL,h,h2,h3,dT,cT,φD,φI,φ8 h,φ8 h3,φL (show n+1<9223372036854775808 by omega)]
    rw[dG h4,List.all_cons,List.getElem_take]
    cases s
    ·simp only[cF,bS]
     rw[hw,ih false h2 trivial];simp
    ·simp only[cT,bS]
     rw[hw,ih _ h2 trivial];simp
   ·have:n=i:=by omega
    subst this
    have:(t.2.2.take n).drop n=[]:=by simp
    simp[ψ2d.l2,this])
  (by omega) 0 true (κ4 _) trivial
 rw[show φ6Y t.2.2 i=(t.2.2.take i).all (fun q=>!(q.1==t.2.2[i].1)) by unfold φ6Y;rw[φ8 h]]
 simpa using key
theorem φMS (l:List PutT) (i:Nat) (h:i<l.length):φ6Y l i=true↔l[i].1 ∉ φ2i (l.take i):=by
 unfold φ6Y
 rw[κN,φLe,φ8 h]
 constructor
 ·rintro h1 ⟨p,hp,e⟩
  have:=h1 p hp
  simp[e] at this
 ·intro h1 q hq
  simp only[κL,beq_eq_false_iff_ne]
  exact fun e=>h1 ⟨q,hq,e⟩
theorem φDw (t:TxnT) (hl:t.2.2.length<2 ^ 40):ψ2d.f t=some (netW t.2.2):=by
 have key:=φd (step:=ψ2d.l0) (fun n (s:List PutT)=>(t,s,(n:Int))) t.2.2.length (fun n s=>netW t.2.2) (fun n s=>s=(φ2i (t.2.2.take n)).map fun k=>(ownW t.2.2 k).1)
  (fun rec n s hn hi ih=>by
   rcases κ2 n t.2.2.length with h | h
   ·have hs:s.length≤n:=by
     have:=φEF (t.2.2.take n)
     rw[hi,lM]
     simp only[lT] at this;omega
    have hb:(s.length+[(ownW t.2.2 t.2.2[n].1).1].length) * 40≤140737488355328:=by simp;omega
    have hw:w64 ((n:Int)+1)=((n+1:Nat):Int):=φL (show n+1<9223372036854775808 by omega)
    simp only[ψ2d.l0,oL,h,dT,cT,φJz t s n h hl,bS,φD,φI,φ8 h,φCh t _ (show t.2.2.length<2 ^ 62 by omega),φL (show n+1<9223372036854775808 by omega)]
    have e:=φMS t.2.2 n h
    cases hf:φ6Y t.2.2 n
    ·simp only[cF,bS]
     rw[hw]
     refine ih s h ?_
     rw[hi,κ3 h,φ8J,if_pos]
     by_cases hm:t.2.2[n].1∈φ2i (t.2.2.take n)
     ·exact hm
     ·rw[e.2 hm] at hf;simp at hf
    ·simp only[cT,bS,hb,dT]
     rw[hw]
     refine ih _ h ?_
     rw[hi,κ3 h,φ8J,if_neg (e.1 hf),mp];rfl
   ·have:n=t.2.2.length:=by omega
    subst this
    rw[κQ] at hi
    simp[ψ2d.l0,hi,netW])
  (by omega) 0 [] (κ4 _) (by simp[φ2i])
 have key:lp ψ2d.l0 (t,[],0)=_:=key
 unfold ψ2d.f
 rw[key];rfl
theorem φ53 {a:Nat} (h:a<1000000000001):(a+1) * 40≤140737488355328:=by omega
def leK (a b:List UInt8):Bool:=Op.bytesLess a b || a==b
def insB {α:Type} (l:List (List UInt8×α)) (p:List UInt8×α):List (List UInt8×α):=
 let k:=(l.takeWhile fun x=>leK x.1 p.1).length
 l.take k++[p]++l.drop k
def φp {α:Type} (l:List (List UInt8×α)) (key:List UInt8):List (List UInt8×α):=l.filter fun x=>!(x.1==key)
theorem φ8u {α:Type} (l:List (List UInt8×α)) (p:List UInt8×α):(insB l p).length=l.length+1:=by
 have:(l.takeWhile fun x=>leK x.1 p.1).length≤l.length:=(List.takeWhile_sublist _).length_le
 simp only[insB,lA,lT,lD,lC,lN];omega
theorem φ7z {α:Type} (l:List (List UInt8×α)) (key:List UInt8):(φp l key).length≤l.length:=List.length_filter_le _ _
theorem φAm {α:Type} (f:α→Bool):∀(l s:List α),l.foldl (fun s x=>if f x=true then s++[x] else s) s=s++l.filter f
 | [],s=>by simp
 | x::l,s=>by
  rw[κH,φAm f l,List.filter_cons]
  cases f x<;>simp
def φHX (b:Int) (l:List φ1C) (p:PutT):List φ1C:=if p.2.1=true then φp l p.1 else insB (φp l p.1) (p.1,p.2.2,b)
def φBV (l:List φ1C) (puts:List PutT) (b:Int):List φ1C:=puts.foldl (φHX b) l
theorem φFg {α:Type} (f:α→Bool) (l:List α) (n:Nat) (h:n<l.length):((l.drop n).takeWhile f).length=if f l[n]=true then ((l.drop (n+1)).takeWhile f).length+1 else 0:=by
 rw[dG h,List.takeWhile_cons]
 split<;>simp
theorem dnn {k:Int} (h:0≤k):decide (k<0)=false:=by
 have:¬k<0:=by omega
 simp[this]
theorem φMz (l:List PutT):(netW l).length≤l.length:=by
 unfold netW;rw[lM];exact φEF l
theorem φ4w:∀a:List UInt8,Op.bytesLess a a=false
 | []=>rfl
 | x::a=>by simp[Op.bytesLess,φ4w a]
theorem φFh {a b:UInt8}:a<b↔a.toNat<b.toNat:=UInt8.lt_iff_toNat_lt
theorem φJG {a b:UInt8} (h:a.toNat=b.toNat):a=b:=UInt8.toNat.inj h
theorem φ7T:∀a b c:List UInt8,Op.bytesLess a b=true→Op.bytesLess b c=true→Op.bytesLess a c=true
 | _,[],_,h,_=>by simp[Op.bytesLess] at h
 | _,_::_,[],_,h=>by simp[Op.bytesLess] at h
 | [],_::_,_::_,_,_=>rfl
 | x::a,y::b,z::c,h1,h2=>by
  simp only[Op.bytesLess,κY,decide_eq_true_eq,bA,beq_iff_eq] at h1 h2 ⊢
  rcases h1 with h1 | ⟨h1,k1⟩
  ·rcases h2 with h2 | ⟨h2,k2⟩
   ·left;rw[φFh] at *;omega
   ·left;rw[←h2];exact h1
  ·rcases h2 with h2 | ⟨h2,k2⟩
   ·left;rw[h1];exact h2
   ·exact .inr ⟨h1.trans h2,φ7T a b c k1 k2⟩
theorem φFe:∀a b:List UInt8,Op.bytesLess a b=false→a≠b→Op.bytesLess b a=true
 | [],[],_,h=>absurd rfl h
 | [],_::_,h,_=>by simp[Op.bytesLess] at h
 | _::_,[],_,_=>rfl
 | x::a,y::b,h1,h2=>by
  simp only[Op.bytesLess,κJ,decide_eq_false_iff_not,Bool.and_eq_false_iff] at h1
  simp only[Op.bytesLess,κY,decide_eq_true_eq,bA,beq_iff_eq]
  by_cases e:x=y
  ·subst e
   right
   refine ⟨rfl,φFe a b ?_ fun e=>h2 (by rw[e])⟩
   rcases h1.2 with k | k
   ·simp at k
   ·exact k
  ·left
   rw[φFh] at *
   have:=h1.1
   have hne:x.toNat≠y.toNat:=fun k=>e (φJG k)
   omega
theorem φGH (a b:List UInt8) (h:Op.bytesLess a b=true):Op.bytesLess b a=false:=by
 cases hb:Op.bytesLess b a with
 | false=>rfl
 | true=>have:=φ7T a b a h hb;rw[φ4w] at this;simp at this
theorem φ5x {a b:List UInt8} (h:Op.bytesLess a b=true):a≠b:=fun e=>by rw[e,φ4w] at h;simp at h
theorem φ8L (a b:List UInt8):leK a b=!Op.bytesLess b a:=by
 unfold leK
 cases h:Op.bytesLess a b with
 | true=>rw[φGH a b h];rfl
 | false=>
  by_cases e:a=b
  ·subst e;simp[h]
  ·rw[φFe a b h e]
   have:(a==b)=false:=by simpa using e
   simp[this]
def φ4E (b:UInt8):Bool:=(decide (97≤b.toNat) && decide (b.toNat≤122)) || (decide (48≤b.toNat) && decide (b.toNat≤57))
def φ30 (s:List UInt8):Bool:=s.all φ4E && decide (1≤s.length∧s.length≤12)
theorem φ4b (s:List UInt8) (n:Nat) (h:n<s.length):bAt s (n:Int)=(s[n].toNat:Int):=by
 unfold bAt
 rw[tN,φ8 h]
theorem φ8B {a:Nat} {k:Nat}:decide ((a:Int)≥(k:Int))=decide (k≤a):=decide_eq_decide.2 (by omega)
theorem φ8N {a:Nat} {k:Nat}:decide ((a:Int)≤(k:Int))=decide (a≤k):=decide_eq_decide.2 (by omega)
theorem φBp (s:List UInt8) (hl:s.length<2 ^ 62):ψY.f s=some (φ30 s):=by
 have key:=φ41 (step:=ψY.l0) s φ4E (fun n=>(s,(n:Int))) s hl
  (fun rec n h=>by
   have hw:w64 ((n:Int)+1)=((n+1:Nat):Int):=φL (by omega)
   have e1:decide ((s[n].toNat:Int)≥97)=decide (97≤s[n].toNat):=φ8B (k:=97)
   have e2:decide ((s[n].toNat:Int)≤122)=decide (s[n].toNat≤122):=φ8N (k:=122)
   have e3:decide ((s[n].toNat:Int)≥48)=decide (48≤s[n].toNat):=φ8B (k:=48)
   have e4:decide ((s[n].toNat:Int)≤57)=decide (s[n].toNat≤57):=φ8N (k:=57)
   simp only[ψY.l0,oL,h,dT,cT,φD,φ4b s n h,e1,e2,e3,e4]
   unfold φ4E
   cases decide (97≤s[n].toNat)<;>cases decide (s[n].toNat≤122)<;>cases decide (48≤s[n].toNat)<;>cases decide (s[n].toNat≤57)<;>simp[hw])
  (fun rec=>by simp[ψY.l0])
 have key:lp ψY.l0 (s,0)=_:=key
 unfold ψY.f φ30
 rw[key,bS]
 have e:decide ((1:Int)≤(s.length:Int)∧(s.length:Int)≤12)=decide (1≤s.length∧s.length≤12):=decide_eq_decide.2 (by omega)
 cases h:s.all φ4E
 ·simp
 ·simp only[if_true,φT,φ1q,bS,e,tA]
theorem φBm (s:List UInt8) (hl:s.length<2 ^ 62):ψ2c.f s=some (φ30 s):=by
 have key:=φ41 (step:=ψ2c.l0) s φ4E (fun n=>(s,(n:Int))) s hl
  (fun rec n h=>by
   have hw:w64 ((n:Int)+1)=((n+1:Nat):Int):=φL (by omega)
   have e1:decide ((s[n].toNat:Int)≥97)=decide (97≤s[n].toNat):=φ8B (k:=97)
   have e2:decide ((s[n].toNat:Int)≤122)=decide (s[n].toNat≤122):=φ8N (k:=122)
   have e3:decide ((s[n].toNat:Int)≥48)=decide (48≤s[n].toNat):=φ8B (k:=48)
   have e4:decide ((s[n].toNat:Int)≤57)=decide (s[n].toNat≤57):=φ8N (k:=57)
   simp only[ψ2c.l0,oL,h,dT,cT,φD,φ4b s n h,e1,e2,e3,e4]
   unfold φ4E
   cases decide (97≤s[n].toNat)<;>cases decide (s[n].toNat≤122)<;>cases decide (48≤s[n].toNat)<;>cases decide (s[n].toNat≤57)<;>simp[hw])
  (fun rec=>by simp[ψ2c.l0])
 have key:lp ψ2c.l0 (s,0)=_:=key
 unfold ψ2c.f φ30
 rw[key,bS]
 have e:decide ((1:Int)≤(s.length:Int)∧(s.length:Int)≤12)=decide (1≤s.length∧s.length≤12):=decide_eq_decide.2 (by omega)
 cases h:s.all φ4E
 ·simp
 ·simp only[if_true,φT,φ1u,bS,e,tA]
abbrev φ6:=List UInt8×List UInt8×Int
abbrev φ1:=List φ6×Int×Int×Bool
def φQ (l:List φ6):Nat:=sumN (fun f=>f.2.1.length) l
def φ2x (f:φ6):Bool:=φ30 f.1 && decide (0≤f.2.2∧f.2.2≤(f.2.1.length:Int))
def φ3T:Option (List UInt8)→List φ6→Bool
 | _,[]=>true
 | none,f::r=>φ3T (some f.1) r
 | some p,f::r=>Op.bytesLess p f.1 && φ3T (some f.1) r
def φ5P (l:List φ6):Bool:=l.all φ2x && φ3T none l
def φ5 (d:φ1):Bool:=decide (d.1.length≤130) && (decide (0≤d.2.1∧d.2.1≤100000) && (decide (-1≤d.2.2.1∧d.2.2.1≤100000) && (decide ((φQ d.1:Int)≤d.2.1) && φ5P d.1)))
def φ4N (l:List φ6):Nat→Option (List UInt8)
 | 0=>none
 | n+1=>some (l.getD n ([],[],0)).1
def φ5Q (p:Option (List UInt8)) (l:List φ6):Bool:=l.all φ2x && φ3T p l
def follows (p:Option (List UInt8)) (f:φ6):Bool:=match p with | none=>true | some q=>Op.bytesLess q f.1
theorem φEU (p:Option (List UInt8)) (f:φ6) (l:List φ6):φ5Q p (f::l)=(φ2x f && follows p f && φ5Q (some f.1) l):=by
 unfold φ5Q follows
 cases p<;>simp only[List.all_cons,φ3T]<;>cases φ2x f<;>simp[Bool.and_comm,Bool.and_assoc,Bool.and_left_comm]
theorem φGI (d:φ1) (hl:d.1.length<2 ^ 62) (hu:φQ d.1<2 ^ 62):ψ3o.f d=some (φQ d.1:Int):=by
 have key:=φd (step:=ψ3o.l0) (fun n (s:Int)=>(d,s,(n:Int))) d.1.length (fun n s=>s+(φQ (d.1.drop n):Int)) (fun n s=>0≤s∧s+(φQ (d.1.drop n):Int)<2 ^ 62)
  (fun rec n s hn hi ih=>by
   rcases κ2 n d.1.length with h | h
   ·have e:φQ (d.1.drop n)=d.1[n].2.1.length+φQ (d.1.drop (n+1)):=φAz _ h
    have h2:=hi.2
    have h1:=hi.1
    rw[e] at h2
    simp only[ψ3o.l0,oL,h,dT,cT,φD,φI,φ8 h,φL (show n+1<9223372036854775808 by omega)]
    rw[φG (by omega) (by omega),ih _ h ⟨by omega,by omega⟩,e]
    congr 1;omega
   ·have:n=d.1.length:=by omega
    subst this
    simp[ψ3o.l0,φQ,sumN])
  hl 0 0 (κ4 _) ⟨by omega,by simp only[κB];omega⟩
 have key:lp ψ3o.l0 (d,0,0)=_:=key
 unfold ψ3o.f
 rw[key];simp
theorem φF0 (d:φ1) (hl:d.1.length<2 ^ 62) (hu:φQ d.1<2 ^ 62):ψ1o.f d=some (φQ d.1:Int):=by
 have key:=φd (step:=ψ1o.l0) (fun n (s:Int)=>(s,d.1,(d.1.length:Int),(n:Int))) d.1.length (fun n s=>s+(φQ (d.1.drop n):Int)) (fun n s=>0≤s∧s+(φQ (d.1.drop n):Int)<2 ^ 62)
  (fun rec n s hn hi ih=>by
   rcases κ2 n d.1.length with h | h
   ·have e:φQ (d.1.drop n)=d.1[n].2.1.length+φQ (d.1.drop (n+1)):=φAz _ h
    have h2:=hi.2
    have h1:=hi.1
    rw[e] at h2
    simp only[ψ1o.l0,oL,h,dT,cT,φD,φI,φ8 h,φL (show n+1<9223372036854775808 by omega)]
    rw[φG (by omega) (by omega),ih _ h ⟨by omega,by omega⟩,e]
    congr 1;omega
   ·have:n=d.1.length:=by omega
    subst this
    simp[ψ1o.l0,φQ,sumN])
  hl 0 0 (κ4 _) ⟨by omega,by simp only[κB];omega⟩
 have key:lp ψ1o.l0 (0,d.1,(d.1.length:Int),0)=_:=key
 unfold ψ1o.f
 rw[key];simp
theorem φ9L (l:List φ6) (n:Nat) (h:n<l.length):φ4N l (n+1)=some l[n].1:=by
 show some (l.getD n ([],[],0)).1=_
 rw[φ8 h]
theorem φHx {f:List UInt8} (h:φ30 f=true):f.length≤12:=by
 unfold φ30 at h
 simp only[bA,decide_eq_true_eq] at h
 exact h.2.2
theorem φMj (d:φ1) (hl:d.1.length<2 ^ 62) (hu:φQ d.1<2 ^ 62) (hn:∀f∈d.1,f.1.length<2 ^ 62):lp ψC.l0 (d,0,d.1,(d.1.length:Int),0)=some (if φ5P d.1=true then .inl (d,(φQ d.1:Int)) else .inr false):=by
 have key:=φd (step:=ψC.l0) (fun n (s:Int)=>(d,s,d.1,(d.1.length:Int),(n:Int))) d.1.length (fun n s=>if φ5Q (φ4N d.1 n) (d.1.drop n)=true then .inl (d,s+(φQ (d.1.drop n):Int)) else .inr false) (fun n s=>0≤s∧s+(φQ (d.1.drop n):Int)<2 ^ 62)
  (fun rec n s hn' hi ih=>by
   rcases κ2 n d.1.length with h | h
   ·have e:φQ (d.1.drop n)=d.1[n].2.1.length+φQ (d.1.drop (n+1)):=φAz _ h
    have h2:=hi.2
    have h1:=hi.1
    rw[e] at h2
    have hw:w64 ((n:Int)+1)=((n+1:Nat):Int):=φL (by omega)
    have hw2:w64 (s+(d.1[n].2.1.length:Int))=s+(d.1[n].2.1.length:Int):=φG (by omega) (by omega)
    have ih2:=ih (s+(d.1[n].2.1.length:Int)) h ⟨by omega,by omega⟩
    have ea:s+(d.1[n].2.1.length:Int)+(φQ (d.1.drop (n+1)):Int)=s+((d.1[n].2.1.length+φQ (d.1.drop (n+1)):Nat):Int):=by omega
    rw[φ9L d.1 n h,ea] at ih2
    have hnm:=hn d.1[n] (gM h)
    rw[dG h,φEU,←dG h,e]
    simp only[ψC.l0,oL,h,dT,cT,φD,φI,φ8 h,φBp _ hnm,bS,φ1q]
    unfold φ2x
    rcases bE (φ30 d.1[n].1) with k1 | k1
    rotate_left
    ·simp[k1]
    rcases bE (decide (0≤d.1[n].2.2∧d.1[n].2.2≤(d.1[n].2.1.length:Int))) with k2 | k2
    rotate_left
    ·simp only[k1,k2,nZ,nF,cF,cT,bS,φZ];simp
    simp only[k1,k2,nZ,cF,tA]
    cases n with
    | zero=>
     have z:¬((0:Nat):Int) > 0:=by omega
     simp only[z,dF,cF,bS,φT,hw2,hw,ih2,φ4N,follows,tA]
    | succ m=>
     have z:((m+1:Nat):Int) > 0:=by omega
     have hm:m<d.1.length:=by omega
     have z2:w64 (((m+1:Nat):Int) - 1)=(m:Int):=by rw[φG (by omega) (by omega)];omega
     rw[φ9L d.1 m hm]
     simp only[z,dT,cT,z2,φD,hm,φI,φ8 hm,follows]
     rcases bE (Op.bytesLess d.1[m].1 d.1[m+1].1) with k3 | k3
     ·simp only[k3,nZ,cF,bS,φT,hw2,hw,ih2,tA]
     ·simp[k3]
   ·have:n=d.1.length:=by omega
    subst this
    simp[ψC.l0,φ5Q,φ3T,φQ,sumN])
  hl 0 0 (κ4 _) ⟨by omega,by simp only[κB];omega⟩
 have key:lp ψC.l0 (d,0,d.1,(d.1.length:Int),0)=_:=key
 rw[key,κB,Int.zero_add];rfl
theorem φMq (d:φ1) (hl:d.1.length<2 ^ 62) (hn:∀f∈d.1,f.1.length<2 ^ 62):lp ψ2L.l0 (d,0)=some (if φ5P d.1=true then .inl () else .inr false):=by
 have key:=φd (step:=ψ2L.l0) (fun n (_:Unit)=>(d,(n:Int))) d.1.length (fun n _=>if φ5Q (φ4N d.1 n) (d.1.drop n)=true then .inl () else .inr false) (fun _ _=>True)
  (fun rec n s hn' _ ih=>by
   rcases κ2 n d.1.length with h | h
   ·have hw:w64 ((n:Int)+1)=((n+1:Nat):Int):=φL (by omega)
    have ih2:=ih () h trivial
    rw[φ9L d.1 n h] at ih2
    have hnm:=hn d.1[n] (gM h)
    rw[dG h,φEU]
    simp only[ψ2L.l0,oL,h,dT,cT,φD,φI,φ8 h,φBm _ hnm,bS,φ1u]
    unfold φ2x
    rcases bE (φ30 d.1[n].1) with k1 | k1
    rotate_left
    ·simp[k1]
    rcases bE (decide (0≤d.1[n].2.2∧d.1[n].2.2≤(d.1[n].2.1.length:Int))) with k2 | k2
    rotate_left
    ·simp only[k1,k2,nZ,nF,cF,cT,bS,φZ];simp
    simp only[k1,k2,nZ,cF,tA]
    cases n with
    | zero=>
     have z:¬((0:Nat):Int) > 0:=by omega
     simp only[z,dF,cF,bS,φT,hw,ih2,φ4N,follows,tA]
    | succ m=>
     have z:((m+1:Nat):Int) > 0:=by omega
     have hm:m<d.1.length:=by omega
     have z2:w64 (((m+1:Nat):Int) - 1)=(m:Int):=by rw[φG (by omega) (by omega)];omega
     have z3:(Op.bytesLess d.1[m+1].1 d.1[m].1 || d.1[m+1].1==d.1[m].1)=!Op.bytesLess d.1[m].1 d.1[m+1].1:=φ8L _ _
     rw[φ9L d.1 m hm]
     simp only[z,dT,cT,z2,φD,hm,φI,φ8 hm,follows,z3]
     rcases bE (Op.bytesLess d.1[m].1 d.1[m+1].1) with k3 | k3
     ·simp only[k3,nZ,cF,bS,φT,hw,ih2,tA]
     ·simp[k3]
   ·have:n=d.1.length:=by omega
    subst this
    simp[ψ2L.l0,φ5Q,φ3T])
  hl 0 () (κ4 _) trivial
 have key:lp ψ2L.l0 (d,0)=_:=key
 rw[key,κB];rfl
def dlim (d:φ1):Prop:=d.1.length<1000000000∧φQ d.1<1000000000000∧∀f∈d.1,f.1.length<1000000000000
theorem φ6X (d:φ1) (h:dlim d):ψC.f d=some (φ5 d):=by
 obtain ⟨h1,h2,h3⟩:=h
 unfold ψC.f φ5
 have e1:decide ((d.1.length:Int) > 130)=!decide (d.1.length≤130):=by
  by_cases c:d.1.length≤130
  ·have:¬(d.1.length:Int) > 130:=by omega
   simp[c,this]
  ·have:(d.1.length:Int) > 130:=by omega
   simp[c,this]
 rw[e1,φ1q,φ1q,φMj d (by omega) (by omega) fun f hf=>by have:=h3 f hf;omega]
 cases decide (d.1.length≤130)
 ·rfl
 ·simp only[nZ,cF,bS,tA]
  cases decide (0≤d.2.1∧d.2.1≤100000)
  ·rfl
  ·simp only[nZ,cF,bS,tA]
   cases decide (-1≤d.2.2.1∧d.2.2.1≤100000)
   ·rfl
   ·cases φ5P d.1<;>simp
theorem φ5p (d:φ1) (h:dlim d):ψ2L.f d=some (φ5 d):=by
 obtain ⟨h1,h2,h3⟩:=h
 unfold ψ2L.f φ5
 have e1:decide ((d.1.length:Int) > 130)=!decide (d.1.length≤130):=by
  by_cases c:d.1.length≤130
  ·have:¬(d.1.length:Int) > 130:=by omega
   simp[c,this]
  ·have:(d.1.length:Int) > 130:=by omega
   simp[c,this]
 have e2:decide ((φQ d.1:Int) > d.2.1)=!decide ((φQ d.1:Int)≤d.2.1):=by
  by_cases c:(φQ d.1:Int)≤d.2.1
  ·have:¬(φQ d.1:Int) > d.2.1:=by omega
   simp[c,this]
  ·have:(φQ d.1:Int) > d.2.1:=by omega
   simp[c,this]
 rw[e1,φ1u,φ1u,φGI d (by omega) (by omega),φMq d (by omega) fun f hf=>by have:=h3 f hf;omega]
 cases decide (d.1.length≤130)
 ·rfl
 ·simp only[nZ,cF,bS,tA]
  cases decide (0≤d.2.1∧d.2.1≤100000)
  ·rfl
  ·simp only[nZ,cF,bS,tA]
   cases decide (-1≤d.2.2.1∧d.2.2.1≤100000)
   ·rfl
   ·simp only[nZ,cF,bS,tA,e2]
    cases decide ((φQ d.1:Int)≤d.2.1)
    ·rfl
    ·cases φ5P d.1<;>simp
theorem φ7U (d:φ1) (h:d.1.length<1000000000000):ψ1E.f d=some d:=by
 unfold ψ1E.f
 have:(([]:List φ6).length+d.1.length) * 40≤140737488355328:=by simp;omega
 simp only[this,dT,cT,κA]
theorem φ5D (d:φ1) (h:d.1.length<1000000000000):ψ3l.f d=some d:=φ7U d h
def φ1g (l:List φ6) (name:List UInt8):Int:=match l.findIdx? (fun f=>f.1==name) with | some i=>(i:Int) | none=>-1
theorem φGo {A B:Type} {step:(A→Option (B ⊕ Int))→A→Option (B ⊕ Int)} (l:List φ6) (name:List UInt8) (st:Nat→A) (b:B) (hl:l.length<2 ^ 62)
  (hs:∀rec n,(h:n<l.length)→step rec (st n)=if (l[n].1==name)=true then some (.inr (n:Int)) else rec (st (n+1)))
  (he:∀rec,step rec (st l.length)=some (.inl b)):lp step (st 0)=some (match l.findIdx? (fun f=>f.1==name) with | some i=>.inr (i:Int) | none=>.inl b):=by
 have:=φd (step:=step) (fun n (_:Unit)=>st n) l.length (fun n _=>match (l.drop n).findIdx? (fun f=>f.1==name) with | some i=>.inr ((n+i:Nat):Int) | none=>.inl b) (fun _ _=>True)
  (fun rec n s hn _ ih=>by
   rcases κ2 n l.length with h | h
   ·rw[hs rec n h,ih () h trivial,dG h,List.findIdx?_cons]
    cases hf:l[n].1==name
    ·simp only[κ0,if_false]
     cases List.findIdx? (fun f=>f.1==name) (l.drop (n+1)) with
     | none=>rfl
     | some i=>simp only[Option.map_some];congr 2;omega
    ·simp
   ·have:n=l.length:=by omega
    subst this
    rw[he];simp) hl 0 () (κ4 _) trivial
 simpa using this
theorem φ4Z (d:φ1) (name:List UInt8) (hl:d.1.length<2 ^ 62):ψ1N.f d name=some (φ1g d.1 name):=by
 have hk:=φGo (step:=ψ1N.l0) d.1 name (fun n=>(name,d.1,(d.1.length:Int),(n:Int))) () hl
  (fun rec n h=>by
   simp only[ψ1N.l0,oL,h,dT,cT,φD,φI,φ8 h,φL (show n+1<9223372036854775808 by omega)]
   cases d.1[n].1==name<;>simp)
  (fun rec=>by simp[ψ1N.l0])
 have hk:lp ψ1N.l0 (name,d.1,(d.1.length:Int),0)=_:=hk
 unfold ψ1N.f φ1g
 rw[hk,bS]
 cases List.findIdx? (fun f=>f.1==name) d.1<;>rfl
theorem φ4A (d:φ1) (name:List UInt8) (hl:d.1.length<2 ^ 62):ψ3m.f d name=some (φ1g d.1 name):=by
 have hk:=φGo (step:=ψ3m.l0) d.1 name (fun n=>(name,d,(n:Int))) () hl
  (fun rec n h=>by
   simp only[ψ3m.l0,oL,h,dT,cT,φD,φI,φ8 h,φL (show n+1<9223372036854775808 by omega)]
   cases d.1[n].1==name<;>simp)
  (fun rec=>by simp[ψ3m.l0])
 have hk:lp ψ3m.l0 (name,d,0)=_:=hk
 unfold ψ3m.f φ1g
 rw[hk,bS]
 cases List.findIdx? (fun f=>f.1==name) d.1<;>rfl
theorem φ12 (l:List φ6) (name:List UInt8):(φ1g l name=-1∧∀f∈l,f.1≠name)∨∃i:Nat,∃h:i<l.length,φ1g l name=(i:Int)∧l[i].1=name:=by
 unfold φ1g
 cases hf:List.findIdx? (fun f=>f.1==name) l with
 | none=>
  left
  refine ⟨rfl,fun f hm=>?_⟩
  have:=List.findIdx?_eq_none_iff.1 hf f hm
  simpa using this
 | some i=>
  right
  obtain ⟨h,h1,_⟩:=List.findIdx?_eq_some_iff_getElem.1 hf
  exact ⟨i,h,rfl,by simpa using h1⟩
def tick (d:φ1):φ1:=if d.2.2.1 > 0 then (d.1,d.2.1,d.2.2.1 - 1,d.2.2.2) else d
def φU (d:φ1) (act:List φ6→Int×List φ6):φ1×Int:=
 if φ5 d=false then (d,5) else if d.2.2.2=true∨d.2.2.1=0 then ((d.1,d.2.1,d.2.2.1,true),1)
 else (((act d.1).2,(tick d).2),(act d.1).1)
theorem φ5o {d:φ1} (h:φ5 d=true):-1≤d.2.2.1∧d.2.2.1≤100000∧d.1.length≤130:=by
 unfold φ5 at h
 simp only[bA,decide_eq_true_eq] at h
 omega
theorem φ1I (d:φ1):(tick d).1=d.1:=by unfold tick;split<;>rfl
theorem φK4 (d:φ1) (h:dlim d):ψ3k.f d=some (if φ5 d=false then (d,5) else if d.2.2.2=true∨d.2.2.1=0 then ((d.1,d.2.1,d.2.2.1,true),1) else (tick d,0)):=by
 unfold ψ3k.f
 rw[φ5D d (by have:=h.1;omega),φ5p d h]
 simp only[bS]
 rcases bE (φ5 d) with k | k
 ·have hf:=φ5o k
  rcases bE d.2.2.2 with k2 | k2
  ·simp[k,k2]
  ·by_cases k3:d.2.2.1=0
   ·simp[k,k2,k3]
   ·have k4:(d.2.2.1==0)=false:=by simpa using k3
    unfold tick
    by_cases k5:d.2.2.1 > 0
    ·simp[k,k2,k3,k4,k5,φG (show -9223372036854775808≤d.2.2.1 - 1 by omega) (by omega)]
    ·simp[k,k2,k3,k4,k5]
 ·simp[k]
theorem φ5j {C:Type} (d:φ1) (h:dlim d) (c:C) (does:C→φ1→Option (Int×φ1)) (act:List φ6→Int×List φ6) (hd:φ5 d=true→does c (tick d)=some ((act d.1).1,(act d.1).2,(tick d).2)) :
  ((ψ1E.f d).bind fun t1=>(ψC.f d).bind fun t2=>
   bif !t2 then some (t1,5) else
   bif d.2.2.2 then some ((t1.1,t1.2.1,t1.2.2.1,true),1) else
   bif d.2.2.1==0 then some ((t1.1,t1.2.1,t1.2.2.1,true),1) else
   (bif decide (d.2.2.1 > 0) then let y3:=w64 (t1.2.2.1 - 1);some (c,(([],0,0,false):φ1),(t1.1,t1.2.1,y3,t1.2.2.2)) else some (c,([],0,0,false),t1):Option (C×φ1×φ1)).bind fun (x1,x4,x6)=>
   (does x1 x6).bind fun (t4_0,t4_1)=>some (t4_1,t4_0))=some (φU d act):=by
 rw[φ7U d (by have:=h.1;omega),φ6X d h]
 simp only[bS]
 unfold φU
 rcases bE (φ5 d) with k | k
 ·have hf:=φ5o k
  have hd:=hd k
  rcases bE d.2.2.2 with k2 | k2
  ·simp[k,k2]
  ·by_cases k3:d.2.2.1=0
   ·simp[k,k2,k3]
   ·have k4:(d.2.2.1==0)=false:=by simpa using k3
    have e:(bif decide (d.2.2.1 > 0) then some (c,(([],0,0,false):φ1),((d.1,d.2.1,w64 (d.2.2.1 - 1),d.2.2.2):φ1)) else some (c,([],0,0,false),d))=some (c,([],0,0,false),tick d):=by
     unfold tick
     by_cases k5:d.2.2.1 > 0
     ·simp[k5,φG (show -9223372036854775808≤d.2.2.1 - 1 by omega) (by omega)]
     ·simp[k5]
    simp only[k,k4,nZ,cF,e,bS,hd]
    simp[k2,k3]
 ·simp[k]
theorem φ3B {l:List φ6} {i:Nat} (h:i<l.length):inB (i:Int) l.length=true:=by simp[h]
theorem φ3X {l:List φ6} {i:Nat} (h:i<l.length):rdA ([],[],0) l (i:Int)=l[i]:=by rw[φI,φ8 h]
theorem φHO {d:φ1} (h:dlim d):dlim (tick d):=by unfold dlim;rw[φ1I];exact h
def φ2b (name:List UInt8) (l:List φ6):Int×List φ6:=
 match l.findIdx? (fun f=>f.1==name) with
 | some i=>(0,l.set i ((l.getD i ([],[],0)).1,(l.getD i ([],[],0)).2.1,((l.getD i ([],[],0)).2.1.length:Int)))
 | none=>(3,l)
theorem φ1D {l:List φ6} {name:List UInt8} (h:φ1g l name=-1):l.findIdx? (fun f=>f.1==name)=none:=by
 unfold φ1g at h
 cases e:l.findIdx? (fun f=>f.1==name) with
 | none=>rfl
 | some i=>rw[e] at h;simp only at h;omega
theorem φ17 {l:List φ6} {name:List UInt8} {i:Nat} (h:φ1g l name=(i:Int)):l.findIdx? (fun f=>f.1==name)=some i:=by
 unfold φ1g at h
 cases e:l.findIdx? (fun f=>f.1==name) with
 | none=>rw[e] at h;simp only at h;omega
 | some j=>rw[e] at h;simp only at h;congr 1;omega
theorem φM1 (d:φ1) (name:List UInt8) (h:d.1.length<2 ^ 62):ψ15.f d name=some ((φ2b name d.1).1,(φ2b name d.1).2,d.2):=by
 unfold ψ15.f φ2b
 rw[φ4Z d name h,bS]
 rcases φ12 d.1 name with ⟨e,_⟩ | ⟨i,hi,e,_⟩
 ·rw[e,φ1D e];rfl
 ·rw[e,φ17 e]
  simp only[dnn (show (0:Int)≤(i:Int) by omega),cF,φ3B hi,cT,φ3X hi,tN,φ8 hi]
theorem φMc (d:φ1) (name:List UInt8) (h:dlim d):ψ14.f d name=some (φU d (φ2b name)):=by
 have hs:ψ1j.f d name=some (φU d (φ2b name)):=φ5j d h name (fun n x=>ψ15.f x n) (φ2b name) fun _=>by
  show ψ15.f (tick d) name=_
  rw[φM1 (tick d) name (by rw[φ1I];have:=h.1;omega),φ1I]
 unfold ψ14.f
 rw[hs];rfl
theorem φ68 (d:φ1) (h:dlim d):(∃(x:φ1) (c:Int),ψ3k.f d=some (x,c)∧(c != 0)=true∧∀act,φU d act=(x,c)) ∨
  (φ5 d=true∧ψ3k.f d=some (tick d,0)∧∀act,φU d act=(((act d.1).2,(tick d).2),(act d.1).1)):=by
 rw[φK4 d h]
 unfold φU
 rcases bE (φ5 d) with k | k
 ·by_cases k2:d.2.2.2=true∨d.2.2.1=0
  ·left
   refine ⟨(d.1,d.2.1,d.2.2.1,true),1,?_,?_,fun act=>?_⟩
   ·rw[if_neg (by simp[k]),if_pos k2]
   ·rfl
   ·rw[if_neg (by simp[k]),if_pos k2]
  ·right
   refine ⟨k,?_,fun act=>?_⟩
   ·rw[if_neg (by simp[k]),if_neg k2]
   ·rw[if_neg (by simp[k]),if_neg k2]
 ·left
  refine ⟨d,5,?_,?_,fun act=>?_⟩
  ·rw[if_pos k]
  ·rfl
  ·rw[if_pos k]
theorem φ7F (d:φ1) (name:List UInt8) (h:dlim d):ψ34.f d name=some (φU d (φ2b name)):=by
 have hl:d.1.length<2 ^ 62:=by have:=h.1;omega
 unfold ψ34.f
 rcases φ68 d h with ⟨x,c,e1,e2,e3⟩ | ⟨k,e1,e3⟩
 ·rw[e1,e3,bS];simp only[e2,cT]
 rw[e1,e3,bS]
 simp only[bne_self_eq_false,cF,φ4A d name hl,bS]
 unfold φ2b
 rcases φ12 d.1 name with ⟨e,_⟩ | ⟨i,hi,e,_⟩
 ·rw[e,φ1D e]
  show some (tick d,3)=some ((d.1,(tick d).2),3)
  rw[←φ1I d]
 ·rw[e,φ17 e]
  have ht:i<(tick d).1.length:=by rw[φ1I];exact hi
  simp only[dnn (show (0:Int)≤(i:Int) by omega),cF,φ3B hi,φ3B ht,cT,φ3X hi,φ3X ht,tN,φ8 hi]
  simp only[φ1I]
def φo (l:List φ6) (i:Nat):List φ6:=l.take i++l.drop (i+1)
theorem φ8c {l:List φ6} {i:Nat} (h:i<l.length):(φo l i).length=l.length - 1:=by
 unfold φo
 rw[lA,lT,lD];omega
def φ1l (l:List φ6) (name:List UInt8):List φ6:=
 match l.findIdx? (fun f=>f.1==name) with
 | some i=>φo l i
 | none=>l
theorem φAO (l:List φ6) (name:List UInt8):(φ1l l name).length≤l.length:=by
 unfold φ1l
 cases e:l.findIdx? (fun f=>f.1==name) with
 | none=>exact κ9 _
 | some i=>
  obtain ⟨h,_⟩:=List.findIdx?_eq_some_iff_getElem.1 e
  have:=φ8c h
  simp only;omega
theorem φGG (l:List φ6) (i:Nat) (h:i<l.length) (hl:l.length<1000000000000) {β:Type} (K:List φ6→Option β) :
  (bif (decide (0≤(i:Int)) && decide ((i:Int)≤(l.length:Int))) then
   bif decide ((([]:List φ6).length+(l.take (i:Int).toNat).length) * 40≤140737488355328) then
   bif (decide (0≤w64 ((i:Int)+1)) && decide (w64 ((i:Int)+1)≤(l.length:Int))) then
   bif decide (((([]:List φ6)++(l.take (i:Int).toNat)).length+(l.drop ((w64 ((i:Int)+1)).toNat)).length) * 40≤140737488355328) then
   K ((([]:List φ6)++(l.take (i:Int).toNat))++(l.drop ((w64 ((i:Int)+1)).toNat))) else none else none else none else none)=K (φo l i):=by
 have hw:w64 ((i:Int)+1)=((i+1:Nat):Int):=φL (by omega)
 rw[hw]
 have c1:(decide (0≤(i:Int)) && decide ((i:Int)≤(l.length:Int)))=true:=by simp;omega
 have c2:(decide (0≤((i+1:Nat):Int)) && decide (((i+1:Nat):Int)≤(l.length:Int)))=true:=by simp;omega
 have c3:(l.take i).length * 40≤140737488355328:=by rw[lT];omega
 have c4:((l.take i).length+(l.drop (i+1)).length) * 40≤140737488355328:=by rw[lT,lD];omega
 simp only[tN,κA,lN,κV,c1,c2]
 simp only[c3,c4,dT,cT];rfl
theorem φAo (d:φ1) (name:List UInt8) (h:d.1.length<1000000000):ψD.f d name=some (φ1l d.1 name,d.2):=by
 unfold ψD.f φ1l
 rw[φ4Z d name (by omega),bS]
 rcases φ12 d.1 name with ⟨e,_⟩ | ⟨i,hi,e,_⟩
 ·rw[e,φ1D e];rfl
 ·rw[e,φ17 e]
  have c:(i:Int)≥0:=by omega
  simp only[c,dT,cT]
  exact φGG d.1 i hi (by omega) fun l=>some (l,d.2)
theorem φ9d (l:List φ6) (i:Nat) (hi:i<l.length) (h:l.length<1000000000):ψ3p.f l (i:Int)=some (φo l i):=by
 unfold ψ3p.f
 exact φGG l i hi (by omega) fun l=>some l
def φ2X (name:List UInt8) (l:List φ6):Int×List φ6:=
 match l.findIdx? (fun f=>f.1==name) with
 | some i=>(0,φo l i)
 | none=>(3,l)
theorem φHf (d:φ1) (name:List UInt8) (h:d.1.length<1000000000):ψo.f d name=some ((φ2X name d.1).1,(φ2X name d.1).2,d.2):=by
 unfold ψo.f φ2X
 rw[φ4Z d name (by omega),bS,φAo d name h]
 unfold φ1l
 rcases φ12 d.1 name with ⟨e,_⟩ | ⟨i,hi,e,_⟩
 ·rw[e,φ1D e];rfl
 ·rw[e,φ17 e]
  simp only[dnn (show (0:Int)≤(i:Int) by omega),cF,bS]
theorem φLX (d:φ1) (name:List UInt8) (h:dlim d):ψn.f d name=some (φU d (φ2X name)):=by
 have hs:ψ1h.f d name=some (φU d (φ2X name)):=φ5j d h name (fun n x=>ψo.f x n) (φ2X name) fun _=>by
  show ψo.f (tick d) name=_
  rw[φHf (tick d) name (by rw[φ1I];exact h.1),φ1I]
 unfold ψn.f
 rw[hs];rfl
theorem φAn (d:φ1) (name:List UInt8) (h:dlim d):ψ2s.f d name=some (φU d (φ2X name)):=by
 have hl:=h.1
 unfold ψ2s.f
 rcases φ68 d h with ⟨x,c,e1,e2,e3⟩ | ⟨k,e1,e3⟩
 ·rw[e1,e3,bS];simp only[e2,cT]
 rw[e1,e3,bS]
 simp only[bne_self_eq_false,cF,φ4A d name (show d.1.length<2 ^ 62 by omega),bS]
 unfold φ2X
 rcases φ12 d.1 name with ⟨e,_⟩ | ⟨i,hi,e,_⟩
 ·rw[e,φ1D e]
  show some (tick d,3)=some ((d.1,(tick d).2),3)
  rw[←φ1I d]
 ·rw[e,φ17 e]
  simp only[dnn (show (0:Int)≤(i:Int) by omega),cF,φ1I,φ9d d.1 i hi hl,bS]
def φ3Y (name:List UInt8) (n:Int) (l:List φ6):Int×List φ6:=
 match l.findIdx? (fun f=>f.1==name) with
 | some i=>if 0≤n∧n≤((l.getD i ([],[],0)).2.1.length:Int) then
   (0,l.set i ((l.getD i ([],[],0)).1,(l.getD i ([],[],0)).2.1.take n.toNat,if n<(l.getD i ([],[],0)).2.2 then n else (l.getD i ([],[],0)).2.2))
  else (5,l)
 | none=>(3,l)
theorem φL8 (d:φ1) (name:List UInt8) (n:Int) (h:d.1.length<1000000000):ψ17.f d name n=some ((φ3Y name n d.1).1,(φ3Y name n d.1).2,d.2):=by
 unfold ψ17.f φ3Y
 rw[φ4Z d name (by omega),bS]
 rcases φ12 d.1 name with ⟨e,_⟩ | ⟨i,hi,e,_⟩
 ·rw[e,φ1D e];rfl
 ·rw[e,φ17 e]
  simp only[dnn (show (0:Int)≤(i:Int) by omega),cF,φ3B hi,cT,φ3X hi,φ1q,bS,φ8 hi]
  by_cases c:0≤n∧n≤(d.1[i].2.1.length:Int)
  ·have c2:(decide (0≤n) && decide (n≤(d.1[i].2.1.length:Int)))=true:=by simp[c.1,c.2]
   simp only[c,c2,dT,nZ,cF,cT,tN,φEz hi,List.set_set,if_true,and_self,Bool.and_self]
  ·simp[c]
theorem φIh (d:φ1) (name:List UInt8) (n:Int) (h:dlim d):ψ16.f d name n=some (φU d (φ3Y name n)):=by
 have hs:ψ1k.f d (name,n)=some (φU d (φ3Y name n)):=φ5j d h (name,n) (fun c x=>ψ17.f x c.1 c.2) (φ3Y name n) fun _=>by
  show ψ17.f (tick d) name n=_
  rw[φL8 (tick d) name n (by rw[φ1I];exact h.1),φ1I]
 unfold ψ16.f
 rw[hs];rfl
theorem φHE (d:φ1) (name:List UInt8) (n:Int) (h:dlim d):ψ35.f d name n=some (φU d (φ3Y name n)):=by
 have hl:=h.1
 unfold ψ35.f
 rcases φ68 d h with ⟨x,c,e1,e2,e3⟩ | ⟨k,e1,e3⟩
 ·rw[e1,e3,bS];simp only[e2,cT]
 rw[e1,e3,bS]
 simp only[bne_self_eq_false,cF,φ4A d name (show d.1.length<2 ^ 62 by omega),bS]
 unfold φ3Y
 rcases φ12 d.1 name with ⟨e,_⟩ | ⟨i,hi,e,_⟩
 ·rw[e,φ1D e]
  show some (tick d,3)=some ((d.1,(tick d).2),3)
  rw[←φ1I d]
 ·rw[e,φ17 e]
  have ht:i<(tick d).1.length:=by rw[φ1I];exact hi
  simp only[dnn (show (0:Int)≤(i:Int) by omega),cF,φ3B hi,φ3B ht,cT,φ3X hi,φ3X ht,φ1u,bS,φ8 hi]
  simp only[φ1I]
  by_cases c:0≤n∧n≤(d.1[i].2.1.length:Int)
  ·have c2:(decide (0≤n) && decide (n≤(d.1[i].2.1.length:Int)))=true:=by simp[c.1,c.2]
   have hs:∀v:φ6,inB (i:Int) (d.1.set i v).length=true:=fun v=>by rw[List.length_set];exact φ3B hi
   simp only[c,c2,dT,nZ,cF,cT,tN,hs,φEz hi,List.set_set,if_true,and_self,Bool.and_self]
  ·have e5:(5:Int)=5:=rfl
   simp only[c,dF,nF,cT,if_false]
   rw[←φ1I d]
def φ2e (cap:Int) (name text:List UInt8) (l:List φ6):Int×List φ6:=
 match l.findIdx? (fun f=>f.1==name) with
 | some i=>if (text.length:Int) > cap - (φQ l:Int) then (2,l) else
   (0,l.set i ((l.getD i ([],[],0)).1,(l.getD i ([],[],0)).2.1++text,(l.getD i ([],[],0)).2.2))
 | none=>(3,l)
theorem φBs {l:List φ6} {f:φ6} (h:f∈l):f.2.1.length≤φQ l:=φGv (fun f=>f.2.1.length) h
theorem φ7a {d:φ1} (h:φ5 d=true):0≤d.2.1∧d.2.1≤100000∧(φQ d.1:Int)≤d.2.1:=by
 unfold φ5 at h
 simp only[bA,decide_eq_true_eq] at h
 omega
theorem φ7y (d:φ1):(tick d).2.1=d.2.1:=by unfold tick;split<;>rfl
theorem φMZ (d:φ1) (name text:List UInt8) (h:dlim d) (hc:0≤d.2.1∧d.2.1≤100000) (ht:text.length<1000000000000):ψ1.f d name text=some ((φ2e d.2.1 name text d.1).1,(φ2e d.2.1 name text d.1).2,d.2):=by
 obtain ⟨h1,h2,h3⟩:=h
 unfold ψ1.f φ2e
 rw[φ4Z d name (by omega),bS,φF0 d (by omega) (by omega)]
 rcases φ12 d.1 name with ⟨e,_⟩ | ⟨i,hi,e,_⟩
 ·rw[e,φ1D e];rfl
 ·rw[e,φ17 e]
  have hm:=φBs (gM hi)
  have c1:d.1[i].2.1.length+text.length≤9223372036854775807:=by omega
  simp only[dnn (show (0:Int)≤(i:Int) by omega),cF,bS,φ3B hi,cT,φ3X hi,φ8 hi,c1,dT,tN]
  rw[φG (by omega) (by omega)]
  by_cases c:(text.length:Int) > d.2.1 - (φQ d.1:Int)
  ·simp[c]
  ·simp[c]
theorem φIE (d:φ1) (name text:List UInt8) (h:dlim d) (ht:text.length<1000000000000):ψ0.f d name text=some (φU d (φ2e d.2.1 name text)):=by
 have hs:ψ1f.f d (name,text)=some (φU d (φ2e d.2.1 name text)):=φ5j d h (name,text) (fun c x=>ψ1.f x c.1 c.2) (φ2e d.2.1 name text) fun k=>by
  have hc:=φ7a k
  show ψ1.f (tick d) name text=_
  rw[φMZ (tick d) name text (φHO h) (by rw[φ7y];omega) ht,φ1I,φ7y]
 unfold ψ0.f
 rw[hs];rfl
theorem φ8z (d:φ1) (name text:List UInt8) (h:dlim d) (htx:text.length<1000000000000):ψ2A.f d name text=some (φU d (φ2e d.2.1 name text)):=by
 have h1:=h.1
 have h2:=h.2.1
 unfold ψ2A.f
 rcases φ68 d h with ⟨x,c,e1,e2,e3⟩ | ⟨k,e1,e3⟩
 ·rw[e1,e3,bS];simp only[e2,cT]
 rw[e1,e3,bS]
 have hc:=φ7a k
 simp only[bne_self_eq_false,cF,φ4A d name (show d.1.length<2 ^ 62 by omega),bS,φGI d (show d.1.length<2 ^ 62 by omega) (show φQ d.1<2 ^ 62 by omega)]
 unfold φ2e
 rcases φ12 d.1 name with ⟨e,_⟩ | ⟨i,hi,e,_⟩
 ·rw[e,φ1D e]
  show some (tick d,3)=some ((d.1,(tick d).2),3)
  rw[←φ1I d]
 ·rw[e,φ17 e]
  have ht:i<(tick d).1.length:=by rw[φ1I];exact hi
  have hm:=φBs (gM hi)
  have c1:d.1[i].2.1.length+text.length≤9223372036854775807:=by omega
  simp only[dnn (show (0:Int)≤(i:Int) by omega),cF,φ3B hi,φ3B ht,cT,φ3X hi,φ3X ht,φ8 hi,c1,dT,tN]
  rw[φG (by omega) (by omega)]
  simp only[φ1I]
  by_cases c:(text.length:Int) > d.2.1 - (φQ d.1:Int)
  ·simp only[c,dT,cT,if_true]
   rw[←φ1I d]
  ·simp only[c,dF,cF,if_false]
def putF (l:List φ6) (f:φ6):List φ6:=
 let k:=(l.takeWhile fun x=>Op.bytesLess x.1 f.1).length
 l.take k++[f]++l.drop k
theorem φEx (d:φ1) (f:φ6) (h:d.1.length<1000000000):ψE.f d f=some (putF d.1 f,d.2):=by
 have key:=φd (step:=ψE.l0) (fun n (_:Unit)=>(d,f,(n:Int))) d.1.length (fun n _=>(d,f,((n+((d.1.drop n).takeWhile fun x=>Op.bytesLess x.1 f.1).length:Nat):Int))) (fun _ _=>True)
  (fun rec n s hn _ ih=>by
   rcases κ2 n d.1.length with h2 | h2
   ·rw[φFg _ _ _ h2]
    simp only[ψE.l0,oL,h2,dT,cT,φD,φI,φ8 h2,φL (show n+1<9223372036854775808 by omega)]
    cases Op.bytesLess d.1[n].1 f.1
    ·simp
    ·simp only[cT,if_true]
     rw[ih () h2 trivial]
     congr 3;congr 1;omega
   ·have:n=d.1.length:=by omega
    subst this
    simp[ψE.l0])
  (by omega) 0 () (κ4 _) trivial
 have key:lp ψE.l0 (d,f,0)=_:=key
 unfold ψE.f putF
 rw[key,bS]
 simp only[κB,κV]
 have htw:(d.1.takeWhile fun x=>Op.bytesLess x.1 f.1).length≤d.1.length:=(List.takeWhile_sublist _).length_le
 generalize (d.1.takeWhile fun x=>Op.bytesLess x.1 f.1).length=k at *
 have c1:(decide (0≤(k:Int)) && decide ((k:Int)≤(d.1.length:Int)))=true:=by simp;omega
 have c2:(d.1.take k).length * 40≤140737488355328:=by rw[lT];omega
 have c3:((d.1.take k).length+[f].length) * 40≤140737488355328:=by rw[lT];exact φ53 (by omega)
 have c4:((d.1.take k++[f]).length+(d.1.drop k).length) * 40≤140737488355328:=by
  rw[lA,lT,lD]
  show (min k d.1.length+1+(d.1.length - k)) * 40≤_
  omega
 simp only[tN,κA,lN,κV,c1]
 simp only[c2,c3,c4,dT,cT]
def φ2j (f:φ6) (s:List φ6×Bool) (x:φ6):List φ6×Bool:=
 if s.2=false∧leK x.1 f.1=false then (s.1++[f]++[x],true) else (s.1++[x],s.2)
theorem φGu (f:φ6) (s:List φ6×Bool) (x:φ6):(φ2j f s x).1.length≤s.1.length+2:=by
 unfold φ2j;split<;>simp<;>omega
theorem φCD (f:φ6):∀(l out:List φ6),l.foldl (φ2j f) (out,true)=(out++l,true)
 | [],out=>by simp
 | x::l,out=>by
  have e1:φ2j f (out,true) x=(out++[x],true):=by unfold φ2j;rw[if_neg (by simp)]
  rw[κH,e1,φCD f l];simp
theorem φF1 (f:φ6):∀(l out:List φ6),(let s:=l.foldl (φ2j f) (out,false);if s.2=true then s.1 else s.1++[f])=out++insB l f
 | [],out=>by simp[insB]
 | x::l,out=>by
  rw[κH]
  cases hk:leK x.1 f.1
  ·have e1:φ2j f (out,false) x=(out++[f]++[x],true):=by unfold φ2j;rw[if_pos ⟨rfl,hk⟩]
   rw[e1,φCD]
   simp[insB,hk]
  ·have e1:φ2j f (out,false) x=(out++[x],false):=by unfold φ2j;rw[if_neg (by simp[hk])]
   rw[e1,φF1 f l (out++[x])]
   simp[insB,hk]
theorem φAw (l:List φ6) (f:φ6) (hl:l.length<1000000000):ψ3n.f l f=some (insB l f):=by
 have hk:=φ2U (step:=ψ3n.l0) l (φ2j f) (fun n (s:List φ6×Bool)=>(l,f,s.1,s.2,(n:Int))) (fun s=>(f,s.1,s.2)) (fun n s=>s.1.length≤2 * n) (by omega)
  (fun rec n s h hi=>by
   have hi:s.1.length≤2 * n:=hi
   have hq:s.1.length<1000000000000:=by omega
   have hb1:(s.1.length+[f].length) * 40≤140737488355328:=φ53 (Nat.lt_succ_of_lt hq)
   have hb2:(s.1.length+([l[n]]:List φ6).length) * 40≤140737488355328:=φ53 (Nat.lt_succ_of_lt hq)
   have hb3:((s.1++[f]).length+([l[n]]:List φ6).length) * 40≤140737488355328:=by rw[lA];exact φ53 (Nat.succ_lt_succ hq)
   have hw:w64 ((n:Int)+1)=(n:Int)+1:=φG (by omega) (by omega)
   have hle:(Op.bytesLess l[n].1 f.1 || l[n].1==f.1)=leK l[n].1 f.1:=rfl
   simp only[ψ3n.l0,oL,h,dT,cT,φD,φI,φ8 h,φ2S,hle]
   unfold φ2j
   rcases bE s.2 with h2 | h2
   ·simp only[h2,cF,nZ,bS,φD,φI,φ8 h,φ2S,h,dT,cT,hb2]
    simp[hw]
   ·rcases bE (leK l[n].1 f.1) with h3 | h3
    ·simp only[h2,h3,cF,nZ,nF,bS,φD,φI,φ8 h,φ2S,h,dT,cT,hb2]
     simp[hw]
    ·simp only[h2,h3,cF,nZ,nF,bS,φD,φI,φ8 h,φ2S,h,dT,cT,hb1,hb3]
     simp[hw])
  (fun n s h hi=>by have:=φGu f s l[n];have hi:s.1.length≤2 * n:=hi;show _≤2 * (n+1);omega)
  (fun rec s hi=>by simp[ψ3n.l0]) ([],false) (by simp)
 have hk:lp ψ3n.l0 (l,f,[],false,0)=_:=hk
 have hlen:∀(m:List φ6) (s:List φ6×Bool),(m.foldl (φ2j f) s).1.length≤s.1.length+2 * m.length:=by
  intro m
  induction m with
  | nil=>intro s;simp
  | cons x m ih=>intro s;rw[κH];have:=ih (φ2j f s x);have:=φGu f s x;simp only[lC];omega
 unfold ψ3n.f
 rw[hk,bS]
 have hf:=φF1 f l []
 have hb:=hlen l ([],false)
 generalize l.foldl (φ2j f) ([],false)=s at *
 obtain ⟨s1,s2⟩:=s
 simp only[lN,κV] at hb
 have hb1:(s1.length+[f].length) * 40≤140737488355328:=φ53 (by omega)
 cases s2
 ·simp only[κ0,if_false,κA] at hf
  simp only[nF,cT,hb1,dT,hf]
 ·simp only[if_true,κA] at hf
  simp[hf]
theorem φFX {α:Type} {f g:α→Bool}:∀{l:List α},(∀x∈l,f x=g x)→l.takeWhile f=l.takeWhile g
 | [],_=>rfl
 | x::l,h=>by
  rw[List.takeWhile_cons,List.takeWhile_cons,h x (by simp),φFX fun y hy=>h y (mC _ hy)]
theorem φFB {l:List φ6} {f:φ6} (h:∀x∈l,x.1≠f.1):putF l f=insB l f:=by
 unfold putF insB
 have:(l.takeWhile fun x=>Op.bytesLess x.1 f.1)=l.takeWhile fun x=>leK x.1 f.1:=φFX fun x hx=>by
  unfold leK
  have:(x.1==f.1)=false:=by simpa using h x hx
  rw[this,Bool.or_false]
 rw[this]
def φ2q (name:List UInt8) (l:List φ6):Int×List φ6:=
 if φ30 name=false then (5,l) else if φ1g l name≥0 then (4,l) else if 130≤l.length then (2,l) else (0,insB l (name,[],0))
theorem φKb (d:φ1) (name:List UInt8) (h:d.1.length<1000000000) (hn:name.length<2 ^ 62):ψ5.f d name=some ((φ2q name d.1).1,(φ2q name d.1).2,d.2):=by
 unfold ψ5.f φ2q
 rw[φBp name hn,bS,φ4Z d name (by omega)]
 rcases bE (φ30 name) with k | k
 rotate_left
 ·simp[k]
 simp only[k,nZ,cF,bS,κ7,if_false]
 rcases φ12 d.1 name with ⟨e,hno⟩ | ⟨i,hi,e,_⟩
 ·have c:¬φ1g d.1 name≥0:=by omega
  simp only[c,dF,cF,if_false]
  by_cases c2:130≤d.1.length
  ·have c3:(d.1.length:Int)≥130:=by omega
   simp[c2,c3]
  ·have c3:¬(d.1.length:Int)≥130:=by omega
   simp only[c2,c3,dF,cF,if_false,φEx d _ h,bS,φFB (l:=d.1) (f:=(name,[],0)) hno]
 ·have c:φ1g d.1 name≥0:=by omega
  simp[c]
theorem φJD (d:φ1) (name:List UInt8) (h:dlim d) (hn:name.length<2 ^ 62):ψ4.f d name=some (φU d (φ2q name)):=by
 have hs:ψ1g.f d name=some (φU d (φ2q name)):=φ5j d h name (fun n x=>ψ5.f x n) (φ2q name) fun _=>by
  show ψ5.f (tick d) name=_
  rw[φKb (tick d) name (by rw[φ1I];exact h.1) hn,φ1I]
 unfold ψ4.f
 rw[hs];rfl
theorem φBn (d:φ1) (name:List UInt8) (h:dlim d) (hn:name.length<2 ^ 62):ψ2D.f d name=some (φU d (φ2q name)):=by
 have hl:=h.1
 unfold ψ2D.f
 rcases φ68 d h with ⟨x,c,e1,e2,e3⟩ | ⟨k,e1,e3⟩
 ·rw[e1,e3,bS];simp only[e2,cT]
 rw[e1,e3,bS]
 simp only[bne_self_eq_false,cF,φBm name hn,φ4A d name (show d.1.length<2 ^ 62 by omega),bS]
 unfold φ2q
 have ht:(d.1,(tick d).2)=tick d:=by rw[←φ1I d]
 rcases bE (φ30 name) with k | k
 rotate_left
 ·simp[k,ht]
 simp only[k,nZ,cF,κ7,if_false]
 by_cases c:φ1g d.1 name≥0
 ·simp[c,ht]
 simp only[c,dF,cF,if_false]
 by_cases c2:130≤d.1.length
 ·have c3:(d.1.length:Int)≥130:=by omega
  simp[c2,c3,ht]
 ·have c3:¬(d.1.length:Int)≥130:=by omega
  simp only[c2,c3,dF,cF,if_false,φ1I,φAw d.1 _ hl,bS]
theorem φH3:∀(l:List φ6) (p:List UInt8),φ3T (some p) l=true→(∀x∈l,Op.bytesLess p x.1=true)∧l.Pairwise (fun a b=>Op.bytesLess a.1 b.1=true)
 | [],p,_=>⟨by simp,List.Pairwise.nil⟩
 | f::l,p,h=>by
  simp only[φ3T,bA] at h
  obtain ⟨h1,h2⟩:=φH3 l f.1 h.2
  refine ⟨fun x hx=>?_,List.Pairwise.cons h1 h2⟩
  rcases mc.1 hx with e | hx
  ·rw[e];exact h.1
  ·exact φ7T _ _ _ h.1 (h1 x hx)
theorem φFa (l:List φ6) (h:φ3T none l=true):l.Pairwise (fun a b=>Op.bytesLess a.1 b.1=true):=by
 cases l with
 | nil=>exact List.Pairwise.nil
 | cons f l=>
  obtain ⟨h1,h2⟩:=φH3 l f.1 h
  exact List.Pairwise.cons h1 h2
theorem φ6G {d:φ1} (h:φ5 d=true):d.1.Pairwise (fun a b=>Op.bytesLess a.1 b.1=true):=by
 unfold φ5 φ5P at h
 simp only[bA] at h
 exact φFa _ h.2.2.2.2.2
theorem φ81 {l:List φ6} {i:Nat} (h:i<l.length):l=l.take i++l[i]::l.drop (i+1):=by
 rw[←dG h,κD]
theorem φ5L (l:List φ6) (i:Nat):(φo l i).Sublist l:=by
 unfold φo
 have:(l.take i++l.drop (i+1)).Sublist (l.take i++l.drop i):=List.Sublist.append (List.Sublist.refl _) (List.drop_sublist_drop_left l (by omega))
 rw[κD] at this
 exact this
theorem φAu {l:List φ6} {i:Nat} (h:i<l.length) (hp:l.Pairwise (fun a b=>Op.bytesLess a.1 b.1=true)):∀x∈φo l i,x.1≠l[i].1:=by
 rw[φ81 h,List.pairwise_append] at hp
 obtain ⟨_,h2,h3⟩:=hp
 intro x hx
 rcases mA.1 hx with hx | hx
 ·exact φ5x (h3 x hx _ κ1)
 ·exact (φ5x ((κZ.1 h2).1 x hx)).symm
theorem φE3 {l:List φ6} {name:List UInt8} (hp:l.Pairwise (fun a b=>Op.bytesLess a.1 b.1=true)):∀x∈φ1l l name,x.1≠name:=by
 unfold φ1l
 rcases φ12 l name with ⟨e,hno⟩ | ⟨i,hi,e,hn⟩
 ·rw[φ1D e];exact hno
 ·rw[φ17 e,←hn];exact φAu hi hp
theorem φDC {l:List φ6} {name:List UInt8} (h:∀x∈l,x.1≠name):φ1l l name=l:=by
 unfold φ1l
 have:l.findIdx? (fun f=>f.1==name)=none:=by
  rw[List.findIdx?_eq_none_iff]
  intro x hx
  simpa using h x hx
 rw[this]
theorem φIv {l:List φ6} {i:Nat} (h:i<l.length) (hp:l.Pairwise (fun a b=>Op.bytesLess a.1 b.1=true)):putF (φo l i) l[i]=l:=by
 have hs:=hp
 rw[φ81 h,List.pairwise_append] at hs
 obtain ⟨_,h2,h3⟩:=hs
 have e1:((φo l i).takeWhile fun x=>Op.bytesLess x.1 l[i].1)=l.take i:=by
  unfold φo
  rw[List.takeWhile_append_of_pos (fun x hx=>h3 x hx _ κ1)]
  have:(l.drop (i+1)).takeWhile (fun x=>Op.bytesLess x.1 l[i].1)=[]:=by
   cases e:l.drop (i+1) with
   | nil=>rfl
   | cons y r=>
    rw[List.takeWhile_cons,φGH _ _ ((κZ.1 h2).1 y (by rw[e];simp))];rfl
  rw[this,κ6]
 unfold putF
 rw[e1]
 have hk:(l.take i).length=i:=by rw[lT];omega
 simp only[hk]
 unfold φo
 rw[List.take_append_of_le_length (by omega),List.take_take,Nat.min_self,List.drop_append_of_le_length (by omega),List.drop_take,Nat.sub_self,List.take_zero,κA,aA,List.singleton_append]
 exact (φ81 h).symm
def φ33 (src dst:List UInt8) (l:List φ6):Int×List φ6:=
 if φ30 dst=false then (5,l) else
 match l.findIdx? (fun f=>f.1==src) with
 | some i=>(0,if src=dst then l else insB (φ1l (φo l i) dst) (dst,(l.getD i ([],[],0)).2))
 | none=>(3,l)
theorem φMJ (d:φ1) (src dst:List UInt8) (h:d.1.length<1000000000) (hn:dst.length<2 ^ 62) (hp:d.1.Pairwise (fun a b=>Op.bytesLess a.1 b.1=true)):ψq.f d src dst=some ((φ33 src dst d.1).1,(φ33 src dst d.1).2,d.2):=by
 unfold ψq.f φ33
 rw[φ4Z d src (by omega),bS,φBp dst hn,bS,φAo d src h]
 rcases bE (φ30 dst) with k | k
 rotate_left
 ·simp[k]
 simp only[k,nZ,cF,κ7,if_false]
 rcases φ12 d.1 src with ⟨e,_⟩ | ⟨i,hi,e,hsrc⟩
 ·rw[e,φ1D e];rfl
 ·have e0:φ1l d.1 src=φo d.1 i:=by unfold φ1l;rw[φ17 e]
  rw[e,φ17 e,e0]
  have hl:=φ8c hi
  have hl2:=φAO (φo d.1 i) dst
  simp only[dnn (show (0:Int)≤(i:Int) by omega),cF,φ3B hi,cT,φ3X hi,bS,φ8 hi,φAo (φo d.1 i,d.2) dst (show (φo d.1 i).length<1000000000 by omega),φEx (φ1l (φo d.1 i) dst,d.2) (dst,d.1[i].2.1,d.1[i].2.2) (show (φ1l (φo d.1 i) dst).length<1000000000 by omega)]
  by_cases c:src=dst
  ·simp only[c,if_true]
   have hd:d.1[i].1=dst:=by rw[hsrc,c]
   have e2:φ1l (φo d.1 i) dst=φo d.1 i:=φDC (by rw[←hd];exact φAu hi hp)
   have e3:putF (φo d.1 i) (dst,d.1[i].2.1,d.1[i].2.2)=d.1:=by
    have:=φIv hi hp
    rw[←hd];exact this
   rw[e2,e3]
  ·simp only[c,if_false]
   rw[φFB (l:=φ1l (φo d.1 i) dst) (f:=(dst,d.1[i].2.1,d.1[i].2.2)) (φE3 (hp.sublist (φ5L d.1 i)))]
theorem φN5 (d:φ1) (src dst:List UInt8) (h:dlim d) (hn:dst.length<2 ^ 62):ψp.f d src dst=some (φU d (φ33 src dst)):=by
 have hs:ψ1i.f d (src,dst)=some (φU d (φ33 src dst)):=φ5j d h (src,dst) (fun c x=>ψq.f x c.1 c.2) (φ33 src dst) fun k=>by
  show ψq.f (tick d) src dst=_
  rw[φMJ (tick d) src dst (by rw[φ1I];exact h.1) hn (by rw[φ1I];exact φ6G k),φ1I]
 unfold ψp.f
 rw[hs];rfl
theorem φLq (d:φ1) (src dst:List UInt8) (h:dlim d) (hn:dst.length<2 ^ 62):ψ2t.f d src dst=some (φU d (φ33 src dst)):=by
 have hl:=h.1
 unfold ψ2t.f
 rcases φ68 d h with ⟨x,c,e1,e2,e3⟩ | ⟨k,e1,e3⟩
 ·rw[e1,e3,bS];simp only[e2,cT]
 rw[e1,e3,bS]
 have hp:=φ6G k
 simp only[bne_self_eq_false,cF,φBm dst hn,φ4A d src (show d.1.length<2 ^ 62 by omega),bS]
 unfold φ33
 have ht:(d.1,(tick d).2)=tick d:=by rw[←φ1I d]
 rcases bE (φ30 dst) with k2 | k2
 rotate_left
 ·simp[k2,ht]
 simp only[k2,nZ,cF,κ7,if_false]
 rcases φ12 d.1 src with ⟨e,_⟩ | ⟨i,hi,e,hsrc⟩
 ·rw[e,φ1D e]
  show some (tick d,3)=some ((d.1,(tick d).2),3)
  rw[←φ1I d]
 ·rw[e,φ17 e]
  have hlr:=φ8c hi
  have hl2:=φAO (φo d.1 i) dst
  simp only[dnn (show (0:Int)≤(i:Int) by omega),cF]
  by_cases c:src=dst
  ·simp[c,ht]
  have c1:(src==dst)=false:=by simpa using c
  simp only[c,c1,cF,if_false,φ3B hi,cT,φ3X hi,φ8 hi,φ1I,φ9d d.1 i hi hl,bS,φ4A (φo d.1 i,(tick d).2) dst (show (φo d.1 i).length<2 ^ 62 by omega)]
  rcases φ12 (φo d.1 i) dst with ⟨e',hno⟩ | ⟨j,hj,e',hdst⟩
  ·have c2:¬φ1g (φo d.1 i) dst≥0:=by omega
   simp only[c2,dF,cF,bS,φAw (φo d.1 i) _ (show (φo d.1 i).length<1000000000 by omega),φDC hno]
  ·have c2:φ1g (φo d.1 i) dst≥0:=by omega
   have e4:φ1l (φo d.1 i) dst=φo (φo d.1 i) j:=by unfold φ1l;rw[φ17 e']
   rw[e4] at hl2
   simp only[c2,dT,cT]
   simp only[e',φ9d (φo d.1 i) j hj (by omega),bS,φAw (φo (φo d.1 i) j) _ (show (φo (φo d.1 i) j).length<1000000000 by omega),e4]
theorem φHi (t:TxnT) (h1:t.2.1.length<1000000000000) (h2:t.2.2.length<1000000000000):ψ1J.f t=some t:=by
 unfold ψ1J.f ψ1H.f
 have c1:t.2.1.length * 24≤140737488355328:=by omega
 have c2:t.2.2.length * 40≤140737488355328:=by omega
 simp[c1,c2]
theorem φBU (t:TxnT) (h1:t.2.1.length<1000000000000) (h2:t.2.2.length<1000000000000):ψ3V.f t=some t:=by
 unfold ψ3V.f
 have c1:t.2.1.length * 24≤140737488355328:=by omega
 have c2:t.2.2.length * 40≤140737488355328:=by omega
 simp[c1,c2]
def φ69 (t:TxnT) (p:PutT):TxnT×Bool:=
 if t.1=true∧φ3R p=true∧(netW (t.2.2++[p])).length≤8∧t.2.2.length<50 then ((t.1,t.2.1,t.2.2++[p]),true) else (t,false)
theorem φLl (t:TxnT) (p:PutT) (h1:t.2.1.length<1000000000) (h2:t.2.2.length<1000000000):ψ37.f t p=some (φ69 t p):=by
 have hc:=φBU t (by omega) (by omega)
 have hb:(t.2.2.length+([p]:List PutT).length) * 40≤140737488355328:=φ53 (by omega)
 have hn:ψ2d.f (t.1,t.2.1,t.2.2++[p])=some (netW (t.2.2++[p])):=φDw (t.1,t.2.1,t.2.2++[p]) (by show (t.2.2++[p]).length<_;rw[lA];show _+1<_;omega)
 have hl:(t.2.2++[p]).length=t.2.2.length+1:=lA
 have hp:ψ2i.f [p]=some (φ3R p):=by
  rw[φAS [p] (by show 1<2 ^ 62;decide)]
  unfold φ2K
  simp
 unfold ψ37.f φ69
 simp only[hc,bS,hb,dT,cT,hp,hn]
 rcases bE t.1 with k | k
 rotate_left
 ·simp[k]
 rcases bE (φ3R p) with k2 | k2
 rotate_left
 ·simp[k,k2]
 simp only[k,k2,nZ,cF,true_and]
 by_cases c:(netW (t.2.2++[p])).length≤8
 rotate_left
 ·have c1:((netW (t.2.2++[p])).length:Int) > 8:=by omega
  simp only[c,c1,dT,cT,false_and,if_false]
 have c1:¬((netW (t.2.2++[p])).length:Int) > 8:=by omega
 by_cases c2:t.2.2.length<50
 ·have c3:¬(((t.2.2++[p]).length:Nat):Int) > 50:=by omega
  simp only[c,c1,c2,c3,dF,cF,and_self,if_true]
 ·have c3:(((t.2.2++[p]).length:Nat):Int) > 50:=by omega
  simp only[c,c1,c2,c3,dT,dF,cT,cF,and_false,if_false]
theorem φBg {n:Nat} (h:n<9223372036854775808):IntKind.wrap .i64 (n:Int)=n:=φ3G h
theorem φA0 {n:Nat} (h:n<4294967296):IntKind.wrap .u32 (n:Int)=n:=by
 unfold IntKind.wrap
 simp only[IntKind.bits,IntKind.signed]
 simp;omega
theorem φER (a b:Nat) (ha:a<2 ^ 63) (hb:b<2 ^ 63):bits (fun _ a b=>a ^^^ b) .i64 (a:Int) (b:Int)=((a ^^^ b:Nat):Int):=by
 unfold bits
 have h:a ^^^ b<2 ^ 63:=Nat.xor_lt_two_pow ha hb
 have e:(BitVec.ofInt 64 (a:Int) ^^^ BitVec.ofInt 64 (b:Int)).toNat=a ^^^ b:=by
  rw[BitVec.ofInt_natCast,BitVec.ofInt_natCast,BitVec.toNat_xor,BitVec.toNat_ofNat,BitVec.toNat_ofNat,κb (by omega),κb (by omega)]
 show IntKind.wrap .i64 ((BitVec.ofInt 64 (a:Int) ^^^ BitVec.ofInt 64 (b:Int)).toNat:Int)=_
 rw[e]
 exact φBg (by omega)
theorem φA5 (a b:Nat) (ha:a<2 ^ 32) (hb:b<2 ^ 32):bits (fun _ a b=>a ^^^ b) .u32 (a:Int) (b:Int)=((a ^^^ b:Nat):Int):=by
 unfold bits
 have h:a ^^^ b<2 ^ 32:=Nat.xor_lt_two_pow ha hb
 have e:(BitVec.ofInt 32 (a:Int) ^^^ BitVec.ofInt 32 (b:Int)).toNat=a ^^^ b:=by
  rw[BitVec.ofInt_natCast,BitVec.ofInt_natCast,BitVec.toNat_xor,BitVec.toNat_ofNat,BitVec.toNat_ofNat,κb (by omega),κb (by omega)]
 show IntKind.wrap .u32 ((BitVec.ofInt 32 (a:Int) ^^^ BitVec.ofInt 32 (b:Int)).toNat:Int)=_
 rw[e]
 exact φA0 (by omega)
theorem φLn (a:Nat) (ha:a<2 ^ 32):bits (fun _ a b=>a &&& b) .u32 (a:Int) 1=((a % 2:Nat):Int):=by
 unfold bits
 have e:(BitVec.ofInt 32 (a:Int) &&& BitVec.ofInt 32 ((1:Nat):Int)).toNat=a % 2:=by
  rw[BitVec.ofInt_natCast,BitVec.ofInt_natCast,BitVec.toNat_and,BitVec.toNat_ofNat,BitVec.toNat_ofNat,κb (by omega)]
  exact Nat.and_one_is_mod a
 show IntKind.wrap .u32 ((BitVec.ofInt 32 (a:Int) &&& BitVec.ofInt 32 ((1:Nat):Int)).toNat:Int)=_
 rw[e]
 exact φA0 (by omega)
def crc1 (c:Nat):Nat:=if c % 2=1 then (c / 2) ^^^ 2197175160 else c / 2
def crcK:Nat→Nat→Nat
 | 0,c=>c
 | k+1,c=>crcK k (crc1 c)
def crcB (c:Nat) (b:UInt8):Nat:=crcK 8 (c ^^^ b.toNat)
def crcN (s:List UInt8):Nat:=s.foldl crcB 4294967295
def crcT (s:List UInt8):Int:=((4294967295 - crcN s:Nat):Int)
theorem φ9z {c:Nat} (h:c<2 ^ 32):crc1 c<2 ^ 32:=by
 unfold crc1
 split
 ·exact Nat.xor_lt_two_pow (by omega) (by decide)
 ·omega
theorem φEp:∀(k:Nat) {c:Nat},c<2 ^ 32→crcK k c<2 ^ 32
 | 0,_,h=>h
 | k+1,_,h=>φEp k (φ9z h)
theorem φAi {c:Nat} (h:c<2 ^ 32) (b:UInt8):crcB c b<2 ^ 32:=
 φEp 8 (Nat.xor_lt_two_pow h (by have:=b.toNat_lt;omega))
theorem φBY:∀(s:List UInt8) {c:Nat},c<2 ^ 32→s.foldl crcB c<2 ^ 32
 | [],_,h=>h
 | b::s,_,h=>φBY s (φAi h b)
theorem φ5A (s:List UInt8):0≤crcT s∧crcT s≤4294967295:=by unfold crcT;omega
theorem φHd (s:List UInt8) (c:Nat) (i:Int) (hc:c<2 ^ 32):lp ψ2C.l2 (s,(c:Int),i,0)=some (s,((crcK 8 c:Nat):Int),i):=by
 have:=φd (step:=ψ2C.l2) (fun n (c:Nat)=>(s,(c:Int),i,(n:Int))) 8 (fun n c=>(s,((crcK (8 - n) c:Nat):Int),i)) (fun _ c=>c<2 ^ 32)
  (fun rec n c hn hc ih=>by
   rcases κ2 n 8 with h | h
   ·have h8:(n:Int)<8:=by omega
    have hw:w64 ((n:Int)+1)=((n+1:Nat):Int):=φL (by omega)
    have e1:w64 (Int.tdiv (c:Int) 2)=((c / 2:Nat):Int):=by
     rw[show Int.tdiv (c:Int) 2=((c / 2:Nat):Int) from rfl];exact φ3G (by omega)
    have e2:Int.tmod (c:Int) 2=((c % 2:Nat):Int):=rfl
    have e3:bits (fun _ a b=>a ^^^ b) .i64 ((c / 2:Nat):Int) 2197175160=(((c / 2) ^^^ 2197175160:Nat):Int):=φER (c / 2) 2197175160 (by omega) (by decide)
    have e4:crcK (8 - n) c=crcK (8 - (n+1)) (crc1 c):=by
     rw[show 8 - n=(8 - (n+1))+1 by omega];rfl
    have ih:=ih (crc1 c) h (φ9z hc)
    rw[e4,←ih]
    simp only[ψ2C.l2,h8,dT,cT,e1,e2]
    unfold crc1
    by_cases k:c % 2=1
    ·have k2:(((c % 2:Nat):Int)==1)=true:=by rw[k];rfl
     simp only[k2,cT,e3,bS,hw]
     rw[if_pos k]
    ·have k2:(((c % 2:Nat):Int)==1)=false:=by simp;omega
     simp only[k2,cF,bS,hw]
     rw[if_neg k]
   ·have:n=8:=by omega
    subst this
    simp[ψ2C.l2,crcK])
  (by omega) 0 c (κ4 _) hc
 exact this
theorem φHp (s:List UInt8) (c:Nat) (i:Int) (hc:c<2 ^ 32):lp ψ3.l2 (s,(c:Int),i,0)=some (s,((crcK 8 c:Nat):Int),i):=by
 have:=φd (step:=ψ3.l2) (fun n (c:Nat)=>(s,(c:Int),i,(n:Int))) 8 (fun n c=>(s,((crcK (8 - n) c:Nat):Int),i)) (fun _ c=>c<2 ^ 32)
  (fun rec n c hn hc ih=>by
   rcases κ2 n 8 with h | h
   ·have h8:(n:Int)<8:=by omega
    have hw:w64 ((n:Int)+1)=((n+1:Nat):Int):=φL (by omega)
    have e1:Int.fdiv (c:Int) (2 ^ (min 1 32))=((c / 2:Nat):Int):=by
     show Int.fdiv (c:Int) 2=_
     rw[Int.fdiv_eq_ediv_of_nonneg _ (by omega)];rfl
    have e3:bits (fun _ a b=>a ^^^ b) .u32 ((c / 2:Nat):Int) 2197175160=(((c / 2) ^^^ 2197175160:Nat):Int):=φA5 (c / 2) 2197175160 (by omega) (by decide)
    have e4:crcK (8 - n) c=crcK (8 - (n+1)) (crc1 c):=by
     rw[show 8 - n=(8 - (n+1))+1 by omega];rfl
    have ih:=ih (crc1 c) h (φ9z hc)
    rw[e4,←ih]
    simp only[ψ3.l2,h8,dT,cT,e1,φLn c hc]
    unfold crc1
    by_cases k:c % 2=1
    ·have k2:(((c % 2:Nat):Int)==1)=true:=by rw[k];rfl
     simp only[k2,cT,e3,bS,hw]
     rw[if_pos k]
    ·have k2:(((c % 2:Nat):Int)==1)=false:=by simp;omega
     simp only[k2,cF,bS,hw]
     rw[if_neg k]
   ·have:n=8:=by omega
    subst this
    simp[ψ3.l2,crcK])
  (by omega) 0 c (κ4 _) hc
 exact this
theorem φAd (s:List UInt8) (hl:s.length<2 ^ 62):ψ2C.f s=some (crcT s):=by
 have hk:=φ2U (step:=ψ2C.l0) s crcB (fun n (c:Nat)=>(s,(c:Int),(n:Int))) (fun c=>(c:Int)) (fun _ c=>c<2 ^ 32) hl
  (fun rec n c h hc=>by
   have hc:c<2 ^ 32:=hc
   have hw:w64 ((n:Int)+1)=((n+1:Nat):Int):=φL (by omega)
   have hb:=s[n].toNat_lt
   have e1:w64 (bAt s (n:Int))=((s[n].toNat:Nat):Int):=by rw[φ4b s n h];exact φ3G (by omega)
   have e2:=φER c s[n].toNat (by omega) (by omega)
   simp only[ψ2C.l0,oL,h,dT,cT,φD,e1,e2]
   rw[φHd s _ _ (Nat.xor_lt_two_pow hc (by omega))]
   simp only[bS,hw];rfl)
  (fun n c h hc=>φAi hc _)
  (fun rec c hc=>by simp[ψ2C.l0]) 4294967295 (by decide)
 have hk:lp ψ2C.l0 (s,4294967295,0)=_:=hk
 unfold ψ2C.f crcT crcN
 rw[hk,bS]
 have:=φBY s (c:=4294967295) (by decide)
 generalize s.foldl crcB 4294967295=c at *
 simp only
 rw[φG (by omega) (by omega)]
 congr 1;omega
theorem φHN (c:Nat) (h:c<2 ^ 32):4294967295 ^^^ c=4294967295 - c:=by
 have e:(BitVec.allOnes 32 ^^^ BitVec.ofNat 32 c).toNat=(~~~ BitVec.ofNat 32 c).toNat:=by rw[BitVec.allOnes_xor]
 rw[BitVec.toNat_xor,BitVec.toNat_not,BitVec.toNat_allOnes,BitVec.toNat_ofNat,κb h] at e
 have e:4294967295 ^^^ c=4294967296 - 1 - c:=e
 omega
theorem φ9V (s:List UInt8) (hl:s.length<2 ^ 62):ψ3.f s=some (crcT s):=by
 have hk:=φ2U (step:=ψ3.l0) s crcB (fun n (c:Nat)=>(s,(c:Int),(n:Int))) (fun c=>(c:Int)) (fun _ c=>c<2 ^ 32) hl
  (fun rec n c h hc=>by
   have hc:c<2 ^ 32:=hc
   have hw:w64 ((n:Int)+1)=((n+1:Nat):Int):=φL (by omega)
   have hb:=s[n].toNat_lt
   have e1:IntKind.wrap .u32 (bAt s (n:Int))=((s[n].toNat:Nat):Int):=by rw[φ4b s n h];exact φA0 (by omega)
   have e2:=φA5 c s[n].toNat (by omega) (by omega)
   simp only[ψ3.l0,oL,h,dT,cT,φD,e1,e2]
   rw[φHp s _ _ (Nat.xor_lt_two_pow hc (by omega))]
   simp only[bS,hw];rfl)
  (fun n c h hc=>φAi hc _)
  (fun rec c hc=>by simp[ψ3.l0]) 4294967295 (by decide)
 have hk:lp ψ3.l0 (s,4294967295,0)=_:=hk
 unfold ψ3.f crcT crcN
 rw[hk,bS]
 have:=φBY s (c:=4294967295) (by decide)
 generalize s.foldl crcB 4294967295=c at *
 have e:bits (fun _ a b=>a ^^^ b) .u32 4294967295 (c:Int)=((4294967295 ^^^ c:Nat):Int):=φA5 4294967295 c (by decide) this
 simp only[e,φHN c this]
 rw[φ3G (by omega)]
def vLow (n:Nat):List UInt8:=if h:n<128 then [] else UInt8.ofNat (128+n % 128)::vLow (n / 128)
termination_by n
decreasing_by omega
def vTop (n:Nat):Nat:=if h:n<128 then n else vTop (n / 128)
termination_by n
decreasing_by omega
theorem φ9J:∀(k n:Nat),n<128 ^ (k+1)→(vLow n).length≤k
 | 0,n,h=>by unfold vLow;rw[dif_pos (by simpa using h)];simp
 | k+1,n,h=>by
  unfold vLow
  split
  ·simp
  ·have:=φ9J k (n / 128) (by rw[Nat.div_lt_iff_lt_mul (by omega)];rw[κW] at h;exact h)
   simp only[lC];omega
def varT (n:Int):List UInt8:=if 0≤n∧n≤562949953421311 then vLow n.toNat++[UInt8.ofNat (vTop n.toNat)] else []
theorem φm (n:Int):(varT n).length≤7:=by
 unfold varT
 split
 ·rename_i h
  have:=φ9J 6 n.toNat (by show _<562949953421312;omega)
  rw[lA,κ5];omega
 ·simp
theorem φ62 (n:Nat):UInt8.ofNat (IntKind.wrap .u8 (n:Int)).toNat=UInt8.ofNat n:=by
 have e:IntKind.wrap .u8 (n:Int)=((n % 256:Nat):Int):=by
  unfold IntKind.wrap
  simp only[IntKind.bits,IntKind.signed]
  simp
 rw[e,tN]
 exact UInt8.ofNat_mod_size
theorem φIX:ψ1C.l0=ψ3B.l0:=by
 funext rec x
 obtain ⟨x0,x3⟩:=x
 have e1:decide (x0 > 127)=decide (x0≥128):=decide_eq_decide.2 (by omega)
 simp only[ψ1C.l0,ψ3B.l0,e1,Int.add_comm 128]
theorem φLs:ψ1C.f=ψ3B.f:=by
 funext n
 unfold ψ1C.f ψ3B.f
 rw[φ1q,φ1u,φIX]
theorem φLE (a b:List Int):φ1M (a++b)=φ1M a++φ1M b:=mp
def φ38 (n:Nat):List Int:=if h:n<128 then [] else IntKind.wrap .u8 (w64 (128+(n % 128:Nat)))::φ38 (n / 128)
termination_by n
decreasing_by omega
theorem φAK (n:Nat):φ1M (φ38 n)=vLow n:=by
 unfold φ38 vLow
 split
 ·rfl
 ·rw[show φ1M (IntKind.wrap .u8 (w64 (128+(n % 128:Nat)))::φ38 (n / 128))=UInt8.ofNat (IntKind.wrap .u8 (w64 (128+(n % 128:Nat)))).toNat::φ1M (φ38 (n / 128)) from rfl,φAK (n / 128)]
  have e:w64 (128+((n % 128:Nat):Int))=((128+n % 128:Nat):Int):=by rw[φG (by omega) (by omega)];omega
  rw[e,φ62]
termination_by n
decreasing_by omega
theorem φIT (n:Nat):(φ38 n).length=(vLow n).length:=by rw[←φAK];unfold φ1M;rw[lM]
theorem φMF (m:Nat) (hm:m<128 ^ 7):lp ψ3B.l0 ((m:Int),[])=some (((vTop m:Nat):Int),φ38 m):=by
 have:=φ5l (step:=ψ3B.l0) (a:=((m:Int),([]:List Int)))
  (fun a=>(((vTop a.1.toNat:Nat):Int),a.2++φ38 a.1.toNat)) (fun a=>0≤a.1∧a.2.length≤7∧a.1.toNat<128 ^ (7 - a.2.length)) (fun a=>a.1.toNat)
  (fun rec a ha ih=>by
   obtain ⟨x,l⟩:=a
   obtain ⟨n,rfl⟩:∃n:Nat,x=(n:Int):=⟨x.toNat,by have:=ha.1;simp only at this;omega⟩
   obtain ⟨_,h2,h3⟩:=ha
   simp only[tN] at h2 h3 ih ⊢
   have hn:n<128 ^ 7:=κE h3 (κX (by omega) (by omega))
   have hn:n<562949953421312:=hn
   by_cases c:n<128
   ·have c1:¬(n:Int)≥128:=by omega
    simp only[ψ3B.l0,c1,dF,cF]
    rw[show vTop n=n by unfold vTop;rw[dif_pos c],show φ38 n=[] by unfold φ38;rw[dif_pos c],κ6]
   ·have c1:(n:Int)≥128:=by omega
    have h4:l.length<7:=by
     rcases κ2 l.length 7 with h | h
     ·exact h
     ·rw[show 7 - l.length=0 by omega] at h3;simp at h3;omega
    have e1:Int.tmod (n:Int) 128=((n % 128:Nat):Int):=rfl
    have e2:w64 (Int.tdiv (n:Int) 128)=((n / 128:Nat):Int):=by
     rw[show Int.tdiv (n:Int) 128=((n / 128:Nat):Int) from rfl];exact φ3G (by omega)
    have hb:(l.length+[IntKind.wrap .u8 (w64 (128+((n % 128:Nat):Int)))].length) * 1≤140737488355328:=by
     show (l.length+1) * 1≤_;omega
    have ih:=ih (((n / 128:Nat):Int),l++[IntKind.wrap .u8 (w64 (128+((n % 128:Nat):Int)))]) ⟨by simp only;omega,by rw[lA];show _+1≤_;omega,by
     rw[lA,tN]
     show _<128 ^ (7 - (l.length+1))
     rw[Nat.div_lt_iff_lt_mul (by omega),←κW,show (7 - (l.length+1)).succ=7 - l.length by omega];exact h3⟩ (by simp only[tN];omega)
    simp only[tN] at ih
    simp only[ψ3B.l0,c1,dT,cT,e1,e2,hb,ih]
    rw[show vTop n=vTop (n / 128) by rw[vTop,dif_neg c],show φ38 n=IntKind.wrap .u8 (w64 (128+(n % 128:Nat)))::φ38 (n / 128) by rw[φ38,dif_neg c],aA];rfl)
  ⟨by simp only;omega,by simp,by simpa using hm⟩ (by simp only[tN];have:m<562949953421312:=hm;omega)
 simpa using this
theorem φ4s (n:Int):ψ3B.f n=some (varT n):=by
 unfold ψ3B.f varT
 rw[φ1u,bS]
 by_cases h:0≤n∧n≤562949953421311
 rotate_left
 ·simp[h]
 obtain ⟨m,rfl⟩:∃m:Nat,n=(m:Int):=⟨n.toNat,by omega⟩
 have hm:m<128 ^ 7:=by show m<562949953421312;omega
 have key:∃L:List Int,φ1M L=vLow m∧L.length≤7∧lp ψ3B.l0 ((m:Int),[])=some (((vTop m:Nat):Int),L):=
  ⟨φ38 m,φAK m,by rw[φIT];have:=φ9J 6 m hm;omega,φMF m hm⟩
 obtain ⟨L,e1,e2,e3⟩:=key
 have hb:(L.length+[IntKind.wrap .u8 ((vTop m:Nat):Int)].length) * 1≤140737488355328:=by
  show (L.length+1) * 1≤_;omega
 simp only[h,and_self,dT,nZ,cF,e3,bS,hb,cT,if_true,φLE,e1,tN]
 unfold φ1M
 simp only[κ8,List.map_nil,φ62]
theorem φAH (n:Int):ψ1C.f n=some (varT n):=by rw[φLs,φ4s]
def fixL (n:Nat):Nat→List UInt8
 | 0=>[]
 | k+1=>UInt8.ofNat (n / 256 ^ k)::fixL n k
theorem φBP (n:Nat):∀k,(fixL n k).length=k
 | 0=>rfl
 | k+1=>by simp[fixL,φBP n k]
theorem φ92 (n:Nat):∀k,fixL n (k+1)=fixL (n / 256) k++[UInt8.ofNat n]
 | 0=>by simp[fixL]
 | k+1=>by
  rw[fixL,φ92 n k]
  show _=UInt8.ofNat (n / 256 / 256 ^ k)::fixL (n / 256) k++[UInt8.ofNat n]
  rw[Nat.div_div_eq_div_mul,κW,Nat.mul_comm (256 ^ k) 256];rfl
def fix4 (n:Int):List UInt8:=if 0≤n∧n≤4294967295 then fixL n.toNat 4 else []
theorem φ9S (n:Int) (hn:n<9223372036854775808):ψ2S.f n 4=some (fix4 n):=by
 unfold ψ2S.f fix4
 rw[φ1u,bS]
 by_cases h:0≤n
 rotate_left
 ·have h1:n<0:=by omega
  simp[h,h1]
 obtain ⟨m,rfl⟩:∃m:Nat,n=(m:Int):=⟨n.toNat,by omega⟩
 have key:=φd (step:=ψ2S.l0) (fun i (s:Nat×List UInt8)=>((s.1:Int),4,s.2,(i:Int))) 4 (fun i s=>(((s.1 / 256 ^ (4 - i):Nat):Int),fixL s.1 (4 - i)++s.2)) (fun i s=>s.1<9223372036854775808∧s.2.length≤i)
  (fun rec i s hi hv ih=>by
   obtain ⟨a,l⟩:=s
   obtain ⟨hv1,hv2⟩:=hv
   simp only at hv1 hv2 ih ⊢
   rcases κ2 i 4 with h4 | h4
   ·have e0:(i:Int)<4:=by omega
    have e1:Int.tmod (a:Int) 256=((a % 256:Nat):Int):=rfl
    have e2:w64 (Int.tdiv (a:Int) 256)=((a / 256:Nat):Int):=by
     rw[show Int.tdiv (a:Int) 256=((a / 256:Nat):Int) from rfl];exact φ3G (by omega)
    have e3:φ1M [IntKind.wrap .u8 ((a % 256:Nat):Int)]=[UInt8.ofNat a]:=by
     unfold φ1M
     simp only[κ8,List.map_nil,φ62]
     congr 1;exact UInt8.ofNat_mod_size
    have hw:w64 ((i:Int)+1)=((i+1:Nat):Int):=φL (by omega)
    have hb:([UInt8.ofNat a]:List UInt8).length+l.length≤9223372036854775807:=by show 1+_≤_;omega
    have ih:=ih (a / 256,[UInt8.ofNat a]++l) h4 ⟨by simp only;omega,by simp;omega⟩
    simp only at ih
    simp only[ψ2S.l0,e0,dT,cT,e1,e2,e3,hb,hw,ih]
    rw[show 4 - i=(4 - (i+1))+1 by omega,φ92,κW,Nat.mul_comm,←Nat.div_div_eq_div_mul,aA]
   ·have:i=4:=by omega
    subst this
    simp[ψ2S.l0,fixL])
  (by omega) 0 (m,[]) (κ4 _) ⟨by simp only;omega,by simp⟩
 have key:lp ψ2S.l0 ((m:Int),4,[],0)=some (((m / 256 ^ 4:Nat):Int),fixL m 4++[]):=key
 have h1:¬(m:Int)<0:=by omega
 have h0:decide ((1:Int)≤4∧(4:Int)≤7)=true:=by decide
 have h2:(decide ((((m / 256 ^ 4:Nat):Int)) > 0))=!decide (0≤(m:Int)∧(m:Int)≤4294967295):=by
  have:m / 256 ^ 4=m / 4294967296:=rfl
  by_cases c:m≤4294967295
  ·have:m / 256 ^ 4=0:=by rw[this];omega
   rw[this];simp;omega
  ·have:0<m / 256 ^ 4:=by rw[this];omega
   have c2:¬(0≤(m:Int)∧(m:Int)≤4294967295):=by omega
   simp only[c2,dF,nF,decide_eq_true_eq];omega
 simp only[h0,h1,dF,nZ,cF,key,bS,h2,κ6,tN]
 by_cases c:0≤(m:Int)∧(m:Int)≤4294967295
 ·simp[c]
 ·rw[if_neg c,decide_eq_false c];rfl
def fixI (n:Nat):Nat→List Int
 | 0=>[]
 | k+1=>IntKind.wrap .u8 ((n / 256 ^ k:Nat):Int)::fixI n k
theorem φDb (n:Nat):∀k,φ1M (fixI n k)=fixL n k
 | 0=>rfl
 | k+1=>by
  rw[fixI,fixL,←φDb n k,←φ62];rfl
theorem φAY (n:Int):ψN.f n 4=some (fix4 n):=by
 unfold ψN.f fix4
 have h0:decide ((1:Int)≤4∧(4:Int)≤7)=true:=by decide
 have h1:decide (0≤w64 (8 * 4))=true:=by decide
 have h2:w64 (w64 (1 * 2 ^ (min (w64 (8 * 4)).toNat 64)) - 1)=4294967295:=by decide
 simp only[φ1q,bS,h0,h1,h2,nZ,cF,cT]
 by_cases h:0≤n∧n≤4294967295
 rotate_left
 ·simp[h]
 obtain ⟨m,rfl⟩:∃m:Nat,n=(m:Int):=⟨n.toNat,by omega⟩
 have key:=φ5l (step:=ψN.l0) (a:=((m:Int),([]:List Int),(3:Int)))
  (fun a=>a.2.1++(fixI m (a.2.2+1).toNat)) (fun a=>a.1=(m:Int)∧-1≤a.2.2∧a.2.2≤3∧(a.2.1.length:Int)≤3 - a.2.2) (fun a=>(a.2.2+1).toNat)
  (fun rec a ha ih=>by
   obtain ⟨x,l,k⟩:=a
   obtain ⟨hx,ha1,ha2,ha3⟩:=ha
   simp only at hx ha1 ha2 ha3 ih ⊢
   subst hx
   by_cases c:k≥0
   ·obtain ⟨j,rfl⟩:∃j:Nat,k=(j:Int):=⟨k.toNat,by omega⟩
    have e1:w64 (8 * (j:Int))=((8 * j:Nat):Int):=by rw[φG (by omega) (by omega)];omega
    have e2:Int.fdiv (m:Int) (2 ^ (min ((8 * j:Nat):Int).toNat 64))=((m / 256 ^ j:Nat):Int):=by
     have e:(2:Int) ^ (8 * j)=((256 ^ j:Nat):Int):=by
      rw[show (256:Nat)=2 ^ 8 from rfl,←Nat.pow_mul,Int.natCast_pow];rfl
     rw[tN,Nat.min_eq_left (by omega),e,Int.fdiv_eq_ediv_of_nonneg _ (Int.natCast_nonneg _)]
     rfl
    have e3:w64 ((j:Int) - 1)=(j:Int) - 1:=φG (by omega) (by omega)
    have hb:(l.length+[IntKind.wrap .u8 ((m / 256 ^ j:Nat):Int)].length) * 1≤140737488355328:=by show (l.length+1) * 1≤_;omega
    have ih:=ih ((m:Int),l++[IntKind.wrap .u8 ((m / 256 ^ j:Nat):Int)],(j:Int) - 1) ⟨rfl,by simp only;omega,by simp only;omega,by simp only[lA,κ5];omega⟩ (by simp only;omega)
    simp only at ih
    have h0:(0:Int)≤((8 * j:Nat):Int):=by omega
    simp only[ψN.l0,c,dT,cT,e1,h0,e2,hb,e3,ih]
    rw[show ((j:Int) - 1+1).toNat=j by omega,show ((j:Int)+1).toNat=j+1 by omega,fixI,aA];rfl
   ·have:k=-1:=by omega
    subst this
    simp[ψN.l0,fixI])
  ⟨rfl,by simp only;omega,by simp only;omega,by simp⟩ (by show (4:Nat)<2 ^ 62;decide)
 have e9:w64 (4 - 1)=3:=by decide
 have key:lp ψN.l0 ((m:Int),[],3)=some (fixI m 4):=key
 simp only[h,and_self,dT,nZ,cF,e9,key,bS,if_true,tN,φDb]
abbrev RecT:=Int×Int×List UInt8×List UInt8×Int×Int
def φe (r:RecT):Bool:=
 decide (0≤r.2.1∧r.2.1≤1000000) && (!(r.2.1==0) || r.1==5) &&
 (if r.1=1∨r.1=4 then φ1c r.2.2.1 && (decide (r.2.2.2.1.length≤24) && (r.2.2.2.2.1==0 && r.2.2.2.2.2==0))
 else if r.1=2 then φ1c r.2.2.1 && (r.2.2.2.1==[] && (r.2.2.2.2.1==0 && r.2.2.2.2.2==0))
 else if r.1=3 then r.2.2.1==[] && (r.2.2.2.1==[] && (decide (0≤r.2.2.2.2.1∧r.2.2.2.2.1≤8) && decide (0≤r.2.2.2.2.2∧r.2.2.2.2.2≤4294967295)))
 else if r.1=5 then r.2.2.1==[] && (r.2.2.2.1==[] && (decide (0≤r.2.2.2.2.1∧r.2.2.2.2.1≤20) && decide (0≤r.2.2.2.2.2∧r.2.2.2.2.2≤4294967295)))
 else false)
theorem φMC (r:RecT):ψ2q.f r=some (φe r):=by
 obtain ⟨k,b,ky,v,c,s⟩:=r
 have e24:decide ((v.length:Int)≤24)=decide (v.length≤24):=decide_eq_decide.2 (by omega)
 unfold ψ2q.f φe
 simp only[φ1u,bS,φ7J,e24]
 by_cases hb:0≤b∧b≤1000000
 rotate_left
 ·simp only[hb,dF,nF,cT,bS,φZ,κF]
 simp only[hb,and_self,dT,nZ,cF,tA]
 rcases bE (b==0 && k != 5) with h | h
 ·simp only[bA] at h
  have h2:(k==5)=false:=by have:=h.2;simpa [bne] using this
  simp only[h.1,h.2,h2,cT,bS,φZ,nZ,κR,κF]
 have e1:(!(b==0) || k==5)=true:=by
  cases h3:(b==0)<;>cases h4:(k==5)<;>simp_all [bne]
 have e2:(bif b==0 then (bif k != 5 then some (Sum.inr false) else some (Sum.inl ((k,b,ky,v,c,s):RecT))) else some (Sum.inl (k,b,ky,v,c,s)):Option (RecT ⊕ Bool))=some (Sum.inl (k,b,ky,v,c,s)):=by
  cases h3:(b==0)
  ·rfl
  ·rw[h3] at h
   have h4:(k != 5)=false:=by simpa using h
   rw[h4];rfl
 simp only[e2,bS,φT,e1,tA]
 by_cases k1:k=1
 ·subst k1
  simp only[cT,cF,bS,e24,beq_self_eq_true,tA,κP,show ((1:Int)==1)=true from rfl,show ((4:Int)==1)=false from rfl,show ((4:Int)==4)=true from rfl,show ((2:Int)==2)=true from rfl,show ((3:Int)==2)=false from rfl,show ((3:Int)==3)=true from rfl,show ((5:Int)==5)=true from rfl,show ((5:Int)==3)=false from rfl,show ((5:Int)==2)=false from rfl,show ((4:Int)==5)=false from rfl,show ((3:Int)==5)=false from rfl,show ((2:Int)==5)=false from rfl,show ((1:Int)==5)=false from rfl]
  cases φ1c ky<;>cases decide (v.length≤24)<;>cases (c==0)<;>simp
 by_cases k4:k=4
 ·subst k4
  simp only[cT,cF,bS,e24,beq_self_eq_true,tA,κP,show ((1:Int)==1)=true from rfl,show ((4:Int)==1)=false from rfl,show ((4:Int)==4)=true from rfl,show ((2:Int)==2)=true from rfl,show ((3:Int)==2)=false from rfl,show ((3:Int)==3)=true from rfl,show ((5:Int)==5)=true from rfl,show ((5:Int)==3)=false from rfl,show ((5:Int)==2)=false from rfl,show ((4:Int)==5)=false from rfl,show ((3:Int)==5)=false from rfl,show ((2:Int)==5)=false from rfl,show ((1:Int)==5)=false from rfl]
  cases φ1c ky<;>cases decide (v.length≤24)<;>cases (c==0)<;>simp
 have b1:(k==1)=false:=by simpa using k1
 have b4:(k==4)=false:=by simpa using k4
 simp only[b1,b4,cF,bS,k1,k4,or_self,if_false]
 by_cases k2:k=2
 ·subst k2
  simp only[cT,cF,bS,e24,beq_self_eq_true,tA,κP,show ((1:Int)==1)=true from rfl,show ((4:Int)==1)=false from rfl,show ((4:Int)==4)=true from rfl,show ((2:Int)==2)=true from rfl,show ((3:Int)==2)=false from rfl,show ((3:Int)==3)=true from rfl,show ((5:Int)==5)=true from rfl,show ((5:Int)==3)=false from rfl,show ((5:Int)==2)=false from rfl,show ((4:Int)==5)=false from rfl,show ((3:Int)==5)=false from rfl,show ((2:Int)==5)=false from rfl,show ((1:Int)==5)=false from rfl]
  cases φ1c ky<;>cases (v==[])<;>cases (c==0)<;>simp
 have b2:(k==2)=false:=by simpa using k2
 simp only[b2,cF,k2,if_false]
 by_cases k3:k=3
 ·subst k3
  simp only[cT,cF,bS,e24,beq_self_eq_true,tA,κP,show ((1:Int)==1)=true from rfl,show ((4:Int)==1)=false from rfl,show ((4:Int)==4)=true from rfl,show ((2:Int)==2)=true from rfl,show ((3:Int)==2)=false from rfl,show ((3:Int)==3)=true from rfl,show ((5:Int)==5)=true from rfl,show ((5:Int)==3)=false from rfl,show ((5:Int)==2)=false from rfl,show ((4:Int)==5)=false from rfl,show ((3:Int)==5)=false from rfl,show ((2:Int)==5)=false from rfl,show ((1:Int)==5)=false from rfl]
  cases (ky==[])<;>cases (v==[])<;>cases decide (0≤c∧c≤8)<;>simp
 have b3:(k==3)=false:=by simpa using k3
 simp only[b3,cF,k3,if_false]
 by_cases k5:k=5
 ·subst k5
  simp only[cT,cF,bS,e24,beq_self_eq_true,tA,κP,show ((1:Int)==1)=true from rfl,show ((4:Int)==1)=false from rfl,show ((4:Int)==4)=true from rfl,show ((2:Int)==2)=true from rfl,show ((3:Int)==2)=false from rfl,show ((3:Int)==3)=true from rfl,show ((5:Int)==5)=true from rfl,show ((5:Int)==3)=false from rfl,show ((5:Int)==2)=false from rfl,show ((4:Int)==5)=false from rfl,show ((3:Int)==5)=false from rfl,show ((2:Int)==5)=false from rfl,show ((1:Int)==5)=false from rfl]
  cases (ky==[])<;>cases (v==[])<;>cases decide (0≤c∧c≤20)<;>simp
 have b5:(k==5)=false:=by simpa using k5
 simp only[b5,cF,k5,if_false]
theorem φ6w (r:RecT):ψl.f r=some (φe r):=by
 obtain ⟨k,b,ky,v,c,s⟩:=r
 have e24:decide ((v.length:Int)≤24)=decide (v.length≤24):=decide_eq_decide.2 (by omega)
 have hb0:decide (1≤b∧b≤1000000)=(decide (0≤b∧b≤1000000) && !(b==0)):=by
  by_cases h:b=0
  ·subst h;rfl
  ·have:(b==0)=false:=by simpa using h
   rw[this,nF,κP]
   exact decide_eq_decide.2 (by omega)
 unfold ψl.f φe
 simp only[φ1q,bS,φ9t,e24,hb0,beq_self_eq_true,tA,κP]
 by_cases k1:k=1
 ·subst k1
  simp only[cT,cF,bS,e24,hb0,beq_self_eq_true,tA,κP,show ((1:Int)==1)=true from rfl,show ((4:Int)==1)=false from rfl,show ((4:Int)==4)=true from rfl,show ((2:Int)==2)=true from rfl,show ((3:Int)==2)=false from rfl,show ((3:Int)==3)=true from rfl,show ((5:Int)==5)=true from rfl,show ((5:Int)==3)=false from rfl,show ((5:Int)==2)=false from rfl,show ((4:Int)==5)=false from rfl,show ((3:Int)==5)=false from rfl,show ((2:Int)==5)=false from rfl,show ((1:Int)==5)=false from rfl]
  cases φ1c ky<;>cases decide (v.length≤24)<;>cases decide (0≤b∧b≤1000000)<;>cases (b==0)<;>simp
 by_cases k4:k=4
 ·subst k4
  simp only[cT,cF,bS,e24,hb0,beq_self_eq_true,tA,κP,show ((1:Int)==1)=true from rfl,show ((4:Int)==1)=false from rfl,show ((4:Int)==4)=true from rfl,show ((2:Int)==2)=true from rfl,show ((3:Int)==2)=false from rfl,show ((3:Int)==3)=true from rfl,show ((5:Int)==5)=true from rfl,show ((5:Int)==3)=false from rfl,show ((5:Int)==2)=false from rfl,show ((4:Int)==5)=false from rfl,show ((3:Int)==5)=false from rfl,show ((2:Int)==5)=false from rfl,show ((1:Int)==5)=false from rfl]
  cases φ1c ky<;>cases decide (v.length≤24)<;>cases decide (0≤b∧b≤1000000)<;>cases (b==0)<;>simp
 have b1:(k==1)=false:=by simpa using k1
 have b4:(k==4)=false:=by simpa using k4
 simp only[b1,b4,cF,bS,k1,k4,or_self,if_false]
 by_cases k2:k=2
 ·subst k2
  simp only[cT,cF,bS,e24,hb0,beq_self_eq_true,tA,κP,show ((1:Int)==1)=true from rfl,show ((4:Int)==1)=false from rfl,show ((4:Int)==4)=true from rfl,show ((2:Int)==2)=true from rfl,show ((3:Int)==2)=false from rfl,show ((3:Int)==3)=true from rfl,show ((5:Int)==5)=true from rfl,show ((5:Int)==3)=false from rfl,show ((5:Int)==2)=false from rfl,show ((4:Int)==5)=false from rfl,show ((3:Int)==5)=false from rfl,show ((2:Int)==5)=false from rfl,show ((1:Int)==5)=false from rfl]
  cases φ1c ky<;>cases decide (0≤b∧b≤1000000)<;>cases (b==0)<;>simp
 have b2:(k==2)=false:=by simpa using k2
 simp only[b2,cF,k2,if_false]
 by_cases k3:k=3
 ·subst k3
  simp only[cT,cF,bS,e24,hb0,beq_self_eq_true,tA,κP,show ((1:Int)==1)=true from rfl,show ((4:Int)==1)=false from rfl,show ((4:Int)==4)=true from rfl,show ((2:Int)==2)=true from rfl,show ((3:Int)==2)=false from rfl,show ((3:Int)==3)=true from rfl,show ((5:Int)==5)=true from rfl,show ((5:Int)==3)=false from rfl,show ((5:Int)==2)=false from rfl,show ((4:Int)==5)=false from rfl,show ((3:Int)==5)=false from rfl,show ((2:Int)==5)=false from rfl,show ((1:Int)==5)=false from rfl]
  cases decide (0≤c∧c≤8)<;>cases decide (0≤s∧s≤4294967295)<;>cases decide (0≤b∧b≤1000000)<;>cases (b==0)<;>simp
 have b3:(k==3)=false:=by simpa using k3
 simp only[b3,cF,k3,if_false]
 by_cases k5:k=5
 ·subst k5
  simp only[cT,cF,bS,e24,hb0,beq_self_eq_true,tA,κP,show ((1:Int)==1)=true from rfl,show ((4:Int)==1)=false from rfl,show ((4:Int)==4)=true from rfl,show ((2:Int)==2)=true from rfl,show ((3:Int)==2)=false from rfl,show ((3:Int)==3)=true from rfl,show ((5:Int)==5)=true from rfl,show ((5:Int)==3)=false from rfl,show ((5:Int)==2)=false from rfl,show ((4:Int)==5)=false from rfl,show ((3:Int)==5)=false from rfl,show ((2:Int)==5)=false from rfl,show ((1:Int)==5)=false from rfl]
  cases decide (0≤c∧c≤20)<;>cases decide (0≤s∧s≤4294967295)<;>cases decide (0≤b∧b≤1000000)<;>simp
 have b5:(k==5)=false:=by simpa using k5
 simp only[b5,cF,k5,if_false,Bool.and_false]
def φ9 (r:RecT):List UInt8:=
 if φe r=false then [] else
 if r.1=1∨r.1=4 then varT r.1++varT r.2.1++varT (r.2.2.1.length:Int)++r.2.2.1++varT (r.2.2.2.1.length:Int)++r.2.2.2.1
 else if r.1=2 then varT r.1++varT r.2.1++varT (r.2.2.1.length:Int)++r.2.2.1
 else varT r.1++varT r.2.1++varT r.2.2.2.2.1++fix4 r.2.2.2.2.2
theorem φ4Y (n:Int):(fix4 n).length≤4:=by
 unfold fix4;split
 ·rw[φBP];omega
 ·simp
theorem φ3P (r:RecT):(φ9 r).length≤60:=by
 obtain ⟨k,b,ky,v,c,s⟩:=r
 unfold φ9
 split
 ·simp
 rename_i h
 have h:φe (k,b,ky,v,c,s)=true:=by simpa using h
 have l1:=φm k
 have l2:=φm b
 have l3:=φm (ky.length:Int)
 have l4:=φm (v.length:Int)
 have l5:=φm c
 have l6:=φ4Y s
 unfold φe φ1c at h
 simp only[bA] at h
 have h:=h.2
 split
 ·rename_i c1
  simp only at c1
  simp only[c1,if_true,bA,decide_eq_true_eq] at h
  simp only[lA];omega
 ·rename_i c1
  simp only at c1
  split
  ·rename_i c2
   simp only at c2
   rw[if_neg c1,if_pos c2] at h
   simp only[bA,decide_eq_true_eq] at h
   simp only[lA];omega
  ·simp only[lA];omega
theorem φ1F {a b:Nat} (h:a+b≤1000000000000000):decide (a+b≤9223372036854775807)=true:=by
 rw[decide_eq_true_eq];omega
theorem φ6S (r:RecT):ψ31.f r=some (φ9 r):=by
 obtain ⟨k,b,ky,v,c,s⟩:=r
 unfold ψ31.f φ9
 rw[φMC,bS]
 rcases bE (φe (k,b,ky,v,c,s)) with h | h
 rotate_left
 ·simp[h]
 have hs:s<9223372036854775808∨k=1∨k=4∨k=2:=by
  unfold φe at h
  simp only[bA] at h
  have h:=h.2
  by_cases c1:k=1∨k=4
  ·omega
  by_cases c2:k=2
  ·omega
  rw[if_neg c1,if_neg c2] at h
  left
  split at h
  ·simp only[bA,decide_eq_true_eq] at h;omega
  ·split at h
   ·simp only[bA,decide_eq_true_eq] at h;omega
   ·simp at h
 have hlen:k=1∨k=4∨k=2→ky.length≤8∧v.length≤24:=by
  intro hk
  unfold φe φ1c at h
  simp only[bA] at h
  have h:=h.2
  by_cases c1:k=1∨k=4
  ·rw[if_pos c1] at h
   simp only[bA,decide_eq_true_eq] at h;omega
  by_cases c2:k=2
  ·rw[if_neg c1,if_pos c2] at h
   simp only[bA,decide_eq_true_eq,beq_iff_eq] at h
   rw[h.2.1];simp;omega
  ·omega
 have l1:=φm k
 have l2:=φm b
 have l3:=φm (ky.length:Int)
 have l4:=φm (v.length:Int)
 have l5:=φm c
 have l6:=φ4Y s
 simp only[h,nZ,cF,φ4s,bS,φ1F (show (varT k).length+(varT b).length≤1000000000000000 by omega),cT,κ7,if_false]
 have kk:(bif k==1 then some (((k,b,ky,v,c,s):RecT),varT k++varT b,k,k==1) else some ((k,b,ky,v,c,s),varT k++varT b,k,k==4))=some ((k,b,ky,v,c,s),varT k++varT b,k,decide (k=1∨k=4)):=by
  by_cases c1:k=1
  ·subst c1;rfl
  ·have b1:(k==1)=false:=by simpa using c1
   rw[b1,cF]
   by_cases c4:k=4
   ·subst c4;rfl
   ·have b4:(k==4)=false:=by simpa using c4
    rw[b4,decide_eq_false (by omega)]
 simp only[kk,bS]
 by_cases c1:k=1∨k=4
 ·have hl:=hlen (by omega)
  simp only[c1,dT,cT,if_true,
   φ1F (show (varT k++varT b).length+(varT (ky.length:Int)).length≤1000000000000000 by simp only[lA];omega),
   φ1F (show (varT k++varT b++varT (ky.length:Int)).length+ky.length≤1000000000000000 by simp only[lA];omega),
   φ1F (show (varT k++varT b++varT (ky.length:Int)++ky).length+(varT (v.length:Int)).length≤1000000000000000 by simp only[lA];omega),
   φ1F (show (varT k++varT b++varT (ky.length:Int)++ky++varT (v.length:Int)).length+v.length≤1000000000000000 by simp only[lA];omega)]
 by_cases c2:k=2
 ·have hl:=hlen (by omega)
  have b2:(k==2)=true:=by simpa using c2
  simp only[c1,b2,dF,cF,cT,if_false,
   φ1F (show (varT k++varT b).length+(varT (ky.length:Int)).length≤1000000000000000 by simp only[lA];omega),
   φ1F (show (varT k++varT b++varT (ky.length:Int)).length+ky.length≤1000000000000000 by simp only[lA];omega)]
  rw[if_pos c2]
 ·have b2:(k==2)=false:=by simpa using c2
  simp only[c1,c2,b2,dF,cF,if_false,
   φ1F (show (varT k++varT b).length+(varT c).length≤1000000000000000 by simp only[lA];omega),cT,
   φ9S s (by omega),bS,
   φ1F (show (varT k++varT b++varT c).length+(fix4 s).length≤1000000000000000 by simp only[lA];omega)]
theorem φ6l (s:List UInt8) (h:s.length<2 ^ 62):ψ1l.f s=some (varT (s.length:Int)++s):=by
 have l:=φm (s.length:Int)
 unfold ψ1l.f
 have c:(varT (s.length:Int)).length+s.length≤9223372036854775807:=by omega
 simp only[φAH,bS,c,dT,cT]
theorem φMd (l:List Int):∀n (acc:List UInt8),n≤l.length→acc.length≤7 * n→l.length<1000000000000→lp ψ1p.l0 (acc,l,(l.length:Int),(n:Int))=some (acc++((l.drop n).map varT).flatten):=by
 intro n acc hn ha hl
 have:=φd (step:=ψ1p.l0) (fun n (acc:List UInt8)=>(acc,l,(l.length:Int),(n:Int))) l.length (fun n acc=>acc++((l.drop n).map varT).flatten) (fun n acc=>acc.length≤7 * n)
  (fun rec n acc hn ha ih=>by
   rcases κ2 n l.length with h | h
   ·have hv:=φm l[n]
    have hb:acc.length+(varT l[n]).length≤9223372036854775807:=by omega
    have ih:=ih (acc++varT l[n]) h (by rw[lA];omega)
    simp only[ψ1p.l0,oL,h,dT,cT,φD,φI,φ8 h,φAH,bS,hb,φL (show n+1<9223372036854775808 by omega),ih]
    rw[dG h,κ8,κd,aA]
   ·have:n=l.length:=by omega
    subst this
    simp[ψ1p.l0])
  (by omega) n acc hn ha
 exact this
theorem φ6d (l:List Int) (hl:l.length<1000000000000):ψ1p.f l=some (l.map varT).flatten:=by
 unfold ψ1p.f
 have:=φMd l 0 [] (κ4 _) (by simp) hl
 have this:lp ψ1p.l0 ([],l,(l.length:Int),0)=_:=this
 rw[this];simp
theorem φDs (r:RecT):ψw.f r=some (φ9 r):=by
 obtain ⟨k,b,ky,v,c,s⟩:=r
 unfold ψw.f φ9
 rw[φ6w,bS]
 rcases bE (φe (k,b,ky,v,c,s)) with h | h
 rotate_left
 ·simp[h]
 have hlen:k=1∨k=4∨k=2→ky.length≤8∧v.length≤24:=by
  intro hk
  unfold φe φ1c at h
  simp only[bA] at h
  have h:=h.2
  by_cases c1:k=1∨k=4
  ·rw[if_pos c1] at h
   simp only[bA,decide_eq_true_eq] at h;omega
  by_cases c2:k=2
  ·rw[if_neg c1,if_pos c2] at h
   simp only[bA,decide_eq_true_eq,beq_iff_eq] at h
   rw[h.2.1];simp;omega
  ·omega
 have l1:=φm k
 have l2:=φm b
 have l3:=φm (ky.length:Int)
 have l4:=φm (v.length:Int)
 have l5:=φm c
 have l6:=φ4Y s
 have hv:ψ1p.f [k,b]=some (varT k++varT b):=by rw[φ6d [k,b] (by show 2<1000000000000;decide)];simp
 simp only[h,nZ,cF,hv,bS,κ7,if_false]
 have kk:(bif k==1 then some (((k,b,ky,v,c,s):RecT),varT k++varT b,k,k==1) else some ((k,b,ky,v,c,s),varT k++varT b,k,k==4))=some ((k,b,ky,v,c,s),varT k++varT b,k,decide (k=1∨k=4)):=by
  by_cases c1:k=1
  ·subst c1;rfl
  ·have b1:(k==1)=false:=by simpa using c1
   rw[b1,cF]
   by_cases c4:k=4
   ·subst c4;rfl
   ·have b4:(k==4)=false:=by simpa using c4
    rw[b4,decide_eq_false (by omega)]
 simp only[kk,bS]
 by_cases c1:k=1∨k=4
 ·have hl:=hlen (by omega)
  simp only[c1,dT,cT,if_true,φ6l ky (by omega),φ6l v (by omega),bS,
   φ1F (show (varT k++varT b).length+(varT (ky.length:Int)++ky).length≤1000000000000000 by simp only[lA];omega),
   φ1F (show (varT k++varT b++(varT (ky.length:Int)++ky)).length+(varT (v.length:Int)++v).length≤1000000000000000 by simp only[lA];omega)]
  simp only[aA]
 by_cases c2:k=2
 ·have hl:=hlen (by omega)
  have b2:(k==2)=true:=by simpa using c2
  simp only[c1,b2,dF,cF,cT,if_false,φ6l ky (by omega),bS,
   φ1F (show (varT k++varT b).length+(varT (ky.length:Int)++ky).length≤1000000000000000 by simp only[lA];omega)]
  rw[if_pos c2]
  simp only[aA]
 ·have b2:(k==2)=false:=by simpa using c2
  simp only[c1,c2,b2,dF,cF,if_false,φAH,bS,
   φ1F (show (varT k++varT b).length+(varT c).length≤1000000000000000 by simp only[lA];omega),cT,
   φAY s,bS,
   φ1F (show (varT k++varT b++varT c).length+(fix4 s).length≤1000000000000000 by simp only[lA];omega)]
def frame (s:List UInt8):List UInt8:=
 if 200<s.length then [] else fix4 (crcT (varT (s.length:Int)++s))++(varT (s.length:Int)++s)
theorem φ57 (s:List UInt8):(frame s).length≤211:=by
 unfold frame
 split
 ·simp
 ·have l1:=φm (s.length:Int)
  have l2:=φ4Y (crcT (varT (s.length:Int)++s))
  simp only[lA];omega
theorem φ6s (s:List UInt8) (h:s.length<2 ^ 62):ψ2T.f s=some (frame s):=by
 unfold ψ2T.f frame
 by_cases c:200<s.length
 ·have c1:(s.length:Int) > 200:=by omega
  simp[c,c1]
 have c1:¬(s.length:Int) > 200:=by omega
 have l1:=φm (s.length:Int)
 have l2:=φ4Y (crcT (varT (s.length:Int)++s))
 have r:=φ5A (varT (s.length:Int)++s)
 simp only[c,c1,dF,cF,if_false,φ4s,bS,φ1F (show (varT (s.length:Int)).length+s.length≤1000000000000000 by omega),cT,
  φAd (varT (s.length:Int)++s) (by rw[lA];omega),φ9S _ (show crcT (varT (s.length:Int)++s)<9223372036854775808 by omega),
  φ1F (show (fix4 (crcT (varT (s.length:Int)++s))).length+(varT (s.length:Int)++s).length≤1000000000000000 by simp only[lA];omega)]
theorem φ9h (s:List UInt8) (h:s.length<2 ^ 62):ψO.f s=some (frame s):=by
 unfold ψO.f frame
 by_cases c:200<s.length
 ·have c1:(s.length:Int) > 200:=by omega
  simp[c,c1]
 have c1:¬(s.length:Int) > 200:=by omega
 have l1:=φm (s.length:Int)
 have l2:=φ4Y (crcT (varT (s.length:Int)++s))
 have r:=φ5A (varT (s.length:Int)++s)
 simp only[c,c1,dF,cF,if_false,φ6l s (by omega),bS,cT,
  φ9V (varT (s.length:Int)++s) (by rw[lA];omega),φAY,
  φ1F (show (fix4 (crcT (varT (s.length:Int)++s))).length+(varT (s.length:Int)++s).length≤1000000000000000 by simp only[lA];omega)]
def φ3K (l:List RecT):List UInt8:=(l.map φ9).flatten
def φ1L (l:List RecT):Int:=crcT (φ3K l)
theorem φ7W:∀(l:List RecT),(φ3K l).length≤60 * l.length
 | []=>by simp[φ3K]
 | r::l=>by
  have h1:=φ7W l
  have h2:=φ3P r
  unfold φ3K at *
  rw[κ8,κd,lA,lC];omega
theorem φCX (l:List RecT) (r:RecT):φ3K (l++[r])=φ3K l++φ9 r:=by
 unfold φ3K;simp
theorem φ8a (l:List RecT) (hl:l.length<1000000000000):ψ33.f l=some (φ1L l):=by
 have hk:=φd (step:=ψ33.l0) (fun n (_:Unit)=>(l,φ3K (l.take n),(n:Int))) l.length (fun _ _=>φ3K l) (fun _ _=>True)
  (fun rec n s hn _ ih=>by
   rcases κ2 n l.length with h | h
   ·have h1:=φ7W (l.take n)
    have h2:=φ3P l[n]
    rw[lT] at h1
    have ih:=ih () h trivial
    rw[κ3 h,φCX] at ih
    simp only[ψ33.l0,oL,h,dT,cT,φD,φI,φ8 h,φ2S,φ6S,bS,φ1F (show (φ3K (l.take n)).length+(φ9 l[n]).length≤1000000000000000 by omega),φL (show n+1<9223372036854775808 by omega),ih]
   ·have:n=l.length:=by omega
    subst this
    simp[ψ33.l0])
  (by omega) 0 () (κ4 _) trivial
 have hk:lp ψ33.l0 (l,[],0)=_:=hk
 have hl2:=φ7W l
 unfold ψ33.f φ1L
 rw[hk,bS,φAd _ (by omega),bS]
theorem φGQ (l:List RecT) (hl:l.length<1000000000000):ψ13.f l=some (φ1L l):=by
 have hk:=φd (step:=ψ13.l0) (fun n (_:Unit)=>(φ3K (l.take n),l,(l.length:Int),(n:Int))) l.length (fun _ _=>φ3K l) (fun _ _=>True)
  (fun rec n s hn _ ih=>by
   rcases κ2 n l.length with h | h
   ·have h1:=φ7W (l.take n)
    have h2:=φ3P l[n]
    rw[lT] at h1
    have ih:=ih () h trivial
    rw[κ3 h,φCX] at ih
    simp only[ψ13.l0,oL,h,dT,cT,φD,φI,φ8 h,φ2S,φDs,bS,φ1F (show (φ3K (l.take n)).length+(φ9 l[n]).length≤1000000000000000 by omega),φL (show n+1<9223372036854775808 by omega),ih]
   ·have:n=l.length:=by omega
    subst this
    simp[ψ13.l0])
  (by omega) 0 () (κ4 _) trivial
 have hk:lp ψ13.l0 ([],l,(l.length:Int),0)=_:=hk
 have hl2:=φ7W l
 unfold ψ13.f φ1L
 rw[hk,bS,φ9V _ (by omega),bS]
theorem φCc {a:Nat} (h:a<1000000000001):(a+1) * 64≤140737488355328:=by omega
def φS (p:φ1C):RecT:=(4,p.2.2,p.1,p.2.1,0,0)
def φLJ (r:RecT):Nat:=(frame (φ9 r)).length
def φEm (l:List RecT):Nat:=sumN φLJ l
theorem φEM {α:Type} (f:α→Nat):∀(l:List α) (x:α),sumN f (l++[x])=sumN f l+f x
 | [],x=>by simp[sumN]
 | y::l,x=>by
  have:=φEM f l x
  simp only[κG,sumN,this];omega
def φc (l:List φ1C) (mark:Int):List RecT:=l.map φS++[(5,mark,[],[],(l.length:Int),φ1L (l.map φS))]
theorem φMH (l:List φ1C) (n:Nat) (h:n<l.length):(l.take (n+1)).map φS=(l.take n).map φS++[φS l[n]]:=by
 rw[κ3 h,mp];rfl
theorem φJS (l:List φ1C) (mark:Int) (hl:l.length<1000000000):ψ1S.f l mark=some (φc l mark):=by
 have hk:=φd (step:=ψ1S.l0) (fun n (_:Unit)=>(l,mark,(l.take n).map φS,l,(l.length:Int),(n:Int))) l.length (fun _ _=>(l,mark,l.map φS)) (fun _ _=>True)
  (fun rec n s hn _ ih=>by
   rcases κ2 n l.length with h | h
   ·have ih:=ih () h trivial
    rw[φMH l n h] at ih
    have hb:(((l.take n).map φS).length+([φS l[n]]:List RecT).length) * 64≤140737488355328:=by
     rw[lM,lT];exact φCc (by omega)
    have hb2:(((l.take n).map φS).length+([(4,l[n].2.2,l[n].1,l[n].2.1,0,0)]:List RecT).length) * 64≤140737488355328:=hb
    have hkp:((4,l[n].2.2,l[n].1,l[n].2.1,0,0):RecT)=φS l[n]:=rfl
    simp only[ψ1S.l0,oL,h,dT,cT,φD,φI,φ8 h,hkp,φL (show n+1<9223372036854775808 by omega),ih]
    exact congrArg (fun b=>bif b then some (l,mark,l.map φS) else none) (decide_eq_true hb2)
   ·have:n=l.length:=by omega
    subst this
    simp[ψ1S.l0])
  (by omega) 0 () (κ4 _) trivial
 have hk:lp ψ1S.l0 (l,mark,[],l,(l.length:Int),0)=_:=hk
 unfold ψ1S.f φc
 rw[hk,bS]
 have hb:((l.map φS).length+([((5,mark,[],[],(l.length:Int),φ1L (l.map φS)):RecT)]:List RecT).length) * 64≤140737488355328:=by
  rw[lM];exact φCc (by omega)
 simp only[φGQ (l.map φS) (by rw[lM];omega),bS,hb,dT,cT]
abbrev CurT:=List Int×Int×Int
def Cur (c:CurT):Prop:=0≤c.2.1∧c.1.length<2 ^ 60
theorem φ8l (x:Int):0≤bits (fun _ a b=>a &&& b) .i64 x 255∧bits (fun _ a b=>a &&& b) .i64 x 255≤255:=by
 have e:bits (fun _ a b=>a &&& b) .i64 x 255=IntKind.wrap .i64 ((BitVec.ofInt 64 x &&& BitVec.ofInt 64 255).toNat:Int):=rfl
 have h:(BitVec.ofInt 64 x &&& BitVec.ofInt 64 255).toNat≤255:=by
  rw[BitVec.toNat_and]
  exact Nat.le_trans Nat.and_le_right (by decide)
 rw[e,φBg (by omega)]
 omega
theorem φ5i {c:CurT} (h:Cur c):∃x c',ψ3d.f c=some (x,c')∧0≤x∧x≤255∧Cur c':=by
 obtain ⟨l,i,s⟩:=c
 obtain ⟨h1,h2⟩:=h
 simp only at h1 h2
 unfold ψ3d.f
 simp only
 generalize bits (fun _ a b=>a ^^^ b) .i64 _ _=y
 by_cases c:i<(l.length:Int)
 ·obtain ⟨j,rfl⟩:∃j:Nat,i=(j:Int):=⟨i.toNat,by omega⟩
  have c2:j<l.length:=by omega
  simp only[c,dT,cT,φD,c2]
  refine ⟨_,_,rfl,(φ8l _).1,(φ8l _).2,?_,h2⟩
  show 0≤w64 _
  rw[φG (by omega) (by omega)];omega
 ·simp only[c,dF,cF]
  exact ⟨_,_,rfl,(φ8l _).1,(φ8l _).2,h1,h2⟩
theorem φDZ {x n:Int} (hx:0≤x) (hn:0<n):0≤Int.tmod x n∧Int.tmod x n<n:=by
 exact ⟨Int.tmod_nonneg n hx,Int.tmod_lt_of_pos x hn⟩
theorem φ3t {c:CurT} (h:Cur c) (n:Int):∃x c',ψ3c.f c n=some (x,c')∧0≤x∧(0<n→x<n)∧(n≤0→x=0)∧Cur c':=by
 unfold ψ3c.f
 by_cases c0:n≤0
 ·simp only[c0,dT,cT]
  exact ⟨0,c,rfl,κT _,fun h=>by omega,fun _=>rfl,h⟩
 have hn:(n != 0)=true:=by simp;omega
 by_cases c1:n≤256
 ·obtain ⟨x,c',e,h1,h2,h3⟩:=φ5i h
  simp only[c0,c1,dT,dF,cT,cF,e,bS,hn]
  have:=φDZ h1 (show 0<n by omega)
  exact ⟨_,_,rfl,this.1,fun _=>this.2,fun h=>h.elim,h3⟩
 ·obtain ⟨x,c1',e1,a1,b1,h1⟩:=φ5i h
  obtain ⟨y,c2',e2,a2,b2,h2⟩:=φ5i h1
  obtain ⟨z,c3',e3,a3,b3,h3⟩:=φ5i h2
  obtain ⟨w,c4',e4,a4,b4,h4⟩:=φ5i h3
  simp only[c0,c1,dF,cF,e1,e2,e3,e4,bS,hn,cT]
  rw[φG (n:=x * 16777216) (by omega) (by omega),φG (n:=y * 65536) (by omega) (by omega),φG (n:=z * 256) (by omega) (by omega),φG (n:=x * 16777216+y * 65536) (by omega) (by omega),φG (n:=x * 16777216+y * 65536+z * 256) (by omega) (by omega),φG (n:=x * 16777216+y * 65536+z * 256+w) (by omega) (by omega)]
  have:=φDZ (x:=x * 16777216+y * 65536+z * 256+w) (n:=n) (by omega) (by omega)
  exact ⟨_,_,rfl,this.1,fun _=>this.2,fun h=>h.elim,h4⟩
theorem φCy {c:CurT} (h:Cur c) (n:Int):∃b c',ψ3g.f c n=some (b,c')∧Cur c':=by
 obtain ⟨x,c',e,_,_,_,h'⟩:=φ3t h n
 unfold ψ3g.f
 simp only[e,bS]
 exact ⟨_,_,rfl,h'⟩
theorem φCB {c:CurT} (h:Cur c) (l:List (List UInt8)) (hl:0<l.length):∃x c',ψ3h.f c l=some (x,c')∧x∈l∧Cur c':=by
 obtain ⟨x,c',e,h1,h2,_,h'⟩:=φ3t h (l.length:Int)
 have h2:=h2 (by omega)
 unfold ψ3h.f
 simp only[e,bS]
 obtain ⟨j,rfl⟩:∃j:Nat,x=(j:Int):=⟨x.toNat,by omega⟩
 have c2:j<l.length:=by omega
 simp only[φD,c2,dT,cT,φI,φ8 c2]
 exact ⟨_,_,rfl,gM c2,h'⟩
def φDU:List (List UInt8):=[[97],[98],[99],[107,101,121],[108,111,110,103,110,97,109,101]]
theorem φAP {c:CurT} (h:Cur c):∃x c',ψ3q.f c=some (x,c')∧φ1c x=true∧Cur c':=by
 obtain ⟨x,c',e,hm,h'⟩:=φCB h φDU (by decide)
 unfold ψ3q.f
 have e:ψ3h.f c [[97],[98],[99],[107,101,121],[108,111,110,103,110,97,109,101]]=some (x,c'):=e
 simp only[e,bS]
 refine ⟨_,_,rfl,?_,h'⟩
 have:∀y∈φDU,φ1c y=true:=by decide
 exact this x hm
theorem φBz {A B σ:Type} {step:(A→Option B)→A→Option B} (st:Nat→σ→A) (Inv:Nat→σ→Prop) (Post:B→Prop)
  (hz:∀rec s,Inv 0 s→∃b,step rec (st 0 s)=some b∧Post b)
  (hs:∀rec n s,Inv (n+1) s→∃s',Inv n s'∧step rec (st (n+1) s)=rec (st n s')) (n:Nat) (s:σ) (hi:Inv n s) (hn:n<2 ^ 62):∃b,lp step (st n s)=some b∧Post b:=by
 have key:∀n f s,Inv n s→n<f→∃b,φ2k step f (st n s)=some b∧Post b:=by
  intro n
  induction n with
  | zero=>
   intro f s hi hf
   obtain ⟨f,rfl⟩:∃g,f=g+1:=⟨f - 1,by omega⟩
   exact hz _ s hi
  | succ n ih=>
   intro f s hi hf
   obtain ⟨f,rfl⟩:∃g,f=g+1:=⟨f - 1,by omega⟩
   obtain ⟨s',hi',e⟩:=hs (φ2k step f) n s hi
   show ∃b,step (φ2k step f) (st (n+1) s)=some b∧Post b
   rw[e]
   exact ih f s' hi' (by omega)
 exact key n FUEL s hi (κE hn φ7R)
theorem φ5a {A B:Type} {step:(A→Option B)→A→Option B} (P:A→Prop) (m:A→Nat) (Post:B→Prop)
  (h:∀rec a,P a→(∃b,step rec a=some b∧Post b)∨∃a',P a'∧m a'<m a∧step rec a=rec a') {a:A} (hp:P a) (hm:m a<2 ^ 62):∃b,lp step a=some b∧Post b:=by
 have key:∀f a,P a→m a<f→∃b,φ2k step f a=some b∧Post b:=by
  intro f
  induction f with
  | zero=>intro a _ hf;omega
  | succ f ih=>
   intro a hp hf
   rcases h (φ2k step f) a hp with hx | ⟨a',hp',hlt,e⟩
   ·exact hx
   ·show ∃b,step (φ2k step f) a=some b∧Post b
    rw[e]
    exact ih a' hp' (by omega)
 exact key FUEL a hp (κE hm φ7R)
theorem φKB {c:CurT} (h:Cur c) (most:Int) (h0:0≤most) (h1:most<1000000000):∃x c',ψ3j.f c most=some (x,c')∧(x.length:Int)≤most∧Cur c':=by
 obtain ⟨st,c1,e1,_,_,_,hc1⟩:=φ3t h 4
 obtain ⟨n,c2,e2,a2,b2,_,hc2⟩:=φ3t hc1 (most+1)
 have b2:=b2 (by omega)
 obtain ⟨m,rfl⟩:∃m:Nat,n=(m:Int):=⟨n.toNat,by omega⟩
 have key:=φBz (step:=ψ3j.l0) (fun k (s:CurT×List Int)=>(s.1,s.2,st,(k:Int))) (fun k s=>Cur s.1∧s.2.length+k=m) (fun b=>Cur b.1∧b.2.length=m)
  (fun rec s hi=>⟨_,by simp[ψ3j.l0],hi.1,by simpa using hi.2⟩)
  (fun rec k s hi=>by
   obtain ⟨hi1,hi2⟩:=hi
   obtain ⟨x,c',e,_,_,h'⟩:=φ5i hi1
   have e0:((k+1:Nat):Int) > 0:=by omega
   have hw:w64 (((k+1:Nat):Int) - 1)=(k:Int):=by rw[φG (by omega) (by omega)];omega
   have hb:∀v:Int,(s.2.length+[v].length) * 1≤140737488355328:=fun v=>by show (s.2.length+1) * 1≤_;omega
   cases d1:(st==1)<;>cases d2:(st==2)<;>simp only[ψ3j.l0,e0,dT,cT,cF,e,bS,d1,d2,hb,hw]
   all_goals exact ⟨(c',s.2++[_]),⟨h',by simp only[lA,κ5];omega⟩,rfl⟩)
  m (c2,[]) ⟨hc2,by simp⟩ (by omega)
 obtain ⟨⟨c3,xs⟩,e3,hc3,hl⟩:=key
 have e3:lp ψ3j.l0 (c2,[],st,(m:Int))=some (c3,xs):=e3
 unfold ψ3j.f
 rw[e1,bS]
 simp only[φG (n:=most+1) (by omega) (by omega),e2,bS,e3]
 refine ⟨_,_,rfl,?_,hc3⟩
 unfold φ1M
 simp only at hl
 rw[lM,hl];omega
theorem φHv (l:List Int) (hl:l.length<2 ^ 60):∃c,ψ3f.f l=some c∧Cur c:=by
 have key:∃s,lp ψ3f.l0 (l,w64 (10101+(l.length:Int)),0)=some (l,s):=by
  have:=φ5a (step:=ψ3f.l0) (a:=(l,w64 (10101+(l.length:Int)),((0:Nat):Int))) (fun a=>a.1=l∧∃n:Nat,a.2.2=(n:Int)∧n≤l.length) (fun a=>l.length - a.2.2.toNat) (fun b=>b.1=l)
   (fun rec a ha=>by
    obtain ⟨x,s,i⟩:=a
    obtain ⟨hx,n,hn,hle⟩:=ha
    simp only at hx hn
    subst hx hn
    by_cases c:n<x.length
    ·by_cases c2:(n:Int)<4000
     ·right
      have c3:(n:Int)<(x.length:Int):=by omega
      refine ⟨(x,bits (fun _ a b=>a &&& b) .i64 (w64 ((w64 ((w64 (s * 131))+(w64 (x.getD n 0))))+7)) 1073741823,((n+1:Nat):Int)),⟨rfl,n+1,rfl,c⟩,by simp only[tN];omega,?_⟩
      simp only[ψ3f.l0,c3,c2,dT,cT,φD,c,φI,φL (show n+1<9223372036854775808 by omega)]
     ·left
      have c3:(n:Int)<(x.length:Int):=by omega
      exact ⟨(x,s),by simp only[ψ3f.l0,c3,c2,dT,dF,cT,cF],rfl⟩
    ·left
     have c3:¬(n:Int)<(x.length:Int):=by omega
     exact ⟨(x,s),by simp only[ψ3f.l0,c3,dF,cF],rfl⟩)
   ⟨rfl,0,rfl,κ4 _⟩ (by simp only;omega)
  obtain ⟨⟨b1,b2⟩,e,hb⟩:=this
  simp only at hb
  subst hb
  exact ⟨b2,e⟩
 obtain ⟨s,e⟩:=key
 unfold ψ3f.f
 simp only[e,bS]
 exact ⟨_,rfl,κT _,hl⟩
abbrev φD3:=List UInt8×Int
def φ6F (t:TxnT) (key:List UInt8) (b:Int):TxnT×Int:=
 if t.1=false∨φ1c key=false then (t,4) else
 match t.2.1.find? (fun r=>r.1==key) with
 | some r=>if r.2=b then (t,0) else (t,7)
 | none=>if 20≤t.2.1.length then (t,5) else ((t.1,t.2.1++[(key,b)],t.2.2),0)
theorem φES {a:Nat} (h:a<1000000000001):(a+1) * 24≤140737488355328:=by omega
theorem φIA (t:TxnT) (key:List UInt8) (b:Int) (h1:t.2.1.length<1000000000) (h2:t.2.2.length<1000000000):ψ36.f t key b=some (φ6F t key b):=by
 unfold ψ36.f φ6F
 rw[φBU t (by omega) (by omega),bS]
 rcases bE t.1 with k | k
 rotate_left
 ·simp[k]
 simp only[k,nZ,cF,φ7J,bS]
 rcases bE (φ1c key) with k2 | k2
 rotate_left
 ·simp[k2]
 have key':=φ9R (step:=ψ36.l0) t.2.1 (fun r=>r.1==key) (fun r=>(t,if r.2=b then (0:Int) else 7)) (fun n=>(key,b,t,((false,[],[]):TxnT),t,(n:Int))) (key,b,t,(false,[],[]),t) (by omega)
  (fun rec n h=>by
   simp only[ψ36.l0,oL,h,dT,cT,φD,φI,φ8 h,φL (show n+1<9223372036854775808 by omega)]
   rcases bE (t.2.1[n].1==key) with c | c
   ·by_cases c2:t.2.1[n].2=b
    ·have c3:(t.2.1[n].2 != b)=false:=by simpa using c2
     simp only[c,c3,cT,cF,if_true]
     rw[if_pos c2]
    ·have c3:(t.2.1[n].2 != b)=true:=by simpa using c2
     simp only[c,c2,c3,cT,if_true,if_false]
   ·simp only[c,cF,κ0,if_false])
  (fun rec=>by simp[ψ36.l0])
 have key':lp ψ36.l0 (key,b,t,(false,[],[]),t,0)=_:=key'
 simp only[k2,nZ,cF,key',bS,κ7,or_self,if_false]
 cases t.2.1.find? (fun r=>r.1==key) with
 | some r=>
  simp only[φZ]
  split<;>rfl
 | none=>
  simp only[φT]
  by_cases c:20≤t.2.1.length
  ·have c2:(t.2.1.length:Int)≥20:=by omega
   simp only[c,c2,dT,cT,if_true]
  ·have c2:¬(t.2.1.length:Int)≥20:=by omega
   have hb:(t.2.1.length+([(key,b)]:List φD3).length) * 24≤140737488355328:=φES (by omega)
   have hb:decide ((t.2.1.length+([(key,b)]:List φD3).length) * 24≤140737488355328)=true:=decide_eq_true hb
   simp only[c,c2,dF,cF,if_false,hb,cT,k]
theorem φKn {k:Nat} (hk:k<2 ^ 60):w64 (((k+1:Nat):Int) - 1)=(k:Int):=by rw[φG (by omega) (by omega)];omega
theorem φIg (l:List Int):ψ29.f l=some (decide ((l.length:Int) > 1048576)):=rfl
def srt {α:Type} (l:List (List UInt8×α)):Prop:=l.Pairwise (fun a b=>Op.bytesLess a.1 b.1=true)
theorem φ5u {α:Type} (x:List UInt8×α) (l:List (List UInt8×α)) (p:List UInt8×α):insB (x::l) p=if leK x.1 p.1=true then x::insB l p else p::x::l:=by
 cases h:leK x.1 p.1<;>simp[insB,h]
theorem φ3j {α:Type} (y p:List UInt8×α):∀l:List (List UInt8×α),y∈insB l p↔y=p∨y∈l
 | []=>by simp[insB]
 | x::l=>by
  rw[φ5u]
  split
  ·rw[mc,φ3j y p l,mc]
   constructor
   ·rintro (h | h | h)
    ·exact .inr (.inl h)
    ·exact .inl h
    ·exact .inr (.inr h)
   ·rintro (h | h | h)
    ·exact .inr (.inl h)
    ·exact .inl h
    ·exact .inr (.inr h)
  ·rw[mc]
theorem φ9j {α:Type} (p:List UInt8×α):∀l:List (List UInt8×α),srt l→(∀x∈l,x.1≠p.1)→srt (insB l p)
 | [],_,_=>by simp[insB,srt]
 | x::l,h,hn=>by
  have h:=κZ.1 h
  rw[φ5u]
  split
  ·rename_i c
   refine List.Pairwise.cons (fun y hy=>?_) (φ9j p l h.2 fun y hy=>hn y (mC _ hy))
   rcases (φ3j y p l).1 hy with e | hy
   ·rw[e]
    unfold leK at c
    rcases κY _ _ ▸ c with c | c
    ·exact c
    ·exact absurd (by simpa using c) (hn x κ1)
   ·exact h.1 y hy
  ·rename_i c
   have c2:Op.bytesLess p.1 x.1=true:=by
    rw[φ8L] at c
    simpa using c
   refine List.Pairwise.cons (fun y hy=>?_) (List.Pairwise.cons h.1 h.2)
   rcases mc.1 hy with e | hy
   ·rw[e];exact c2
   ·exact φ7T _ _ _ c2 (h.1 y hy)
theorem φDI {α:Type} {l:List (List UInt8×α)} (h:srt l) (k:List UInt8):srt (φp l k):=h.sublist List.filter_sublist
theorem φ7D {α:Type} (l:List (List UInt8×α)) (k:List UInt8) (y:List UInt8×α):y∈φp l k↔y∈l∧y.1≠k:=by
 unfold φp
 rw[List.mem_filter]
 simp
abbrev φN:=Int×List Int
def φ1a (hi:Int):Option Int→List Int→Bool
 | _,[]=>true
 | p,x::r=>decide (1≤x∧x≤hi) && ((match p with | none=>true | some q=>decide (q<x)) && φ1a hi (some x) r)
def φ7N (l:List Int):Nat→Option Int
 | 0=>none
 | n+1=>some (l.getD n 0)
theorem φ8s (l:List Int) (n:Nat) (h:n<l.length):φ7N l (n+1)=some l[n]:=by
 show some (l.getD n 0)=_
 rw[φ8 h]
def φq (v:φN):Bool:=φ1a (w64 (v.1 - 1)) none v.2 && (decide (1≤v.1∧v.1≤100000) && decide (1≤(v.2.length:Int)∧(v.2.length:Int)≤60))
theorem φM4 (v:φN) (hl:v.2.length<2 ^ 62):lp ψW.l0 (v,v.2,(v.2.length:Int),0)=some (if φ1a (w64 (v.1 - 1)) none v.2=true then .inl v else .inr false):=by
 have key:=φd (step:=ψW.l0) (fun n (_:Unit)=>(v,v.2,(v.2.length:Int),(n:Int))) v.2.length (fun n _=>if φ1a (w64 (v.1 - 1)) (φ7N v.2 n) (v.2.drop n)=true then .inl v else .inr false) (fun _ _=>True)
  (fun rec n s hn' _ ih=>by
   rcases κ2 n v.2.length with h | h
   ·have hw:w64 ((n:Int)+1)=((n+1:Nat):Int):=φL (by omega)
    have ih2:=ih () h trivial
    rw[φ8s v.2 n h] at ih2
    rw[dG h]
    simp only[φ1a,ψW.l0,oL,h,dT,cT,φD,φI,φ8 h,bS,φ1q]
    rcases bE (decide (1≤v.2[n]∧v.2[n]≤w64 (v.1 - 1))) with k2 | k2
    rotate_left
    ·simp only[k2,nF,cT,bS,φZ];simp
    simp only[k2,nZ,cF,tA]
    cases n with
    | zero=>
     have z:¬((0:Nat):Int) > 0:=by omega
     simp only[z,dF,cF,bS,φT,hw,ih2,φ7N,tA]
    | succ m=>
     have z:((m+1:Nat):Int) > 0:=by omega
     have hm:m<v.2.length:=by omega
     have z2:w64 (((m+1:Nat):Int) - 1)=(m:Int):=by rw[φG (by omega) (by omega)];omega
     rw[φ8s v.2 m hm]
     simp only[z,dT,cT,z2,φD,hm,φI,φ8 hm]
     by_cases k3:v.2[m]<v.2[m+1]
     ·have k4:¬v.2[m]≥v.2[m+1]:=by omega
      simp only[k3,k4,dT,dF,cF,bS,φT,hw,ih2,tA]
     ·have k4:v.2[m]≥v.2[m+1]:=by omega
      simp[k3,k4]
   ·have:n=v.2.length:=by omega
    subst this
    simp[ψW.l0,φ1a])
  hl 0 () (κ4 _) trivial
 have key:lp ψW.l0 (v,v.2,(v.2.length:Int),0)=_:=key
 rw[key,κB];rfl
theorem φHj (v:φN) (hl:v.2.length<2 ^ 62):lp ψ2a.l0 (v,0)=some (if φ1a (w64 (v.1 - 1)) none v.2=true then .inl () else .inr false):=by
 have key:=φd (step:=ψ2a.l0) (fun n (_:Unit)=>(v,(n:Int))) v.2.length (fun n _=>if φ1a (w64 (v.1 - 1)) (φ7N v.2 n) (v.2.drop n)=true then .inl () else .inr false) (fun _ _=>True)
  (fun rec n s hn' _ ih=>by
   rcases κ2 n v.2.length with h | h
   ·have hw:w64 ((n:Int)+1)=((n+1:Nat):Int):=φL (by omega)
    have ih2:=ih () h trivial
    rw[φ8s v.2 n h] at ih2
    rw[dG h]
    simp only[φ1a,ψ2a.l0,oL,h,dT,cT,φD,φI,φ8 h,bS,φ1u]
    rcases bE (decide (1≤v.2[n]∧v.2[n]≤w64 (v.1 - 1))) with k2 | k2
    rotate_left
    ·simp only[k2,nF,cT,bS,φZ];simp
    simp only[k2,nZ,cF,tA]
    cases n with
    | zero=>
     have z:¬((0:Nat):Int) > 0:=by omega
     simp only[z,dF,cF,bS,φT,hw,ih2,φ7N,tA]
    | succ m=>
     have z:((m+1:Nat):Int) > 0:=by omega
     have hm:m<v.2.length:=by omega
     have z2:w64 (((m+1:Nat):Int) - 1)=(m:Int):=by rw[φG (by omega) (by omega)];omega
     rw[φ8s v.2 m hm]
     simp only[z,dT,cT,z2,φD,hm,φI,φ8 hm]
     by_cases k3:v.2[m]<v.2[m+1]
     ·have k4:¬v.2[m+1]≤v.2[m]:=by omega
      simp only[k3,k4,dT,dF,cF,bS,φT,hw,ih2,tA]
     ·have k4:v.2[m+1]≤v.2[m]:=by omega
      simp[k3,k4]
   ·have:n=v.2.length:=by omega
    subst this
    simp[ψ2a.l0,φ1a])
  hl 0 () (κ4 _) trivial
 have key:lp ψ2a.l0 (v,0)=_:=key
 rw[key,κB];rfl
theorem φ7e (v:φN) (hl:v.2.length<2 ^ 62):ψW.f v=some (φq v):=by
 unfold ψW.f φq
 rw[φM4 v hl,bS]
 rcases bE (φ1a (w64 (v.1 - 1)) none v.2) with k | k
 rotate_left
 ·simp[k]
 simp only[k,if_true,φT,φ1q,bS,tA]
 cases decide (1≤v.1∧v.1≤100000)<;>rfl
theorem φ8K (v:φN) (hl:v.2.length<2 ^ 62):ψ2a.f v=some (φq v):=by
 unfold ψ2a.f φq
 rw[φHj v hl]
 simp only[φ1u,bS]
 rcases bE (decide (1≤v.1∧v.1≤100000)) with k | k
 rotate_left
 ·simp only[k,nF,cT,κF,Bool.and_false]
 rcases bE (decide (1≤(v.2.length:Int)∧(v.2.length:Int)≤60)) with k2 | k2
 rotate_left
 ·simp only[k,k2,nF,nZ,cF,cT,Bool.and_false]
 simp only[k,k2,nZ,cF,κP]
 cases φ1a (w64 (v.1 - 1)) none v.2<;>simp
theorem φ5W {v:φN} (h:φq v=true):v.2.length≤60:=by
 unfold φq at h
 simp only[bA,decide_eq_true_eq] at h
 omega
theorem φBB:∀l:List Int,((l.map varT).flatten).length≤7 * l.length
 | []=>by simp
 | x::l=>by
  have h1:=φBB l
  have h2:=φm x
  rw[κ8,κd,lA,lC];omega
def φ10 (v:φN):List UInt8:=if φq v=false then [] else frame (varT v.1++varT (v.2.length:Int)++(v.2.map varT).flatten)
theorem φ9l (v:φN):(φ10 v).length≤211:=by
 unfold φ10;split
 ·simp
 ·exact φ57 _
theorem φIj (v:φN) (hl:v.2.length<2 ^ 62):ψv.f v=some (φ10 v):=by
 unfold ψv.f φ10
 rw[φ7e v hl,bS]
 rcases bE (φq v) with k | k
 rotate_left
 ·simp[k]
 have h60:=φ5W k
 have h1:=φBB v.2
 have h2:=φm v.1
 have h3:=φm (v.2.length:Int)
 have hv:ψ1p.f [v.1,(v.2.length:Int)]=some (varT v.1++varT (v.2.length:Int)):=by rw[φ6d [v.1,(v.2.length:Int)] (by show 2<1000000000000;decide)];simp
 simp only[k,nZ,cF,hv,bS,φ6d v.2 (by omega),φ1F (show (varT v.1++varT (v.2.length:Int)).length+((v.2.map varT).flatten).length≤1000000000000000 by rw[lA];omega),cT,φ9h _ (show (varT v.1++varT (v.2.length:Int)++(v.2.map varT).flatten).length<2 ^ 62 by rw[lA,lA];omega),κ7,if_false]
theorem φB4 (v:φN) (hl:v.2.length<2 ^ 62):ψ30.f v=some (φ10 v):=by
 unfold ψ30.f φ10
 rw[φ8K v hl,bS]
 rcases bE (φq v) with k | k
 rotate_left
 ·simp[k]
 have h60:=φ5W k
 have h1:=φBB v.2
 have h2:=φm v.1
 have h3:=φm (v.2.length:Int)
 have key:=φd (step:=ψ30.l0) (fun n (acc:List UInt8)=>(v,acc,(n:Int))) v.2.length (fun n acc=>acc++((v.2.drop n).map varT).flatten) (fun n acc=>acc.length≤14+7 * n)
  (fun rec n acc hn ha ih=>by
   rcases κ2 n v.2.length with h | h
   ·have hv:=φm v.2[n]
    have hb:acc.length+(varT v.2[n]).length≤9223372036854775807:=by omega
    have ih:=ih (acc++varT v.2[n]) h (by rw[lA];omega)
    simp only[ψ30.l0,oL,h,dT,cT,φD,φI,φ8 h,φ4s,bS,hb,φL (show n+1<9223372036854775808 by omega),ih]
    rw[dG h,κ8,κd,aA]
   ·have:n=v.2.length:=by omega
    subst this
    simp[ψ30.l0])
  (by omega) 0 (varT v.1++varT (v.2.length:Int)) (κ4 _) (by rw[lA];omega)
 have key:lp ψ30.l0 (v,varT v.1++varT (v.2.length:Int),0)=_:=key
 simp only[k,nZ,cF,φ4s,bS,φ1F (show (varT v.1).length+(varT (v.2.length:Int)).length≤1000000000000000 by omega),cT,key,κB,φ6s _ (show (varT v.1++varT (v.2.length:Int)++(v.2.map varT).flatten).length<2 ^ 62 by rw[lA,lA];omega),κ7,if_false]
def dl (k:Nat) (d:φ1):Prop:=d.1.length<k∧φQ d.1<k∧∀f∈d.1,f.1.length<k
theorem φ1B {k:Nat} {d:φ1} (h:dl k d) (hk:k≤1000000000):dlim d:=⟨by have:=h.1;omega,by have:=h.2.1;omega,fun f hf=>by have:=h.2.2 f hf;omega⟩
theorem φ34 {k m:Nat} {d:φ1} (h:dl k d) (hk:k≤m):dl m d:=⟨by have:=h.1;omega,by have:=h.2.1;omega,fun f hf=>by have:=h.2.2 f hf;omega⟩
theorem φ9O {k m:Nat} {d:φ1} {act:List φ6→Int×List φ6} (h:dl k d) (hm:k≤m) (ha:dl m ((act d.1).2,d.2)):dl m (φU d act).1:=by
 unfold φU
 split
 ·exact φ34 h hm
 ·split
  ·exact φ34 h hm
  ·exact ha
theorem φ7M {α:Type} (f:α→Nat) {a b:List α} (h:a.Sublist b):sumN f a≤sumN f b:=by
 induction h with
 | slnil=>exact κ9 _
 | cons x _ ih=>simp only[sumN];omega
 | cons_cons x _ ih=>simp only[sumN];omega
theorem φHK {k:Nat} {d:φ1} {l:List φ6} (h:dl k d) (hs:l.Sublist d.1):dl k (l,d.2):=
 ⟨Nat.lt_of_le_of_lt hs.length_le h.1,Nat.lt_of_le_of_lt (φ7M _ hs) h.2.1,fun f hf=>h.2.2 f (hs.subset hf)⟩
def φ26 (n:List UInt8) (d:φ1):φ1×Int:=φU d (φ2X n)
def φY (n:List UInt8) (d:φ1):φ1×Int:=φU d (φ2q n)
def φW (n t:List UInt8) (d:φ1):φ1×Int:=φU d (φ2e d.2.1 n t)
def φR (n:List UInt8) (d:φ1):φ1×Int:=φU d (φ2b n)
def φ36 (a b:List UInt8) (d:φ1):φ1×Int:=φU d (φ33 a b)
theorem φGe {k:Nat} {d:φ1} (h:dl k d) (n:List UInt8):dl k (φ26 n d).1:=
 φ9O h (κ9 _) (by
  unfold φ2X
  split
  ·exact φHK h (φ5L _ _)
  ·exact h)
theorem φKk {k m:Nat} {d:φ1} (h:dl k d) (f:φ6) (h1:k+1≤m) (h2:k+f.2.1.length≤m) (h3:f.1.length<m):dl m (insB d.1 f,d.2):=by
 refine ⟨?_,?_,fun g hg=>?_⟩
 ·show (insB d.1 f).length<m
  rw[φ8u];have:=h.1;omega
 ·show φQ (insB d.1 f)<m
  have e:φQ (insB d.1 f)=φQ d.1+f.2.1.length:=by
   unfold φQ
   generalize d.1=l
   induction l with
   | nil=>simp[insB,sumN]
   | cons x l ih=>
    rw[φ5u]
    split
    ·simp only[sumN,ih];omega
    ·simp only[sumN];omega
  rw[e];have:=h.2.1;omega
 ·rcases (φ3j g f d.1).1 hg with e | hg
  ·rw[e];exact h3
  ·have:=h.2.2 g hg;omega
theorem φ8C {k m:Nat} {d:φ1} (h:dl k d) (n:List UInt8) (h1:k+1≤m) (h3:n.length<m):dl m (φY n d).1:=
 φ9O h (by omega) (by
  unfold φ2q
  split
  ·exact φ34 h (by omega)
  split
  ·exact φ34 h (by omega)
  split
  ·exact φ34 h (by omega)
  ·exact φKk h _ h1 (by simp;omega) h3)
theorem φMt (l:List φ6) (i:Nat) (f:φ6) (k:Nat) (hi:i<l.length) (hf:f.2.1.length≤l[i].2.1.length+k):φQ (l.set i f)≤φQ l+k:=by
 unfold φQ
 induction l generalizing i with
 | nil=>simp at hi
 | cons x l ih=>
  cases i with
  | zero=>
   simp only[List.set_cons_zero,sumN]
   simp only[List.getElem_cons_zero] at hf
   omega
  | succ i=>
   simp only[List.set_cons_succ,sumN]
   have:=ih i (by simpa using hi) (by simpa using hf)
   omega
theorem φEV {k m c:Nat} {d:φ1} (h:dl k d) (i:Nat) (f:φ6) (hi:i<d.1.length) (hn:f.1=(d.1[i]).1) (hf:f.2.1.length≤d.1[i].2.1.length+c) (hm:k+c≤m):dl m (d.1.set i f,d.2):=by
 refine ⟨?_,?_,fun g hg=>?_⟩
 ·show (d.1.set i f).length<m
  rw[List.length_set];have:=h.1;omega
 ·show φQ (d.1.set i f)<m
  have:=φMt d.1 i f c hi hf
  have:=h.2.1;omega
 ·rcases List.mem_or_eq_of_mem_set hg with hg | e
  ·have:=h.2.2 g hg;omega
  ·rw[e,hn];have:=h.2.2 _ (gM hi);omega
theorem φ8k {k m:Nat} {d:φ1} (h:dl k d) (n t:List UInt8) (h1:k+t.length≤m):dl m (φW n t d).1:=
 φ9O h (by omega) (by
  unfold φ2e
  rcases φ12 d.1 n with ⟨e,_⟩ | ⟨i,hi,e,_⟩
  ·rw[φ1D e];exact φ34 h (by omega)
  ·rw[φ17 e]
   simp only
   split
   ·exact φ34 h (by omega)
   ·rw[φ8 hi]
    exact φEV h i _ hi rfl (by simp) h1)
theorem φCP {k:Nat} {d:φ1} (h:dl k d) (n:List UInt8):dl k (φR n d).1:=
 φ9O h (κ9 _) (by
  unfold φ2b
  rcases φ12 d.1 n with ⟨e,_⟩ | ⟨i,hi,e,_⟩
  ·rw[φ1D e];exact h
  ·rw[φ17 e]
   simp only
   rw[φ8 hi]
   exact φEV (c:=0) h i _ hi rfl (by simp) (κ9 _))
theorem φDt (l:List φ6) (n:List UInt8):(φ1l l n).Sublist l:=by
 unfold φ1l;split
 ·exact φ5L _ _
 ·exact List.Sublist.refl _
abbrev φE:=φ1×Int
def told (c:Int):Int:=if c=0 then 0 else if c=1 then 1 else if c=2 then 2 else 3
theorem φ1R (c:Int):told c=0↔c=0:=by
 unfold told;split
 ·simp[*]
 ·split
  ·simp[*]
  ·split
   ·simp[*]
   ·simp[*]
theorem φFM (c:Int):ψ1m.f c=some (told c):=by
 unfold ψ1m.f told
 by_cases h0:c=0
 ·simp[h0]
 ·by_cases h1:c=1
  ·simp[h1]
  ·by_cases h2:c=2
   ·simp[h2]
   ·have b0:(c==0)=false:=by simpa using h0
    have b1:(c==1)=false:=by simpa using h1
    have b2:(c==2)=false:=by simpa using h2
    rw[b0,b1,b2];simp[h0,h1,h2]
theorem φ2T (c:Int):ψ3E.f c=some (told c):=φFM c
def φK (op:φ1→φ1×Int) (w:φE):φE:=if w.2=0 then op w.1 else w
def φ1P (op:φ1→φ1×Int) (w:φE):φE:=if w.2=0 then ((op w.1).1,told (op w.1).2) else w
def φC (w:φE):φE:=(w.1,told w.2)
theorem φ35 (op:φ1→φ1×Int) (w:φE):φ1P op (φC w)=φC (φK op w):=by
 unfold φ1P φK φC
 by_cases h:w.2=0
 ·have h2:told w.2=0:=(φ1R _).2 h
  simp only[h2,if_true]
  rw[if_pos h]
 ·have h2:¬told w.2=0:=fun e=>h ((φ1R _).1 e)
  simp[h,h2]
def φH (n:List UInt8) (d:φ1):φ1×Int:=if φ1g d.1 n≥0 then φ26 n d else (d,0)
theorem φ9A {k:Nat} {d:φ1} (h:dl k d) (n:List UInt8):dl k (φH n d).1:=by
 unfold φH;split
 ·exact φGe h n
 ·exact h
theorem φ61 {k m:Nat} {w:φE} {op:φ1→φ1×Int} (h:dl k w.1) (hm:k≤m) (ho:dl m (op w.1).1):dl m (φK op w).1:=by
 unfold φK;split
 ·exact ho
 ·exact φ34 h hm
theorem φ5U {k m:Nat} {w:φE} {op:φ1→φ1×Int} (h:dl k w.1) (hm:k≤m) (ho:dl m (op w.1).1):dl m (φ1P op w).1:=by
 unfold φ1P;split
 ·exact ho
 ·exact φ34 h hm
theorem φ6Q (w:φE) (d:φ1) (c:Int):ψ24.f w d c=some (d,told c):=by
 unfold ψ24.f;rw[φFM];rfl
theorem φ5f (w:φE) (n:List UInt8) {k:Nat} (h:dl k w.1) (hk:k≤1000000000):ψ1w.f w n=some (φ1P (φH n) w):=by
 have hd:=φ1B h hk
 unfold ψ1w.f φ1P φH
 by_cases c:w.2=0
 ·have c1:(w.2==0)=true:=by simpa using c
  simp only[c1,cT,φ4Z w.1 n (by have:=hd.1;omega),bS,φLX w.1 n hd,φ6Q]
  by_cases c2:φ1g w.1.1 n≥0
  ·simp only[c2,dT,cT,c,if_true];rfl
  ·simp only[c2,dF,cF,c,if_true,if_false]
   congr 1
   show w=(w.1,told 0)
   rw[show told 0=w.2 by rw[c];rfl]
 ·have c1:(w.2==0)=false:=by simpa using c
  simp[c,c1]
theorem φB0 (w:φE) (n:List UInt8) {k:Nat} (h:dl k w.1) (hk:k≤1000000000) (hn:n.length<2 ^ 62):ψ1s.f w n=some (φ1P (φY n) w):=by
 have hd:=φ1B h hk
 unfold ψ1s.f φ1P
 by_cases c:w.2=0
 ·have c1:(w.2==0)=true:=by simpa using c
  simp only[c1,cT,φJD w.1 n hd hn,bS,φ6Q,c,if_true];rfl
 ·have c1:(w.2==0)=false:=by simpa using c
  simp[c,c1]
theorem φFY (w:φE) (n t:List UInt8) {k:Nat} (h:dl k w.1) (hk:k≤1000000000) (ht:t.length<1000000000000):ψ1z.f w n t=some (φ1P (φW n t) w):=by
 have hd:=φ1B h hk
 unfold ψ1z.f φ1P
 by_cases c:w.2=0
 ·have c1:(w.2==0)=true:=by simpa using c
  simp only[c1,cT,φIE w.1 n t hd ht,bS,φ6Q,c,if_true];rfl
 ·have c1:(w.2==0)=false:=by simpa using c
  simp[c,c1]
theorem φB3 (w:φE) (n:List UInt8) {k:Nat} (h:dl k w.1) (hk:k≤1000000000):ψ23.f w n=some (φ1P (φR n) w):=by
 have hd:=φ1B h hk
 unfold ψ23.f φ1P
 by_cases c:w.2=0
 ·have c1:(w.2==0)=true:=by simpa using c
  simp only[c1,cT,φMc w.1 n hd,bS,φ6Q,c,if_true];rfl
 ·have c1:(w.2==0)=false:=by simpa using c
  simp[c,c1]
theorem φJq (w:φE) (a b:List UInt8) {k:Nat} (h:dl k w.1) (hk:k≤1000000000) (hb:b.length<2 ^ 62):ψ21.f w a b=some (φ1P (φ36 a b) w):=by
 have hd:=φ1B h hk
 unfold ψ21.f φ1P
 by_cases c:w.2=0
 ·have c1:(w.2==0)=true:=by simpa using c
  simp only[c1,cT,φN5 w.1 a b hd hb,bS,φ6Q,c,if_true];rfl
 ·have c1:(w.2==0)=false:=by simpa using c
  simp[c,c1]
def φ1k (n t:List UInt8) (w:φE):φE:=φK (φR n) (φK (φW n t) (φK (φY n) (φK (φH n) w)))
def φ5k (n t:List UInt8) (w:φE):φE:=φ1P (φR n) (φ1P (φW n t) (φ1P (φY n) (φ1P (φH n) w)))
theorem φD0 (n t:List UInt8) (w:φE):φ5k n t (φC w)=φC (φ1k n t w):=by
 unfold φ5k φ1k
 rw[φ35,φ35,φ35,φ35]
theorem φKy {k m:Nat} {w:φE} (h:dl k w.1) (n t:List UInt8) (h1:k+1+n.length+t.length≤m):dl m (φ5k n t w).1:=by
 have g1:=φ5U (op:=φH n) h (κ9 _) (φ9A h n)
 have g2:=φ5U (op:=φY n) (m:=k+1+n.length) g1 (by omega) (φ8C g1 n (by omega) (by omega))
 have g3:=φ5U (op:=φW n t) (m:=m) g2 (by omega) (φ8k g2 n t (by omega))
 exact φ5U (op:=φR n) g3 (κ9 _) (φCP g3 n)
theorem φHM {k m:Nat} {w:φE} (h:dl k w.1) (n t:List UInt8) (h1:k+1+n.length+t.length≤m):dl m (φ1k n t w).1:=by
 have g1:=φ61 (op:=φH n) h (κ9 _) (φ9A h n)
 have g2:=φ61 (op:=φY n) (m:=k+1+n.length) g1 (by omega) (φ8C g1 n (by omega) (by omega))
 have g3:=φ61 (op:=φW n t) (m:=m) g2 (by omega) (φ8k g2 n t (by omega))
 exact φ61 (op:=φR n) g3 (κ9 _) (φCP g3 n)
theorem φGC (w:φE) (n t:List UInt8) {k:Nat} (h:dl k w.1) (hk:k+1+n.length+t.length≤1000000000):ψ1t.f w n t=some (φ5k n t w):=by
 have g1:=φ5U (op:=φH n) h (κ9 _) (φ9A h n)
 have g2:=φ5U (op:=φY n) (m:=k+1+n.length) g1 (by omega) (φ8C g1 n (by omega) (by omega))
 have g3:=φ5U (op:=φW n t) (m:=k+1+n.length+t.length) g2 (by omega) (φ8k g2 n t (by omega))
 unfold ψ1t.f ψ1q.f φ5k
 simp only[φ5f w n h (by omega),bS,φB0 _ n g1 (by omega) (by omega),φFY _ n t g2 (by omega) (by omega),φB3 _ n g3 (by omega)]
theorem φ2L {op:φ1→φ1×Int} {d:φ1} {c:Int} (h:c≠0):φK op (d,c)=(d,c):=by
 unfold φK;simp[h]
theorem φ22 {op:φ1→φ1×Int} {d:φ1}:φK op (d,0)=op d:=by
 unfold φK;simp
theorem φAF (d:φ1) (n:List UInt8) {k:Nat} (h:dl k d) (hk:k≤1000000000) (hn:n.length<2 ^ 62):ψ3H.f d n=some (φK (φY n) (φH n d)):=by
 have hd:=φ1B h hk
 unfold ψ3H.f
 rw[φ4A d n (by have:=hd.1;omega),bS]
 by_cases c2:φ1g d.1 n≥0
 ·have e:φH n d=φ26 n d:=by unfold φH;simp[c2]
  have g:=φGe h n
  rw[e]
  have er:ψ2s.f d n=some (φ26 n d):=φAn d n hd
  simp only[c2,dT,cT,er,bS]
  generalize φ26 n d=r at *
  obtain ⟨x,c⟩:=r
  by_cases c3:c=0
  ·have c4:(c != 0)=false:=by simpa using c3
   subst c3
   rw[φ22]
   simp only[c4,cF,bS,φT,φBn x n (φ1B g hk) hn];rfl
  ·have c4:(c != 0)=true:=by simpa using c3
   rw[φ2L c3]
   simp only[c4,cT,bS,φZ]
 ·have e:φH n d=(d,0):=by unfold φH;simp[c2]
  rw[e,φ22]
  simp only[c2,dF,cF,bS,φT,φBn d n hd hn];rfl
theorem φFz (d:φ1) (n t:List UInt8) {k:Nat} (h:dl k d) (hk:k+1+n.length+t.length≤1000000000):ψ3F.f d n t=some (φ1k n t (d,0)):=by
 have g1:=φ9A h n
 have g2:dl (k+1+n.length) (φK (φY n) (φH n d)).1:=φ61 (op:=φY n) g1 (by omega) (φ8C g1 n (by omega) (by omega))
 have g3:=φ61 (op:=φW n t) (m:=k+1+n.length+t.length) g2 (by omega) (φ8k g2 n t (by omega))
 unfold ψ3F.f φ1k
 rw[φAF d n h (by omega) (by omega),bS,φ22]
 generalize φK (φY n) (φH n d)=r at *
 obtain ⟨x,c⟩:=r
 have e2:(bif c==0 then (ψ2A.f x n t).bind fun (t2_0,t2_1)=>some (n,(([],0,0,false):φ1),t2_0,t2_1) else some (n,([],0,0,false),x,c))=some (n,([],0,0,false),(φK (φW n t) (x,c)).1,(φK (φW n t) (x,c)).2):=by
  by_cases c0:c=0
  ·subst c0
   rw[φ22]
   simp only[show ((0:Int)==0)=true from rfl,cT,φ8z x n t (φ1B g2 (by omega)) (by omega),bS];rfl
  ·have c1:(c==0)=false:=by simpa using c0
   rw[φ2L c0,c1];rfl
 simp only[e2,bS]
 generalize φK (φW n t) (x,c)=r at *
 obtain ⟨x,c⟩:=r
 by_cases c0:c=0
 ·subst c0
  rw[φ22]
  simp only[show ((0:Int)==0)=true from rfl,cT,φ7F x n (φ1B g3 (by omega)),bS];rfl
 ·have c1:(c==0)=false:=by simpa using c0
  rw[φ2L c0]
  simp only[c1,cF]
def sPut (v:φN) (w:φE):φE:=φK (φ36 [116,101,109,112] [108,105,118,101]) (φ1k [116,101,109,112] (φ10 v) w)
def wPut (v:φN) (w:φE):φE:=φ1P (φ36 [116,101,109,112] [108,105,118,101]) (φ5k [116,101,109,112] (φ10 v) w)
theorem φEP (v:φN) (w:φE):wPut v (φC w)=φC (sPut v w):=by
 unfold wPut sPut
 rw[φD0,φ35]
theorem φD2 (w:φE) (v:φN) {k:Nat} (h:dl k w.1) (hk:k+1000≤1000000000) (hl:v.2.length<2 ^ 62):ψ20.f w v=some (wPut v w):=by
 have h1:=φ9l v
 have g:=φKy h [116,101,109,112] (φ10 v) (m:=k+1000) (by show k+1+4+_≤_;omega)
 unfold ψ20.f wPut
 simp only[φIj v hl,bS,φGC w [116,101,109,112] (φ10 v) h (show k+1+4+(φ10 v).length≤1000000000 by omega),φJq _ [116,101,109,112] [108,105,118,101] g hk (by show 4<2 ^ 62;decide)]
def φ71 (d:φ1) (v:φN):φ1×Int:=if φ5 d=false∨φq v=false then (d,4) else φC (sPut v (d,0))
theorem φBe (d:φ1) (v:φN) {k:Nat} (h:dl k d) (hk:k+1000≤1000000000) (hl:v.2.length<2 ^ 62):ψ2h.f d v=some (φ71 d v):=by
 have hd:=φ1B h (by omega)
 have h1:=φ9l v
 unfold ψ2h.f φ71
 rw[φ5p d hd,bS]
 rcases bE (φ5 d) with k1 | k1
 rotate_left
 ·simp[k1,φ5D d (by have:=hd.1;omega)]
 rcases bE (φq v) with k2 | k2
 rotate_left
 ·simp[k1,k2,φ8K v hl,φ5D d (by have:=hd.1;omega)]
 have g:=φHM (w:=(d,0)) h [116,101,109,112] (φ10 v) (m:=k+1000) (by show k+1+4+_≤_;omega)
 simp only[k1,k2,nZ,cF,φ8K v hl,φB4 v hl,bS,φFz d [116,101,109,112] (φ10 v) h (show k+1+4+(φ10 v).length≤1000000000 by omega),κ7,or_self,if_false]
 unfold sPut
 generalize φ1k [116,101,109,112] (φ10 v) (d,0)=r at *
 obtain ⟨x,c⟩:=r
 by_cases c0:c=0
 ·subst c0
  rw[φ22]
  simp only[show ((0:Int)==0)=true from rfl,cT,φLq x [116,101,109,112] [108,105,118,101] (φ1B g hk) (show 4<2 ^ 62 by decide),bS,φ2T];rfl
 ·have c1:(c==0)=false:=by simpa using c0
  rw[φ2L c0]
  simp only[c1,cF,bS,φ2T];rfl
abbrev φA:=φN×List φB×Int×Int×Int
theorem φ70 (n:Nat):Lib.itoa (n:Int)=Lib.decDigits n:=by
 unfold Lib.itoa
 rw[if_neg (by omega),tN]
theorem φ4k:∀(k n:Nat),n<10 ^ (k+1)→(Lib.decDigits n).length≤k+1
 | 0,n,h=>by rw[Lib.decDigits,dif_pos (by simpa using h)];simp
 | k+1,n,h=>by
  rw[Lib.decDigits]
  split
  ·simp
  ·have:=φ4k k (n / 10) (by rw[Nat.div_lt_iff_lt_mul (by omega)];rw[κW] at h;exact h)
   simp only[lA,κ5];omega
def digs (n:Nat):List UInt8:=if n=0 then [] else Lib.decDigits n
theorem φ44 {n:Nat} (h:n≠0):digs n=digs (n / 10)++[UInt8.ofNat (48+n % 10)]:=by
 unfold digs
 rw[if_neg h,Lib.decDigits]
 split
 ·rename_i h2
  rw[if_pos (by omega),κb h2];rfl
 ·rename_i h2
  rw[if_neg (by omega)]
theorem φ9Y (n:Nat) (hn:n<1000000000000000000):ψ2E.f (n:Int)=some (Lib.decDigits n):=by
 unfold ψ2E.f
 by_cases c:n=0
 ·subst c
  rw[Lib.decDigits];rfl
 have c1:((n:Int)==0)=false:=by simpa using c
 have c2:decide ((n:Int)<0)=false:=dnn (by omega)
 have key:=φ5l (step:=ψ2E.l0) (a:=((n:Int),([]:List UInt8),false)) (fun a=>(digs a.1.toNat++a.2.1,false)) (fun a=>0≤a.1∧a.2.2=false∧a.2.1.length+a.1.toNat≤n) (fun a=>a.1.toNat)
  (fun rec a ha ih=>by
   obtain ⟨x,s,f⟩:=a
   obtain ⟨h0,hf,hl⟩:=ha
   simp only at hf hl h0 ih ⊢
   subst hf
   obtain ⟨m,rfl⟩:∃m:Nat,x=(m:Int):=⟨x.toNat,by omega⟩
   simp only[tN] at hl ih ⊢
   by_cases d:m=0
   ·subst d
    simp[ψ2E.l0,digs]
   ·have d1:((m:Int) != 0)=true:=by simpa using d
    have e1:Int.tmod (m:Int) 10=((m % 10:Nat):Int):=rfl
    have e2:w64 (Int.tdiv (m:Int) 10)=((m / 10:Nat):Int):=by
     rw[show Int.tdiv (m:Int) 10=((m / 10:Nat):Int) from rfl];exact φ3G (by omega)
    have e3:decide (((m % 10:Nat):Int)<0)=false:=dnn (by omega)
    have e4:φ1M [IntKind.wrap .u8 (w64 (48+((m % 10:Nat):Int)))]=[UInt8.ofNat (48+m % 10)]:=by
     have e:w64 (48+((m % 10:Nat):Int))=((48+m % 10:Nat):Int):=by rw[φG (by omega) (by omega)];omega
     rw[e]
     unfold φ1M
     simp only[κ8,List.map_nil,φ62]
    have hb:([UInt8.ofNat (48+m % 10)]:List UInt8).length+s.length≤9223372036854775807:=by show 1+_≤_;omega
    have ih:=ih (((m / 10:Nat):Int),[UInt8.ofNat (48+m % 10)]++s,false) ⟨by simp only;omega,rfl,by simp only[lA,κ5,tN];omega⟩ (by simp only[tN];omega)
    simp only[tN] at ih
    simp only[ψ2E.l0,d1,cT,e1,e2,e3,cF,bS,e4,hb,dT,ih]
    rw[φ44 d,aA])
  ⟨by simp only;omega,rfl,by simp⟩ (by simp only[tN];omega)
 simp only[c1,c2,cF,key,bS,tN]
 unfold digs
 simp[c]
theorem φIZ (n:Nat) (hn:n<1000000000000000000):strconv_Itoa.f (n:Int)=some (Lib.decDigits n):=by
 unfold strconv_Itoa.f
 have c:(decide (-9223372036854775808≤(n:Int)) && decide ((n:Int)≤9223372036854775807))=true:=by simp;omega
 rw[c,φ70];rfl
def φ1y (word:List UInt8) (id:Int):List UInt8:=if 1≤id∧id≤100000 then word++Lib.decDigits id.toNat else []
def φ0 (id:Int):List UInt8:=φ1y [115,101,103] id
def φJ (id:Int):List UInt8:=φ1y [104,105,110,116] id
theorem φGS (word:List UInt8) (id:Int) (hw:word.length≤100):ψ1U.f word id=some (φ1y word id):=by
 unfold ψ1U.f φ1y ψ6.f
 rw[φ1q,bS]
 by_cases h:1≤id∧id≤100000
 ·obtain ⟨n,rfl⟩:∃n:Nat,id=(n:Int):=⟨id.toNat,by omega⟩
  have hl:=φ4k 5 n (by show n<1000000;omega)
  have hb:word.length+(Lib.decDigits n).length≤9223372036854775807:=by omega
  simp only[h,and_self,dT,nZ,cF,φIZ n (by omega),bS,hb,cT,if_true,tN]
 ·simp[h]
theorem φ3b (id:Int):ψt.f id=some (φ0 id):=by
 unfold ψt.f φ0
 rw[φGS [115,101,103] id (by show 3≤100;decide),bS]
theorem φ2Q (id:Int):ψ2y.f id=some (φ0 id):=by
 unfold ψ2y.f φ0 φ1y
 rw[φ1u,bS]
 by_cases h:1≤id∧id≤100000
 ·obtain ⟨n,rfl⟩:∃n:Nat,id=(n:Int):=⟨id.toNat,by omega⟩
  have hl:=φ4k 5 n (by show n<1000000;omega)
  have hb:([115,101,103]:List UInt8).length+(Lib.decDigits n).length≤9223372036854775807:=by show 3+_≤_;omega
  simp only[h,and_self,dT,nZ,cF,φ9Y n (by omega),bS,hb,cT,if_true,tN]
 ·simp[h]
theorem φ4C (id:Int):(φ0 id).length≤9:=by
 unfold φ0 φ1y
 split
 ·have hl:=φ4k 5 id.toNat (by show _<1000000;omega)
  rw[lA];show 3+_≤9;omega
 ·simp
def φ2 (d:φ1) (n:List UInt8):List UInt8×Bool:=
 if φ5 d=false then ([],false) else
 match d.1.findIdx? (fun f=>f.1==n) with
 | some i=>((d.1.getD i ([],[],0)).2.1,true)
 | none=>([],false)
theorem φ4T (d:φ1) (n:List UInt8) (h:dlim d):ψM.f d n=some (φ2 d n):=by
 have hl:=h.1
 unfold ψM.f φ2
 rw[φ4Z d n (by omega),bS,φ6X d h]
 rcases φ12 d.1 n with ⟨e,_⟩ | ⟨i,hi,e,_⟩
 ·rw[e,φ1D e];simp
 ·rw[e,φ17 e]
  rcases bE (φ5 d) with k | k
  ·simp only[dnn (show (0:Int)≤(i:Int) by omega),cF,bS,k,nZ,φ3B hi,cT,φ3X hi,φ8 hi,κ7,if_false]
  ·simp only[dnn (show (0:Int)≤(i:Int) by omega),cF,bS,k,nF,cT,if_true]
theorem φ51 (d:φ1) (n:List UInt8) (h:dlim d):ψ2R.f d n=some (φ2 d n):=by
 have hl:=h.1
 unfold ψ2R.f φ2
 rw[φ5p d h,bS,φ4A d n (by omega)]
 rcases bE (φ5 d) with k | k
 rotate_left
 ·simp[k]
 rcases φ12 d.1 n with ⟨e,_⟩ | ⟨i,hi,e,_⟩
 ·rw[e,φ1D e];simp[k]
 ·rw[e,φ17 e]
  simp only[dnn (show (0:Int)≤(i:Int) by omega),cF,bS,k,nZ,φ3B hi,cT,φ3X hi,φ8 hi,κ7,if_false]
theorem φ4O (d:φ1) (n:List UInt8) (h:dlim d):(φ2 d n).1.length≤φQ d.1:=by
 unfold φ2
 split
 ·simp
 ·rcases φ12 d.1 n with ⟨e,_⟩ | ⟨i,hi,e,_⟩
  ·rw[φ1D e];simp
  ·rw[φ17 e]
   simp only[φ8 hi]
   exact φBs (gM hi)
def segN (d:φ1) (l:List Int):Nat:=sumN (fun id=>(φ2 d (φ0 id)).1.length) l
def varN (n:Nat):List UInt8:=vLow n++[UInt8.ofNat (vTop n)]
theorem φ55 (n:Nat) (h:n≤562949953421311):varT (n:Int)=varN n:=by
 unfold varT varN
 rw[if_pos (by omega),tN]
theorem φ5M {n:Nat} (h:n<128):varN n=[UInt8.ofNat n]:=by
 unfold varN
 rw[vLow,vTop,dif_pos h,dif_pos h];rfl
theorem φ9Z {n:Nat} (h:¬n<128):varN n=UInt8.ofNat (128+n % 128)::varN (n / 128):=by
 unfold varN
 rw[vLow,vTop,dif_neg h,dif_neg h];rfl
theorem φ93 (k n:Nat) (h:n<128 ^ (k+1)):1≤(varN n).length∧(varN n).length≤k+1:=by
 have:=φ9J k n h
 unfold varN
 rw[lA,κ5];omega
def rvT:Nat→Bool→List UInt8→Option (Nat×Nat)
 | 0,_,_=>none
 | _+1,_,[]=>none
 | f+1,first,x::r=>if x.toNat<128 then (if x.toNat=0∧first=false then none else some (x.toNat,1)) else (rvT f false r).map fun p=>(x.toNat % 128+128 * p.1,p.2+1)
theorem φFl:∀(f:Nat) (first:Bool) (s:List UInt8) (n k:Nat),rvT f first s=some (n,k)→(first=false→1≤n)
 | 0,_,_,_,_,h=>by simp[rvT] at h
 | f+1,_,[],_,_,h=>by simp[rvT] at h
 | f+1,first,x::r,n,k,h=>by
  intro hf
  unfold rvT at h
  split at h
  ·split at h
   ·simp at h
   ·rename_i h1 h2
    simp only[Option.some.injEq,Prod.mk.injEq] at h
    have:¬x.toNat=0:=fun e=>h2 ⟨e,hf⟩
    omega
  ·cases hr:rvT f false r with
   | none=>rw[hr] at h;simp at h
   | some p=>
    rw[hr] at h
    simp only[Option.map_some,Option.some.injEq,Prod.mk.injEq] at h
    have:=φFl f false r p.1 p.2 hr rfl
    omega
theorem φ4P:∀(f:Nat) (first:Bool) (s:List UInt8) (n k:Nat),rvT f first s=some (n,k)→1≤k∧k≤f∧k≤s.length∧s.take k=varN n∧n<128 ^ f
 | 0,_,_,_,_,h=>by simp[rvT] at h
 | f+1,_,[],_,_,h=>by simp[rvT] at h
 | f+1,first,x::r,n,k,h=>by
  have hx:=x.toNat_lt
  unfold rvT at h
  split at h
  ·rename_i h1
   split at h
   ·simp at h
   ·simp only[Option.some.injEq,Prod.mk.injEq] at h
    obtain ⟨rfl,rfl⟩:=h
    refine ⟨κ9 _,by omega,by simp,?_,?_⟩
    ·rw[φ5M h1];simp
    ·exact κE h1 (by rw[κW];have:=Nat.pow_pos (n:=f) (show 0<128 by omega);omega)
  ·rename_i h1
   cases hr:rvT f false r with
   | none=>rw[hr] at h;simp at h
   | some p=>
    obtain ⟨m,j⟩:=p
    rw[hr] at h
    simp only[Option.map_some,Option.some.injEq,Prod.mk.injEq] at h
    obtain ⟨rfl,rfl⟩:=h
    obtain ⟨q1,q2,q3,q4,q5⟩:=φ4P f false r m j hr
    have hm:=φFl f false r m j hr rfl
    have hbig:¬x.toNat % 128+128 * m<128:=by omega
    refine ⟨by omega,by omega,by simp;omega,?_,?_⟩
    ·rw[φ9Z hbig,List.take_succ_cons,q4]
     have e1:(x.toNat % 128+128 * m) % 128=x.toNat % 128:=by omega
     have e2:(x.toNat % 128+128 * m) / 128=m:=by omega
     have e3:128+x.toNat % 128=x.toNat:=by omega
     rw[e1,e2,e3];simp
    ·rw[κW];omega
theorem φ7m:∀(f:Nat) (first:Bool) (n:Nat) (r:List UInt8),n<128 ^ f→(first=false→1≤n)→1≤f→rvT f first (varN n++r)=some (n,(varN n).length)
 | 0,_,_,_,_,_,h=>by omega
 | f+1,first,n,r,h,h1,_=>by
  by_cases c:n<128
  ·rw[φ5M c,List.singleton_append]
   unfold rvT
   have e:(UInt8.ofNat n).toNat=n:=by simp;omega
   rw[e,if_pos c,if_neg (by intro k;have:=h1 k.2;omega)];rfl
  ·rw[φ9Z c,κG]
   unfold rvT
   have e:(UInt8.ofNat (128+n % 128)).toNat=128+n % 128:=by simp;omega
   have hf:1≤f:=by
    rcases Nat.eq_zero_or_pos f with k | k
    ·subst k;simp at h;omega
    ·exact k
   rw[e,if_neg (by omega),φ7m f false (n / 128) r (by rw[Nat.div_lt_iff_lt_mul (by omega)];rw[κW] at h;exact h) (fun _=>by omega) hf]
   simp only[Option.map_some,lC]
   congr 2;omega
def decV (l:List UInt8):Nat:=l.foldr (fun x a=>x.toNat % 128+128 * a) 0
theorem φET:∀(l:List UInt8),decV l<128 ^ l.length
 | []=>by simp[decV]
 | x::l=>by
  have:=φET l
  show x.toNat % 128+128 * decV l<128 ^ (l.length+1)
  rw[κW];omega
theorem φGF:∀(k n:Nat),n<128 ^ (k+1)→decV (varN n)=n
 | 0,n,h=>by
  have h:n<128:=by simpa using h
  rw[φ5M h]
  show (UInt8.ofNat n).toNat % 128+128 * 0=n
  have e:(UInt8.ofNat n).toNat=n:=by simp;omega
  rw[e];omega
 | k+1,n,h=>by
  by_cases c:n<128
  ·rw[φ5M c]
   show (UInt8.ofNat n).toNat % 128+128 * 0=n
   have e:(UInt8.ofNat n).toNat=n:=by simp;omega
   rw[e];omega
  ·rw[φ9Z c]
   show (UInt8.ofNat (128+n % 128)).toNat % 128+128 * decV (varN (n / 128))=n
   have e:(UInt8.ofNat (128+n % 128)).toNat=128+n % 128:=by simp;omega
   rw[e,φGF k (n / 128) (by rw[Nat.div_lt_iff_lt_mul (by omega)];rw[κW] at h;exact h)]
   omega
def φk (s:List UInt8):Int×Int:=match rvT 7 true s with
 | some (n,k)=>((n:Int),(k:Int))
 | none=>(0,0)
theorem φAp (s:List UInt8):φk s=(0,0)∨∃n k:Nat,rvT 7 true s=some (n,k)∧φk s=((n:Int),(k:Int))∧1≤k∧k≤7∧k≤s.length∧s.take k=varN n∧n<562949953421312:=by
 unfold φk
 cases h:rvT 7 true s with
 | none=>exact .inl rfl
 | some p=>
  obtain ⟨n,k⟩:=p
  obtain ⟨h1,h2,h3,h4,h5⟩:=φ4P 7 true s n k h
  exact .inr ⟨n,k,rfl,rfl,h1,h2,h3,h4,h5⟩
theorem φJi (s:List UInt8) (k4:Int) (k:Nat) (hk:k≤s.length) (h7:k≤7):lp ψ2o.l2 (s,k4,0,(k:Int) - 1)=some (s,k4,((decV (s.take k):Nat):Int)):=by
 have key:=φF8 (step:=ψ2o.l2) (fun n (a:Nat)=>(s,k4,(a:Int),(n:Int) - 1)) (fun n a=>(s,k4,((decV (s.take n)+128 ^ n * a:Nat):Int))) (fun n a=>n≤k∧a<128 ^ (k - n))
  (fun rec n a hi ih=>by
   obtain ⟨hn,ha⟩:=hi
   cases n with
   | zero=>
    simp[ψ2o.l2,decV]
   | succ n=>
    have h1:n<s.length:=by omega
    have e0:((n+1:Nat):Int) - 1=(n:Int):=by omega
    have c:(n:Int)≥0:=by omega
    have hx:=s[n].toNat_lt
    have hpow:(128:Nat) ^ (k - (n+1))≤128 ^ 7:=κX (by omega) (by omega)
    have ha7:a<562949953421312:=κE ha hpow
    have ha6:a<128 ^ 6:=κE ha (κX (by omega) (by omega))
    have ha6:a<4398046511104:=ha6
    have e1:w64 ((a:Int) * 128)=((a * 128:Nat):Int):=by rw[φG (by omega) (by omega)];omega
    have e2:w64 (bAt s (n:Int))=((s[n].toNat:Nat):Int):=by rw[φ4b s n h1];exact φ3G (by omega)
    have e3:Int.tmod ((s[n].toNat:Nat):Int) 128=((s[n].toNat % 128:Nat):Int):=rfl
    have e4:w64 (((a * 128:Nat):Int)+((s[n].toNat % 128:Nat):Int))=((a * 128+s[n].toNat % 128:Nat):Int):=by rw[φG (by omega) (by omega)];omega
    have e5:w64 ((n:Int) - 1)=(n:Int) - 1:=φG (by omega) (by omega)
    have hlt:a * 128+s[n].toNat % 128<128 ^ (k - n):=by
     rw[show k - n=(k - (n+1))+1 by omega,κW];omega
    have ih:=ih n (a * 128+s[n].toNat % 128) rfl ⟨by omega,hlt⟩
    simp only[ψ2o.l2,e0,c,dT,cT,φD,h1,e1,e2,e3,e4,e5,ih]
    congr 4
    rw[κ3 h1]
    have hd:decV (s.take n++[s[n]])=decV (s.take n)+128 ^ n * (s[n].toNat % 128):=by
     have gen:∀l:List UInt8,decV (l++[s[n]])=decV l+128 ^ l.length * (s[n].toNat % 128):=by
      intro l
      induction l with
      | nil=>simp[decV]
      | cons x l ih=>
       show x.toNat % 128+128 * decV (l++[s[n]])=x.toNat % 128+128 * decV l+128 ^ (l.length+1) * (s[n].toNat % 128)
       rw[ih,κW,Nat.mul_add,Nat.mul_comm (128 ^ l.length) 128,Nat.mul_assoc];omega
     rw[gen,lT,Nat.min_eq_left (by omega)]
    rw[hd,κW,Nat.mul_add]
    have:128 ^ n * (a * 128)=128 ^ n * 128 * a:=by rw[Nat.mul_assoc,Nat.mul_comm a 128]
    omega)
  k 0 (by omega) ⟨κ9 _,by simp⟩
 simpa using key
end Go.Rf.G
