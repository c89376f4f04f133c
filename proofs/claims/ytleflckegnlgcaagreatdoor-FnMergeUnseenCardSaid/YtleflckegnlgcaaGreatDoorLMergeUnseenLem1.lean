import Derived.Test.YtleflckegnlgcaaGreatDoorRf5
import Derived.Test.YtleflckegnlgcaaGreatDoorLMergeUnseenFns
open Option renaming bind_some→bS
open List renaming length_append→lA,append_assoc→aA,mem_cons_of_mem→mC,mem_append→mA,mem_append_right→mR,mem_append_left→mL,mem_cons→mc,drop_eq_getElem_cons→dG,length_take→lT,length_drop→lD,mem_map→mM,length_map→lM,length_cons→lC,length_nil→lN,getElem_mem→gM,map_append→mp,mem_singleton→mZ,mem_cons_self→κ0,take_succ_eq_append_getElem→κ4,map_cons→κ5,append_nil→κ7,nil_append→κ8,length_singleton→κA,drop_zero→κC,take_append_drop→κE,cons_append→κF,flatMap_append→κI,replicate→κJ,nodup_append→κK,foldl_cons→κN,drop_left→κP,nodup_cons→κQ,range'→κR,all_eq_true→κT,mem_of_mem_take→κV,take_length→κW,foldl_append→κY,pairwise_cons→κZ,take_append_of_le_length→κd,mem_or_eq_of_mem_set→κe,pairwise_append→κf
open Bool renaming and_eq_true→bA,eq_false_or_eq_true→bE,not_true→nZ,not_false→nF,true_and→tA,not_not→nn,false_eq_true→κ2,true_eq_false→κ9,false_and→κD,or_eq_false_iff→κH,and_true→κL,not_eq_true'→κM,false_or→κS,or_eq_true→κX
open Int renaming toNat_natCast→tN,ofNat_lt→oL,le_refl→κO
open Nat renaming lt_or_ge→κ1,zero_le→κ3,le_refl→κ6,eq_of_beq_eq_true→κB,lt_of_lt_of_le→κG,zero_add→κU,pow_succ→κa,mod_eq_of_lt→κc,le_trans→κg
open Array renaming length_toList→κb
set_option linter.unusedVariables false
set_option linter.unusedSimpArgs false
namespace Go.Rf.G
open Go Go.Rf
set_option synthInstance.maxSize 4000
theorem φG2 {A B:Type} {step:(A→Option B)→A→Option B} {F:A→B} {P:A→Prop} {m:A→Nat}
  (h:∀rec a,P a→(∀a',P a'→m a'<m a→rec a'=some (F a'))→step rec a=some (F a)):∀n a,P a→m a<n→φ32 step n a=some (F a)
 | 0,_,_,hn=>by omega
 | n+1,a,hp,hn=>h (φ32 step n) a hp fun a' hp' hlt=>φG2 h n a' hp' (by omega)
theorem φ7Q {A B:Type} {step:(A→Option B)→A→Option B} (F:A→B) (P:A→Prop) (m:A→Nat)
  (h:∀rec a,P a→(∀a',P a'→m a'<m a→rec a'=some (F a'))→step rec a=some (F a)) {a:A} (hp:P a) (hm:m a<2 ^ 62):lp step a=some (F a):=
 φG2 h FUEL a hp (κG hm φ6x)
theorem φh {A B σ:Type} {step:(A→Option B)→A→Option B} (st:Nat→σ→A) (N:Nat) (F:Nat→σ→B) (Inv:Nat→σ→Prop)
  (h:∀rec n s,n≤N→Inv n s→(∀s',n<N→Inv (n+1) s'→rec (st (n+1) s')=some (F (n+1) s'))→step rec (st n s)=some (F n s))
  (hN:N<2 ^ 62):∀n s,n≤N→Inv n s→lp step (st n s)=some (F n s):=by
 have key:∀k f n s,n≤N→Inv n s→N - n=k→k<f→φ32 step f (st n s)=some (F n s):=by
  intro k
  induction k with
  | zero=>
   intro f n s hn hi hk hf
   obtain ⟨f,rfl⟩:∃g,f=g+1:=⟨f - 1,by omega⟩
   exact h _ n s hn hi fun s' hlt=>by omega
  | succ k ih=>
   intro f n s hn hi hk hf
   obtain ⟨f,rfl⟩:∃g,f=g+1:=⟨f - 1,by omega⟩
   exact h _ n s hn hi fun s' hlt hi'=>ih f (n+1) s' hlt hi' (by omega) (by omega)
 intro n s hn hi
 exact key (N - n) FUEL n s hn hi rfl (κG (by omega) φ6x)
@[simp] theorem φJ (n m:Nat):inB (n:Int) m=decide (n<m):=by
 unfold inB
 by_cases h:n<m<;>simp[h,Int.natCast_nonneg]
@[simp] theorem φN {α:Type} (z:α) (xs:List α) (n:Nat):rdA z xs (n:Int)=xs.getD n z:=rfl
theorem φH {n:Int} (h1:-9223372036854775808≤n) (h2:n<9223372036854775808):w64 n=n:=by
 unfold w64 IntKind.wrap
 simp only[IntKind.bits,IntKind.signed]
 by_cases h:n % 2 ^ 64≥2 ^ 63<;>simp[h]<;>omega
theorem φ3l {n:Nat} (h:n<9223372036854775808):w64 (n:Int)=n:=φH (by omega) (by omega)
theorem φQ {n:Nat} (h:n+1<9223372036854775808):w64 ((n:Int)+1)=((n+1:Nat):Int):=by
 rw[φH (by omega) (by omega)];omega
theorem φD {α:Type} {xs:List α} {z:α} {n:Nat} (h:n<xs.length):xs.getD n z=xs[n]:=by simp[List.getD,h]
theorem φ8F {α:Type} {a b:List α} {n:Nat} (h1:n<a.length) (h2:n<b.length):a.drop n=b.drop n↔a[n]=b[n]∧a.drop (n+1)=b.drop (n+1):=by
 rw[dG h1,dG h2,List.cons.injEq]
def sumN {α:Type} (f:α→Nat):List α→Nat
 | []=>0
 | x::r=>f x+sumN f r
theorem φAQ {α:Type} (f:α→Nat) {l:List α} {n:Nat} (h:n<l.length):sumN f (l.drop n)=f l[n]+sumN f (l.drop (n+1)):=by
 rw[dG h];rfl
theorem φEa {α:Type} (f:α→Nat):∀{l:List α} {x:α},x∈l→f x≤sumN f l
 | y::l,x,h=>by
  rcases mc.1 h with k | k
  ·subst k;exact Nat.le_add_right _ _
  ·exact κg (φEa f k) (Nat.le_add_left _ _)
theorem φFD {X:Type} [DecidableEq X] {step:(List X×List X×Int→Option (Unit ⊕ Bool))→List X×List X×Int→Option (Unit ⊕ Bool)} (a b:List X) (hl:a.length=b.length) (ha:a.length<2 ^ 62)
  (hs:∀rec (n:Nat),(h1:n<a.length)→(h2:n<b.length)→step rec (a,b,(n:Int))=if a[n]=b[n] then rec (a,b,((n+1:Nat):Int)) else some (.inr false))
  (he:∀rec,step rec (a,b,(a.length:Int))=some (.inl ())):lp step (a,b,0)=some (if a=b then .inl () else .inr false):=by
 have:=φh (step:=step) (fun n (_:Unit)=>(a,b,(n:Int))) a.length (fun n _=>if a.drop n=b.drop n then .inl () else .inr false) (fun _ _=>True)
  (fun rec n s hn _ ih=>by
   rcases κ1 n a.length with h | h
   ·rw[hs rec n h (by omega),ih () h trivial]
    by_cases hc:a[n]=b[n]
    ·rw[if_pos hc];simp only[φ8F h (by omega:n<b.length),hc,true_and]
    ·rw[if_neg hc,if_neg fun k=>hc ((φ8F h (by omega)).1 k).1]
   ·have:n=a.length:=by omega
    subst this
    rw[he]
    simp[hl])
  ha 0 () (κ3 _) trivial
 simpa using this
def φBJ {X:Type} (mk:Int→X→X) (c:Nat):List X→Int→List X
 | [],_=>[]
 | x::r,k=>mk k x::φBJ mk c r (k+c)
@[simp] theorem φMc {X:Type} (mk:Int→X→X) (c:Nat):∀(l:List X) (k:Int),(φBJ mk c l k).length=l.length
 | [],_=>rfl
 | x::r,k=>by simp[φBJ,φMc mk c r]
theorem φ4f {X A B:Type} {step:(A→Option (B ⊕ Bool))→A→Option (B ⊕ Bool)} (l:List X) (f:X→Bool) (st:Nat→A) (b:B) (hl:l.length<2 ^ 62)
  (hs:∀rec n,(h:n<l.length)→step rec (st n)=if f l[n]=true then rec (st (n+1)) else some (.inr false))
  (he:∀rec,step rec (st l.length)=some (.inl b)):lp step (st 0)=some (if l.all f=true then .inl b else .inr false):=by
 have:=φh (step:=step) (fun n (_:Unit)=>st n) l.length (fun n _=>if (l.drop n).all f=true then .inl b else .inr false) (fun _ _=>True)
  (fun rec n s hn _ ih=>by
   rcases κ1 n l.length with h | h
   ·rw[hs rec n h,ih () h trivial,dG h,List.all_cons]
    cases f l[n]<;>simp
   ·have:n=l.length:=by omega
    subst this
    rw[he];simp) hl 0 () (κ3 _) trivial
 simpa using this
theorem φGs {X A B C:Type} {step:(A→Option (B ⊕ C))→A→Option (B ⊕ C)} (l:List X) (f:X→Bool) (r:X→C) (st:Nat→A) (b:B) (hl:l.length<2 ^ 62)
  (hs:∀rec n,(h:n<l.length)→step rec (st n)=if f l[n]=true then some (.inr (r l[n])) else rec (st (n+1)))
  (he:∀rec,step rec (st l.length)=some (.inl b)):lp step (st 0)=some (match l.find? f with | some x=>.inr (r x) | none=>.inl b):=by
 have:=φh (step:=step) (fun n (_:Unit)=>st n) l.length (fun n _=>match (l.drop n).find? f with | some x=>.inr (r x) | none=>.inl b) (fun _ _=>True)
  (fun rec n s hn _ ih=>by
   rcases κ1 n l.length with h | h
   ·rw[hs rec n h,ih () h trivial,dG h,List.find?_cons]
    cases hf:f l[n]<;>simp
   ·have:n=l.length:=by omega
    subst this
    rw[he];simp) hl 0 () (κ3 _) trivial
 simpa using this
theorem φ3p {X A B S:Type} {step:(A→Option B)→A→Option B} (l:List X) (g:S→X→S) (st:Nat→S→A) (out:S→B) (Inv:Nat→S→Prop) (hl:l.length<2 ^ 62)
  (hs:∀rec n s,(h:n<l.length)→Inv n s→step rec (st n s)=rec (st (n+1) (g s l[n])))
  (hi:∀n s,(h:n<l.length)→Inv n s→Inv (n+1) (g s l[n]))
  (he:∀rec s,Inv l.length s→step rec (st l.length s)=some (out s)) (s:S) (h0:Inv 0 s):lp step (st 0 s)=some (out (l.foldl g s)):=by
 have:=φh (step:=step) st l.length (fun n s=>out ((l.drop n).foldl g s)) Inv
  (fun rec n s hn hv ih=>by
   rcases κ1 n l.length with h | h
   ·rw[hs rec n s h hv,ih _ h (hi n s h hv),dG h];rfl
   ·have:n=l.length:=by omega
    subst this
    rw[he rec s hv];simp) hl 0 s (κ3 _) h0
 simpa using this
theorem φGN {A B σ:Type} {step:(A→Option B)→A→Option B} (st:Nat→σ→A) (F:Nat→σ→B) (Inv:Nat→σ→Prop)
  (h:∀rec n s,Inv n s→(∀m s',n=m+1→Inv m s'→rec (st m s')=some (F m s'))→step rec (st n s)=some (F n s)):∀n s,n<2 ^ 62→Inv n s→lp step (st n s)=some (F n s):=by
 have key:∀n f s,n<f→Inv n s→φ32 step f (st n s)=some (F n s):=by
  intro n
  induction n with
  | zero=>
   intro f s hf hi
   obtain ⟨f,rfl⟩:∃g,f=g+1:=⟨f - 1,by omega⟩
   exact h _ 0 s hi fun m s' he=>by omega
  | succ n ih=>
   intro f s hf hi
   obtain ⟨f,rfl⟩:∃g,f=g+1:=⟨f - 1,by omega⟩
   exact h _ (n+1) s hi fun m s' he hi'=>by
    have:m=n:=by omega
    subst this
    exact ih f s' (by omega) hi'
 intro n s hn hi
 exact key n FUEL s (κG hn φ6x) hi
theorem φJa {X A B C:Type} {step:(A→Option (B ⊕ C))→A→Option (B ⊕ C)} (l:List X) (f:X→Bool) (r:X→C) (st:Nat→A) (b:B) (hl:l.length<2 ^ 62)
  (hs:∀rec n,(h:n<l.length)→step rec (st (n+1))=if f l[n]=true then some (.inr (r l[n])) else rec (st n))
  (he:∀rec,step rec (st 0)=some (.inl b)):lp step (st l.length)=some (match l.reverse.find? f with | some x=>.inr (r x) | none=>.inl b):=by
 have:=φGN (step:=step) (fun n (_:Unit)=>st n) (fun n _=>match (l.take n).reverse.find? f with | some x=>.inr (r x) | none=>.inl b) (fun n _=>n≤l.length)
  (fun rec n s hn ih=>by
   cases n with
   | zero=>rw[he];simp
   | succ n=>
    have h:n<l.length:=hn
    rw[hs rec n h,ih n () rfl (by omega),κ4 h,List.reverse_append]
    simp only[List.reverse_cons,List.reverse_nil,κ8,κF,List.find?_cons]
    cases hf:f l[n]<;>simp) l.length () hl (κ6 _)
 simpa using this
@[simp] theorem φe {A B C:Type} (a:A) (f:A→C) (g:B→C):φY (.inl a) f g=f a:=rfl
@[simp] theorem φo {A B C:Type} (b:B) (f:A→C) (g:B→C):φY (.inr b) f g=g b:=rfl
theorem φ2Z {A B:Type} (p:A×B):(p.1,p.2)=p:=rfl
theorem φMG {α:Type} {z:α} {r:List α} {n:Nat} {v:α} (h:n<r.length):rdA z (r.set n v) (n:Int)=v:=by simp[List.getD,h]
theorem φJ8 {A B C:Type} [BEq A] [BEq B] [BEq C] [LawfulBEq A] [LawfulBEq B] [LawfulBEq C] [DecidableEq (A×B×C)] (x y:A×B×C):(x.1==y.1 && (x.2.1==y.2.1 && x.2.2==y.2.2))=decide (x=y):=by
 obtain ⟨a,b,c⟩:=x
 obtain ⟨d,e,f⟩:=y
 by_cases h1:a=d
 ·by_cases h2:b=e
  ·by_cases h3:c=f
   ·simp[h1,h2,h3]
   ·have:(c==f)=false:=by simpa using h3
    simp[h1,h2,h3,this]
  ·have:(b==e)=false:=by simpa using h2
   simp[h1,h2,this]
 ·have:(a==d)=false:=by simpa using h1
  simp[h1,this]
theorem φ6b {a b:Nat} (h:a≠b):((a:Int) != (b:Int))=true:=by
 have:(a:Int)≠(b:Int):=by omega
 simpa using this
theorem φ6Q {a b:Nat} (h:a=b):((a:Int) != (b:Int))=false:=by simp[h]
theorem φFl {β:Type} {P:Prop} [Decidable P] (a b:β):(bif !decide P then a else b)=if P then b else a:=by
 by_cases h:P<;>simp[h]
theorem φGW (a b:List (List UInt8×List UInt8×Int)) (ha:a.length<2 ^ 62):ψ2m.f a b=some (decide (a=b)):=by
 unfold ψ2m.f
 by_cases hl:a.length=b.length
 rotate_left
 ·have:a≠b:=fun h=>hl (by rw[h])
  rw[φ6b hl];simp[this]
 rw[φ6Q hl,cF,φFD a b hl ha (fun rec n h1 h2=>?_) (fun rec=>?_)]
 ·by_cases e:a=b<;>simp[e]
 ·simp only[ψ2m.l0,oL,h1,h2,dT,cT,φJ,φN,φD h1,φD h2,φQ (show n+1<9223372036854775808 by omega),φJ8,φFl]
 ·simp[ψ2m.l0]
theorem φ1V (n a b:Int):ψ1X.f n a b=some (decide (a≤n∧n≤b)):=by
 unfold ψ1X.f
 by_cases h:a≤n
 ·have h2:n≥a:=h
  simp[h,h2]
 ·have h2:¬n≥a:=h
  simp[h,h2]
theorem φ2N (n a b:Int):ψ3C.f n a b=some (decide (a≤n∧n≤b)):=φ1V n a b
def φ1L (s:List UInt8):Bool:=decide (1≤s.length∧s.length≤8)
theorem φ6a (s:List UInt8):ψY.f s=some (φ1L s):=by
 unfold ψY.f φ1L
 rw[φ1V,bS]
 congr 1
 apply decide_eq_decide.2
 omega
theorem φHP (s:List UInt8):ψ2Y.f s=some (φ1L s):=φ6a s
def φ2c (p:List UInt8×Bool×List UInt8):Bool:=φ1L p.1 && (decide (p.2.2.length≤24) && (!p.2.1 || p.2.2==[]))
theorem φBr (p:List UInt8×Bool×List UInt8):ψ1g.f p=some (φ2c p):=by
 unfold ψ1g.f φ2c
 rw[φ6a,bS]
 cases φ1L p.1
 ·rfl
 ·have:decide ((p.2.2.length:Int)≤24)=decide (p.2.2.length≤24):=decide_eq_decide.2 (by omega)
  rw[this]
  cases decide (p.2.2.length≤24)
  ·rfl
  ·cases p.2.1<;>rfl
def φ28 (l:List (List UInt8×Bool×List UInt8)):Bool:=decide (l.length≤8) && l.all φ2c
theorem φIf (l:List (List UInt8×Bool×List UInt8)) (hl:l.length<2 ^ 62):ψh.f l=some (φ28 l):=by
 have key:=φ4f (step:=ψh.l0) l φ2c (fun n=>(l,l,(l.length:Int),(n:Int))) l hl
  (fun rec n h=>by
   simp only[ψh.l0,oL,h,dT,cT,φJ,φN,φD h,φ2Z,φBr,bS,φQ (show n+1<9223372036854775808 by omega)]
   cases φ2c l[n]<;>simp)
  (fun rec=>by simp[ψh.l0])
 have key:lp ψh.l0 (l,l,(l.length:Int),0)=_:=key
 unfold ψh.f φ28
 rw[key,bS]
 have:decide ((l.length:Int)≤8)=decide (l.length≤8):=decide_eq_decide.2 (by omega)
 cases h:l.all φ2c<;>simp[this]
def φ54 (l:List (List UInt8×Bool×List UInt8)) (key:List UInt8):Option (List UInt8×Bool×List UInt8):=l.reverse.find? fun p=>p.1==key
def ownW (l:List (List UInt8×Bool×List UInt8)) (key:List UInt8):(List UInt8×Bool×List UInt8)×Bool:=
 match φ54 l key with
 | some p=>(p,true)
 | none=>(([],false,[]),false)
theorem φNM (t:Bool×List (List UInt8×Int)×List (List UInt8×Bool×List UInt8)) (key:List UInt8) (hl:t.2.2.length<2 ^ 62):ψf.f t key=some (ownW t.2.2 key):=by
 have hk:=φJa (step:=ψf.l0) t.2.2 (fun p=>p.1==key) (fun p=>(p,true)) (fun n=>(key,t,([],false,[]),(n:Int) - 1)) ([],false,[]) hl
  (fun rec n h=>by
   have e:((n+1:Nat):Int) - 1=(n:Int):=by omega
   have e2:w64 ((n:Int) - 1)=(n:Int) - 1:=φH (by omega) (by omega)
   have e3:(n:Int)≥0:=by omega
   simp only[e,ψf.l0,e3,dT,cT,φJ,φN,h,φD h,e2,φ2Z]
   cases h2:(t.2.2[n].1==key)<;>simp)
  (fun rec=>by simp[ψf.l0])
 unfold ψf.f ownW φ54
 rw[φH (by omega) (by omega)]
 simp only[]
 rw[hk,bS]
 cases List.find? (fun p=>p.1==key) t.2.2.reverse<;>rfl
theorem φKR (a b:Int×List UInt8×List (List UInt8)) (ha:a.2.2.length<2 ^ 62):ψ39.f a b=some (decide (a=b)):=by
 obtain ⟨a0,a1,a2⟩:=a
 obtain ⟨b0,b1,b2⟩:=b
 have ha:a2.length<2 ^ 62:=ha
 unfold ψ39.f
 by_cases e0:a0=b0
 rotate_left
 ·have d3:(a0 != b0)=true:=by simpa using e0
  simp[e0,d3]
 by_cases e1:a1=b1
 rotate_left
 ·have d2:(a1==b1)=false:=by simpa using e1
  simp[e0,e1,d2]
 subst e0;subst e1
 by_cases hl:a2.length=b2.length
 rotate_left
 ·have:a2≠b2:=fun h=>hl (by rw[h])
  simp[φ6b hl,this]
 have key:=φh (step:=ψ39.l0) (fun n (_:Unit)=>((a0,a1,a2),(a0,a1,b2),(n:Int))) a2.length (fun n _=>if a2.drop n=b2.drop n then .inl () else .inr false) (fun _ _=>True)
  (fun rec n s hn _ ih=>by
   rcases κ1 n a2.length with h | h
   ·have h2:n<b2.length:=by omega
    simp only[ψ39.l0,oL,h,h2,dT,cT,φJ,φN,φD h,φD h2,φQ (show n+1<9223372036854775808 by omega)]
    rw[ih () h trivial]
    by_cases hc:a2[n]=b2[n]
    ·simp only[φ8F h h2,hc,true_and];simp
    ·have d2:(a2[n]==b2[n])=false:=by simpa using hc
     rw[if_neg fun k=>hc ((φ8F h h2).1 k).1];simp[d2]
   ·have:n=a2.length:=by omega
    subst this
    simp[ψ39.l0,hl])
  ha 0 () (κ3 _) trivial
 have key:lp ψ39.l0 ((a0,a1,a2),(a0,a1,b2),0)=_:=key
 simp only[bne_self_eq_false,cF,beq_self_eq_true,nZ,φ6Q hl,key]
 by_cases e:a2=b2<;>simp[e]
theorem φJR (a b:List (Int×List UInt8×List (List UInt8))) (ha:a.length<2 ^ 62) (hx:∀x∈a,x.2.2.length<2 ^ 62):ψ2l.f a b=some (decide (a=b)):=by
 unfold ψ2l.f
 by_cases hl:a.length=b.length
 rotate_left
 ·have:a≠b:=fun h=>hl (by rw[h])
  rw[φ6b hl];simp[this]
 rw[φ6Q hl,cF,φFD a b hl ha (fun rec n h1 h2=>?_) (fun rec=>?_)]
 ·by_cases e:a=b<;>simp[e]
 ·simp only[ψ2l.l0,oL,h1,h2,dT,cT,φJ,φN,φD h1,φD h2,φQ (show n+1<9223372036854775808 by omega),φ2Z,φKR _ _ (hx a[n] (gM h1)),bS,φFl]
 ·simp[ψ2l.l0]
abbrev PutT:=List UInt8×Bool×List UInt8
abbrev φk:=List UInt8×List UInt8×Int
abbrev φC:=List UInt8×Int×Int×Int×Int
abbrev TxnT:=Bool×List (List UInt8×Int)×List (List UInt8×Bool×List UInt8)
def φ21 (l:List φC) (key:List UInt8):φC×Bool:=
 match l.find? (fun e=>e.1==key) with
 | some e=>(e,true)
 | none=>(([],0,0,0,0),false)
theorem φDR (l:List φC) (key:List UInt8) (hl:l.length<2 ^ 62):ψ8.f l key=some (φ21 l key):=by
 have hk:=φGs (step:=ψ8.l0) l (fun e=>e.1==key) (fun e=>(e,true)) (fun n=>(key,([],0,0,0,0),l,(l.length:Int),(n:Int))) ([],0,0,0,0) hl
  (fun rec n h=>by
   simp only[ψ8.l0,oL,h,dT,cT,φJ,φN,φD h,φ2Z,φQ (show n+1<9223372036854775808 by omega)]
   cases l[n].1==key<;>simp)
  (fun rec=>by simp[ψ8.l0])
 have hk:lp ψ8.l0 (key,([],0,0,0,0),l,(l.length:Int),0)=_:=hk
 unfold ψ8.f φ21
 rw[hk,bS]
 cases List.find? (fun e=>e.1==key) l<;>rfl
theorem φKO (l:List φC) (key:List UInt8) (hl:l.length<2 ^ 62):ψ2N.f l key=some (φ21 l key):=by
 have hk:=φGs (step:=ψ2N.l0) l (fun e=>e.1==key) (fun e=>(e,true)) (fun n=>(l,key,([],0,0,0,0),(n:Int))) ([],0,0,0,0) hl
  (fun rec n h=>by
   simp only[ψ2N.l0,oL,h,dT,cT,φJ,φN,φD h,φ2Z,φQ (show n+1<9223372036854775808 by omega)]
   cases l[n].1==key<;>simp)
  (fun rec=>by simp[ψ2N.l0])
 have hk:lp ψ2N.l0 (l,key,([],0,0,0,0),0)=_:=hk
 unfold ψ2N.f φ21
 rw[hk,bS]
 cases List.find? (fun e=>e.1==key) l<;>rfl
def φ43 (t:TxnT) (dir:List φC):Bool:=t.2.1.all fun r=>(φ21 dir r.1).1.2.2.2.2==r.2
theorem φNa (t:TxnT) (dir:List φC) (h1:t.2.1.length<2 ^ 62) (h2:dir.length<2 ^ 62):ψ1G.f t dir=some (φ43 t dir):=by
 have hk:=φ4f (step:=ψ1G.l0) t.2.1 (fun r=>(φ21 dir r.1).1.2.2.2.2==r.2) (fun n=>(dir,t.2.1,(t.2.1.length:Int),(n:Int))) () h1
  (fun rec n h=>by
   simp only[ψ1G.l0,oL,h,dT,cT,φJ,φN,φD h,φDR dir _ h2,bS,φQ (show n+1<9223372036854775808 by omega),bne]
   cases (φ21 dir t.2.1[n].1).1.2.2.2.2==t.2.1[n].2<;>simp)
  (fun rec=>by simp[ψ1G.l0])
 have hk:lp ψ1G.l0 (dir,t.2.1,(t.2.1.length:Int),0)=_:=hk
 unfold ψ1G.f φ43
 rw[hk,bS]
 cases List.all t.2.1 _<;>rfl
def φ2P (l:List PutT):List (List UInt8):=l.foldl (fun ks p=>if p.1∈ks then ks else ks++[p.1]) []
def netW (l:List PutT):List PutT:=(φ2P l).map fun k=>(ownW l k).1
theorem φ6F (l:List PutT) (p:PutT):φ2P (l++[p])=if p.1∈φ2P l then φ2P l else φ2P l++[p.1]:=by
 unfold φ2P;rw[κY];rfl
theorem φ7a (l:List PutT) (p:PutT) (k:List UInt8):ownW (l++[p]) k=if p.1=k then (p,true) else ownW l k:=by
 unfold ownW φ54
 rw[List.reverse_append,List.reverse_cons,List.reverse_nil,κ8,κF,κ8,List.find?_cons]
 by_cases h:p.1=k
 ·simp[h]
 ·have:(p.1==k)=false:=by simpa using h
  simp[h,this]
theorem φ5o {α:Type} {P:List α→Prop} (h0:P []) (hs:∀l x,P l→P (l++[x])):∀l,P l:=by
 have key:∀n (l:List α),l.length=n→P l:=by
  intro n
  induction n with
  | zero=>intro l h;rw[List.eq_nil_of_length_eq_zero h];exact h0
  | succ n ih=>
   intro l h
   have hlt:n<l.length:=by omega
   have e:l.take n++[l[n]]=l:=by
    rw[←κ4 hlt,List.take_of_length_le (by omega)]
   rw[←e]
   exact hs _ _ (ih _ (by simp;omega))
 exact fun l=>key l.length l rfl
theorem φL4 (l:List PutT) (k:List UInt8):k∈φ2P l↔∃p∈l,p.1=k:=by
 induction l using φ5o with
 | h0=>simp[φ2P]
 | hs l p ih=>
  rw[φ6F]
  by_cases h:p.1∈φ2P l
  ·rw[if_pos h,ih]
   constructor
   ·rintro ⟨q,h1,h2⟩;exact ⟨q,mL _ h1,h2⟩
   ·rintro ⟨q,h1,h2⟩
    rcases mA.1 h1 with k1 | k1
    ·exact ⟨q,k1,h2⟩
    ·simp only[mZ] at k1
     subst k1;subst h2
     exact ih.1 h
  ·rw[if_neg h,mA,ih]
   constructor
   ·rintro (⟨q,h1,h2⟩ | h1)
    ·exact ⟨q,mL _ h1,h2⟩
    ·simp only[mZ] at h1
     exact ⟨p,by simp,h1.symm⟩
   ·rintro ⟨q,h1,h2⟩
    rcases mA.1 h1 with k1 | k1
    ·exact .inl ⟨q,k1,h2⟩
    ·simp only[mZ] at k1
     subst k1;right;simp[h2]
theorem φD4 (l:List PutT):(φ2P l).Nodup:=by
 induction l using φ5o with
 | h0=>simp[φ2P]
 | hs l p ih=>
  rw[φ6F]
  by_cases h:p.1∈φ2P l
  ·rw[if_pos h];exact ih
  ·rw[if_neg h,κK]
   refine ⟨ih,by simp,fun a ha b hb=>?_⟩
   simp only[mZ] at hb
   subst hb
   intro e;subst e;exact h ha
theorem φKB (l:List PutT):(φ2P l).length≤l.length:=by
 induction l using φ5o with
 | h0=>simp[φ2P]
 | hs l p ih=>
  rw[φ6F]
  split<;>simp<;>omega
theorem φGX (l:List PutT) (k:List UInt8) (h:k∈φ2P l):(ownW l k).1.1=k∧(ownW l k).2=true:=by
 induction l using φ5o with
 | h0=>simp[φ2P] at h
 | hs l p ih=>
  rw[φ7a]
  by_cases e:p.1=k
  ·rw[if_pos e];exact ⟨e,rfl⟩
  ·rw[if_neg e]
   rw[φ6F] at h
   apply ih
   split at h
   ·exact h
   ·rcases mA.1 h with h | h
    ·exact h
    ·simp only[mZ] at h;exact absurd h.symm e
def φ2X (key:List UInt8):List PutT→Nat→Int→Int
 | [],_,s=>s
 | x::r,i,s=>φ2X key r (i+1) (if x.1==key then i else s)
theorem φBo (key:List UInt8):∀(l:List PutT) (i:Nat) (s:Int),(∀p∈l,p.1≠key)→φ2X key l i s=s
 | [],_,_,_=>rfl
 | x::r,i,s,h=>by
  have:(x.1==key)=false:=by simpa using h x (by simp)
  show φ2X key r (i+1) (if (x.1==key)=true then (i:Int) else s)=s
  rw[this]
  exact φBo key r (i+1) s fun p hp=>h p (mC _ hp)
theorem φGi (key:List UInt8):∀(l:List PutT) (i:Nat) (s:Int) (j:Nat) (hj:j<l.length),l[j].1=key→(∀m,(hm:m<l.length)→l[m].1=key→m=j)→φ2X key l i s=((i+j:Nat):Int)
 | x::r,i,s,0,_,h,hu=>by
  show φ2X key r (i+1) (if (x.1==key)=true then (i:Int) else s)=_
  have h:x.1=key:=h
  rw[h]
  simp only[beq_self_eq_true,if_true]
  rw[φBo key r (i+1) i fun p hp=>by
   intro e
   obtain ⟨m,hm,hp⟩:=List.getElem_of_mem hp
   have:=hu (m+1) (by simpa using hm) (by simpa [hp] using e)
   omega]
  simp
 | x::r,i,s,j+1,hj,h,hu=>by
  show φ2X key r (i+1) (if (x.1==key)=true then (i:Int) else s)=_
  rw[φGi key r (i+1) _ j (by simpa using hj) (by simpa using h) fun m hm hk=>by
   have:=hu (m+1) (by simpa using hm) (by simpa using hk);omega]
  congr 1;omega
def φ5K (out:List PutT) (p:PutT):List PutT:=if φ2X p.1 out 0 (-1)≥0 then out.set (φ2X p.1 out 0 (-1)).toNat p else out++[p]
theorem φNo (m:List PutT) (p:PutT):φ5K (netW m) p=netW (m++[p]):=by
 have keys:∀(j:Nat) (hj:j<(netW m).length),(netW m)[j].1=(φ2P m)[j]'(by simpa [netW] using hj):=fun j hj=>by
  simp only[netW,List.getElem_map]
  exact (φGX m _ (gM _)).1
 unfold φ5K
 by_cases h:p.1∈φ2P m
 ·obtain ⟨j,hj,hk⟩:=List.getElem_of_mem h
  have hj':j<(netW m).length:=by simpa [netW] using hj
  have e:=φGi p.1 (netW m) 0 (-1) j hj' (by rw[keys j hj',hk]) fun q hq hqk=>by
   rw[keys q hq] at hqk
   exact (List.getElem_inj (φD4 m)).1 (hqk.trans hk.symm)
  rw[e,if_pos (by omega)]
  have e2:((0+j:Nat):Int).toNat=j:=by omega
  rw[e2]
  unfold netW
  rw[φ6F,if_pos h]
  apply List.ext_getElem (by simp)
  intro i h1 h2
  rw[List.getElem_set]
  simp only[List.getElem_map]
  have hi:i<(φ2P m).length:=by simpa using h2
  by_cases hij:j=i
  ·subst hij
   rw[if_pos rfl,φ7a,if_pos hk.symm]
  ·rw[if_neg hij,φ7a,if_neg]
   intro hp
   rw[←hk] at hp
   exact hij ((List.getElem_inj (φD4 m)).1 hp)
 ·rw[φBo p.1 (netW m) 0 (-1) fun q hq=>by
   intro e
   obtain ⟨j,hj,hq⟩:=List.getElem_of_mem hq
   have:=keys j hj
   rw[hq,e] at this
   exact h (this ▸ gM _)]
  rw[if_neg (by omega)]
  unfold netW
  rw[φ6F,if_neg h,mp]
  congr 1
  ·apply List.map_congr_left
   intro k hk
   rw[φ7a,if_neg]
   intro e;subst e;exact h hk
  ·simp[φ7a]
theorem φNt (l:List PutT):l.foldl φ5K []=netW l:=by
 induction l using φ5o with
 | h0=>rfl
 | hs l p ih=>rw[κY,ih];exact φNo l p
theorem φJ2 (out:List PutT) (p:PutT) (x9:List PutT) (x10 x11:Int) (hl:out.length<2 ^ 62) :
  lp ψ1b.l2 (out,p,-1,x9,x10,x11,(out.length:Int),0)=some (out,p,φ2X p.1 out 0 (-1),x9,x10,x11):=by
 have key:=φh (step:=ψ1b.l2) (fun n (s:Int)=>(out,p,s,x9,x10,x11,(out.length:Int),(n:Int))) out.length (fun n s=>(out,p,φ2X p.1 (out.drop n) n s,x9,x10,x11)) (fun _ _=>True)
  (fun rec n s hn _ ih=>by
   rcases κ1 n out.length with h | h
   ·have hw:w64 ((n:Int)+1)=((n+1:Nat):Int):=φQ (show n+1<9223372036854775808 by omega)
    simp only[ψ1b.l2,oL,h,dT,cT,φJ,φN,φD h,φQ (show n+1<9223372036854775808 by omega)]
    rw[dG h]
    show _=some (out,p,φ2X p.1 (out.drop (n+1)) (n+1) (if (out[n].1==p.1)=true then (n:Int) else s),x9,x10,x11)
    cases out[n].1==p.1
    ·simp only[cF,bS,κ2,if_false];rw[hw];exact ih s h trivial
    ·simp only[cT,bS,if_true];rw[hw];exact ih n h trivial
   ·have:n=out.length:=by omega
    subst this
    simp[ψ1b.l2,φ2X])
  hl 0 (-1) (κ3 _) trivial
 simpa using key
theorem φOF (out:List PutT) (p:PutT):(φ5K out p).length≤out.length+1:=by
 unfold φ5K;split<;>simp
theorem φI5 (key:List UInt8):∀(l:List PutT) (i:Nat) (s:Int),φ2X key l i s=s∨(∃j:Nat,φ2X key l i s=((i+j:Nat):Int)∧j<l.length)
 | [],_,_=>.inl rfl
 | x::r,i,s=>by
  show φ2X key r (i+1) (if (x.1==key)=true then (i:Int) else s)=s∨∃j:Nat,φ2X key r (i+1) (if (x.1==key)=true then (i:Int) else s)=_∧_
  rcases φI5 key r (i+1) (if (x.1==key)=true then (i:Int) else s) with h | ⟨j,h1,h2⟩
  ·rw[h]
   split
   ·exact .inr ⟨0,by simp,by simp⟩
   ·exact .inl rfl
  ·exact .inr ⟨j+1,by rw[h1];congr 1;omega,by simp;omega⟩
theorem φIT (l:List PutT) (hl:l.length<2 ^ 40):ψ1b.f l=some (netW l):=by
 have hk:=φ3p (step:=ψ1b.l0) l φ5K (fun n (s:List PutT)=>(s,l,(l.length:Int),(n:Int))) id (fun n s=>s.length≤n) (by omega)
  (fun rec n s h hi=>by
   have hs:s.length<2 ^ 62:=by omega
   have hw:w64 ((n:Int)+1)=((n+1:Nat):Int):=φQ (show n+1<9223372036854775808 by omega)
   simp only[ψ1b.l0,oL,h,dT,cT,φJ,φN,φD h,φ2Z,φJ2 s l[n] l _ _ hs,bS,φQ (show n+1<9223372036854775808 by omega)]
   unfold φ5K
   by_cases hp:φ2X l[n].1 s 0 (-1)≥0
   ·rcases φI5 l[n].1 s 0 (-1) with k | ⟨j,k1,k2⟩
    ·omega
    ·rw[if_pos hp]
     have:inB (φ2X l[n].1 s 0 (-1)) s.length=true:=by rw[k1];simp[k2]
     simp only[hp,dT,cT,this,bS,hw]
   ·rw[if_neg hp]
    have hb:(s.length+[l[n]].length) * 40≤140737488355328:=by simp;omega
    simp only[hp,dF,cF,hb,dT,cT,bS,hw])
  (fun n s h hi=>by have:=φOF s l[n];omega)
  (fun rec s hi=>by simp[ψ1b.l0]) [] (by simp)
 have hk:lp ψ1b.l0 ([],l,(l.length:Int),0)=_:=hk
 unfold ψ1b.f
 rw[hk,φNt];rfl
theorem φAB (t:TxnT) (hl:t.2.2.length<2 ^ 40):ψc.f t=some (netW t.2.2):=by
 unfold ψc.f;rw[φIT _ hl];rfl
theorem φ55 {a:Nat} (h:a<1000000000001):(a+1) * 40≤140737488355328:=by omega
def leK (a b:List UInt8):Bool:=Op.bytesLess a b || a==b
def insB {α:Type} (l:List (List UInt8×α)) (p:List UInt8×α):List (List UInt8×α):=
 let k:=(l.takeWhile fun x=>leK x.1 p.1).length
 l.take k++[p]++l.drop k
def φ19 {α:Type} (l:List (List UInt8×α)) (key:List UInt8):List (List UInt8×α):=l.filter fun x=>!(x.1==key)
theorem φ6O {α:Type} (l:List (List UInt8×α)) (p:List UInt8×α):(insB l p).length=l.length+1:=by
 have:(l.takeWhile fun x=>leK x.1 p.1).length≤l.length:=(List.takeWhile_sublist _).length_le
 simp only[insB,lA,lT,lD,lC,lN];omega
theorem φ9a {α:Type} (l:List (List UInt8×α)) (key:List UInt8):(φ19 l key).length≤l.length:=List.length_filter_le _ _
theorem φFS {α:Type} (f:α→Bool):∀(l s:List α),l.foldl (fun s x=>if f x=true then s++[x] else s) s=s++l.filter f
 | [],s=>by simp
 | x::l,s=>by
  rw[κN,φFS f l,List.filter_cons]
  cases f x<;>simp
def φ95 (b:Int) (l:List φk) (p:PutT):List φk:=if p.2.1=true then φ19 l p.1 else insB (φ19 l p.1) (p.1,p.2.2,b)
def φ3I (l:List φk) (puts:List PutT) (b:Int):List φk:=puts.foldl (φ95 b) l
theorem φGy {α:Type} (f:α→Bool) (l:List α) (n:Nat) (h:n<l.length):((l.drop n).takeWhile f).length=if f l[n]=true then ((l.drop (n+1)).takeWhile f).length+1 else 0:=by
 rw[dG h,List.takeWhile_cons]
 split<;>simp
theorem dnn {k:Int} (h:0≤k):decide (k<0)=false:=by
 have:¬k<0:=by omega
 simp[this]
theorem φEb (l:List PutT):(netW l).length≤l.length:=by
 unfold netW;rw[lM];exact φKB l
theorem φ4s:∀a:List UInt8,Op.bytesLess a a=false
 | []=>rfl
 | x::a=>by simp[Op.bytesLess,φ4s a]
theorem φEC {a b:UInt8}:a<b↔a.toNat<b.toNat:=UInt8.lt_iff_toNat_lt
theorem φMg {a b:UInt8} (h:a.toNat=b.toNat):a=b:=UInt8.toNat.inj h
theorem φ7H:∀a b c:List UInt8,Op.bytesLess a b=true→Op.bytesLess b c=true→Op.bytesLess a c=true
 | _,[],_,h,_=>by simp[Op.bytesLess] at h
 | _,_::_,[],_,h=>by simp[Op.bytesLess] at h
 | [],_::_,_::_,_,_=>rfl
 | x::a,y::b,z::c,h1,h2=>by
  simp only[Op.bytesLess,κX,decide_eq_true_eq,bA,beq_iff_eq] at h1 h2 ⊢
  rcases h1 with h1 | ⟨h1,k1⟩
  ·rcases h2 with h2 | ⟨h2,k2⟩
   ·left;rw[φEC] at *;omega
   ·left;rw[←h2];exact h1
  ·rcases h2 with h2 | ⟨h2,k2⟩
   ·left;rw[h1];exact h2
   ·exact .inr ⟨h1.trans h2,φ7H a b c k1 k2⟩
theorem φI2:∀a b:List UInt8,Op.bytesLess a b=false→a≠b→Op.bytesLess b a=true
 | [],[],_,h=>absurd rfl h
 | [],_::_,h,_=>by simp[Op.bytesLess] at h
 | _::_,[],_,_=>rfl
 | x::a,y::b,h1,h2=>by
  simp only[Op.bytesLess,κH,decide_eq_false_iff_not,Bool.and_eq_false_iff] at h1
  simp only[Op.bytesLess,κX,decide_eq_true_eq,bA,beq_iff_eq]
  by_cases e:x=y
  ·subst e
   right
   refine ⟨rfl,φI2 a b ?_ fun e=>h2 (by rw[e])⟩
   rcases h1.2 with k | k
   ·simp at k
   ·exact k
  ·left
   rw[φEC] at *
   have:=h1.1
   have hne:x.toNat≠y.toNat:=fun k=>e (φMg k)
   omega
theorem φDZ (a b:List UInt8) (h:Op.bytesLess a b=true):Op.bytesLess b a=false:=by
 cases hb:Op.bytesLess b a with
 | false=>rfl
 | true=>have:=φ7H a b a h hb;rw[φ4s] at this;simp at this
theorem φ6L {a b:List UInt8} (h:Op.bytesLess a b=true):a≠b:=fun e=>by rw[e,φ4s] at h;simp at h
theorem φ7r (a b:List UInt8):leK a b=!Op.bytesLess b a:=by
 unfold leK
 cases h:Op.bytesLess a b with
 | true=>rw[φDZ a b h];rfl
 | false=>
  by_cases e:a=b
  ·subst e;simp[h]
  ·rw[φI2 a b h e]
   have:(a==b)=false:=by simpa using e
   simp[this]
def φ4H (b:UInt8):Bool:=(decide (97≤b.toNat) && decide (b.toNat≤122)) || (decide (48≤b.toNat) && decide (b.toNat≤57))
def φ1i (s:List UInt8):Bool:=s.all φ4H && decide (1≤s.length∧s.length≤12)
theorem φ4x (s:List UInt8) (n:Nat) (h:n<s.length):bAt s (n:Int)=(s[n].toNat:Int):=by
 unfold bAt
 rw[tN,φD h]
theorem φ8L {a:Nat} {k:Nat}:decide ((a:Int)≥(k:Int))=decide (k≤a):=decide_eq_decide.2 (by omega)
theorem φ7x {a:Nat} {k:Nat}:decide ((a:Int)≤(k:Int))=decide (a≤k):=decide_eq_decide.2 (by omega)
theorem φB9 (s:List UInt8) (hl:s.length<2 ^ 62):ψb.f s=some (φ1i s):=by
 have key:=φ4f (step:=ψb.l0) s φ4H (fun n=>(s,(n:Int))) s hl
  (fun rec n h=>by
   have hw:w64 ((n:Int)+1)=((n+1:Nat):Int):=φQ (by omega)
   have e1:decide ((s[n].toNat:Int)≥97)=decide (97≤s[n].toNat):=φ8L (k:=97)
   have e2:decide ((s[n].toNat:Int)≤122)=decide (s[n].toNat≤122):=φ7x (k:=122)
   have e3:decide ((s[n].toNat:Int)≥48)=decide (48≤s[n].toNat):=φ8L (k:=48)
   have e4:decide ((s[n].toNat:Int)≤57)=decide (s[n].toNat≤57):=φ7x (k:=57)
   simp only[ψb.l0,oL,h,dT,cT,φJ,φ4x s n h,e1,e2,e3,e4]
   unfold φ4H
   cases decide (97≤s[n].toNat)<;>cases decide (s[n].toNat≤122)<;>cases decide (48≤s[n].toNat)<;>cases decide (s[n].toNat≤57)<;>simp[hw])
  (fun rec=>by simp[ψb.l0])
 have key:lp ψb.l0 (s,0)=_:=key
 unfold ψb.f φ1i
 rw[key,bS]
 have e:decide ((1:Int)≤(s.length:Int)∧(s.length:Int)≤12)=decide (1≤s.length∧s.length≤12):=decide_eq_decide.2 (by omega)
 cases h:s.all φ4H
 ·simp
 ·simp only[if_true,φe,φ1V,bS,e,tA]
theorem φBj (s:List UInt8) (hl:s.length<2 ^ 62):ψ2b.f s=some (φ1i s):=by
 have key:=φ4f (step:=ψ2b.l0) s φ4H (fun n=>(s,(n:Int))) s hl
  (fun rec n h=>by
   have hw:w64 ((n:Int)+1)=((n+1:Nat):Int):=φQ (by omega)
   have e1:decide ((s[n].toNat:Int)≥97)=decide (97≤s[n].toNat):=φ8L (k:=97)
   have e2:decide ((s[n].toNat:Int)≤122)=decide (s[n].toNat≤122):=φ7x (k:=122)
   have e3:decide ((s[n].toNat:Int)≥48)=decide (48≤s[n].toNat):=φ8L (k:=48)
   have e4:decide ((s[n].toNat:Int)≤57)=decide (s[n].toNat≤57):=φ7x (k:=57)
   simp only[ψ2b.l0,oL,h,dT,cT,φJ,φ4x s n h,e1,e2,e3,e4]
   unfold φ4H
   cases decide (97≤s[n].toNat)<;>cases decide (s[n].toNat≤122)<;>cases decide (48≤s[n].toNat)<;>cases decide (s[n].toNat≤57)<;>simp[hw])
  (fun rec=>by simp[ψ2b.l0])
 have key:lp ψ2b.l0 (s,0)=_:=key
 unfold ψ2b.f φ1i
 rw[key,bS]
 have e:decide ((1:Int)≤(s.length:Int)∧(s.length:Int)≤12)=decide (1≤s.length∧s.length≤12):=decide_eq_decide.2 (by omega)
 cases h:s.all φ4H
 ·simp
 ·simp only[if_true,φe,φ2N,bS,e,tA]
abbrev φ4:=List UInt8×List UInt8×Int
abbrev φ1:=List φ4×Int×Int×Bool
def φI (l:List φ4):Nat:=sumN (fun f=>f.2.1.length) l
def φ2q (f:φ4):Bool:=φ1i f.1 && decide (0≤f.2.2∧f.2.2≤(f.2.1.length:Int))
def φ3Z:Option (List UInt8)→List φ4→Bool
 | _,[]=>true
 | none,f::r=>φ3Z (some f.1) r
 | some p,f::r=>Op.bytesLess p f.1 && φ3Z (some f.1) r
def φ5U (l:List φ4):Bool:=l.all φ2q && φ3Z none l
def φ3 (d:φ1):Bool:=decide (d.1.length≤130) && (decide (0≤d.2.1∧d.2.1≤100000) && (decide (-1≤d.2.2.1∧d.2.2.1≤100000) && (decide ((φI d.1:Int)≤d.2.1) && φ5U d.1)))
def φ4D (l:List φ4):Nat→Option (List UInt8)
 | 0=>none
 | n+1=>some (l.getD n ([],[],0)).1
def φ5Y (p:Option (List UInt8)) (l:List φ4):Bool:=l.all φ2q && φ3Z p l
def follows (p:Option (List UInt8)) (f:φ4):Bool:=match p with | none=>true | some q=>Op.bytesLess q f.1
theorem φCm (p:Option (List UInt8)) (f:φ4) (l:List φ4):φ5Y p (f::l)=(φ2q f && follows p f && φ5Y (some f.1) l):=by
 unfold φ5Y follows
 cases p<;>simp only[List.all_cons,φ3Z]<;>cases φ2q f<;>simp[Bool.and_comm,Bool.and_assoc,Bool.and_left_comm]
theorem φG5 (d:φ1) (hl:d.1.length<2 ^ 62) (hu:φI d.1<2 ^ 62):ψ3M.f d=some (φI d.1:Int):=by
 have key:=φh (step:=ψ3M.l0) (fun n (s:Int)=>(d,s,(n:Int))) d.1.length (fun n s=>s+(φI (d.1.drop n):Int)) (fun n s=>0≤s∧s+(φI (d.1.drop n):Int)<2 ^ 62)
  (fun rec n s hn hi ih=>by
   rcases κ1 n d.1.length with h | h
   ·have e:φI (d.1.drop n)=d.1[n].2.1.length+φI (d.1.drop (n+1)):=φAQ _ h
    have h2:=hi.2
    have h1:=hi.1
    rw[e] at h2
    simp only[ψ3M.l0,oL,h,dT,cT,φJ,φN,φD h,φQ (show n+1<9223372036854775808 by omega)]
    rw[φH (by omega) (by omega),ih _ h ⟨by omega,by omega⟩,e]
    congr 1;omega
   ·have:n=d.1.length:=by omega
    subst this
    simp[ψ3M.l0,φI,sumN])
  hl 0 0 (κ3 _) ⟨by omega,by simp only[κC];omega⟩
 have key:lp ψ3M.l0 (d,0,0)=_:=key
 unfold ψ3M.f
 rw[key];simp
theorem φHZ (d:φ1) (hl:d.1.length<2 ^ 62) (hu:φI d.1<2 ^ 62):ψ1v.f d=some (φI d.1:Int):=by
 have key:=φh (step:=ψ1v.l0) (fun n (s:Int)=>(s,d.1,(d.1.length:Int),(n:Int))) d.1.length (fun n s=>s+(φI (d.1.drop n):Int)) (fun n s=>0≤s∧s+(φI (d.1.drop n):Int)<2 ^ 62)
  (fun rec n s hn hi ih=>by
   rcases κ1 n d.1.length with h | h
   ·have e:φI (d.1.drop n)=d.1[n].2.1.length+φI (d.1.drop (n+1)):=φAQ _ h
    have h2:=hi.2
    have h1:=hi.1
    rw[e] at h2
    simp only[ψ1v.l0,oL,h,dT,cT,φJ,φN,φD h,φQ (show n+1<9223372036854775808 by omega)]
    rw[φH (by omega) (by omega),ih _ h ⟨by omega,by omega⟩,e]
    congr 1;omega
   ·have:n=d.1.length:=by omega
    subst this
    simp[ψ1v.l0,φI,sumN])
  hl 0 0 (κ3 _) ⟨by omega,by simp only[κC];omega⟩
 have key:lp ψ1v.l0 (0,d.1,(d.1.length:Int),0)=_:=key
 unfold ψ1v.f
 rw[key];simp
theorem φ8U (l:List φ4) (n:Nat) (h:n<l.length):φ4D l (n+1)=some l[n].1:=by
 show some (l.getD n ([],[],0)).1=_
 rw[φD h]
theorem φJx {f:List UInt8} (h:φ1i f=true):f.length≤12:=by
 unfold φ1i at h
 simp only[bA,decide_eq_true_eq] at h
 exact h.2.2
theorem φNu (d:φ1) (hl:d.1.length<2 ^ 62) (hu:φI d.1<2 ^ 62) (hn:∀f∈d.1,f.1.length<2 ^ 62):lp ψD.l0 (d,0,d.1,(d.1.length:Int),0)=some (if φ5U d.1=true then .inl (d,(φI d.1:Int)) else .inr false):=by
 have key:=φh (step:=ψD.l0) (fun n (s:Int)=>(d,s,d.1,(d.1.length:Int),(n:Int))) d.1.length (fun n s=>if φ5Y (φ4D d.1 n) (d.1.drop n)=true then .inl (d,s+(φI (d.1.drop n):Int)) else .inr false) (fun n s=>0≤s∧s+(φI (d.1.drop n):Int)<2 ^ 62)
  (fun rec n s hn' hi ih=>by
   rcases κ1 n d.1.length with h | h
   ·have e:φI (d.1.drop n)=d.1[n].2.1.length+φI (d.1.drop (n+1)):=φAQ _ h
    have h2:=hi.2
    have h1:=hi.1
    rw[e] at h2
    have hw:w64 ((n:Int)+1)=((n+1:Nat):Int):=φQ (by omega)
    have hw2:w64 (s+(d.1[n].2.1.length:Int))=s+(d.1[n].2.1.length:Int):=φH (by omega) (by omega)
    have ih2:=ih (s+(d.1[n].2.1.length:Int)) h ⟨by omega,by omega⟩
    have ea:s+(d.1[n].2.1.length:Int)+(φI (d.1.drop (n+1)):Int)=s+((d.1[n].2.1.length+φI (d.1.drop (n+1)):Nat):Int):=by omega
    rw[φ8U d.1 n h,ea] at ih2
    have hnm:=hn d.1[n] (gM h)
    rw[dG h,φCm,←dG h,e]
    simp only[ψD.l0,oL,h,dT,cT,φJ,φN,φD h,φB9 _ hnm,bS,φ1V]
    unfold φ2q
    rcases bE (φ1i d.1[n].1) with k1 | k1
    rotate_left
    ·simp[k1]
    rcases bE (decide (0≤d.1[n].2.2∧d.1[n].2.2≤(d.1[n].2.1.length:Int))) with k2 | k2
    rotate_left
    ·simp only[k1,k2,nZ,nF,cF,cT,bS,φo];simp
    simp only[k1,k2,nZ,cF,tA]
    cases n with
    | zero=>
     have z:¬((0:Nat):Int) > 0:=by omega
     simp only[z,dF,cF,bS,φe,hw2,hw,ih2,φ4D,follows,tA]
    | succ m=>
     have z:((m+1:Nat):Int) > 0:=by omega
     have hm:m<d.1.length:=by omega
     have z2:w64 (((m+1:Nat):Int) - 1)=(m:Int):=by rw[φH (by omega) (by omega)];omega
     rw[φ8U d.1 m hm]
     simp only[z,dT,cT,z2,φJ,hm,φN,φD hm,follows]
     rcases bE (Op.bytesLess d.1[m].1 d.1[m+1].1) with k3 | k3
     ·simp only[k3,nZ,cF,bS,φe,hw2,hw,ih2,tA]
     ·simp[k3]
   ·have:n=d.1.length:=by omega
    subst this
    simp[ψD.l0,φ5Y,φ3Z,φI,sumN])
  hl 0 0 (κ3 _) ⟨by omega,by simp only[κC];omega⟩
 have key:lp ψD.l0 (d,0,d.1,(d.1.length:Int),0)=_:=key
 rw[key,κC,Int.zero_add];rfl
theorem φJY (d:φ1) (hl:d.1.length<2 ^ 62) (hn:∀f∈d.1,f.1.length<2 ^ 62):lp ψ2P.l0 (d,0)=some (if φ5U d.1=true then .inl () else .inr false):=by
 have key:=φh (step:=ψ2P.l0) (fun n (_:Unit)=>(d,(n:Int))) d.1.length (fun n _=>if φ5Y (φ4D d.1 n) (d.1.drop n)=true then .inl () else .inr false) (fun _ _=>True)
  (fun rec n s hn' _ ih=>by
   rcases κ1 n d.1.length with h | h
   ·have hw:w64 ((n:Int)+1)=((n+1:Nat):Int):=φQ (by omega)
    have ih2:=ih () h trivial
    rw[φ8U d.1 n h] at ih2
    have hnm:=hn d.1[n] (gM h)
    rw[dG h,φCm]
    simp only[ψ2P.l0,oL,h,dT,cT,φJ,φN,φD h,φBj _ hnm,bS,φ2N]
    unfold φ2q
    rcases bE (φ1i d.1[n].1) with k1 | k1
    rotate_left
    ·simp[k1]
    rcases bE (decide (0≤d.1[n].2.2∧d.1[n].2.2≤(d.1[n].2.1.length:Int))) with k2 | k2
    rotate_left
    ·simp only[k1,k2,nZ,nF,cF,cT,bS,φo];simp
    simp only[k1,k2,nZ,cF,tA]
    cases n with
    | zero=>
     have z:¬((0:Nat):Int) > 0:=by omega
     simp only[z,dF,cF,bS,φe,hw,ih2,φ4D,follows,tA]
    | succ m=>
     have z:((m+1:Nat):Int) > 0:=by omega
     have hm:m<d.1.length:=by omega
     have z2:w64 (((m+1:Nat):Int) - 1)=(m:Int):=by rw[φH (by omega) (by omega)];omega
     have z3:(Op.bytesLess d.1[m+1].1 d.1[m].1 || d.1[m+1].1==d.1[m].1)=!Op.bytesLess d.1[m].1 d.1[m+1].1:=φ7r _ _
     rw[φ8U d.1 m hm]
     simp only[z,dT,cT,z2,φJ,hm,φN,φD hm,follows,z3]
     rcases bE (Op.bytesLess d.1[m].1 d.1[m+1].1) with k3 | k3
     ·simp only[k3,nZ,cF,bS,φe,hw,ih2,tA]
     ·simp[k3]
   ·have:n=d.1.length:=by omega
    subst this
    simp[ψ2P.l0,φ5Y,φ3Z])
  hl 0 () (κ3 _) trivial
 have key:lp ψ2P.l0 (d,0)=_:=key
 rw[key,κC];rfl
def dlim (d:φ1):Prop:=d.1.length<1000000000∧φI d.1<1000000000000∧∀f∈d.1,f.1.length<1000000000000
theorem φ5j (d:φ1) (h:dlim d):ψD.f d=some (φ3 d):=by
 obtain ⟨h1,h2,h3⟩:=h
 unfold ψD.f φ3
 have e1:decide ((d.1.length:Int) > 130)=!decide (d.1.length≤130):=by
  by_cases c:d.1.length≤130
  ·have:¬(d.1.length:Int) > 130:=by omega
   simp[c,this]
  ·have:(d.1.length:Int) > 130:=by omega
   simp[c,this]
 rw[e1,φ1V,φ1V,φNu d (by omega) (by omega) fun f hf=>by have:=h3 f hf;omega]
 cases decide (d.1.length≤130)
 ·rfl
 ·simp only[nZ,cF,bS,tA]
  cases decide (0≤d.2.1∧d.2.1≤100000)
  ·rfl
  ·simp only[nZ,cF,bS,tA]
   cases decide (-1≤d.2.2.1∧d.2.2.1≤100000)
   ·rfl
   ·cases φ5U d.1<;>simp
theorem φ8u (d:φ1) (h:dlim d):ψ2P.f d=some (φ3 d):=by
 obtain ⟨h1,h2,h3⟩:=h
 unfold ψ2P.f φ3
 have e1:decide ((d.1.length:Int) > 130)=!decide (d.1.length≤130):=by
  by_cases c:d.1.length≤130
  ·have:¬(d.1.length:Int) > 130:=by omega
   simp[c,this]
  ·have:(d.1.length:Int) > 130:=by omega
   simp[c,this]
 have e2:decide ((φI d.1:Int) > d.2.1)=!decide ((φI d.1:Int)≤d.2.1):=by
  by_cases c:(φI d.1:Int)≤d.2.1
  ·have:¬(φI d.1:Int) > d.2.1:=by omega
   simp[c,this]
  ·have:(φI d.1:Int) > d.2.1:=by omega
   simp[c,this]
 rw[e1,φ2N,φ2N,φG5 d (by omega) (by omega),φJY d (by omega) fun f hf=>by have:=h3 f hf;omega]
 cases decide (d.1.length≤130)
 ·rfl
 ·simp only[nZ,cF,bS,tA]
  cases decide (0≤d.2.1∧d.2.1≤100000)
  ·rfl
  ·simp only[nZ,cF,bS,tA]
   cases decide (-1≤d.2.2.1∧d.2.2.1≤100000)
   ·rfl
   ·simp only[nZ,cF,bS,tA,e2]
    cases decide ((φI d.1:Int)≤d.2.1)
    ·rfl
    ·cases φ5U d.1<;>simp
theorem φ5O (d:φ1) (h:d.1.length<1000000000000):ψ1K.f d=some d:=by
 unfold ψ1K.f
 have:(([]:List φ4).length+d.1.length) * 40≤140737488355328:=by simp;omega
 simp only[this,dT,cT,κ8]
theorem φ9g (d:φ1) (h:d.1.length<1000000000000):ψ3J.f d=some d:=φ5O d h
def φ1h (l:List φ4) (name:List UInt8):Int:=match l.findIdx? (fun f=>f.1==name) with | some i=>(i:Int) | none=>-1
theorem φDL {A B:Type} {step:(A→Option (B ⊕ Int))→A→Option (B ⊕ Int)} (l:List φ4) (name:List UInt8) (st:Nat→A) (b:B) (hl:l.length<2 ^ 62)
  (hs:∀rec n,(h:n<l.length)→step rec (st n)=if (l[n].1==name)=true then some (.inr (n:Int)) else rec (st (n+1)))
  (he:∀rec,step rec (st l.length)=some (.inl b)):lp step (st 0)=some (match l.findIdx? (fun f=>f.1==name) with | some i=>.inr (i:Int) | none=>.inl b):=by
 have:=φh (step:=step) (fun n (_:Unit)=>st n) l.length (fun n _=>match (l.drop n).findIdx? (fun f=>f.1==name) with | some i=>.inr ((n+i:Nat):Int) | none=>.inl b) (fun _ _=>True)
  (fun rec n s hn _ ih=>by
   rcases κ1 n l.length with h | h
   ·rw[hs rec n h,ih () h trivial,dG h,List.findIdx?_cons]
    cases hf:l[n].1==name
    ·simp only[κ2,if_false]
     cases List.findIdx? (fun f=>f.1==name) (l.drop (n+1)) with
     | none=>rfl
     | some i=>simp only[Option.map_some];congr 2;omega
    ·simp
   ·have:n=l.length:=by omega
    subst this
    rw[he];simp) hl 0 () (κ3 _) trivial
 simpa using this
theorem φ4M (d:φ1) (name:List UInt8) (hl:d.1.length<2 ^ 62):ψ1T.f d name=some (φ1h d.1 name):=by
 have hk:=φDL (step:=ψ1T.l0) d.1 name (fun n=>(name,d.1,(d.1.length:Int),(n:Int))) () hl
  (fun rec n h=>by
   simp only[ψ1T.l0,oL,h,dT,cT,φJ,φN,φD h,φQ (show n+1<9223372036854775808 by omega)]
   cases d.1[n].1==name<;>simp)
  (fun rec=>by simp[ψ1T.l0])
 have hk:lp ψ1T.l0 (name,d.1,(d.1.length:Int),0)=_:=hk
 unfold ψ1T.f φ1h
 rw[hk,bS]
 cases List.findIdx? (fun f=>f.1==name) d.1<;>rfl
theorem φ4X (d:φ1) (name:List UInt8) (hl:d.1.length<2 ^ 62):ψ3K.f d name=some (φ1h d.1 name):=by
 have hk:=φDL (step:=ψ3K.l0) d.1 name (fun n=>(name,d,(n:Int))) () hl
  (fun rec n h=>by
   simp only[ψ3K.l0,oL,h,dT,cT,φJ,φN,φD h,φQ (show n+1<9223372036854775808 by omega)]
   cases d.1[n].1==name<;>simp)
  (fun rec=>by simp[ψ3K.l0])
 have hk:lp ψ3K.l0 (name,d,0)=_:=hk
 unfold ψ3K.f φ1h
 rw[hk,bS]
 cases List.findIdx? (fun f=>f.1==name) d.1<;>rfl
theorem φu (l:List φ4) (name:List UInt8):(φ1h l name=-1∧∀f∈l,f.1≠name)∨∃i:Nat,∃h:i<l.length,φ1h l name=(i:Int)∧l[i].1=name:=by
 unfold φ1h
 cases hf:List.findIdx? (fun f=>f.1==name) l with
 | none=>
  left
  refine ⟨rfl,fun f hm=>?_⟩
  have:=List.findIdx?_eq_none_iff.1 hf f hm
  simpa using this
 | some i=>
  right
  obtain ⟨h,h1,_⟩:=List.findIdx?_eq_some_iff_getElem.1 hf
  exact ⟨i,h,rfl,by simpa using h1⟩
def tick (d:φ1):φ1:=if d.2.2.1 > 0 then (d.1,d.2.1,d.2.2.1 - 1,d.2.2.2) else d
def φT (d:φ1) (act:List φ4→Int×List φ4):φ1×Int:=
 if φ3 d=false then (d,5) else if d.2.2.2=true∨d.2.2.1=0 then ((d.1,d.2.1,d.2.2.1,true),1)
 else (((act d.1).2,(tick d).2),(act d.1).1)
theorem φ9Z {d:φ1} (h:φ3 d=true):-1≤d.2.2.1∧d.2.2.1≤100000∧d.1.length≤130:=by
 unfold φ3 at h
 simp only[bA,decide_eq_true_eq] at h
 omega
theorem φ1X (d:φ1):(tick d).1=d.1:=by unfold tick;split<;>rfl
theorem φNA (d:φ1) (h:dlim d):ψ3I.f d=some (if φ3 d=false then (d,5) else if d.2.2.2=true∨d.2.2.1=0 then ((d.1,d.2.1,d.2.2.1,true),1) else (tick d,0)):=by
 unfold ψ3I.f
 rw[φ9g d (by have:=h.1;omega),φ8u d h]
 simp only[bS]
 rcases bE (φ3 d) with k | k
 ·have hf:=φ9Z k
  rcases bE d.2.2.2 with k2 | k2
  ·simp[k,k2]
  ·by_cases k3:d.2.2.1=0
   ·simp[k,k2,k3]
   ·have k4:(d.2.2.1==0)=false:=by simpa using k3
    unfold tick
    by_cases k5:d.2.2.1 > 0
    ·simp[k,k2,k3,k4,k5,φH (show -9223372036854775808≤d.2.2.1 - 1 by omega) (by omega)]
    ·simp[k,k2,k3,k4,k5]
 ·simp[k]
theorem φ63 {C:Type} (d:φ1) (h:dlim d) (c:C) (does:C→φ1→Option (Int×φ1)) (act:List φ4→Int×List φ4) (hd:φ3 d=true→does c (tick d)=some ((act d.1).1,(act d.1).2,(tick d).2)) :
  ((ψ1K.f d).bind fun t1=>(ψD.f d).bind fun t2=>
   bif !t2 then some (t1,5) else
   bif d.2.2.2 then some ((t1.1,t1.2.1,t1.2.2.1,true),1) else
   bif d.2.2.1==0 then some ((t1.1,t1.2.1,t1.2.2.1,true),1) else
   (bif decide (d.2.2.1 > 0) then let y3:=w64 (t1.2.2.1 - 1);some (c,(([],0,0,false):φ1),(t1.1,t1.2.1,y3,t1.2.2.2)) else some (c,([],0,0,false),t1):Option (C×φ1×φ1)).bind fun (x1,x4,x6)=>
   (does x1 x6).bind fun (t4_0,t4_1)=>some (t4_1,t4_0))=some (φT d act):=by
 rw[φ5O d (by have:=h.1;omega),φ5j d h]
 simp only[bS]
 unfold φT
 rcases bE (φ3 d) with k | k
 ·have hf:=φ9Z k
  have hd:=hd k
  rcases bE d.2.2.2 with k2 | k2
  ·simp[k,k2]
  ·by_cases k3:d.2.2.1=0
   ·simp[k,k2,k3]
   ·have k4:(d.2.2.1==0)=false:=by simpa using k3
    have e:(bif decide (d.2.2.1 > 0) then some (c,(([],0,0,false):φ1),((d.1,d.2.1,w64 (d.2.2.1 - 1),d.2.2.2):φ1)) else some (c,([],0,0,false),d))=some (c,([],0,0,false),tick d):=by
     unfold tick
     by_cases k5:d.2.2.1 > 0
     ·simp[k5,φH (show -9223372036854775808≤d.2.2.1 - 1 by omega) (by omega)]
     ·simp[k5]
    simp only[k,k4,nZ,cF,e,bS,hd]
    simp[k2,k3]
 ·simp[k]
theorem φ42 {l:List φ4} {i:Nat} (h:i<l.length):inB (i:Int) l.length=true:=by simp[h]
theorem φ3z {l:List φ4} {i:Nat} (h:i<l.length):rdA ([],[],0) l (i:Int)=l[i]:=by rw[φN,φD h]
theorem φJG {d:φ1} (h:dlim d):dlim (tick d):=by unfold dlim;rw[φ1X];exact h
def φ26 (name:List UInt8) (l:List φ4):Int×List φ4:=
 match l.findIdx? (fun f=>f.1==name) with
 | some i=>(0,l.set i ((l.getD i ([],[],0)).1,(l.getD i ([],[],0)).2.1,((l.getD i ([],[],0)).2.1.length:Int)))
 | none=>(3,l)
theorem φ1B {l:List φ4} {name:List UInt8} (h:φ1h l name=-1):l.findIdx? (fun f=>f.1==name)=none:=by
 unfold φ1h at h
 cases e:l.findIdx? (fun f=>f.1==name) with
 | none=>rfl
 | some i=>rw[e] at h;simp only at h;omega
theorem φ16 {l:List φ4} {name:List UInt8} {i:Nat} (h:φ1h l name=(i:Int)):l.findIdx? (fun f=>f.1==name)=some i:=by
 unfold φ1h at h
 cases e:l.findIdx? (fun f=>f.1==name) with
 | none=>rw[e] at h;simp only at h;omega
 | some j=>rw[e] at h;simp only at h;congr 1;omega
theorem φIP (d:φ1) (name:List UInt8) (h:d.1.length<2 ^ 62):ψ1A.f d name=some ((φ26 name d.1).1,(φ26 name d.1).2,d.2):=by
 unfold ψ1A.f φ26
 rw[φ4M d name h,bS]
 rcases φu d.1 name with ⟨e,_⟩ | ⟨i,hi,e,_⟩
 ·rw[e,φ1B e];rfl
 ·rw[e,φ16 e]
  simp only[dnn (show (0:Int)≤(i:Int) by omega),cF,φ42 hi,cT,φ3z hi,tN,φD hi]
theorem φNZ (d:φ1) (name:List UInt8) (h:dlim d):ψ19.f d name=some (φT d (φ26 name)):=by
 have hs:ψ1q.f d name=some (φT d (φ26 name)):=φ63 d h name (fun n x=>ψ1A.f x n) (φ26 name) fun _=>by
  show ψ1A.f (tick d) name=_
  rw[φIP (tick d) name (by rw[φ1X];have:=h.1;omega),φ1X]
 unfold ψ19.f
 rw[hs];rfl
theorem φ78 (d:φ1) (h:dlim d):(∃(x:φ1) (c:Int),ψ3I.f d=some (x,c)∧(c != 0)=true∧∀act,φT d act=(x,c)) ∨
  (φ3 d=true∧ψ3I.f d=some (tick d,0)∧∀act,φT d act=(((act d.1).2,(tick d).2),(act d.1).1)):=by
 rw[φNA d h]
 unfold φT
 rcases bE (φ3 d) with k | k
 ·by_cases k2:d.2.2.2=true∨d.2.2.1=0
  ·left
   refine ⟨(d.1,d.2.1,d.2.2.1,true),1,?_,?_,fun act=>?_⟩
   ·rw[if_neg (by simp[k]),if_pos k2]
   ·rfl
   ·rw[if_neg (by simp[k]),if_pos k2]
  ·right
   refine ⟨k,?_,fun act=>?_⟩
   ·rw[if_neg (by simp[k]),if_neg k2]
   ·rw[if_neg (by simp[k]),if_neg k2]
 ·left
  refine ⟨d,5,?_,?_,fun act=>?_⟩
  ·rw[if_pos k]
  ·rfl
  ·rw[if_pos k]
theorem φCS (d:φ1) (name:List UInt8) (h:dlim d):ψ2u.f d name=some (φT d (φ26 name)):=by
 have hl:d.1.length<2 ^ 62:=by have:=h.1;omega
 unfold ψ2u.f
 rcases φ78 d h with ⟨x,c,e1,e2,e3⟩ | ⟨k,e1,e3⟩
 ·rw[e1,e3,bS];simp only[e2,cT]
 rw[e1,e3,bS]
 simp only[bne_self_eq_false,cF,φ4X d name hl,bS]
 unfold φ26
 rcases φu d.1 name with ⟨e,_⟩ | ⟨i,hi,e,_⟩
 ·rw[e,φ1B e]
  show some (tick d,3)=some ((d.1,(tick d).2),3)
  rw[←φ1X d]
 ·rw[e,φ16 e]
  have ht:i<(tick d).1.length:=by rw[φ1X];exact hi
  simp only[dnn (show (0:Int)≤(i:Int) by omega),cF,φ42 hi,φ42 ht,cT,φ3z hi,φ3z ht,tN,φD hi]
  simp only[φ1X]
def φb (l:List φ4) (i:Nat):List φ4:=l.take i++l.drop (i+1)
theorem φ6T {l:List φ4} {i:Nat} (h:i<l.length):(φb l i).length=l.length - 1:=by
 unfold φb
 rw[lA,lT,lD];omega
def φ1b (l:List φ4) (name:List UInt8):List φ4:=
 match l.findIdx? (fun f=>f.1==name) with
 | some i=>φb l i
 | none=>l
theorem φAu (l:List φ4) (name:List UInt8):(φ1b l name).length≤l.length:=by
 unfold φ1b
 cases e:l.findIdx? (fun f=>f.1==name) with
 | none=>exact κ6 _
 | some i=>
  obtain ⟨h,_⟩:=List.findIdx?_eq_some_iff_getElem.1 e
  have:=φ6T h
  simp only;omega
theorem φEP (l:List φ4) (i:Nat) (h:i<l.length) (hl:l.length<1000000000000) {β:Type} (K:List φ4→Option β) :
  (bif (decide (0≤(i:Int)) && decide ((i:Int)≤(l.length:Int))) then
   bif decide ((([]:List φ4).length+(l.take (i:Int).toNat).length) * 40≤140737488355328) then
   bif (decide (0≤w64 ((i:Int)+1)) && decide (w64 ((i:Int)+1)≤(l.length:Int))) then
   bif decide (((([]:List φ4)++(l.take (i:Int).toNat)).length+(l.drop ((w64 ((i:Int)+1)).toNat)).length) * 40≤140737488355328) then
   K ((([]:List φ4)++(l.take (i:Int).toNat))++(l.drop ((w64 ((i:Int)+1)).toNat))) else none else none else none else none)=K (φb l i):=by
 have hw:w64 ((i:Int)+1)=((i+1:Nat):Int):=φQ (by omega)
 rw[hw]
 have c1:(decide (0≤(i:Int)) && decide ((i:Int)≤(l.length:Int)))=true:=by simp;omega
 have c2:(decide (0≤((i+1:Nat):Int)) && decide (((i+1:Nat):Int)≤(l.length:Int)))=true:=by simp;omega
 have c3:(l.take i).length * 40≤140737488355328:=by rw[lT];omega
 have c4:((l.take i).length+(l.drop (i+1)).length) * 40≤140737488355328:=by rw[lT,lD];omega
 simp only[tN,κ8,lN,κU,c1,c2]
 simp only[c3,c4,dT,cT];rfl
theorem φAC (d:φ1) (name:List UInt8) (h:d.1.length<1000000000):ψE.f d name=some (φ1b d.1 name,d.2):=by
 unfold ψE.f φ1b
 rw[φ4M d name (by omega),bS]
 rcases φu d.1 name with ⟨e,_⟩ | ⟨i,hi,e,_⟩
 ·rw[e,φ1B e];rfl
 ·rw[e,φ16 e]
  have c:(i:Int)≥0:=by omega
  simp only[c,dT,cT]
  exact φEP d.1 i hi (by omega) fun l=>some (l,d.2)
theorem φC6 (l:List φ4) (i:Nat) (hi:i<l.length) (h:l.length<1000000000):ψ3N.f l (i:Int)=some (φb l i):=by
 unfold ψ3N.f
 exact φEP l i hi (by omega) fun l=>some l
def φ25 (name:List UInt8) (l:List φ4):Int×List φ4:=
 match l.findIdx? (fun f=>f.1==name) with
 | some i=>(0,φb l i)
 | none=>(3,l)
theorem φOH (d:φ1) (name:List UInt8) (h:d.1.length<1000000000):ψs.f d name=some ((φ25 name d.1).1,(φ25 name d.1).2,d.2):=by
 unfold ψs.f φ25
 rw[φ4M d name (by omega),bS,φAC d name h]
 unfold φ1b
 rcases φu d.1 name with ⟨e,_⟩ | ⟨i,hi,e,_⟩
 ·rw[e,φ1B e];rfl
 ·rw[e,φ16 e]
  simp only[dnn (show (0:Int)≤(i:Int) by omega),cF,bS]
theorem φKX (d:φ1) (name:List UInt8) (h:dlim d):ψr.f d name=some (φT d (φ25 name)):=by
 have hs:ψ1o.f d name=some (φT d (φ25 name)):=φ63 d h name (fun n x=>ψs.f x n) (φ25 name) fun _=>by
  show ψs.f (tick d) name=_
  rw[φOH (tick d) name (by rw[φ1X];exact h.1),φ1X]
 unfold ψr.f
 rw[hs];rfl
theorem φFo (d:φ1) (name:List UInt8) (h:dlim d):ψ2j.f d name=some (φT d (φ25 name)):=by
 have hl:=h.1
 unfold ψ2j.f
 rcases φ78 d h with ⟨x,c,e1,e2,e3⟩ | ⟨k,e1,e3⟩
 ·rw[e1,e3,bS];simp only[e2,cT]
 rw[e1,e3,bS]
 simp only[bne_self_eq_false,cF,φ4X d name (show d.1.length<2 ^ 62 by omega),bS]
 unfold φ25
 rcases φu d.1 name with ⟨e,_⟩ | ⟨i,hi,e,_⟩
 ·rw[e,φ1B e]
  show some (tick d,3)=some ((d.1,(tick d).2),3)
  rw[←φ1X d]
 ·rw[e,φ16 e]
  simp only[dnn (show (0:Int)≤(i:Int) by omega),cF,φ1X,φC6 d.1 i hi hl,bS]
def φ3w (name:List UInt8) (n:Int) (l:List φ4):Int×List φ4:=
 match l.findIdx? (fun f=>f.1==name) with
 | some i=>if 0≤n∧n≤((l.getD i ([],[],0)).2.1.length:Int) then
   (0,l.set i ((l.getD i ([],[],0)).1,(l.getD i ([],[],0)).2.1.take n.toNat,if n<(l.getD i ([],[],0)).2.2 then n else (l.getD i ([],[],0)).2.2))
  else (5,l)
 | none=>(3,l)
theorem φO8 (d:φ1) (name:List UInt8) (n:Int) (h:d.1.length<1000000000):ψ1C.f d name n=some ((φ3w name n d.1).1,(φ3w name n d.1).2,d.2):=by
 unfold ψ1C.f φ3w
 rw[φ4M d name (by omega),bS]
 rcases φu d.1 name with ⟨e,_⟩ | ⟨i,hi,e,_⟩
 ·rw[e,φ1B e];rfl
 ·rw[e,φ16 e]
  simp only[dnn (show (0:Int)≤(i:Int) by omega),cF,φ42 hi,cT,φ3z hi,φ1V,bS,φD hi]
  by_cases c:0≤n∧n≤(d.1[i].2.1.length:Int)
  ·have c2:(decide (0≤n) && decide (n≤(d.1[i].2.1.length:Int)))=true:=by simp[c.1,c.2]
   simp only[c,c2,dT,nZ,cF,cT,tN,φMG hi,List.set_set,if_true,and_self,Bool.and_self]
  ·simp[c]
theorem φOS (d:φ1) (name:List UInt8) (n:Int) (h:dlim d):ψ1B.f d name n=some (φT d (φ3w name n)):=by
 have hs:ψ1r.f d (name,n)=some (φT d (φ3w name n)):=φ63 d h (name,n) (fun c x=>ψ1C.f x c.1 c.2) (φ3w name n) fun _=>by
  show ψ1C.f (tick d) name n=_
  rw[φO8 (tick d) name n (by rw[φ1X];exact h.1),φ1X]
 unfold ψ1B.f
 rw[hs];rfl
def φ2R (cap:Int) (name text:List UInt8) (l:List φ4):Int×List φ4:=
 match l.findIdx? (fun f=>f.1==name) with
 | some i=>if (text.length:Int) > cap - (φI l:Int) then (2,l) else
   (0,l.set i ((l.getD i ([],[],0)).1,(l.getD i ([],[],0)).2.1++text,(l.getD i ([],[],0)).2.2))
 | none=>(3,l)
theorem φ9y {l:List φ4} {f:φ4} (h:f∈l):f.2.1.length≤φI l:=φEa (fun f=>f.2.1.length) h
theorem φ8P {d:φ1} (h:φ3 d=true):0≤d.2.1∧d.2.1≤100000∧(φI d.1:Int)≤d.2.1:=by
 unfold φ3 at h
 simp only[bA,decide_eq_true_eq] at h
 omega
theorem φ8X (d:φ1):(tick d).2.1=d.2.1:=by unfold tick;split<;>rfl
theorem φNw (d:φ1) (name text:List UInt8) (h:dlim d) (hc:0≤d.2.1∧d.2.1≤100000) (ht:text.length<1000000000000):ψ1.f d name text=some ((φ2R d.2.1 name text d.1).1,(φ2R d.2.1 name text d.1).2,d.2):=by
 obtain ⟨h1,h2,h3⟩:=h
 unfold ψ1.f φ2R
 rw[φ4M d name (by omega),bS,φHZ d (by omega) (by omega)]
 rcases φu d.1 name with ⟨e,_⟩ | ⟨i,hi,e,_⟩
 ·rw[e,φ1B e];rfl
 ·rw[e,φ16 e]
  have hm:=φ9y (gM hi)
  have c1:d.1[i].2.1.length+text.length≤9223372036854775807:=by omega
  simp only[dnn (show (0:Int)≤(i:Int) by omega),cF,bS,φ42 hi,cT,φ3z hi,φD hi,c1,dT,tN]
  rw[φH (by omega) (by omega)]
  by_cases c:(text.length:Int) > d.2.1 - (φI d.1:Int)
  ·simp[c]
  ·simp[c]
theorem φKv (d:φ1) (name text:List UInt8) (h:dlim d) (ht:text.length<1000000000000):ψ0.f d name text=some (φT d (φ2R d.2.1 name text)):=by
 have hs:ψ1m.f d (name,text)=some (φT d (φ2R d.2.1 name text)):=φ63 d h (name,text) (fun c x=>ψ1.f x c.1 c.2) (φ2R d.2.1 name text) fun k=>by
  have hc:=φ8P k
  show ψ1.f (tick d) name text=_
  rw[φNw (tick d) name text (φJG h) (by rw[φ8X];omega) ht,φ1X,φ8X]
 unfold ψ0.f
 rw[hs];rfl
theorem φCG (d:φ1) (name text:List UInt8) (h:dlim d) (htx:text.length<1000000000000):ψ2J.f d name text=some (φT d (φ2R d.2.1 name text)):=by
 have h1:=h.1
 have h2:=h.2.1
 unfold ψ2J.f
 rcases φ78 d h with ⟨x,c,e1,e2,e3⟩ | ⟨k,e1,e3⟩
 ·rw[e1,e3,bS];simp only[e2,cT]
 rw[e1,e3,bS]
 have hc:=φ8P k
 simp only[bne_self_eq_false,cF,φ4X d name (show d.1.length<2 ^ 62 by omega),bS,φG5 d (show d.1.length<2 ^ 62 by omega) (show φI d.1<2 ^ 62 by omega)]
 unfold φ2R
 rcases φu d.1 name with ⟨e,_⟩ | ⟨i,hi,e,_⟩
 ·rw[e,φ1B e]
  show some (tick d,3)=some ((d.1,(tick d).2),3)
  rw[←φ1X d]
 ·rw[e,φ16 e]
  have ht:i<(tick d).1.length:=by rw[φ1X];exact hi
  have hm:=φ9y (gM hi)
  have c1:d.1[i].2.1.length+text.length≤9223372036854775807:=by omega
  simp only[dnn (show (0:Int)≤(i:Int) by omega),cF,φ42 hi,φ42 ht,cT,φ3z hi,φ3z ht,φD hi,c1,dT,tN]
  rw[φH (by omega) (by omega)]
  simp only[φ1X]
  by_cases c:(text.length:Int) > d.2.1 - (φI d.1:Int)
  ·simp only[c,dT,cT,if_true]
   rw[←φ1X d]
  ·simp only[c,dF,cF,if_false]
def putF (l:List φ4) (f:φ4):List φ4:=
 let k:=(l.takeWhile fun x=>Op.bytesLess x.1 f.1).length
 l.take k++[f]++l.drop k
theorem φEW (d:φ1) (f:φ4) (h:d.1.length<1000000000):ψF.f d f=some (putF d.1 f,d.2):=by
 have key:=φh (step:=ψF.l0) (fun n (_:Unit)=>(d,f,(n:Int))) d.1.length (fun n _=>(d,f,((n+((d.1.drop n).takeWhile fun x=>Op.bytesLess x.1 f.1).length:Nat):Int))) (fun _ _=>True)
  (fun rec n s hn _ ih=>by
   rcases κ1 n d.1.length with h2 | h2
   ·rw[φGy _ _ _ h2]
    simp only[ψF.l0,oL,h2,dT,cT,φJ,φN,φD h2,φQ (show n+1<9223372036854775808 by omega)]
    cases Op.bytesLess d.1[n].1 f.1
    ·simp
    ·simp only[cT,if_true]
     rw[ih () h2 trivial]
     congr 3;congr 1;omega
   ·have:n=d.1.length:=by omega
    subst this
    simp[ψF.l0])
  (by omega) 0 () (κ3 _) trivial
 have key:lp ψF.l0 (d,f,0)=_:=key
 unfold ψF.f putF
 rw[key,bS]
 simp only[κC,κU]
 have htw:(d.1.takeWhile fun x=>Op.bytesLess x.1 f.1).length≤d.1.length:=(List.takeWhile_sublist _).length_le
 generalize (d.1.takeWhile fun x=>Op.bytesLess x.1 f.1).length=k at *
 have c1:(decide (0≤(k:Int)) && decide ((k:Int)≤(d.1.length:Int)))=true:=by simp;omega
 have c2:(d.1.take k).length * 40≤140737488355328:=by rw[lT];omega
 have c3:((d.1.take k).length+[f].length) * 40≤140737488355328:=by rw[lT];exact φ55 (by omega)
 have c4:((d.1.take k++[f]).length+(d.1.drop k).length) * 40≤140737488355328:=by
  rw[lA,lT,lD]
  show (min k d.1.length+1+(d.1.length - k)) * 40≤_
  omega
 simp only[tN,κ8,lN,κU,c1]
 simp only[c2,c3,c4,dT,cT]
def φ30 (f:φ4) (s:List φ4×Bool) (x:φ4):List φ4×Bool:=
 if s.2=false∧leK x.1 f.1=false then (s.1++[f]++[x],true) else (s.1++[x],s.2)
theorem φFs (f:φ4) (s:List φ4×Bool) (x:φ4):(φ30 f s x).1.length≤s.1.length+2:=by
 unfold φ30;split<;>simp<;>omega
theorem φFO (f:φ4):∀(l out:List φ4),l.foldl (φ30 f) (out,true)=(out++l,true)
 | [],out=>by simp
 | x::l,out=>by
  have e1:φ30 f (out,true) x=(out++[x],true):=by unfold φ30;rw[if_neg (by simp)]
  rw[κN,e1,φFO f l];simp
theorem φHh (f:φ4):∀(l out:List φ4),(let s:=l.foldl (φ30 f) (out,false);if s.2=true then s.1 else s.1++[f])=out++insB l f
 | [],out=>by simp[insB]
 | x::l,out=>by
  rw[κN]
  cases hk:leK x.1 f.1
  ·have e1:φ30 f (out,false) x=(out++[f]++[x],true):=by unfold φ30;rw[if_pos ⟨rfl,hk⟩]
   rw[e1,φFO]
   simp[insB,hk]
  ·have e1:φ30 f (out,false) x=(out++[x],false):=by unfold φ30;rw[if_neg (by simp[hk])]
   rw[e1,φHh f l (out++[x])]
   simp[insB,hk]
theorem φBx (l:List φ4) (f:φ4) (hl:l.length<1000000000):ψ3L.f l f=some (insB l f):=by
 have hk:=φ3p (step:=ψ3L.l0) l (φ30 f) (fun n (s:List φ4×Bool)=>(l,f,s.1,s.2,(n:Int))) (fun s=>(f,s.1,s.2)) (fun n s=>s.1.length≤2 * n) (by omega)
  (fun rec n s h hi=>by
   have hi:s.1.length≤2 * n:=hi
   have hq:s.1.length<1000000000000:=by omega
   have hb1:(s.1.length+[f].length) * 40≤140737488355328:=φ55 (Nat.lt_succ_of_lt hq)
   have hb2:(s.1.length+([l[n]]:List φ4).length) * 40≤140737488355328:=φ55 (Nat.lt_succ_of_lt hq)
   have hb3:((s.1++[f]).length+([l[n]]:List φ4).length) * 40≤140737488355328:=by rw[lA];exact φ55 (Nat.succ_lt_succ hq)
   have hw:w64 ((n:Int)+1)=(n:Int)+1:=φH (by omega) (by omega)
   have hle:(Op.bytesLess l[n].1 f.1 || l[n].1==f.1)=leK l[n].1 f.1:=rfl
   simp only[ψ3L.l0,oL,h,dT,cT,φJ,φN,φD h,φ2Z,hle]
   unfold φ30
   rcases bE s.2 with h2 | h2
   ·simp only[h2,cF,nZ,bS,φJ,φN,φD h,φ2Z,h,dT,cT,hb2]
    simp[hw]
   ·rcases bE (leK l[n].1 f.1) with h3 | h3
    ·simp only[h2,h3,cF,nZ,nF,bS,φJ,φN,φD h,φ2Z,h,dT,cT,hb2]
     simp[hw]
    ·simp only[h2,h3,cF,nZ,nF,bS,φJ,φN,φD h,φ2Z,h,dT,cT,hb1,hb3]
     simp[hw])
  (fun n s h hi=>by have:=φFs f s l[n];have hi:s.1.length≤2 * n:=hi;show _≤2 * (n+1);omega)
  (fun rec s hi=>by simp[ψ3L.l0]) ([],false) (by simp)
 have hk:lp ψ3L.l0 (l,f,[],false,0)=_:=hk
 have hlen:∀(m:List φ4) (s:List φ4×Bool),(m.foldl (φ30 f) s).1.length≤s.1.length+2 * m.length:=by
  intro m
  induction m with
  | nil=>intro s;simp
  | cons x m ih=>intro s;rw[κN];have:=ih (φ30 f s x);have:=φFs f s x;simp only[lC];omega
 unfold ψ3L.f
 rw[hk,bS]
 have hf:=φHh f l []
 have hb:=hlen l ([],false)
 generalize l.foldl (φ30 f) ([],false)=s at *
 obtain ⟨s1,s2⟩:=s
 simp only[lN,κU] at hb
 have hb1:(s1.length+[f].length) * 40≤140737488355328:=φ55 (by omega)
 cases s2
 ·simp only[κ2,if_false,κ8] at hf
  simp only[nF,cT,hb1,dT,hf]
 ·simp only[if_true,κ8] at hf
  simp[hf]
theorem φDb {α:Type} {f g:α→Bool}:∀{l:List α},(∀x∈l,f x=g x)→l.takeWhile f=l.takeWhile g
 | [],_=>rfl
 | x::l,h=>by
  rw[List.takeWhile_cons,List.takeWhile_cons,h x (by simp),φDb fun y hy=>h y (mC _ hy)]
theorem φDS {l:List φ4} {f:φ4} (h:∀x∈l,x.1≠f.1):putF l f=insB l f:=by
 unfold putF insB
 have:(l.takeWhile fun x=>Op.bytesLess x.1 f.1)=l.takeWhile fun x=>leK x.1 f.1:=φDb fun x hx=>by
  unfold leK
  have:(x.1==f.1)=false:=by simpa using h x hx
  rw[this,Bool.or_false]
 rw[this]
def φ2b (name:List UInt8) (l:List φ4):Int×List φ4:=
 if φ1i name=false then (5,l) else if φ1h l name≥0 then (4,l) else if 130≤l.length then (2,l) else (0,insB l (name,[],0))
theorem φKK (d:φ1) (name:List UInt8) (h:d.1.length<1000000000) (hn:name.length<2 ^ 62):ψ5.f d name=some ((φ2b name d.1).1,(φ2b name d.1).2,d.2):=by
 unfold ψ5.f φ2b
 rw[φB9 name hn,bS,φ4M d name (by omega)]
 rcases bE (φ1i name) with k | k
 rotate_left
 ·simp[k]
 simp only[k,nZ,cF,bS,κ9,if_false]
 rcases φu d.1 name with ⟨e,hno⟩ | ⟨i,hi,e,_⟩
 ·have c:¬φ1h d.1 name≥0:=by omega
  simp only[c,dF,cF,if_false]
  by_cases c2:130≤d.1.length
  ·have c3:(d.1.length:Int)≥130:=by omega
   simp[c2,c3]
  ·have c3:¬(d.1.length:Int)≥130:=by omega
   simp only[c2,c3,dF,cF,if_false,φEW d _ h,bS,φDS (l:=d.1) (f:=(name,[],0)) hno]
 ·have c:φ1h d.1 name≥0:=by omega
  simp[c]
theorem φIV (d:φ1) (name:List UInt8) (h:dlim d) (hn:name.length<2 ^ 62):ψ4.f d name=some (φT d (φ2b name)):=by
 have hs:ψ1n.f d name=some (φT d (φ2b name)):=φ63 d h name (fun n x=>ψ5.f x n) (φ2b name) fun _=>by
  show ψ5.f (tick d) name=_
  rw[φKK (tick d) name (by rw[φ1X];exact h.1) hn,φ1X]
 unfold ψ4.f
 rw[hs];rfl
theorem φHy (d:φ1) (name:List UInt8) (h:dlim d) (hn:name.length<2 ^ 62):ψ2L.f d name=some (φT d (φ2b name)):=by
 have hl:=h.1
 unfold ψ2L.f
 rcases φ78 d h with ⟨x,c,e1,e2,e3⟩ | ⟨k,e1,e3⟩
 ·rw[e1,e3,bS];simp only[e2,cT]
 rw[e1,e3,bS]
 simp only[bne_self_eq_false,cF,φBj name hn,φ4X d name (show d.1.length<2 ^ 62 by omega),bS]
 unfold φ2b
 have ht:(d.1,(tick d).2)=tick d:=by rw[←φ1X d]
 rcases bE (φ1i name) with k | k
 rotate_left
 ·simp[k,ht]
 simp only[k,nZ,cF,κ9,if_false]
 by_cases c:φ1h d.1 name≥0
 ·simp[c,ht]
 simp only[c,dF,cF,if_false]
 by_cases c2:130≤d.1.length
 ·have c3:(d.1.length:Int)≥130:=by omega
  simp[c2,c3,ht]
 ·have c3:¬(d.1.length:Int)≥130:=by omega
  simp only[c2,c3,dF,cF,if_false,φ1X,φBx d.1 _ hl,bS]
theorem φDu:∀(l:List φ4) (p:List UInt8),φ3Z (some p) l=true→(∀x∈l,Op.bytesLess p x.1=true)∧l.Pairwise (fun a b=>Op.bytesLess a.1 b.1=true)
 | [],p,_=>⟨by simp,List.Pairwise.nil⟩
 | f::l,p,h=>by
  simp only[φ3Z,bA] at h
  obtain ⟨h1,h2⟩:=φDu l f.1 h.2
  refine ⟨fun x hx=>?_,List.Pairwise.cons h1 h2⟩
  rcases mc.1 hx with e | hx
  ·rw[e];exact h.1
  ·exact φ7H _ _ _ h.1 (h1 x hx)
theorem φGT (l:List φ4) (h:φ3Z none l=true):l.Pairwise (fun a b=>Op.bytesLess a.1 b.1=true):=by
 cases l with
 | nil=>exact List.Pairwise.nil
 | cons f l=>
  obtain ⟨h1,h2⟩:=φDu l f.1 h
  exact List.Pairwise.cons h1 h2
theorem φ5i {d:φ1} (h:φ3 d=true):d.1.Pairwise (fun a b=>Op.bytesLess a.1 b.1=true):=by
 unfold φ3 φ5U at h
 simp only[bA] at h
 exact φGT _ h.2.2.2.2.2
theorem φ9K {l:List φ4} {i:Nat} (h:i<l.length):l=l.take i++l[i]::l.drop (i+1):=by
 rw[←dG h,κE]
theorem φ5P (l:List φ4) (i:Nat):(φb l i).Sublist l:=by
 unfold φb
 have:(l.take i++l.drop (i+1)).Sublist (l.take i++l.drop i):=List.Sublist.append (List.Sublist.refl _) (List.drop_sublist_drop_left l (by omega))
 rw[κE] at this
 exact this
theorem φBn {l:List φ4} {i:Nat} (h:i<l.length) (hp:l.Pairwise (fun a b=>Op.bytesLess a.1 b.1=true)):∀x∈φb l i,x.1≠l[i].1:=by
 rw[φ9K h,κf] at hp
 obtain ⟨_,h2,h3⟩:=hp
 intro x hx
 rcases mA.1 hx with hx | hx
 ·exact φ6L (h3 x hx _ κ0)
 ·exact (φ6L ((κZ.1 h2).1 x hx)).symm
theorem φDr {l:List φ4} {name:List UInt8} (hp:l.Pairwise (fun a b=>Op.bytesLess a.1 b.1=true)):∀x∈φ1b l name,x.1≠name:=by
 unfold φ1b
 rcases φu l name with ⟨e,hno⟩ | ⟨i,hi,e,hn⟩
 ·rw[φ1B e];exact hno
 ·rw[φ16 e,←hn];exact φBn hi hp
theorem φCr {l:List φ4} {name:List UInt8} (h:∀x∈l,x.1≠name):φ1b l name=l:=by
 unfold φ1b
 have:l.findIdx? (fun f=>f.1==name)=none:=by
  rw[List.findIdx?_eq_none_iff]
  intro x hx
  simpa using h x hx
 rw[this]
theorem φKj {l:List φ4} {i:Nat} (h:i<l.length) (hp:l.Pairwise (fun a b=>Op.bytesLess a.1 b.1=true)):putF (φb l i) l[i]=l:=by
 have hs:=hp
 rw[φ9K h,κf] at hs
 obtain ⟨_,h2,h3⟩:=hs
 have e1:((φb l i).takeWhile fun x=>Op.bytesLess x.1 l[i].1)=l.take i:=by
  unfold φb
  rw[List.takeWhile_append_of_pos (fun x hx=>h3 x hx _ κ0)]
  have:(l.drop (i+1)).takeWhile (fun x=>Op.bytesLess x.1 l[i].1)=[]:=by
   cases e:l.drop (i+1) with
   | nil=>rfl
   | cons y r=>
    rw[List.takeWhile_cons,φDZ _ _ ((κZ.1 h2).1 y (by rw[e];simp))];rfl
  rw[this,κ7]
 unfold putF
 rw[e1]
 have hk:(l.take i).length=i:=by rw[lT];omega
 simp only[hk]
 unfold φb
 rw[κd (by omega),List.take_take,Nat.min_self,List.drop_append_of_le_length (by omega),List.drop_take,Nat.sub_self,List.take_zero,κ8,aA,List.singleton_append]
 exact (φ9K h).symm
def φ2J (src dst:List UInt8) (l:List φ4):Int×List φ4:=
 if φ1i dst=false then (5,l) else
 match l.findIdx? (fun f=>f.1==src) with
 | some i=>(0,if src=dst then l else insB (φ1b (φb l i) dst) (dst,(l.getD i ([],[],0)).2))
 | none=>(3,l)
theorem φND (d:φ1) (src dst:List UInt8) (h:d.1.length<1000000000) (hn:dst.length<2 ^ 62) (hp:d.1.Pairwise (fun a b=>Op.bytesLess a.1 b.1=true)):ψu.f d src dst=some ((φ2J src dst d.1).1,(φ2J src dst d.1).2,d.2):=by
 unfold ψu.f φ2J
 rw[φ4M d src (by omega),bS,φB9 dst hn,bS,φAC d src h]
 rcases bE (φ1i dst) with k | k
 rotate_left
 ·simp[k]
 simp only[k,nZ,cF,κ9,if_false]
 rcases φu d.1 src with ⟨e,_⟩ | ⟨i,hi,e,hsrc⟩
 ·rw[e,φ1B e];rfl
 ·have e0:φ1b d.1 src=φb d.1 i:=by unfold φ1b;rw[φ16 e]
  rw[e,φ16 e,e0]
  have hl:=φ6T hi
  have hl2:=φAu (φb d.1 i) dst
  simp only[dnn (show (0:Int)≤(i:Int) by omega),cF,φ42 hi,cT,φ3z hi,bS,φD hi,φAC (φb d.1 i,d.2) dst (show (φb d.1 i).length<1000000000 by omega),φEW (φ1b (φb d.1 i) dst,d.2) (dst,d.1[i].2.1,d.1[i].2.2) (show (φ1b (φb d.1 i) dst).length<1000000000 by omega)]
  by_cases c:src=dst
  ·simp only[c,if_true]
   have hd:d.1[i].1=dst:=by rw[hsrc,c]
   have e2:φ1b (φb d.1 i) dst=φb d.1 i:=φCr (by rw[←hd];exact φBn hi hp)
   have e3:putF (φb d.1 i) (dst,d.1[i].2.1,d.1[i].2.2)=d.1:=by
    have:=φKj hi hp
    rw[←hd];exact this
   rw[e2,e3]
  ·simp only[c,if_false]
   rw[φDS (l:=φ1b (φb d.1 i) dst) (f:=(dst,d.1[i].2.1,d.1[i].2.2)) (φDr (hp.sublist (φ5P d.1 i)))]
theorem φJK (d:φ1) (src dst:List UInt8) (h:dlim d) (hn:dst.length<2 ^ 62):ψt.f d src dst=some (φT d (φ2J src dst)):=by
 have hs:ψ1p.f d (src,dst)=some (φT d (φ2J src dst)):=φ63 d h (src,dst) (fun c x=>ψu.f x c.1 c.2) (φ2J src dst) fun k=>by
  show ψu.f (tick d) src dst=_
  rw[φND (tick d) src dst (by rw[φ1X];exact h.1) hn (by rw[φ1X];exact φ5i k),φ1X]
 unfold ψt.f
 rw[hs];rfl
theorem φK3 (d:φ1) (src dst:List UInt8) (h:dlim d) (hn:dst.length<2 ^ 62):ψ2k.f d src dst=some (φT d (φ2J src dst)):=by
 have hl:=h.1
 unfold ψ2k.f
 rcases φ78 d h with ⟨x,c,e1,e2,e3⟩ | ⟨k,e1,e3⟩
 ·rw[e1,e3,bS];simp only[e2,cT]
 rw[e1,e3,bS]
 have hp:=φ5i k
 simp only[bne_self_eq_false,cF,φBj dst hn,φ4X d src (show d.1.length<2 ^ 62 by omega),bS]
 unfold φ2J
 have ht:(d.1,(tick d).2)=tick d:=by rw[←φ1X d]
 rcases bE (φ1i dst) with k2 | k2
 rotate_left
 ·simp[k2,ht]
 simp only[k2,nZ,cF,κ9,if_false]
 rcases φu d.1 src with ⟨e,_⟩ | ⟨i,hi,e,hsrc⟩
 ·rw[e,φ1B e]
  show some (tick d,3)=some ((d.1,(tick d).2),3)
  rw[←φ1X d]
 ·rw[e,φ16 e]
  have hlr:=φ6T hi
  have hl2:=φAu (φb d.1 i) dst
  simp only[dnn (show (0:Int)≤(i:Int) by omega),cF]
  by_cases c:src=dst
  ·simp[c,ht]
  have c1:(src==dst)=false:=by simpa using c
  simp only[c,c1,cF,if_false,φ42 hi,cT,φ3z hi,φD hi,φ1X,φC6 d.1 i hi hl,bS,φ4X (φb d.1 i,(tick d).2) dst (show (φb d.1 i).length<2 ^ 62 by omega)]
  rcases φu (φb d.1 i) dst with ⟨e',hno⟩ | ⟨j,hj,e',hdst⟩
  ·have c2:¬φ1h (φb d.1 i) dst≥0:=by omega
   simp only[c2,dF,cF,bS,φBx (φb d.1 i) _ (show (φb d.1 i).length<1000000000 by omega),φCr hno]
  ·have c2:φ1h (φb d.1 i) dst≥0:=by omega
   have e4:φ1b (φb d.1 i) dst=φb (φb d.1 i) j:=by unfold φ1b;rw[φ16 e']
   rw[e4] at hl2
   simp only[c2,dT,cT]
   simp only[e',φC6 (φb d.1 i) j hj (by omega),bS,φBx (φb (φb d.1 i) j) _ (show (φb (φb d.1 i) j).length<1000000000 by omega),e4]
theorem φAz (t:TxnT) (h1:t.2.1.length<1000000000000) (h2:t.2.2.length<1000000000000):ψ1P.f t=some t:=by
 unfold ψ1P.f ψ1N.f
 have c1:t.2.1.length * 24≤140737488355328:=by omega
 have c2:t.2.2.length * 40≤140737488355328:=by omega
 simp[c1,c2]
def φ2Y (t:TxnT) (p:PutT):TxnT×Bool:=
 if t.1=true∧φ2c p=true∧(netW (t.2.2++[p])).length≤8∧t.2.2.length<50 then ((t.1,t.2.1,t.2.2++[p]),true) else (t,false)
theorem φKI (t:TxnT) (p:PutT) (h1:t.2.1.length<1000000000) (h2:t.2.2.length<1000000000):ψ1E.f t p=some (φ2Y t p):=by
 have hc:=φAz t (by omega) (by omega)
 have hb:(t.2.2.length+([p]:List PutT).length) * 40≤140737488355328:=φ55 (by omega)
 have hn:ψc.f (t.1,t.2.1,t.2.2++[p])=some (netW (t.2.2++[p])):=φAB (t.1,t.2.1,t.2.2++[p]) (by show (t.2.2++[p]).length<_;rw[lA];show _+1<_;omega)
 have hl:(t.2.2++[p]).length=t.2.2.length+1:=lA
 unfold ψ1E.f φ2Y
 simp only[hc,bS,hb,dT,cT,φBr,hn]
 rcases bE t.1 with k | k
 rotate_left
 ·simp[k]
 rcases bE (φ2c p) with k2 | k2
 rotate_left
 ·simp[k,k2]
 simp only[k,k2,nZ,cF,true_and]
 by_cases c:(netW (t.2.2++[p])).length≤8
 rotate_left
 ·have c1:((netW (t.2.2++[p])).length:Int) > 8:=by omega
  simp only[c,c1,dT,cT,false_and,if_false]
 have c1:¬((netW (t.2.2++[p])).length:Int) > 8:=by omega
 by_cases c2:t.2.2.length<50
 ·have c3:¬(((t.2.2++[p]).length:Nat):Int) > 50:=by omega
  simp only[c,c1,c2,c3,dF,cF,and_self,if_true]
 ·have c3:(((t.2.2++[p]).length:Nat):Int) > 50:=by omega
  simp only[c,c1,c2,c3,dT,dF,cT,cF,and_false,if_false]
theorem φAf {n:Nat} (h:n<9223372036854775808):IntKind.wrap .i64 (n:Int)=n:=φ3l h
theorem φAc {n:Nat} (h:n<4294967296):IntKind.wrap .u32 (n:Int)=n:=by
 unfold IntKind.wrap
 simp only[IntKind.bits,IntKind.signed]
 simp;omega
theorem φF6 (a b:Nat) (ha:a<2 ^ 63) (hb:b<2 ^ 63):bits (fun _ a b=>a ^^^ b) .i64 (a:Int) (b:Int)=((a ^^^ b:Nat):Int):=by
 unfold bits
 have h:a ^^^ b<2 ^ 63:=Nat.xor_lt_two_pow ha hb
 have e:(BitVec.ofInt 64 (a:Int) ^^^ BitVec.ofInt 64 (b:Int)).toNat=a ^^^ b:=by
  rw[BitVec.ofInt_natCast,BitVec.ofInt_natCast,BitVec.toNat_xor,BitVec.toNat_ofNat,BitVec.toNat_ofNat,κc (by omega),κc (by omega)]
 show IntKind.wrap .i64 ((BitVec.ofInt 64 (a:Int) ^^^ BitVec.ofInt 64 (b:Int)).toNat:Int)=_
 rw[e]
 exact φAf (by omega)
theorem φBB (a b:Nat) (ha:a<2 ^ 32) (hb:b<2 ^ 32):bits (fun _ a b=>a ^^^ b) .u32 (a:Int) (b:Int)=((a ^^^ b:Nat):Int):=by
 unfold bits
 have h:a ^^^ b<2 ^ 32:=Nat.xor_lt_two_pow ha hb
 have e:(BitVec.ofInt 32 (a:Int) ^^^ BitVec.ofInt 32 (b:Int)).toNat=a ^^^ b:=by
  rw[BitVec.ofInt_natCast,BitVec.ofInt_natCast,BitVec.toNat_xor,BitVec.toNat_ofNat,BitVec.toNat_ofNat,κc (by omega),κc (by omega)]
 show IntKind.wrap .u32 ((BitVec.ofInt 32 (a:Int) ^^^ BitVec.ofInt 32 (b:Int)).toNat:Int)=_
 rw[e]
 exact φAc (by omega)
theorem φKS (a:Nat) (ha:a<2 ^ 32):bits (fun _ a b=>a &&& b) .u32 (a:Int) 1=((a % 2:Nat):Int):=by
 unfold bits
 have e:(BitVec.ofInt 32 (a:Int) &&& BitVec.ofInt 32 ((1:Nat):Int)).toNat=a % 2:=by
  rw[BitVec.ofInt_natCast,BitVec.ofInt_natCast,BitVec.toNat_and,BitVec.toNat_ofNat,BitVec.toNat_ofNat,κc (by omega)]
  exact Nat.and_one_is_mod a
 show IntKind.wrap .u32 ((BitVec.ofInt 32 (a:Int) &&& BitVec.ofInt 32 ((1:Nat):Int)).toNat:Int)=_
 rw[e]
 exact φAc (by omega)
def crc1 (c:Nat):Nat:=if c % 2=1 then (c / 2) ^^^ 2197175160 else c / 2
def crcK:Nat→Nat→Nat
 | 0,c=>c
 | k+1,c=>crcK k (crc1 c)
def crcB (c:Nat) (b:UInt8):Nat:=crcK 8 (c ^^^ b.toNat)
def crcN (s:List UInt8):Nat:=s.foldl crcB 4294967295
def crcT (s:List UInt8):Int:=((4294967295 - crcN s:Nat):Int)
theorem φAp {c:Nat} (h:c<2 ^ 32):crc1 c<2 ^ 32:=by
 unfold crc1
 split
 ·exact Nat.xor_lt_two_pow (by omega) (by decide)
 ·omega
theorem φGK:∀(k:Nat) {c:Nat},c<2 ^ 32→crcK k c<2 ^ 32
 | 0,_,h=>h
 | k+1,_,h=>φGK k (φAp h)
theorem φC0 {c:Nat} (h:c<2 ^ 32) (b:UInt8):crcB c b<2 ^ 32:=
 φGK 8 (Nat.xor_lt_two_pow h (by have:=b.toNat_lt;omega))
theorem φBc:∀(s:List UInt8) {c:Nat},c<2 ^ 32→s.foldl crcB c<2 ^ 32
 | [],_,h=>h
 | b::s,_,h=>φBc s (φC0 h b)
theorem φ51 (s:List UInt8):0≤crcT s∧crcT s≤4294967295:=by unfold crcT;omega
theorem φLe (s:List UInt8) (c:Nat) (i:Int) (hc:c<2 ^ 32):lp ψ2K.l2 (s,(c:Int),i,0)=some (s,((crcK 8 c:Nat):Int),i):=by
 have:=φh (step:=ψ2K.l2) (fun n (c:Nat)=>(s,(c:Int),i,(n:Int))) 8 (fun n c=>(s,((crcK (8 - n) c:Nat):Int),i)) (fun _ c=>c<2 ^ 32)
  (fun rec n c hn hc ih=>by
   rcases κ1 n 8 with h | h
   ·have h8:(n:Int)<8:=by omega
    have hw:w64 ((n:Int)+1)=((n+1:Nat):Int):=φQ (by omega)
    have e1:w64 (Int.tdiv (c:Int) 2)=((c / 2:Nat):Int):=by
     rw[show Int.tdiv (c:Int) 2=((c / 2:Nat):Int) from rfl];exact φ3l (by omega)
    have e2:Int.tmod (c:Int) 2=((c % 2:Nat):Int):=rfl
    have e3:bits (fun _ a b=>a ^^^ b) .i64 ((c / 2:Nat):Int) 2197175160=(((c / 2) ^^^ 2197175160:Nat):Int):=φF6 (c / 2) 2197175160 (by omega) (by decide)
    have e4:crcK (8 - n) c=crcK (8 - (n+1)) (crc1 c):=by
     rw[show 8 - n=(8 - (n+1))+1 by omega];rfl
    have ih:=ih (crc1 c) h (φAp hc)
    rw[e4,←ih]
    simp only[ψ2K.l2,h8,dT,cT,e1,e2]
    unfold crc1
    by_cases k:c % 2=1
    ·have k2:(((c % 2:Nat):Int)==1)=true:=by rw[k];rfl
     simp only[k2,cT,e3,bS,hw]
     rw[if_pos k]
    ·have k2:(((c % 2:Nat):Int)==1)=false:=by simp;omega
     simp only[k2,cF,bS,hw]
     rw[if_neg k]
   ·have:n=8:=by omega
    subst this
    simp[ψ2K.l2,crcK])
  (by omega) 0 c (κ3 _) hc
 exact this
theorem φJt (s:List UInt8) (c:Nat) (i:Int) (hc:c<2 ^ 32):lp ψ3.l2 (s,(c:Int),i,0)=some (s,((crcK 8 c:Nat):Int),i):=by
 have:=φh (step:=ψ3.l2) (fun n (c:Nat)=>(s,(c:Int),i,(n:Int))) 8 (fun n c=>(s,((crcK (8 - n) c:Nat):Int),i)) (fun _ c=>c<2 ^ 32)
  (fun rec n c hn hc ih=>by
   rcases κ1 n 8 with h | h
   ·have h8:(n:Int)<8:=by omega
    have hw:w64 ((n:Int)+1)=((n+1:Nat):Int):=φQ (by omega)
    have e1:Int.fdiv (c:Int) (2 ^ (min 1 32))=((c / 2:Nat):Int):=by
     show Int.fdiv (c:Int) 2=_
     rw[Int.fdiv_eq_ediv_of_nonneg _ (by omega)];rfl
    have e3:bits (fun _ a b=>a ^^^ b) .u32 ((c / 2:Nat):Int) 2197175160=(((c / 2) ^^^ 2197175160:Nat):Int):=φBB (c / 2) 2197175160 (by omega) (by decide)
    have e4:crcK (8 - n) c=crcK (8 - (n+1)) (crc1 c):=by
     rw[show 8 - n=(8 - (n+1))+1 by omega];rfl
    have ih:=ih (crc1 c) h (φAp hc)
    rw[e4,←ih]
    simp only[ψ3.l2,h8,dT,cT,e1,φKS c hc]
    unfold crc1
    by_cases k:c % 2=1
    ·have k2:(((c % 2:Nat):Int)==1)=true:=by rw[k];rfl
     simp only[k2,cT,e3,bS,hw]
     rw[if_pos k]
    ·have k2:(((c % 2:Nat):Int)==1)=false:=by simp;omega
     simp only[k2,cF,bS,hw]
     rw[if_neg k]
   ·have:n=8:=by omega
    subst this
    simp[ψ3.l2,crcK])
  (by omega) 0 c (κ3 _) hc
 exact this
theorem φAj (s:List UInt8) (hl:s.length<2 ^ 62):ψ2K.f s=some (crcT s):=by
 have hk:=φ3p (step:=ψ2K.l0) s crcB (fun n (c:Nat)=>(s,(c:Int),(n:Int))) (fun c=>(c:Int)) (fun _ c=>c<2 ^ 32) hl
  (fun rec n c h hc=>by
   have hc:c<2 ^ 32:=hc
   have hw:w64 ((n:Int)+1)=((n+1:Nat):Int):=φQ (by omega)
   have hb:=s[n].toNat_lt
   have e1:w64 (bAt s (n:Int))=((s[n].toNat:Nat):Int):=by rw[φ4x s n h];exact φ3l (by omega)
   have e2:=φF6 c s[n].toNat (by omega) (by omega)
   simp only[ψ2K.l0,oL,h,dT,cT,φJ,e1,e2]
   rw[φLe s _ _ (Nat.xor_lt_two_pow hc (by omega))]
   simp only[bS,hw];rfl)
  (fun n c h hc=>φC0 hc _)
  (fun rec c hc=>by simp[ψ2K.l0]) 4294967295 (by decide)
 have hk:lp ψ2K.l0 (s,4294967295,0)=_:=hk
 unfold ψ2K.f crcT crcN
 rw[hk,bS]
 have:=φBc s (c:=4294967295) (by decide)
 generalize s.foldl crcB 4294967295=c at *
 simp only
 rw[φH (by omega) (by omega)]
 congr 1;omega
theorem φLa (c:Nat) (h:c<2 ^ 32):4294967295 ^^^ c=4294967295 - c:=by
 have e:(BitVec.allOnes 32 ^^^ BitVec.ofNat 32 c).toNat=(~~~ BitVec.ofNat 32 c).toNat:=by rw[BitVec.allOnes_xor]
 rw[BitVec.toNat_xor,BitVec.toNat_not,BitVec.toNat_allOnes,BitVec.toNat_ofNat,κc h] at e
 have e:4294967295 ^^^ c=4294967296 - 1 - c:=e
 omega
theorem φ9o (s:List UInt8) (hl:s.length<2 ^ 62):ψ3.f s=some (crcT s):=by
 have hk:=φ3p (step:=ψ3.l0) s crcB (fun n (c:Nat)=>(s,(c:Int),(n:Int))) (fun c=>(c:Int)) (fun _ c=>c<2 ^ 32) hl
  (fun rec n c h hc=>by
   have hc:c<2 ^ 32:=hc
   have hw:w64 ((n:Int)+1)=((n+1:Nat):Int):=φQ (by omega)
   have hb:=s[n].toNat_lt
   have e1:IntKind.wrap .u32 (bAt s (n:Int))=((s[n].toNat:Nat):Int):=by rw[φ4x s n h];exact φAc (by omega)
   have e2:=φBB c s[n].toNat (by omega) (by omega)
   simp only[ψ3.l0,oL,h,dT,cT,φJ,e1,e2]
   rw[φJt s _ _ (Nat.xor_lt_two_pow hc (by omega))]
   simp only[bS,hw];rfl)
  (fun n c h hc=>φC0 hc _)
  (fun rec c hc=>by simp[ψ3.l0]) 4294967295 (by decide)
 have hk:lp ψ3.l0 (s,4294967295,0)=_:=hk
 unfold ψ3.f crcT crcN
 rw[hk,bS]
 have:=φBc s (c:=4294967295) (by decide)
 generalize s.foldl crcB 4294967295=c at *
 have e:bits (fun _ a b=>a ^^^ b) .u32 4294967295 (c:Int)=((4294967295 ^^^ c:Nat):Int):=φBB 4294967295 c (by decide) this
 simp only[e,φLa c this]
 rw[φ3l (by omega)]
def vLow (n:Nat):List UInt8:=if h:n<128 then [] else UInt8.ofNat (128+n % 128)::vLow (n / 128)
termination_by n
decreasing_by omega
def vTop (n:Nat):Nat:=if h:n<128 then n else vTop (n / 128)
termination_by n
decreasing_by omega
theorem φ86:∀(k n:Nat),n<128 ^ (k+1)→(vLow n).length≤k
 | 0,n,h=>by unfold vLow;rw[dif_pos (by simpa using h)];simp
 | k+1,n,h=>by
  unfold vLow
  split
  ·simp
  ·have:=φ86 k (n / 128) (by rw[Nat.div_lt_iff_lt_mul (by omega)];rw[κa] at h;exact h)
   simp only[lC];omega
def varT (n:Int):List UInt8:=if 0≤n∧n≤562949953421311 then vLow n.toNat++[UInt8.ofNat (vTop n.toNat)] else []
theorem φj (n:Int):(varT n).length≤7:=by
 unfold varT
 split
 ·rename_i h
  have:=φ86 6 n.toNat (by show _<562949953421312;omega)
  rw[lA,κA];omega
 ·simp
theorem φ7k (n:Nat):UInt8.ofNat (IntKind.wrap .u8 (n:Int)).toNat=UInt8.ofNat n:=by
 have e:IntKind.wrap .u8 (n:Int)=((n % 256:Nat):Int):=by
  unfold IntKind.wrap
  simp only[IntKind.bits,IntKind.signed]
  simp
 rw[e,tN]
 exact UInt8.ofNat_mod_size
theorem φN4:ψ1H.l0=ψ2w.l0:=by
 funext rec x
 obtain ⟨x0,x3⟩:=x
 have e1:decide (x0 > 127)=decide (x0≥128):=decide_eq_decide.2 (by omega)
 simp only[ψ1H.l0,ψ2w.l0,e1,Int.add_comm 128]
theorem φJw:ψ1H.f=ψ2w.f:=by
 funext n
 unfold ψ1H.f ψ2w.f
 rw[φ1V,φ2N,φN4]
theorem φIY (a b:List Int):φ1S (a++b)=φ1S a++φ1S b:=mp
def φ39 (n:Nat):List Int:=if h:n<128 then [] else IntKind.wrap .u8 (w64 (128+(n % 128:Nat)))::φ39 (n / 128)
termination_by n
decreasing_by omega
theorem φBU (n:Nat):φ1S (φ39 n)=vLow n:=by
 unfold φ39 vLow
 split
 ·rfl
 ·rw[show φ1S (IntKind.wrap .u8 (w64 (128+(n % 128:Nat)))::φ39 (n / 128))=UInt8.ofNat (IntKind.wrap .u8 (w64 (128+(n % 128:Nat)))).toNat::φ1S (φ39 (n / 128)) from rfl,φBU (n / 128)]
  have e:w64 (128+((n % 128:Nat):Int))=((128+n % 128:Nat):Int):=by rw[φH (by omega) (by omega)];omega
  rw[e,φ7k]
termination_by n
decreasing_by omega
theorem φKh (n:Nat):(φ39 n).length=(vLow n).length:=by rw[←φBU];unfold φ1S;rw[lM]
theorem φLB (m:Nat) (hm:m<128 ^ 7):lp ψ2w.l0 ((m:Int),[])=some (((vTop m:Nat):Int),φ39 m):=by
 have:=φ7Q (step:=ψ2w.l0) (a:=((m:Int),([]:List Int)))
  (fun a=>(((vTop a.1.toNat:Nat):Int),a.2++φ39 a.1.toNat)) (fun a=>0≤a.1∧a.2.length≤7∧a.1.toNat<128 ^ (7 - a.2.length)) (fun a=>a.1.toNat)
  (fun rec a ha ih=>by
   obtain ⟨x,l⟩:=a
   obtain ⟨n,rfl⟩:∃n:Nat,x=(n:Int):=⟨x.toNat,by have:=ha.1;simp only at this;omega⟩
   obtain ⟨_,h2,h3⟩:=ha
   simp only[tN] at h2 h3 ih ⊢
   have hn:n<128 ^ 7:=κG h3 (Nat.pow_le_pow_right (by omega) (by omega))
   have hn:n<562949953421312:=hn
   by_cases c:n<128
   ·have c1:¬(n:Int)≥128:=by omega
    simp only[ψ2w.l0,c1,dF,cF]
    rw[show vTop n=n by unfold vTop;rw[dif_pos c],show φ39 n=[] by unfold φ39;rw[dif_pos c],κ7]
   ·have c1:(n:Int)≥128:=by omega
    have h4:l.length<7:=by
     rcases κ1 l.length 7 with h | h
     ·exact h
     ·rw[show 7 - l.length=0 by omega] at h3;simp at h3;omega
    have e1:Int.tmod (n:Int) 128=((n % 128:Nat):Int):=rfl
    have e2:w64 (Int.tdiv (n:Int) 128)=((n / 128:Nat):Int):=by
     rw[show Int.tdiv (n:Int) 128=((n / 128:Nat):Int) from rfl];exact φ3l (by omega)
    have hb:(l.length+[IntKind.wrap .u8 (w64 (128+((n % 128:Nat):Int)))].length) * 1≤140737488355328:=by
     show (l.length+1) * 1≤_;omega
    have ih:=ih (((n / 128:Nat):Int),l++[IntKind.wrap .u8 (w64 (128+((n % 128:Nat):Int)))]) ⟨by simp only;omega,by rw[lA];show _+1≤_;omega,by
     rw[lA,tN]
     show _<128 ^ (7 - (l.length+1))
     rw[Nat.div_lt_iff_lt_mul (by omega),←κa,show (7 - (l.length+1)).succ=7 - l.length by omega];exact h3⟩ (by simp only[tN];omega)
    simp only[tN] at ih
    simp only[ψ2w.l0,c1,dT,cT,e1,e2,hb,ih]
    rw[show vTop n=vTop (n / 128) by rw[vTop,dif_neg c],show φ39 n=IntKind.wrap .u8 (w64 (128+(n % 128:Nat)))::φ39 (n / 128) by rw[φ39,dif_neg c],aA];rfl)
  ⟨by simp only;omega,by simp,by simpa using hm⟩ (by simp only[tN];have:m<562949953421312:=hm;omega)
 simpa using this
theorem φ5G (n:Int):ψ2w.f n=some (varT n):=by
 unfold ψ2w.f varT
 rw[φ2N,bS]
 by_cases h:0≤n∧n≤562949953421311
 rotate_left
 ·simp[h]
 obtain ⟨m,rfl⟩:∃m:Nat,n=(m:Int):=⟨n.toNat,by omega⟩
 have hm:m<128 ^ 7:=by show m<562949953421312;omega
 have key:∃L:List Int,φ1S L=vLow m∧L.length≤7∧lp ψ2w.l0 ((m:Int),[])=some (((vTop m:Nat):Int),L):=
  ⟨φ39 m,φBU m,by rw[φKh];have:=φ86 6 m hm;omega,φLB m hm⟩
 obtain ⟨L,e1,e2,e3⟩:=key
 have hb:(L.length+[IntKind.wrap .u8 ((vTop m:Nat):Int)].length) * 1≤140737488355328:=by
  show (L.length+1) * 1≤_;omega
 simp only[h,and_self,dT,nZ,cF,e3,bS,hb,cT,if_true,φIY,e1,tN]
 unfold φ1S
 simp only[κ5,List.map_nil,φ7k]
theorem φAX (n:Int):ψ1H.f n=some (varT n):=by rw[φJw,φ5G]
def fixL (n:Nat):Nat→List UInt8
 | 0=>[]
 | k+1=>UInt8.ofNat (n / 256 ^ k)::fixL n k
theorem φA9 (n:Nat):∀k,(fixL n k).length=k
 | 0=>rfl
 | k+1=>by simp[fixL,φA9 n k]
theorem φ8n (n:Nat):∀k,fixL n (k+1)=fixL (n / 256) k++[UInt8.ofNat n]
 | 0=>by simp[fixL]
 | k+1=>by
  rw[fixL,φ8n n k]
  show _=UInt8.ofNat (n / 256 / 256 ^ k)::fixL (n / 256) k++[UInt8.ofNat n]
  rw[Nat.div_div_eq_div_mul,κa,Nat.mul_comm (256 ^ k) 256];rfl
def fix4 (n:Int):List UInt8:=if 0≤n∧n≤4294967295 then fixL n.toNat 4 else []
theorem φCI (n:Int) (hn:n<9223372036854775808):ψ2T.f n 4=some (fix4 n):=by
 unfold ψ2T.f fix4
 rw[φ2N,bS]
 by_cases h:0≤n
 rotate_left
 ·have h1:n<0:=by omega
  simp[h,h1]
 obtain ⟨m,rfl⟩:∃m:Nat,n=(m:Int):=⟨n.toNat,by omega⟩
 have key:=φh (step:=ψ2T.l0) (fun i (s:Nat×List UInt8)=>((s.1:Int),4,s.2,(i:Int))) 4 (fun i s=>(((s.1 / 256 ^ (4 - i):Nat):Int),fixL s.1 (4 - i)++s.2)) (fun i s=>s.1<9223372036854775808∧s.2.length≤i)
  (fun rec i s hi hv ih=>by
   obtain ⟨a,l⟩:=s
   obtain ⟨hv1,hv2⟩:=hv
   simp only at hv1 hv2 ih ⊢
   rcases κ1 i 4 with h4 | h4
   ·have e0:(i:Int)<4:=by omega
    have e1:Int.tmod (a:Int) 256=((a % 256:Nat):Int):=rfl
    have e2:w64 (Int.tdiv (a:Int) 256)=((a / 256:Nat):Int):=by
     rw[show Int.tdiv (a:Int) 256=((a / 256:Nat):Int) from rfl];exact φ3l (by omega)
    have e3:φ1S [IntKind.wrap .u8 ((a % 256:Nat):Int)]=[UInt8.ofNat a]:=by
     unfold φ1S
     simp only[κ5,List.map_nil,φ7k]
     congr 1;exact UInt8.ofNat_mod_size
    have hw:w64 ((i:Int)+1)=((i+1:Nat):Int):=φQ (by omega)
    have hb:([UInt8.ofNat a]:List UInt8).length+l.length≤9223372036854775807:=by show 1+_≤_;omega
    have ih:=ih (a / 256,[UInt8.ofNat a]++l) h4 ⟨by simp only;omega,by simp;omega⟩
    simp only at ih
    simp only[ψ2T.l0,e0,dT,cT,e1,e2,e3,hb,hw,ih]
    rw[show 4 - i=(4 - (i+1))+1 by omega,φ8n,κa,Nat.mul_comm,←Nat.div_div_eq_div_mul,aA]
   ·have:i=4:=by omega
    subst this
    simp[ψ2T.l0,fixL])
  (by omega) 0 (m,[]) (κ3 _) ⟨by simp only;omega,by simp⟩
 have key:lp ψ2T.l0 ((m:Int),4,[],0)=some (((m / 256 ^ 4:Nat):Int),fixL m 4++[]):=key
 have h1:¬(m:Int)<0:=by omega
 have h0:decide ((1:Int)≤4∧(4:Int)≤7)=true:=by decide
 have h2:(decide ((((m / 256 ^ 4:Nat):Int)) > 0))=!decide (0≤(m:Int)∧(m:Int)≤4294967295):=by
  have:m / 256 ^ 4=m / 4294967296:=rfl
  by_cases c:m≤4294967295
  ·have:m / 256 ^ 4=0:=by rw[this];omega
   rw[this];simp;omega
  ·have:0<m / 256 ^ 4:=by rw[this];omega
   have c2:¬(0≤(m:Int)∧(m:Int)≤4294967295):=by omega
   simp only[c2,dF,nF,decide_eq_true_eq];omega
 simp only[h0,h1,dF,nZ,cF,key,bS,h2,κ7,tN]
 by_cases c:0≤(m:Int)∧(m:Int)≤4294967295
 ·simp[c]
 ·rw[if_neg c,decide_eq_false c];rfl
def fixI (n:Nat):Nat→List Int
 | 0=>[]
 | k+1=>IntKind.wrap .u8 ((n / 256 ^ k:Nat):Int)::fixI n k
theorem φF4 (n:Nat):∀k,φ1S (fixI n k)=fixL n k
 | 0=>rfl
 | k+1=>by
  rw[fixI,fixL,←φF4 n k,←φ7k];rfl
theorem φAk (n:Int):ψQ.f n 4=some (fix4 n):=by
 unfold ψQ.f fix4
 have h0:decide ((1:Int)≤4∧(4:Int)≤7)=true:=by decide
 have h1:decide (0≤w64 (8 * 4))=true:=by decide
 have h2:w64 (w64 (1 * 2 ^ (min (w64 (8 * 4)).toNat 64)) - 1)=4294967295:=by decide
 simp only[φ1V,bS,h0,h1,h2,nZ,cF,cT]
 by_cases h:0≤n∧n≤4294967295
 rotate_left
 ·simp[h]
 obtain ⟨m,rfl⟩:∃m:Nat,n=(m:Int):=⟨n.toNat,by omega⟩
 have key:=φ7Q (step:=ψQ.l0) (a:=((m:Int),([]:List Int),(3:Int)))
  (fun a=>a.2.1++(fixI m (a.2.2+1).toNat)) (fun a=>a.1=(m:Int)∧-1≤a.2.2∧a.2.2≤3∧(a.2.1.length:Int)≤3 - a.2.2) (fun a=>(a.2.2+1).toNat)
  (fun rec a ha ih=>by
   obtain ⟨x,l,k⟩:=a
   obtain ⟨hx,ha1,ha2,ha3⟩:=ha
   simp only at hx ha1 ha2 ha3 ih ⊢
   subst hx
   by_cases c:k≥0
   ·obtain ⟨j,rfl⟩:∃j:Nat,k=(j:Int):=⟨k.toNat,by omega⟩
    have e1:w64 (8 * (j:Int))=((8 * j:Nat):Int):=by rw[φH (by omega) (by omega)];omega
    have e2:Int.fdiv (m:Int) (2 ^ (min ((8 * j:Nat):Int).toNat 64))=((m / 256 ^ j:Nat):Int):=by
     have e:(2:Int) ^ (8 * j)=((256 ^ j:Nat):Int):=by
      rw[show (256:Nat)=2 ^ 8 from rfl,←Nat.pow_mul,Int.natCast_pow];rfl
     rw[tN,Nat.min_eq_left (by omega),e,Int.fdiv_eq_ediv_of_nonneg _ (Int.natCast_nonneg _)]
     rfl
    have e3:w64 ((j:Int) - 1)=(j:Int) - 1:=φH (by omega) (by omega)
    have hb:(l.length+[IntKind.wrap .u8 ((m / 256 ^ j:Nat):Int)].length) * 1≤140737488355328:=by show (l.length+1) * 1≤_;omega
    have ih:=ih ((m:Int),l++[IntKind.wrap .u8 ((m / 256 ^ j:Nat):Int)],(j:Int) - 1) ⟨rfl,by simp only;omega,by simp only;omega,by simp only[lA,κA];omega⟩ (by simp only;omega)
    simp only at ih
    have h0:(0:Int)≤((8 * j:Nat):Int):=by omega
    simp only[ψQ.l0,c,dT,cT,e1,h0,e2,hb,e3,ih]
    rw[show ((j:Int) - 1+1).toNat=j by omega,show ((j:Int)+1).toNat=j+1 by omega,fixI,aA];rfl
   ·have:k=-1:=by omega
    subst this
    simp[ψQ.l0,fixI])
  ⟨rfl,by simp only;omega,by simp only;omega,by simp⟩ (by show (4:Nat)<2 ^ 62;decide)
 have e9:w64 (4 - 1)=3:=by decide
 have key:lp ψQ.l0 ((m:Int),[],3)=some (fixI m 4):=key
 simp only[h,and_self,dT,nZ,cF,e9,key,bS,if_true,tN,φF4]
abbrev RecT:=Int×Int×List UInt8×List UInt8×Int×Int
def φZ (r:RecT):Bool:=
 decide (0≤r.2.1∧r.2.1≤1000000) && (!(r.2.1==0) || r.1==5) &&
 (if r.1=1∨r.1=4 then φ1L r.2.2.1 && (decide (r.2.2.2.1.length≤24) && (r.2.2.2.2.1==0 && r.2.2.2.2.2==0))
 else if r.1=2 then φ1L r.2.2.1 && (r.2.2.2.1==[] && (r.2.2.2.2.1==0 && r.2.2.2.2.2==0))
 else if r.1=3 then r.2.2.1==[] && (r.2.2.2.1==[] && (decide (0≤r.2.2.2.2.1∧r.2.2.2.2.1≤8) && decide (0≤r.2.2.2.2.2∧r.2.2.2.2.2≤4294967295)))
 else if r.1=5 then r.2.2.1==[] && (r.2.2.2.1==[] && (decide (0≤r.2.2.2.2.1∧r.2.2.2.2.1≤20) && decide (0≤r.2.2.2.2.2∧r.2.2.2.2.2≤4294967295)))
 else false)
theorem φL8 (r:RecT):ψ2i.f r=some (φZ r):=by
 obtain ⟨k,b,ky,v,c,s⟩:=r
 have e24:decide ((v.length:Int)≤24)=decide (v.length≤24):=decide_eq_decide.2 (by omega)
 unfold ψ2i.f φZ
 simp only[φ2N,bS,φHP,e24]
 by_cases hb:0≤b∧b≤1000000
 rotate_left
 ·simp only[hb,dF,nF,cT,bS,φo,κD]
 simp only[hb,and_self,dT,nZ,cF,tA]
 rcases bE (b==0 && k != 5) with h | h
 ·simp only[bA] at h
  have h2:(k==5)=false:=by have:=h.2;simpa [bne] using this
  simp only[h.1,h.2,h2,cT,bS,φo,nZ,κS,κD]
 have e1:(!(b==0) || k==5)=true:=by
  cases h3:(b==0)<;>cases h4:(k==5)<;>simp_all [bne]
 have e2:(bif b==0 then (bif k != 5 then some (Sum.inr false) else some (Sum.inl ((k,b,ky,v,c,s):RecT))) else some (Sum.inl (k,b,ky,v,c,s)):Option (RecT ⊕ Bool))=some (Sum.inl (k,b,ky,v,c,s)):=by
  cases h3:(b==0)
  ·rfl
  ·rw[h3] at h
   have h4:(k != 5)=false:=by simpa using h
   rw[h4];rfl
 simp only[e2,bS,φe,e1,tA]
 by_cases k1:k=1
 ·subst k1
  simp only[cT,cF,bS,e24,beq_self_eq_true,tA,κL,show ((1:Int)==1)=true from rfl,show ((4:Int)==1)=false from rfl,show ((4:Int)==4)=true from rfl,show ((2:Int)==2)=true from rfl,show ((3:Int)==2)=false from rfl,show ((3:Int)==3)=true from rfl,show ((5:Int)==5)=true from rfl,show ((5:Int)==3)=false from rfl,show ((5:Int)==2)=false from rfl,show ((4:Int)==5)=false from rfl,show ((3:Int)==5)=false from rfl,show ((2:Int)==5)=false from rfl,show ((1:Int)==5)=false from rfl]
  cases φ1L ky<;>cases decide (v.length≤24)<;>cases (c==0)<;>simp
 by_cases k4:k=4
 ·subst k4
  simp only[cT,cF,bS,e24,beq_self_eq_true,tA,κL,show ((1:Int)==1)=true from rfl,show ((4:Int)==1)=false from rfl,show ((4:Int)==4)=true from rfl,show ((2:Int)==2)=true from rfl,show ((3:Int)==2)=false from rfl,show ((3:Int)==3)=true from rfl,show ((5:Int)==5)=true from rfl,show ((5:Int)==3)=false from rfl,show ((5:Int)==2)=false from rfl,show ((4:Int)==5)=false from rfl,show ((3:Int)==5)=false from rfl,show ((2:Int)==5)=false from rfl,show ((1:Int)==5)=false from rfl]
  cases φ1L ky<;>cases decide (v.length≤24)<;>cases (c==0)<;>simp
 have b1:(k==1)=false:=by simpa using k1
 have b4:(k==4)=false:=by simpa using k4
 simp only[b1,b4,cF,bS,k1,k4,or_self,if_false]
 by_cases k2:k=2
 ·subst k2
  simp only[cT,cF,bS,e24,beq_self_eq_true,tA,κL,show ((1:Int)==1)=true from rfl,show ((4:Int)==1)=false from rfl,show ((4:Int)==4)=true from rfl,show ((2:Int)==2)=true from rfl,show ((3:Int)==2)=false from rfl,show ((3:Int)==3)=true from rfl,show ((5:Int)==5)=true from rfl,show ((5:Int)==3)=false from rfl,show ((5:Int)==2)=false from rfl,show ((4:Int)==5)=false from rfl,show ((3:Int)==5)=false from rfl,show ((2:Int)==5)=false from rfl,show ((1:Int)==5)=false from rfl]
  cases φ1L ky<;>cases (v==[])<;>cases (c==0)<;>simp
 have b2:(k==2)=false:=by simpa using k2
 simp only[b2,cF,k2,if_false]
 by_cases k3:k=3
 ·subst k3
  simp only[cT,cF,bS,e24,beq_self_eq_true,tA,κL,show ((1:Int)==1)=true from rfl,show ((4:Int)==1)=false from rfl,show ((4:Int)==4)=true from rfl,show ((2:Int)==2)=true from rfl,show ((3:Int)==2)=false from rfl,show ((3:Int)==3)=true from rfl,show ((5:Int)==5)=true from rfl,show ((5:Int)==3)=false from rfl,show ((5:Int)==2)=false from rfl,show ((4:Int)==5)=false from rfl,show ((3:Int)==5)=false from rfl,show ((2:Int)==5)=false from rfl,show ((1:Int)==5)=false from rfl]
  cases (ky==[])<;>cases (v==[])<;>cases decide (0≤c∧c≤8)<;>simp
 have b3:(k==3)=false:=by simpa using k3
 simp only[b3,cF,k3,if_false]
 by_cases k5:k=5
 ·subst k5
  simp only[cT,cF,bS,e24,beq_self_eq_true,tA,κL,show ((1:Int)==1)=true from rfl,show ((4:Int)==1)=false from rfl,show ((4:Int)==4)=true from rfl,show ((2:Int)==2)=true from rfl,show ((3:Int)==2)=false from rfl,show ((3:Int)==3)=true from rfl,show ((5:Int)==5)=true from rfl,show ((5:Int)==3)=false from rfl,show ((5:Int)==2)=false from rfl,show ((4:Int)==5)=false from rfl,show ((3:Int)==5)=false from rfl,show ((2:Int)==5)=false from rfl,show ((1:Int)==5)=false from rfl]
  cases (ky==[])<;>cases (v==[])<;>cases decide (0≤c∧c≤20)<;>simp
 have b5:(k==5)=false:=by simpa using k5
 simp only[b5,cF,k5,if_false]
theorem φ7X (r:RecT):ψp.f r=some (φZ r):=by
 obtain ⟨k,b,ky,v,c,s⟩:=r
 have e24:decide ((v.length:Int)≤24)=decide (v.length≤24):=decide_eq_decide.2 (by omega)
 have hb0:decide (1≤b∧b≤1000000)=(decide (0≤b∧b≤1000000) && !(b==0)):=by
  by_cases h:b=0
  ·subst h;rfl
  ·have:(b==0)=false:=by simpa using h
   rw[this,nF,κL]
   exact decide_eq_decide.2 (by omega)
 unfold ψp.f φZ
 simp only[φ1V,bS,φ6a,e24,hb0,beq_self_eq_true,tA,κL]
 by_cases k1:k=1
 ·subst k1
  simp only[cT,cF,bS,e24,hb0,beq_self_eq_true,tA,κL,show ((1:Int)==1)=true from rfl,show ((4:Int)==1)=false from rfl,show ((4:Int)==4)=true from rfl,show ((2:Int)==2)=true from rfl,show ((3:Int)==2)=false from rfl,show ((3:Int)==3)=true from rfl,show ((5:Int)==5)=true from rfl,show ((5:Int)==3)=false from rfl,show ((5:Int)==2)=false from rfl,show ((4:Int)==5)=false from rfl,show ((3:Int)==5)=false from rfl,show ((2:Int)==5)=false from rfl,show ((1:Int)==5)=false from rfl]
  cases φ1L ky<;>cases decide (v.length≤24)<;>cases decide (0≤b∧b≤1000000)<;>cases (b==0)<;>simp
 by_cases k4:k=4
 ·subst k4
  simp only[cT,cF,bS,e24,hb0,beq_self_eq_true,tA,κL,show ((1:Int)==1)=true from rfl,show ((4:Int)==1)=false from rfl,show ((4:Int)==4)=true from rfl,show ((2:Int)==2)=true from rfl,show ((3:Int)==2)=false from rfl,show ((3:Int)==3)=true from rfl,show ((5:Int)==5)=true from rfl,show ((5:Int)==3)=false from rfl,show ((5:Int)==2)=false from rfl,show ((4:Int)==5)=false from rfl,show ((3:Int)==5)=false from rfl,show ((2:Int)==5)=false from rfl,show ((1:Int)==5)=false from rfl]
  cases φ1L ky<;>cases decide (v.length≤24)<;>cases decide (0≤b∧b≤1000000)<;>cases (b==0)<;>simp
 have b1:(k==1)=false:=by simpa using k1
 have b4:(k==4)=false:=by simpa using k4
 simp only[b1,b4,cF,bS,k1,k4,or_self,if_false]
 by_cases k2:k=2
 ·subst k2
  simp only[cT,cF,bS,e24,hb0,beq_self_eq_true,tA,κL,show ((1:Int)==1)=true from rfl,show ((4:Int)==1)=false from rfl,show ((4:Int)==4)=true from rfl,show ((2:Int)==2)=true from rfl,show ((3:Int)==2)=false from rfl,show ((3:Int)==3)=true from rfl,show ((5:Int)==5)=true from rfl,show ((5:Int)==3)=false from rfl,show ((5:Int)==2)=false from rfl,show ((4:Int)==5)=false from rfl,show ((3:Int)==5)=false from rfl,show ((2:Int)==5)=false from rfl,show ((1:Int)==5)=false from rfl]
  cases φ1L ky<;>cases decide (0≤b∧b≤1000000)<;>cases (b==0)<;>simp
 have b2:(k==2)=false:=by simpa using k2
 simp only[b2,cF,k2,if_false]
 by_cases k3:k=3
 ·subst k3
  simp only[cT,cF,bS,e24,hb0,beq_self_eq_true,tA,κL,show ((1:Int)==1)=true from rfl,show ((4:Int)==1)=false from rfl,show ((4:Int)==4)=true from rfl,show ((2:Int)==2)=true from rfl,show ((3:Int)==2)=false from rfl,show ((3:Int)==3)=true from rfl,show ((5:Int)==5)=true from rfl,show ((5:Int)==3)=false from rfl,show ((5:Int)==2)=false from rfl,show ((4:Int)==5)=false from rfl,show ((3:Int)==5)=false from rfl,show ((2:Int)==5)=false from rfl,show ((1:Int)==5)=false from rfl]
  cases decide (0≤c∧c≤8)<;>cases decide (0≤s∧s≤4294967295)<;>cases decide (0≤b∧b≤1000000)<;>cases (b==0)<;>simp
 have b3:(k==3)=false:=by simpa using k3
 simp only[b3,cF,k3,if_false]
 by_cases k5:k=5
 ·subst k5
  simp only[cT,cF,bS,e24,hb0,beq_self_eq_true,tA,κL,show ((1:Int)==1)=true from rfl,show ((4:Int)==1)=false from rfl,show ((4:Int)==4)=true from rfl,show ((2:Int)==2)=true from rfl,show ((3:Int)==2)=false from rfl,show ((3:Int)==3)=true from rfl,show ((5:Int)==5)=true from rfl,show ((5:Int)==3)=false from rfl,show ((5:Int)==2)=false from rfl,show ((4:Int)==5)=false from rfl,show ((3:Int)==5)=false from rfl,show ((2:Int)==5)=false from rfl,show ((1:Int)==5)=false from rfl]
  cases decide (0≤c∧c≤20)<;>cases decide (0≤s∧s≤4294967295)<;>cases decide (0≤b∧b≤1000000)<;>simp
 have b5:(k==5)=false:=by simpa using k5
 simp only[b5,cF,k5,if_false,Bool.and_false]
def φ7 (r:RecT):List UInt8:=
 if φZ r=false then [] else
 if r.1=1∨r.1=4 then varT r.1++varT r.2.1++varT (r.2.2.1.length:Int)++r.2.2.1++varT (r.2.2.2.1.length:Int)++r.2.2.2.1
 else if r.1=2 then varT r.1++varT r.2.1++varT (r.2.2.1.length:Int)++r.2.2.1
 else varT r.1++varT r.2.1++varT r.2.2.2.2.1++fix4 r.2.2.2.2.2
theorem φ4a (n:Int):(fix4 n).length≤4:=by
 unfold fix4;split
 ·rw[φA9];omega
 ·simp
theorem φ3W (r:RecT):(φ7 r).length≤60:=by
 obtain ⟨k,b,ky,v,c,s⟩:=r
 unfold φ7
 split
 ·simp
 rename_i h
 have h:φZ (k,b,ky,v,c,s)=true:=by simpa using h
 have l1:=φj k
 have l2:=φj b
 have l3:=φj (ky.length:Int)
 have l4:=φj (v.length:Int)
 have l5:=φj c
 have l6:=φ4a s
 unfold φZ φ1L at h
 simp only[bA] at h
 have h:=h.2
 split
 ·rename_i c1
  simp only at c1
  simp only[c1,if_true,bA,decide_eq_true_eq] at h
  simp only[lA];omega
 ·rename_i c1
  simp only at c1
  split
  ·rename_i c2
   simp only at c2
   rw[if_neg c1,if_pos c2] at h
   simp only[bA,decide_eq_true_eq] at h
   simp only[lA];omega
  ·simp only[lA];omega
theorem φ1H {a b:Nat} (h:a+b≤1000000000000000):decide (a+b≤9223372036854775807)=true:=by
 rw[decide_eq_true_eq];omega
theorem φ7n (r:RecT):ψ2r.f r=some (φ7 r):=by
 obtain ⟨k,b,ky,v,c,s⟩:=r
 unfold ψ2r.f φ7
 rw[φL8,bS]
 rcases bE (φZ (k,b,ky,v,c,s)) with h | h
 rotate_left
 ·simp[h]
 have hs:s<9223372036854775808∨k=1∨k=4∨k=2:=by
  unfold φZ at h
  simp only[bA] at h
  have h:=h.2
  by_cases c1:k=1∨k=4
  ·omega
  by_cases c2:k=2
  ·omega
  rw[if_neg c1,if_neg c2] at h
  left
  split at h
  ·simp only[bA,decide_eq_true_eq] at h;omega
  ·split at h
   ·simp only[bA,decide_eq_true_eq] at h;omega
   ·simp at h
 have hlen:k=1∨k=4∨k=2→ky.length≤8∧v.length≤24:=by
  intro hk
  unfold φZ φ1L at h
  simp only[bA] at h
  have h:=h.2
  by_cases c1:k=1∨k=4
  ·rw[if_pos c1] at h
   simp only[bA,decide_eq_true_eq] at h;omega
  by_cases c2:k=2
  ·rw[if_neg c1,if_pos c2] at h
   simp only[bA,decide_eq_true_eq,beq_iff_eq] at h
   rw[h.2.1];simp;omega
  ·omega
 have l1:=φj k
 have l2:=φj b
 have l3:=φj (ky.length:Int)
 have l4:=φj (v.length:Int)
 have l5:=φj c
 have l6:=φ4a s
 simp only[h,nZ,cF,φ5G,bS,φ1H (show (varT k).length+(varT b).length≤1000000000000000 by omega),cT,κ9,if_false]
 have kk:(bif k==1 then some (((k,b,ky,v,c,s):RecT),varT k++varT b,k,k==1) else some ((k,b,ky,v,c,s),varT k++varT b,k,k==4))=some ((k,b,ky,v,c,s),varT k++varT b,k,decide (k=1∨k=4)):=by
  by_cases c1:k=1
  ·subst c1;rfl
  ·have b1:(k==1)=false:=by simpa using c1
   rw[b1,cF]
   by_cases c4:k=4
   ·subst c4;rfl
   ·have b4:(k==4)=false:=by simpa using c4
    rw[b4,decide_eq_false (by omega)]
 simp only[kk,bS]
 by_cases c1:k=1∨k=4
 ·have hl:=hlen (by omega)
  simp only[c1,dT,cT,if_true,
   φ1H (show (varT k++varT b).length+(varT (ky.length:Int)).length≤1000000000000000 by simp only[lA];omega),
   φ1H (show (varT k++varT b++varT (ky.length:Int)).length+ky.length≤1000000000000000 by simp only[lA];omega),
   φ1H (show (varT k++varT b++varT (ky.length:Int)++ky).length+(varT (v.length:Int)).length≤1000000000000000 by simp only[lA];omega),
   φ1H (show (varT k++varT b++varT (ky.length:Int)++ky++varT (v.length:Int)).length+v.length≤1000000000000000 by simp only[lA];omega)]
 by_cases c2:k=2
 ·have hl:=hlen (by omega)
  have b2:(k==2)=true:=by simpa using c2
  simp only[c1,b2,dF,cF,cT,if_false,
   φ1H (show (varT k++varT b).length+(varT (ky.length:Int)).length≤1000000000000000 by simp only[lA];omega),
   φ1H (show (varT k++varT b++varT (ky.length:Int)).length+ky.length≤1000000000000000 by simp only[lA];omega)]
  rw[if_pos c2]
 ·have b2:(k==2)=false:=by simpa using c2
  simp only[c1,c2,b2,dF,cF,if_false,
   φ1H (show (varT k++varT b).length+(varT c).length≤1000000000000000 by simp only[lA];omega),cT,
   φCI s (by omega),bS,
   φ1H (show (varT k++varT b++varT c).length+(fix4 s).length≤1000000000000000 by simp only[lA];omega)]
theorem φ7L (s:List UInt8) (h:s.length<2 ^ 62):ψ1s.f s=some (varT (s.length:Int)++s):=by
 have l:=φj (s.length:Int)
 unfold ψ1s.f
 have c:(varT (s.length:Int)).length+s.length≤9223372036854775807:=by omega
 simp only[φAX,bS,c,dT,cT]
theorem φNO (l:List Int):∀n (acc:List UInt8),n≤l.length→acc.length≤7 * n→l.length<1000000000000→lp ψ1w.l0 (acc,l,(l.length:Int),(n:Int))=some (acc++((l.drop n).map varT).flatten):=by
 intro n acc hn ha hl
 have:=φh (step:=ψ1w.l0) (fun n (acc:List UInt8)=>(acc,l,(l.length:Int),(n:Int))) l.length (fun n acc=>acc++((l.drop n).map varT).flatten) (fun n acc=>acc.length≤7 * n)
  (fun rec n acc hn ha ih=>by
   rcases κ1 n l.length with h | h
   ·have hv:=φj l[n]
    have hb:acc.length+(varT l[n]).length≤9223372036854775807:=by omega
    have ih:=ih (acc++varT l[n]) h (by rw[lA];omega)
    simp only[ψ1w.l0,oL,h,dT,cT,φJ,φN,φD h,φAX,bS,hb,φQ (show n+1<9223372036854775808 by omega),ih]
    rw[dG h,κ5,List.flatten_cons,aA]
   ·have:n=l.length:=by omega
    subst this
    simp[ψ1w.l0])
  (by omega) n acc hn ha
 exact this
theorem φ6u (l:List Int) (hl:l.length<1000000000000):ψ1w.f l=some (l.map varT).flatten:=by
 unfold ψ1w.f
 have:=φNO l 0 [] (κ3 _) (by simp) hl
 have this:lp ψ1w.l0 ([],l,(l.length:Int),0)=_:=this
 rw[this];simp
theorem φAU (r:RecT):ψ11.f r=some (φ7 r):=by
 obtain ⟨k,b,ky,v,c,s⟩:=r
 unfold ψ11.f φ7
 rw[φ7X,bS]
 rcases bE (φZ (k,b,ky,v,c,s)) with h | h
 rotate_left
 ·simp[h]
 have hlen:k=1∨k=4∨k=2→ky.length≤8∧v.length≤24:=by
  intro hk
  unfold φZ φ1L at h
  simp only[bA] at h
  have h:=h.2
  by_cases c1:k=1∨k=4
  ·rw[if_pos c1] at h
   simp only[bA,decide_eq_true_eq] at h;omega
  by_cases c2:k=2
  ·rw[if_neg c1,if_pos c2] at h
   simp only[bA,decide_eq_true_eq,beq_iff_eq] at h
   rw[h.2.1];simp;omega
  ·omega
 have l1:=φj k
 have l2:=φj b
 have l3:=φj (ky.length:Int)
 have l4:=φj (v.length:Int)
 have l5:=φj c
 have l6:=φ4a s
 have hv:ψ1w.f [k,b]=some (varT k++varT b):=by rw[φ6u [k,b] (by show 2<1000000000000;decide)];simp
 simp only[h,nZ,cF,hv,bS,κ9,if_false]
 have kk:(bif k==1 then some (((k,b,ky,v,c,s):RecT),varT k++varT b,k,k==1) else some ((k,b,ky,v,c,s),varT k++varT b,k,k==4))=some ((k,b,ky,v,c,s),varT k++varT b,k,decide (k=1∨k=4)):=by
  by_cases c1:k=1
  ·subst c1;rfl
  ·have b1:(k==1)=false:=by simpa using c1
   rw[b1,cF]
   by_cases c4:k=4
   ·subst c4;rfl
   ·have b4:(k==4)=false:=by simpa using c4
    rw[b4,decide_eq_false (by omega)]
 simp only[kk,bS]
 by_cases c1:k=1∨k=4
 ·have hl:=hlen (by omega)
  simp only[c1,dT,cT,if_true,φ7L ky (by omega),φ7L v (by omega),bS,
   φ1H (show (varT k++varT b).length+(varT (ky.length:Int)++ky).length≤1000000000000000 by simp only[lA];omega),
   φ1H (show (varT k++varT b++(varT (ky.length:Int)++ky)).length+(varT (v.length:Int)++v).length≤1000000000000000 by simp only[lA];omega)]
  simp only[aA]
 by_cases c2:k=2
 ·have hl:=hlen (by omega)
  have b2:(k==2)=true:=by simpa using c2
  simp only[c1,b2,dF,cF,cT,if_false,φ7L ky (by omega),bS,
   φ1H (show (varT k++varT b).length+(varT (ky.length:Int)++ky).length≤1000000000000000 by simp only[lA];omega)]
  rw[if_pos c2]
  simp only[aA]
 ·have b2:(k==2)=false:=by simpa using c2
  simp only[c1,c2,b2,dF,cF,if_false,φAX,bS,
   φ1H (show (varT k++varT b).length+(varT c).length≤1000000000000000 by simp only[lA];omega),cT,
   φAk s,bS,
   φ1H (show (varT k++varT b++varT c).length+(fix4 s).length≤1000000000000000 by simp only[lA];omega)]
def frame (s:List UInt8):List UInt8:=
 if 200<s.length then [] else fix4 (crcT (varT (s.length:Int)++s))++(varT (s.length:Int)++s)
theorem φ4n (s:List UInt8):(frame s).length≤211:=by
 unfold frame
 split
 ·simp
 ·have l1:=φj (s.length:Int)
  have l2:=φ4a (crcT (varT (s.length:Int)++s))
  simp only[lA];omega
theorem φ8w (s:List UInt8) (h:s.length<2 ^ 62):ψ2U.f s=some (frame s):=by
 unfold ψ2U.f frame
 by_cases c:200<s.length
 ·have c1:(s.length:Int) > 200:=by omega
  simp[c,c1]
 have c1:¬(s.length:Int) > 200:=by omega
 have l1:=φj (s.length:Int)
 have l2:=φ4a (crcT (varT (s.length:Int)++s))
 have r:=φ51 (varT (s.length:Int)++s)
 simp only[c,c1,dF,cF,if_false,φ5G,bS,φ1H (show (varT (s.length:Int)).length+s.length≤1000000000000000 by omega),cT,
  φAj (varT (s.length:Int)++s) (by rw[lA];omega),φCI _ (show crcT (varT (s.length:Int)++s)<9223372036854775808 by omega),
  φ1H (show (fix4 (crcT (varT (s.length:Int)++s))).length+(varT (s.length:Int)++s).length≤1000000000000000 by simp only[lA];omega)]
theorem φ8v (s:List UInt8) (h:s.length<2 ^ 62):ψR.f s=some (frame s):=by
 unfold ψR.f frame
 by_cases c:200<s.length
 ·have c1:(s.length:Int) > 200:=by omega
  simp[c,c1]
 have c1:¬(s.length:Int) > 200:=by omega
 have l1:=φj (s.length:Int)
 have l2:=φ4a (crcT (varT (s.length:Int)++s))
 have r:=φ51 (varT (s.length:Int)++s)
 simp only[c,c1,dF,cF,if_false,φ7L s (by omega),bS,cT,
  φ9o (varT (s.length:Int)++s) (by rw[lA];omega),φAk,
  φ1H (show (fix4 (crcT (varT (s.length:Int)++s))).length+(varT (s.length:Int)++s).length≤1000000000000000 by simp only[lA];omega)]
def φ3a (l:List RecT):List UInt8:=(l.map φ7).flatten
def φ1j (l:List RecT):Int:=crcT (φ3a l)
theorem φ6o:∀(l:List RecT),(φ3a l).length≤60 * l.length
 | []=>by simp[φ3a]
 | r::l=>by
  have h1:=φ6o l
  have h2:=φ3W r
  unfold φ3a at *
  rw[κ5,List.flatten_cons,lA,lC];omega
theorem φEB (l:List RecT) (r:RecT):φ3a (l++[r])=φ3a l++φ7 r:=by
 unfold φ3a;simp
theorem φFP (l:List RecT) (hl:l.length<1000000000000):ψ2t.f l=some (φ1j l):=by
 have hk:=φh (step:=ψ2t.l0) (fun n (_:Unit)=>(l,φ3a (l.take n),(n:Int))) l.length (fun _ _=>φ3a l) (fun _ _=>True)
  (fun rec n s hn _ ih=>by
   rcases κ1 n l.length with h | h
   ·have h1:=φ6o (l.take n)
    have h2:=φ3W l[n]
    rw[lT] at h1
    have ih:=ih () h trivial
    rw[κ4 h,φEB] at ih
    simp only[ψ2t.l0,oL,h,dT,cT,φJ,φN,φD h,φ2Z,φ7n,bS,φ1H (show (φ3a (l.take n)).length+(φ7 l[n]).length≤1000000000000000 by omega),φQ (show n+1<9223372036854775808 by omega),ih]
   ·have:n=l.length:=by omega
    subst this
    simp[ψ2t.l0])
  (by omega) 0 () (κ3 _) trivial
 have hk:lp ψ2t.l0 (l,[],0)=_:=hk
 have hl2:=φ6o l
 unfold ψ2t.f φ1j
 rw[hk,bS,φAj _ (by omega),bS]
theorem φAs (l:List RecT) (hl:l.length<1000000000000):ψ18.f l=some (φ1j l):=by
 have hk:=φh (step:=ψ18.l0) (fun n (_:Unit)=>(φ3a (l.take n),l,(l.length:Int),(n:Int))) l.length (fun _ _=>φ3a l) (fun _ _=>True)
  (fun rec n s hn _ ih=>by
   rcases κ1 n l.length with h | h
   ·have h1:=φ6o (l.take n)
    have h2:=φ3W l[n]
    rw[lT] at h1
    have ih:=ih () h trivial
    rw[κ4 h,φEB] at ih
    simp only[ψ18.l0,oL,h,dT,cT,φJ,φN,φD h,φ2Z,φAU,bS,φ1H (show (φ3a (l.take n)).length+(φ7 l[n]).length≤1000000000000000 by omega),φQ (show n+1<9223372036854775808 by omega),ih]
   ·have:n=l.length:=by omega
    subst this
    simp[ψ18.l0])
  (by omega) 0 () (κ3 _) trivial
 have hk:lp ψ18.l0 ([],l,(l.length:Int),0)=_:=hk
 have hl2:=φ6o l
 unfold ψ18.f φ1j
 rw[hk,bS,φ9o _ (by omega),bS]
theorem φFG {a:Nat} (h:a<1000000000001):(a+1) * 64≤140737488355328:=by omega
def φR (p:φk):RecT:=(4,p.2.2,p.1,p.2.1,0,0)
def φIH (r:RecT):Nat:=(frame (φ7 r)).length
def φHa (l:List RecT):Nat:=sumN φIH l
theorem φDP {α:Type} (f:α→Nat):∀(l:List α) (x:α),sumN f (l++[x])=sumN f l+f x
 | [],x=>by simp[sumN]
 | y::l,x=>by
  have:=φDP f l x
  simp only[κF,sumN,this];omega
def φX (l:List φk) (mark:Int):List RecT:=l.map φR++[(5,mark,[],[],(l.length:Int),φ1j (l.map φR))]
theorem φOG (l:List φk) (n:Nat) (h:n<l.length):(l.take (n+1)).map φR=(l.take n).map φR++[φR l[n]]:=by
 rw[κ4 h,mp];rfl
theorem φMM (l:List φk) (mark:Int) (hl:l.length<1000000000):ψ1Y.f l mark=some (φX l mark):=by
 have hk:=φh (step:=ψ1Y.l0) (fun n (_:Unit)=>(l,mark,(l.take n).map φR,l,(l.length:Int),(n:Int))) l.length (fun _ _=>(l,mark,l.map φR)) (fun _ _=>True)
  (fun rec n s hn _ ih=>by
   rcases κ1 n l.length with h | h
   ·have ih:=ih () h trivial
    rw[φOG l n h] at ih
    have hb:(((l.take n).map φR).length+([φR l[n]]:List RecT).length) * 64≤140737488355328:=by
     rw[lM,lT];exact φFG (by omega)
    have hb2:(((l.take n).map φR).length+([(4,l[n].2.2,l[n].1,l[n].2.1,0,0)]:List RecT).length) * 64≤140737488355328:=hb
    have hkp:((4,l[n].2.2,l[n].1,l[n].2.1,0,0):RecT)=φR l[n]:=rfl
    simp only[ψ1Y.l0,oL,h,dT,cT,φJ,φN,φD h,hkp,φQ (show n+1<9223372036854775808 by omega),ih]
    exact congrArg (fun b=>bif b then some (l,mark,l.map φR) else none) (decide_eq_true hb2)
   ·have:n=l.length:=by omega
    subst this
    simp[ψ1Y.l0])
  (by omega) 0 () (κ3 _) trivial
 have hk:lp ψ1Y.l0 (l,mark,[],l,(l.length:Int),0)=_:=hk
 unfold ψ1Y.f φX
 rw[hk,bS]
 have hb:((l.map φR).length+([((5,mark,[],[],(l.length:Int),φ1j (l.map φR)):RecT)]:List RecT).length) * 64≤140737488355328:=by
  rw[lM];exact φFG (by omega)
 simp only[φAs (l.map φR) (by rw[lM];omega),bS,hb,dT,cT]
abbrev CurT:=List Int×Int×Int
def Cur (c:CurT):Prop:=0≤c.2.1∧c.1.length<2 ^ 60
theorem φ9e (x:Int):0≤bits (fun _ a b=>a &&& b) .i64 x 255∧bits (fun _ a b=>a &&& b) .i64 x 255≤255:=by
 have e:bits (fun _ a b=>a &&& b) .i64 x 255=IntKind.wrap .i64 ((BitVec.ofInt 64 x &&& BitVec.ofInt 64 255).toNat:Int):=rfl
 have h:(BitVec.ofInt 64 x &&& BitVec.ofInt 64 255).toNat≤255:=by
  rw[BitVec.toNat_and]
  exact κg Nat.and_le_right (by decide)
 rw[e,φAf (by omega)]
 omega
theorem φ6N {c:CurT} (h:Cur c):∃x c',ψ3B.f c=some (x,c')∧0≤x∧x≤255∧Cur c':=by
 obtain ⟨l,i,s⟩:=c
 obtain ⟨h1,h2⟩:=h
 simp only at h1 h2
 unfold ψ3B.f
 simp only
 generalize bits (fun _ a b=>a ^^^ b) .i64 _ _=y
 by_cases c:i<(l.length:Int)
 ·obtain ⟨j,rfl⟩:∃j:Nat,i=(j:Int):=⟨i.toNat,by omega⟩
  have c2:j<l.length:=by omega
  simp only[c,dT,cT,φJ,c2]
  refine ⟨_,_,rfl,(φ9e _).1,(φ9e _).2,?_,h2⟩
  show 0≤w64 _
  rw[φH (by omega) (by omega)];omega
 ·simp only[c,dF,cF]
  exact ⟨_,_,rfl,(φ9e _).1,(φ9e _).2,h1,h2⟩
theorem φAo {x n:Int} (hx:0≤x) (hn:0<n):0≤Int.tmod x n∧Int.tmod x n<n:=by
 exact ⟨Int.tmod_nonneg n hx,Int.tmod_lt_of_pos x hn⟩
theorem φ5C {c:CurT} (h:Cur c) (n:Int):∃x c',ψ3A.f c n=some (x,c')∧0≤x∧(0<n→x<n)∧(n≤0→x=0)∧Cur c':=by
 unfold ψ3A.f
 by_cases c0:n≤0
 ·simp only[c0,dT,cT]
  exact ⟨0,c,rfl,κO _,fun h=>by omega,fun _=>rfl,h⟩
 have hn:(n != 0)=true:=by simp;omega
 by_cases c1:n≤256
 ·obtain ⟨x,c',e,h1,h2,h3⟩:=φ6N h
  simp only[c0,c1,dT,dF,cT,cF,e,bS,hn]
  have:=φAo h1 (show 0<n by omega)
  exact ⟨_,_,rfl,this.1,fun _=>this.2,fun h=>h.elim,h3⟩
 ·obtain ⟨x,c1',e1,a1,b1,h1⟩:=φ6N h
  obtain ⟨y,c2',e2,a2,b2,h2⟩:=φ6N h1
  obtain ⟨z,c3',e3,a3,b3,h3⟩:=φ6N h2
  obtain ⟨w,c4',e4,a4,b4,h4⟩:=φ6N h3
  simp only[c0,c1,dF,cF,e1,e2,e3,e4,bS,hn,cT]
  rw[φH (n:=x * 16777216) (by omega) (by omega),φH (n:=y * 65536) (by omega) (by omega),φH (n:=z * 256) (by omega) (by omega),φH (n:=x * 16777216+y * 65536) (by omega) (by omega),φH (n:=x * 16777216+y * 65536+z * 256) (by omega) (by omega),φH (n:=x * 16777216+y * 65536+z * 256+w) (by omega) (by omega)]
  have:=φAo (x:=x * 16777216+y * 65536+z * 256+w) (n:=n) (by omega) (by omega)
  exact ⟨_,_,rfl,this.1,fun _=>this.2,fun h=>h.elim,h4⟩
theorem φEr {c:CurT} (h:Cur c) (n:Int):∃b c',ψ3E.f c n=some (b,c')∧Cur c':=by
 obtain ⟨x,c',e,_,_,_,h'⟩:=φ5C h n
 unfold ψ3E.f
 simp only[e,bS]
 exact ⟨_,_,rfl,h'⟩
theorem φCV {c:CurT} (h:Cur c) (l:List (List UInt8)) (hl:0<l.length):∃x c',ψ3F.f c l=some (x,c')∧x∈l∧Cur c':=by
 obtain ⟨x,c',e,h1,h2,_,h'⟩:=φ5C h (l.length:Int)
 have h2:=h2 (by omega)
 unfold ψ3F.f
 simp only[e,bS]
 obtain ⟨j,rfl⟩:∃j:Nat,x=(j:Int):=⟨x.toNat,by omega⟩
 have c2:j<l.length:=by omega
 simp only[φJ,c2,dT,cT,φN,φD c2]
 exact ⟨_,_,rfl,gM c2,h'⟩
def φDm:List (List UInt8):=[[97],[98],[99],[107,101,121],[108,111,110,103,110,97,109,101]]
theorem φBp {c:CurT} (h:Cur c):∃x c',ψ3O.f c=some (x,c')∧φ1L x=true∧Cur c':=by
 obtain ⟨x,c',e,hm,h'⟩:=φCV h φDm (by decide)
 unfold ψ3O.f
 have e:ψ3F.f c [[97],[98],[99],[107,101,121],[108,111,110,103,110,97,109,101]]=some (x,c'):=e
 simp only[e,bS]
 refine ⟨_,_,rfl,?_,h'⟩
 have:∀y∈φDm,φ1L y=true:=by decide
 exact this x hm
theorem φBh {A B σ:Type} {step:(A→Option B)→A→Option B} (st:Nat→σ→A) (Inv:Nat→σ→Prop) (Post:B→Prop)
  (hz:∀rec s,Inv 0 s→∃b,step rec (st 0 s)=some b∧Post b)
  (hs:∀rec n s,Inv (n+1) s→∃s',Inv n s'∧step rec (st (n+1) s)=rec (st n s')) (n:Nat) (s:σ) (hi:Inv n s) (hn:n<2 ^ 62):∃b,lp step (st n s)=some b∧Post b:=by
 have key:∀n f s,Inv n s→n<f→∃b,φ32 step f (st n s)=some b∧Post b:=by
  intro n
  induction n with
  | zero=>
   intro f s hi hf
   obtain ⟨f,rfl⟩:∃g,f=g+1:=⟨f - 1,by omega⟩
   exact hz _ s hi
  | succ n ih=>
   intro f s hi hf
   obtain ⟨f,rfl⟩:∃g,f=g+1:=⟨f - 1,by omega⟩
   obtain ⟨s',hi',e⟩:=hs (φ32 step f) n s hi
   show ∃b,step (φ32 step f) (st (n+1) s)=some b∧Post b
   rw[e]
   exact ih f s' hi' (by omega)
 exact key n FUEL s hi (κG hn φ6x)
theorem φ73 {A B:Type} {step:(A→Option B)→A→Option B} (P:A→Prop) (m:A→Nat) (Post:B→Prop)
  (h:∀rec a,P a→(∃b,step rec a=some b∧Post b)∨∃a',P a'∧m a'<m a∧step rec a=rec a') {a:A} (hp:P a) (hm:m a<2 ^ 62):∃b,lp step a=some b∧Post b:=by
 have key:∀f a,P a→m a<f→∃b,φ32 step f a=some b∧Post b:=by
  intro f
  induction f with
  | zero=>intro a _ hf;omega
  | succ f ih=>
   intro a hp hf
   rcases h (φ32 step f) a hp with hx | ⟨a',hp',hlt,e⟩
   ·exact hx
   ·show ∃b,step (φ32 step f) a=some b∧Post b
    rw[e]
    exact ih a' hp' (by omega)
 exact key FUEL a hp (κG hm φ6x)
theorem φIN {c:CurT} (h:Cur c) (most:Int) (h0:0≤most) (h1:most<1000000000):∃x c',ψ3H.f c most=some (x,c')∧(x.length:Int)≤most∧Cur c':=by
 obtain ⟨st,c1,e1,_,_,_,hc1⟩:=φ5C h 4
 obtain ⟨n,c2,e2,a2,b2,_,hc2⟩:=φ5C hc1 (most+1)
 have b2:=b2 (by omega)
 obtain ⟨m,rfl⟩:∃m:Nat,n=(m:Int):=⟨n.toNat,by omega⟩
 have key:=φBh (step:=ψ3H.l0) (fun k (s:CurT×List Int)=>(s.1,s.2,st,(k:Int))) (fun k s=>Cur s.1∧s.2.length+k=m) (fun b=>Cur b.1∧b.2.length=m)
  (fun rec s hi=>⟨_,by simp[ψ3H.l0],hi.1,by simpa using hi.2⟩)
  (fun rec k s hi=>by
   obtain ⟨hi1,hi2⟩:=hi
   obtain ⟨x,c',e,_,_,h'⟩:=φ6N hi1
   have e0:((k+1:Nat):Int) > 0:=by omega
   have hw:w64 (((k+1:Nat):Int) - 1)=(k:Int):=by rw[φH (by omega) (by omega)];omega
   have hb:∀v:Int,(s.2.length+[v].length) * 1≤140737488355328:=fun v=>by show (s.2.length+1) * 1≤_;omega
   cases d1:(st==1)<;>cases d2:(st==2)<;>simp only[ψ3H.l0,e0,dT,cT,cF,e,bS,d1,d2,hb,hw]
   all_goals exact ⟨(c',s.2++[_]),⟨h',by simp only[lA,κA];omega⟩,rfl⟩)
  m (c2,[]) ⟨hc2,by simp⟩ (by omega)
 obtain ⟨⟨c3,xs⟩,e3,hc3,hl⟩:=key
 have e3:lp ψ3H.l0 (c2,[],st,(m:Int))=some (c3,xs):=e3
 unfold ψ3H.f
 rw[e1,bS]
 simp only[φH (n:=most+1) (by omega) (by omega),e2,bS,e3]
 refine ⟨_,_,rfl,?_,hc3⟩
 unfold φ1S
 simp only at hl
 rw[lM,hl];omega
theorem φNn (l:List Int) (hl:l.length<2 ^ 60):∃c,ψ3D.f l=some c∧Cur c:=by
 have key:∃s,lp ψ3D.l0 (l,w64 (10101+(l.length:Int)),0)=some (l,s):=by
  have:=φ73 (step:=ψ3D.l0) (a:=(l,w64 (10101+(l.length:Int)),((0:Nat):Int))) (fun a=>a.1=l∧∃n:Nat,a.2.2=(n:Int)∧n≤l.length) (fun a=>l.length - a.2.2.toNat) (fun b=>b.1=l)
   (fun rec a ha=>by
    obtain ⟨x,s,i⟩:=a
    obtain ⟨hx,n,hn,hle⟩:=ha
    simp only at hx hn
    subst hx hn
    by_cases c:n<x.length
    ·by_cases c2:(n:Int)<4000
     ·right
      have c3:(n:Int)<(x.length:Int):=by omega
      refine ⟨(x,bits (fun _ a b=>a &&& b) .i64 (w64 ((w64 ((w64 (s * 131))+(w64 (x.getD n 0))))+7)) 1073741823,((n+1:Nat):Int)),⟨rfl,n+1,rfl,c⟩,by simp only[tN];omega,?_⟩
      simp only[ψ3D.l0,c3,c2,dT,cT,φJ,c,φN,φQ (show n+1<9223372036854775808 by omega)]
     ·left
      have c3:(n:Int)<(x.length:Int):=by omega
      exact ⟨(x,s),by simp only[ψ3D.l0,c3,c2,dT,dF,cT,cF],rfl⟩
    ·left
     have c3:¬(n:Int)<(x.length:Int):=by omega
     exact ⟨(x,s),by simp only[ψ3D.l0,c3,dF,cF],rfl⟩)
   ⟨rfl,0,rfl,κ3 _⟩ (by simp only;omega)
  obtain ⟨⟨b1,b2⟩,e,hb⟩:=this
  simp only at hb
  subst hb
  exact ⟨b2,e⟩
 obtain ⟨s,e⟩:=key
 unfold ψ3D.f
 simp only[e,bS]
 exact ⟨_,rfl,κO _,hl⟩
abbrev φEG:=List UInt8×Int
def φ8A (t:TxnT) (key:List UInt8) (b:Int):TxnT×Int:=
 if t.1=false∨φ1L key=false then (t,4) else
 match t.2.1.find? (fun r=>r.1==key) with
 | some r=>if r.2=b then (t,0) else (t,7)
 | none=>if 20≤t.2.1.length then (t,5) else ((t.1,t.2.1++[(key,b)],t.2.2),0)
def φ27 (t:TxnT) (key:List UInt8) (b:Int):TxnT×Int:=
 if t.1=false∨φ1L key=false then (t,4) else
 if t.2.1.any (fun r=>r.1==key && !(r.2==b))=true then (t,7) else
 if t.2.1.any (fun r=>r.1==key)=true then (t,0) else
 if 20≤t.2.1.length then (t,5) else ((t.1,t.2.1++[(key,b)],t.2.2),0)
theorem φCl {a:Nat} (h:a<1000000000001):(a+1) * 24≤140737488355328:=by omega
theorem φN9 (t:TxnT) (key:List UInt8) (b:Int) (h1:t.2.1.length<1000000000) (h2:t.2.2.length<1000000000):ψ1D.f t key b=some (φ27 t key b):=by
 unfold ψ1D.f φ27
 rw[φAz t (by omega) (by omega),bS]
 rcases bE t.1 with k | k
 rotate_left
 ·simp[k]
 simp only[k,nZ,cF,φ6a,bS]
 rcases bE (φ1L key) with k2 | k2
 rotate_left
 ·simp[k2]
 have key':=φh (step:=ψ1D.l0) (fun n (f:Bool)=>(key,b,t,((false,[],[]):TxnT),t,f,t.2.1,(t.2.1.length:Int),(n:Int))) t.2.1.length
  (fun n f=>if (t.2.1.drop n).any (fun r=>r.1==key && !(r.2==b))=true then .inr (t,7) else .inl (key,b,t,(false,[],[]),t,f || (t.2.1.drop n).any (fun r=>r.1==key))) (fun _ _=>True)
  (fun rec n f hn _ ih=>by
   rcases κ1 n t.2.1.length with h | h
   ·have hw:=φQ (show n+1<9223372036854775808 by omega)
    rw[dG h,List.any_cons,List.any_cons]
    simp only[ψ1D.l0,oL,h,dT,cT,φJ,φN,φD h,φQ (show n+1<9223372036854775808 by omega)]
    rcases bE (t.2.1[n].1==key) with c | c
    ·by_cases c2:t.2.1[n].2=b
     ·have c3:(t.2.1[n].2 != b)=false:=by simpa using c2
      have c4:(t.2.1[n].2==b)=true:=by simpa using c2
      simp only[c,c3,c4,nZ,cT,cF,bS,φe,hw,ih true h trivial,Bool.and_false,κS,Bool.true_or,Bool.or_true]
     ·have c3:(t.2.1[n].2 != b)=true:=by simpa using c2
      have c4:(t.2.1[n].2==b)=false:=by simpa using c2
      simp only[c,c3,c4,nZ,nF,cT,cF,bS,φo,κL,Bool.true_or,if_true]
    ·simp only[c,nF,cT,bS,φe,hw,ih f h trivial,κD,κS]
   ·have:n=t.2.1.length:=by omega
    subst this
    simp[ψ1D.l0])
  (by omega) 0 false (κ3 _) trivial
 have key':lp ψ1D.l0 (key,b,t,(false,[],[]),t,false,t.2.1,(t.2.1.length:Int),0)=_:=key'
 simp only[k2,nZ,cF,key',bS,κ9,or_self,if_false,κC,κS]
 cases t.2.1.any (fun r=>r.1==key && !(r.2==b))
 rotate_left
 ·simp only[if_true,φo]
 simp only[κ2,if_false,φe]
 cases t.2.1.any (fun r=>r.1==key)
 rotate_left
 ·simp only[if_true,cT]
 simp only[κ2,if_false,cF]
 by_cases c:20≤t.2.1.length
 ·have c2:(t.2.1.length:Int)≥20:=by omega
  simp only[c,c2,dT,cT,if_true]
 ·have c2:¬(t.2.1.length:Int)≥20:=by omega
  have hb:(t.2.1.length+([(key,b)]:List φEG).length) * 24≤140737488355328:=φCl (by omega)
  have hb:decide ((t.2.1.length+([(key,b)]:List φEG).length) * 24≤140737488355328)=true:=decide_eq_true hb
  simp only[c,c2,dF,cF,if_false,hb,cT,k]
structure TxnOk (t:TxnT):Prop where
 keys:t.2.1.Pairwise (fun a b=>a.1≠b.1)
 reads:t.2.1.length≤20
 writes:t.2.2.length≤50
 net:(netW t.2.2).length≤8
theorem φLV {t:TxnT} (h:TxnOk t) (key:List UInt8) (b:Int):TxnOk (φ8A t key b).1:=by
 unfold φ8A
 split
 ·exact h
 split
 ·split<;>exact h
 ·rename_i hf
  split
  ·exact h
  ·refine ⟨?_,?_,h.writes,h.net⟩
   ·show (t.2.1++[(key,b)]).Pairwise _
    rw[κf]
    refine ⟨h.keys,by simp,fun x hx y hy=>?_⟩
    rw[mZ.1 hy]
    have:=List.find?_eq_none.1 hf x hx
    simpa using this
   ·show (t.2.1++[(key,b)]).length≤20
    rw[lA];show _+1≤20;omega
theorem φJk {t:TxnT} (h:TxnOk t) (p:PutT):TxnOk (φ2Y t p).1:=by
 unfold φ2Y
 split
 ·rename_i c
  refine ⟨h.keys,h.reads,?_,c.2.2.1⟩
  show (t.2.2++[p]).length≤50
  rw[lA];show _+1≤50;omega
 ·exact h
theorem φLI {t:TxnT} (h:TxnOk t) (key:List UInt8) (b:Int):φ27 t key b=φ8A t key b:=by
 unfold φ27 φ8A
 split
 ·rfl
 have hk:=h.keys
 generalize t.2.1=l at *
 cases hf:l.find? (fun r=>r.1==key) with
 | none=>
  have hn:=List.find?_eq_none.1 hf
  have a1:l.any (fun r=>r.1==key && !(r.2==b))=false:=by
   rw[List.any_eq_false];intro x hx;simp[hn x hx]
  have a2:l.any (fun r=>r.1==key)=false:=by
   rw[List.any_eq_false];exact hn
  simp only[a1,a2,κ2,if_false]
 | some r=>
  have hr:=List.mem_of_find?_eq_some hf
  have hr2:r.1=key:=by simpa using List.find?_some hf
  have a2:l.any (fun r=>r.1==key)=true:=by
   rw[List.any_eq_true];exact ⟨r,hr,by simpa using hr2⟩
  have only:∀x∈l,x.1=key→x=r:=by
   intro x hx e
   rcases List.pairwise_iff_getElem.1 hk with hp
   obtain ⟨i,hi,ei⟩:=List.getElem_of_mem hx
   obtain ⟨j,hj,ej⟩:=List.getElem_of_mem hr
   rcases Nat.lt_trichotomy i j with c | c | c
   ·exact absurd (by rw[ei,ej,e,hr2]) (hp i j hi hj c)
   ·subst c;rw[←ei,ej]
   ·exact absurd (by rw[ei,ej,e,hr2]) (hp j i hj hi c)
  by_cases c:r.2=b
  ·have a1:l.any (fun r=>r.1==key && !(r.2==b))=false:=by
    rw[List.any_eq_false]
    intro x hx
    by_cases e:x.1=key
    ·rw[only x hx e];simp[c]
    ·simp[e]
   simp only[a1,a2,c,κ2,if_false,if_true]
  ·have a1:l.any (fun r=>r.1==key && !(r.2==b))=true:=by
    rw[List.any_eq_true];exact ⟨r,hr,by simp[hr2,c]⟩
   simp only[a1,c,if_true,if_false]
theorem φLy {k:Nat} (hk:k<2 ^ 60):w64 (((k+1:Nat):Int) - 1)=(k:Int):=by rw[φH (by omega) (by omega)];omega
theorem φLO (l:List Int):ψ2H.f l=some (decide ((l.length:Int) > 1048576)):=rfl
def srt {α:Type} (l:List (List UInt8×α)):Prop:=l.Pairwise (fun a b=>Op.bytesLess a.1 b.1=true)
theorem φ5u {α:Type} (x:List UInt8×α) (l:List (List UInt8×α)) (p:List UInt8×α):insB (x::l) p=if leK x.1 p.1=true then x::insB l p else p::x::l:=by
 cases h:leK x.1 p.1<;>simp[insB,h]
theorem φ3Y {α:Type} (y p:List UInt8×α):∀l:List (List UInt8×α),y∈insB l p↔y=p∨y∈l
 | []=>by simp[insB]
 | x::l=>by
  rw[φ5u]
  split
  ·rw[mc,φ3Y y p l,mc]
   constructor
   ·rintro (h | h | h)
    ·exact .inr (.inl h)
    ·exact .inl h
    ·exact .inr (.inr h)
   ·rintro (h | h | h)
    ·exact .inr (.inl h)
    ·exact .inl h
    ·exact .inr (.inr h)
  ·rw[mc]
theorem φBO {α:Type} (p:List UInt8×α):∀l:List (List UInt8×α),srt l→(∀x∈l,x.1≠p.1)→srt (insB l p)
 | [],_,_=>by simp[insB,srt]
 | x::l,h,hn=>by
  have h:=κZ.1 h
  rw[φ5u]
  split
  ·rename_i c
   refine List.Pairwise.cons (fun y hy=>?_) (φBO p l h.2 fun y hy=>hn y (mC _ hy))
   rcases (φ3Y y p l).1 hy with e | hy
   ·rw[e]
    unfold leK at c
    rcases κX _ _ ▸ c with c | c
    ·exact c
    ·exact absurd (by simpa using c) (hn x κ0)
   ·exact h.1 y hy
  ·rename_i c
   have c2:Op.bytesLess p.1 x.1=true:=by
    rw[φ7r] at c
    simpa using c
   refine List.Pairwise.cons (fun y hy=>?_) (List.Pairwise.cons h.1 h.2)
   rcases mc.1 hy with e | hy
   ·rw[e];exact c2
   ·exact φ7H _ _ _ c2 (h.1 y hy)
theorem φDs {α:Type} {l:List (List UInt8×α)} (h:srt l) (k:List UInt8):srt (φ19 l k):=h.sublist List.filter_sublist
theorem φ7p {α:Type} (l:List (List UInt8×α)) (k:List UInt8) (y:List UInt8×α):y∈φ19 l k↔y∈l∧y.1≠k:=by
 unfold φ19
 rw[List.mem_filter]
 simp
theorem φHY {l:List PutT} {k:List UInt8} {p:PutT} (h:φ54 l k=some p):p∈l∧p.1=k:=by
 unfold φ54 at h
 exact ⟨by simpa using List.mem_of_find?_eq_some h,by simpa using List.find?_some h⟩
theorem φNI {l:List PutT} {k:List UInt8} {p:PutT} (h:φ54 l k=some p):ownW l k=(p,true):=by unfold ownW;rw[h]
theorem φKM {l:List PutT} {q:PutT}:q∈netW l↔φ54 l q.1=some q:=by
 unfold netW
 rw[mM]
 constructor
 ·rintro ⟨k,hk,rfl⟩
  have hk2:=φGX l k hk
  rw[hk2.1]
  unfold ownW at hk2 ⊢
  cases e:φ54 l k with
  | none=>rw[e] at hk2;simp at hk2
  | some p=>rfl
 ·intro h
  refine ⟨q.1,(φL4 l q.1).2 ⟨q,(φHY h).1,rfl⟩,?_⟩
  rw[φNI h]
theorem φIB (l:List Int) (hw:∀x∈l,0≤x∧x≤255) (n:Nat) (hn:n<1000000000) (hl:l.length<1000000000):∃a,ψ2G.f l (n:Int)=some a∧0≤a∧a≤255:=by
 unfold ψ2G.f
 by_cases c:n<l.length
 ·have c1:(n:Int)<(l.length:Int):=by omega
  have h:=hw l[n] (gM c)
  simp only[c,c1,dT,cT,φJ,φN,φD c]
  exact ⟨_,rfl,by rw[φH (by omega) (by omega)];omega,by rw[φH (by omega) (by omega)];omega⟩
 ·have c1:¬(n:Int)<(l.length:Int):=by omega
  simp only[c1,dF,cF]
  rw[φH (n:=(n:Int) * 37) (by omega) (by omega),φH (n:=(l.length:Int) * 11) (by omega) (by omega),φH (n:=(n:Int) * 37+(l.length:Int) * 11) (by omega) (by omega)]
  have:=φAo (x:=(n:Int) * 37+(l.length:Int) * 11) (n:=256) (by omega) (by omega)
  exact ⟨_,rfl,this.1,by omega⟩
abbrev φP:=Int×List Int
def φ1f (hi:Int):Option Int→List Int→Bool
 | _,[]=>true
 | p,x::r=>decide (1≤x∧x≤hi) && ((match p with | none=>true | some q=>decide (q<x)) && φ1f hi (some x) r)
def φ7N (l:List Int):Nat→Option Int
 | 0=>none
 | n+1=>some (l.getD n 0)
theorem φ8T (l:List Int) (n:Nat) (h:n<l.length):φ7N l (n+1)=some l[n]:=by
 show some (l.getD n 0)=_
 rw[φD h]
def φl (v:φP):Bool:=φ1f (w64 (v.1 - 1)) none v.2 && (decide (1≤v.1∧v.1≤100000) && decide (1≤(v.2.length:Int)∧(v.2.length:Int)≤60))
theorem φLE (v:φP) (hl:v.2.length<2 ^ 62):lp ψZ.l0 (v,v.2,(v.2.length:Int),0)=some (if φ1f (w64 (v.1 - 1)) none v.2=true then .inl v else .inr false):=by
 have key:=φh (step:=ψZ.l0) (fun n (_:Unit)=>(v,v.2,(v.2.length:Int),(n:Int))) v.2.length (fun n _=>if φ1f (w64 (v.1 - 1)) (φ7N v.2 n) (v.2.drop n)=true then .inl v else .inr false) (fun _ _=>True)
  (fun rec n s hn' _ ih=>by
   rcases κ1 n v.2.length with h | h
   ·have hw:w64 ((n:Int)+1)=((n+1:Nat):Int):=φQ (by omega)
    have ih2:=ih () h trivial
    rw[φ8T v.2 n h] at ih2
    rw[dG h]
    simp only[φ1f,ψZ.l0,oL,h,dT,cT,φJ,φN,φD h,bS,φ1V]
    rcases bE (decide (1≤v.2[n]∧v.2[n]≤w64 (v.1 - 1))) with k2 | k2
    rotate_left
    ·simp only[k2,nF,cT,bS,φo];simp
    simp only[k2,nZ,cF,tA]
    cases n with
    | zero=>
     have z:¬((0:Nat):Int) > 0:=by omega
     simp only[z,dF,cF,bS,φe,hw,ih2,φ7N,tA]
    | succ m=>
     have z:((m+1:Nat):Int) > 0:=by omega
     have hm:m<v.2.length:=by omega
     have z2:w64 (((m+1:Nat):Int) - 1)=(m:Int):=by rw[φH (by omega) (by omega)];omega
     rw[φ8T v.2 m hm]
     simp only[z,dT,cT,z2,φJ,hm,φN,φD hm]
     by_cases k3:v.2[m]<v.2[m+1]
     ·have k4:¬v.2[m]≥v.2[m+1]:=by omega
      simp only[k3,k4,dT,dF,cF,bS,φe,hw,ih2,tA]
     ·have k4:v.2[m]≥v.2[m+1]:=by omega
      simp[k3,k4]
   ·have:n=v.2.length:=by omega
    subst this
    simp[ψZ.l0,φ1f])
  hl 0 () (κ3 _) trivial
 have key:lp ψZ.l0 (v,v.2,(v.2.length:Int),0)=_:=key
 rw[key,κC];rfl
theorem φJM (v:φP) (hl:v.2.length<2 ^ 62):lp ψ2Z.l0 (v,0)=some (if φ1f (w64 (v.1 - 1)) none v.2=true then .inl () else .inr false):=by
 have key:=φh (step:=ψ2Z.l0) (fun n (_:Unit)=>(v,(n:Int))) v.2.length (fun n _=>if φ1f (w64 (v.1 - 1)) (φ7N v.2 n) (v.2.drop n)=true then .inl () else .inr false) (fun _ _=>True)
  (fun rec n s hn' _ ih=>by
   rcases κ1 n v.2.length with h | h
   ·have hw:w64 ((n:Int)+1)=((n+1:Nat):Int):=φQ (by omega)
    have ih2:=ih () h trivial
    rw[φ8T v.2 n h] at ih2
    rw[dG h]
    simp only[φ1f,ψ2Z.l0,oL,h,dT,cT,φJ,φN,φD h,bS,φ2N]
    rcases bE (decide (1≤v.2[n]∧v.2[n]≤w64 (v.1 - 1))) with k2 | k2
    rotate_left
    ·simp only[k2,nF,cT,bS,φo];simp
    simp only[k2,nZ,cF,tA]
    cases n with
    | zero=>
     have z:¬((0:Nat):Int) > 0:=by omega
     simp only[z,dF,cF,bS,φe,hw,ih2,φ7N,tA]
    | succ m=>
     have z:((m+1:Nat):Int) > 0:=by omega
     have hm:m<v.2.length:=by omega
     have z2:w64 (((m+1:Nat):Int) - 1)=(m:Int):=by rw[φH (by omega) (by omega)];omega
     rw[φ8T v.2 m hm]
     simp only[z,dT,cT,z2,φJ,hm,φN,φD hm]
     by_cases k3:v.2[m]<v.2[m+1]
     ·have k4:¬v.2[m+1]≤v.2[m]:=by omega
      simp only[k3,k4,dT,dF,cF,bS,φe,hw,ih2,tA]
     ·have k4:v.2[m+1]≤v.2[m]:=by omega
      simp[k3,k4]
   ·have:n=v.2.length:=by omega
    subst this
    simp[ψ2Z.l0,φ1f])
  hl 0 () (κ3 _) trivial
 have key:lp ψ2Z.l0 (v,0)=_:=key
 rw[key,κC];rfl
theorem φ87 (v:φP) (hl:v.2.length<2 ^ 62):ψZ.f v=some (φl v):=by
 unfold ψZ.f φl
 rw[φLE v hl,bS]
 rcases bE (φ1f (w64 (v.1 - 1)) none v.2) with k | k
 rotate_left
 ·simp[k]
 simp only[k,if_true,φe,φ1V,bS,tA]
 cases decide (1≤v.1∧v.1≤100000)<;>rfl
theorem φ97 (v:φP) (hl:v.2.length<2 ^ 62):ψ2Z.f v=some (φl v):=by
 unfold ψ2Z.f φl
 rw[φJM v hl]
 simp only[φ2N,bS]
 rcases bE (decide (1≤v.1∧v.1≤100000)) with k | k
 rotate_left
 ·simp only[k,nF,cT,κD,Bool.and_false]
 rcases bE (decide (1≤(v.2.length:Int)∧(v.2.length:Int)≤60)) with k2 | k2
 rotate_left
 ·simp only[k,k2,nF,nZ,cF,cT,Bool.and_false]
 simp only[k,k2,nZ,cF,κL]
 cases φ1f (w64 (v.1 - 1)) none v.2<;>simp
theorem φ9G {v:φP} (h:φl v=true):v.2.length≤60:=by
 unfold φl at h
 simp only[bA,decide_eq_true_eq] at h
 omega
theorem φAJ:∀l:List Int,((l.map varT).flatten).length≤7 * l.length
 | []=>by simp
 | x::l=>by
  have h1:=φAJ l
  have h2:=φj x
  rw[κ5,List.flatten_cons,lA,lC];omega
def φn (v:φP):List UInt8:=if φl v=false then [] else frame (varT v.1++varT (v.2.length:Int)++(v.2.map varT).flatten)
theorem φ5b (v:φP):(φn v).length≤211:=by
 unfold φn;split
 ·simp
 ·exact φ4n _
theorem φK5 (v:φP) (hl:v.2.length<2 ^ 62):ψ10.f v=some (φn v):=by
 unfold ψ10.f φn
 rw[φ87 v hl,bS]
 rcases bE (φl v) with k | k
 rotate_left
 ·simp[k]
 have h60:=φ9G k
 have h1:=φAJ v.2
 have h2:=φj v.1
 have h3:=φj (v.2.length:Int)
 have hv:ψ1w.f [v.1,(v.2.length:Int)]=some (varT v.1++varT (v.2.length:Int)):=by rw[φ6u [v.1,(v.2.length:Int)] (by show 2<1000000000000;decide)];simp
 simp only[k,nZ,cF,hv,bS,φ6u v.2 (by omega),φ1H (show (varT v.1++varT (v.2.length:Int)).length+((v.2.map varT).flatten).length≤1000000000000000 by rw[lA];omega),cT,φ8v _ (show (varT v.1++varT (v.2.length:Int)++(v.2.map varT).flatten).length<2 ^ 62 by rw[lA,lA];omega),κ9,if_false]
theorem φBq (v:φP) (hl:v.2.length<2 ^ 62):ψ2q.f v=some (φn v):=by
 unfold ψ2q.f φn
 rw[φ97 v hl,bS]
 rcases bE (φl v) with k | k
 rotate_left
 ·simp[k]
 have h60:=φ9G k
 have h1:=φAJ v.2
 have h2:=φj v.1
 have h3:=φj (v.2.length:Int)
 have key:=φh (step:=ψ2q.l0) (fun n (acc:List UInt8)=>(v,acc,(n:Int))) v.2.length (fun n acc=>acc++((v.2.drop n).map varT).flatten) (fun n acc=>acc.length≤14+7 * n)
  (fun rec n acc hn ha ih=>by
   rcases κ1 n v.2.length with h | h
   ·have hv:=φj v.2[n]
    have hb:acc.length+(varT v.2[n]).length≤9223372036854775807:=by omega
    have ih:=ih (acc++varT v.2[n]) h (by rw[lA];omega)
    simp only[ψ2q.l0,oL,h,dT,cT,φJ,φN,φD h,φ5G,bS,hb,φQ (show n+1<9223372036854775808 by omega),ih]
    rw[dG h,κ5,List.flatten_cons,aA]
   ·have:n=v.2.length:=by omega
    subst this
    simp[ψ2q.l0])
  (by omega) 0 (varT v.1++varT (v.2.length:Int)) (κ3 _) (by rw[lA];omega)
 have key:lp ψ2q.l0 (v,varT v.1++varT (v.2.length:Int),0)=_:=key
 simp only[k,nZ,cF,φ5G,bS,φ1H (show (varT v.1).length+(varT (v.2.length:Int)).length≤1000000000000000 by omega),cT,key,κC,φ8w _ (show (varT v.1++varT (v.2.length:Int)++(v.2.map varT).flatten).length<2 ^ 62 by rw[lA,lA];omega),κ9,if_false]
def dl (k:Nat) (d:φ1):Prop:=d.1.length<k∧φI d.1<k∧∀f∈d.1,f.1.length<k
theorem φ1a {k:Nat} {d:φ1} (h:dl k d) (hk:k≤1000000000):dlim d:=⟨by have:=h.1;omega,by have:=h.2.1;omega,fun f hf=>by have:=h.2.2 f hf;omega⟩
theorem φ3P {k m:Nat} {d:φ1} (h:dl k d) (hk:k≤m):dl m d:=⟨by have:=h.1;omega,by have:=h.2.1;omega,fun f hf=>by have:=h.2.2 f hf;omega⟩
theorem φ8t {k m:Nat} {d:φ1} {act:List φ4→Int×List φ4} (h:dl k d) (hm:k≤m) (ha:dl m ((act d.1).2,d.2)):dl m (φT d act).1:=by
 unfold φT
 split
 ·exact φ3P h hm
 ·split
  ·exact φ3P h hm
  ·exact ha
theorem φ6U {α:Type} (f:α→Nat) {a b:List α} (h:a.Sublist b):sumN f a≤sumN f b:=by
 induction h with
 | slnil=>exact κ6 _
 | cons x _ ih=>simp only[sumN];omega
 | cons_cons x _ ih=>simp only[sumN];omega
theorem φMq {k:Nat} {d:φ1} {l:List φ4} (h:dl k d) (hs:l.Sublist d.1):dl k (l,d.2):=
 ⟨Nat.lt_of_le_of_lt hs.length_le h.1,Nat.lt_of_le_of_lt (φ6U _ hs) h.2.1,fun f hf=>h.2.2 f (hs.subset hf)⟩
def φ33 (n:List UInt8) (d:φ1):φ1×Int:=φT d (φ25 n)
def φV (n:List UInt8) (d:φ1):φ1×Int:=φT d (φ2b n)
def φL (n t:List UInt8) (d:φ1):φ1×Int:=φT d (φ2R d.2.1 n t)
def φG (n:List UInt8) (d:φ1):φ1×Int:=φT d (φ26 n)
def φ2T (a b:List UInt8) (d:φ1):φ1×Int:=φT d (φ2J a b)
theorem φHO {k:Nat} {d:φ1} (h:dl k d) (n:List UInt8):dl k (φ33 n d).1:=
 φ8t h (κ6 _) (by
  unfold φ25
  split
  ·exact φMq h (φ5P _ _)
  ·exact h)
theorem φL6 {k m:Nat} {d:φ1} (h:dl k d) (f:φ4) (h1:k+1≤m) (h2:k+f.2.1.length≤m) (h3:f.1.length<m):dl m (insB d.1 f,d.2):=by
 refine ⟨?_,?_,fun g hg=>?_⟩
 ·show (insB d.1 f).length<m
  rw[φ6O];have:=h.1;omega
 ·show φI (insB d.1 f)<m
  have e:φI (insB d.1 f)=φI d.1+f.2.1.length:=by
   unfold φI
   generalize d.1=l
   induction l with
   | nil=>simp[insB,sumN]
   | cons x l ih=>
    rw[φ5u]
    split
    ·simp only[sumN,ih];omega
    ·simp only[sumN];omega
  rw[e];have:=h.2.1;omega
 ·rcases (φ3Y g f d.1).1 hg with e | hg
  ·rw[e];exact h3
  ·have:=h.2.2 g hg;omega
theorem φ9P {k m:Nat} {d:φ1} (h:dl k d) (n:List UInt8) (h1:k+1≤m) (h3:n.length<m):dl m (φV n d).1:=
 φ8t h (by omega) (by
  unfold φ2b
  split
  ·exact φ3P h (by omega)
  split
  ·exact φ3P h (by omega)
  split
  ·exact φ3P h (by omega)
  ·exact φL6 h _ h1 (by simp;omega) h3)
theorem φNR (l:List φ4) (i:Nat) (f:φ4) (k:Nat) (hi:i<l.length) (hf:f.2.1.length≤l[i].2.1.length+k):φI (l.set i f)≤φI l+k:=by
 unfold φI
 induction l generalizing i with
 | nil=>simp at hi
 | cons x l ih=>
  cases i with
  | zero=>
   simp only[List.set_cons_zero,sumN]
   simp only[List.getElem_cons_zero] at hf
   omega
  | succ i=>
   simp only[List.set_cons_succ,sumN]
   have:=ih i (by simpa using hi) (by simpa using hf)
   omega
theorem φCt {k m c:Nat} {d:φ1} (h:dl k d) (i:Nat) (f:φ4) (hi:i<d.1.length) (hn:f.1=(d.1[i]).1) (hf:f.2.1.length≤d.1[i].2.1.length+c) (hm:k+c≤m):dl m (d.1.set i f,d.2):=by
 refine ⟨?_,?_,fun g hg=>?_⟩
 ·show (d.1.set i f).length<m
  rw[List.length_set];have:=h.1;omega
 ·show φI (d.1.set i f)<m
  have:=φNR d.1 i f c hi hf
  have:=h.2.1;omega
 ·rcases κe hg with hg | e
  ·have:=h.2.2 g hg;omega
  ·rw[e,hn];have:=h.2.2 _ (gM hi);omega
theorem φ8p {k m:Nat} {d:φ1} (h:dl k d) (n t:List UInt8) (h1:k+t.length≤m):dl m (φL n t d).1:=
 φ8t h (by omega) (by
  unfold φ2R
  rcases φu d.1 n with ⟨e,_⟩ | ⟨i,hi,e,_⟩
  ·rw[φ1B e];exact φ3P h (by omega)
  ·rw[φ16 e]
   simp only
   split
   ·exact φ3P h (by omega)
   ·rw[φD hi]
    exact φCt h i _ hi rfl (by simp) h1)
theorem φF0 {k:Nat} {d:φ1} (h:dl k d) (n:List UInt8):dl k (φG n d).1:=
 φ8t h (κ6 _) (by
  unfold φ26
  rcases φu d.1 n with ⟨e,_⟩ | ⟨i,hi,e,_⟩
  ·rw[φ1B e];exact h
  ·rw[φ16 e]
   simp only
   rw[φD hi]
   exact φCt (c:=0) h i _ hi rfl (by simp) (κ6 _))
theorem φ7v (l:List φ4) (n:List UInt8):(φ1b l n).Sublist l:=by
 unfold φ1b;split
 ·exact φ5P _ _
 ·exact List.Sublist.refl _
abbrev φE:=φ1×Int
def told (c:Int):Int:=if c=0 then 0 else if c=1 then 1 else if c=2 then 2 else 3
theorem φ1C (c:Int):told c=0↔c=0:=by
 unfold told;split
 ·simp[*]
 ·split
  ·simp[*]
  ·split
   ·simp[*]
   ·simp[*]
theorem φGm (c:Int):ψ1t.f c=some (told c):=by
 unfold ψ1t.f told
 by_cases h0:c=0
 ·simp[h0]
 ·by_cases h1:c=1
  ·simp[h1]
  ·by_cases h2:c=2
   ·simp[h2]
   ·have b0:(c==0)=false:=by simpa using h0
    have b1:(c==1)=false:=by simpa using h1
    have b2:(c==2)=false:=by simpa using h2
    rw[b0,b1,b2];simp[h0,h1,h2]
theorem φ4l (c:Int):ψ2y.f c=some (told c):=φGm c
def φ9 (op:φ1→φ1×Int) (w:φE):φE:=if w.2=0 then op w.1 else w
def φ1A (op:φ1→φ1×Int) (w:φE):φE:=if w.2=0 then ((op w.1).1,told (op w.1).2) else w
def φA (w:φE):φE:=(w.1,told w.2)
theorem φ2o (op:φ1→φ1×Int) (w:φE):φ1A op (φA w)=φA (φ9 op w):=by
 unfold φ1A φ9 φA
 by_cases h:w.2=0
 ·have h2:told w.2=0:=(φ1C _).2 h
  simp only[h2,if_true]
  rw[if_pos h]
 ·have h2:¬told w.2=0:=fun e=>h ((φ1C _).1 e)
  simp[h,h2]
def φB (n:List UInt8) (d:φ1):φ1×Int:=if φ1h d.1 n≥0 then φ33 n d else (d,0)
theorem φ8N {k:Nat} {d:φ1} (h:dl k d) (n:List UInt8):dl k (φB n d).1:=by
 unfold φB;split
 ·exact φHO h n
 ·exact h
theorem φ6R {k m:Nat} {w:φE} {op:φ1→φ1×Int} (h:dl k w.1) (hm:k≤m) (ho:dl m (op w.1).1):dl m (φ9 op w).1:=by
 unfold φ9;split
 ·exact ho
 ·exact φ3P h hm
theorem φ5f {k m:Nat} {w:φE} {op:φ1→φ1×Int} (h:dl k w.1) (hm:k≤m) (ho:dl m (op w.1).1):dl m (φ1A op w).1:=by
 unfold φ1A;split
 ·exact ho
 ·exact φ3P h hm
theorem φ5x (w:φE) (d:φ1) (c:Int):ψ2B.f w d c=some (d,told c):=by
 unfold ψ2B.f;rw[φGm];rfl
theorem φ5E (w:φE) (n:List UInt8) {k:Nat} (h:dl k w.1) (hk:k≤1000000000):ψ23.f w n=some (φ1A (φB n) w):=by
 have hd:=φ1a h hk
 unfold ψ23.f φ1A φB
 by_cases c:w.2=0
 ·have c1:(w.2==0)=true:=by simpa using c
  simp only[c1,cT,φ4M w.1 n (by have:=hd.1;omega),bS,φKX w.1 n hd,φ5x]
  by_cases c2:φ1h w.1.1 n≥0
  ·simp only[c2,dT,cT,c,if_true];rfl
  ·simp only[c2,dF,cF,c,if_true,if_false]
   congr 1
   show w=(w.1,told 0)
   rw[show told 0=w.2 by rw[c];rfl]
 ·have c1:(w.2==0)=false:=by simpa using c
  simp[c,c1]
theorem φ9M (w:φE) (n:List UInt8) {k:Nat} (h:dl k w.1) (hk:k≤1000000000) (hn:n.length<2 ^ 62):ψ1z.f w n=some (φ1A (φV n) w):=by
 have hd:=φ1a h hk
 unfold ψ1z.f φ1A
 by_cases c:w.2=0
 ·have c1:(w.2==0)=true:=by simpa using c
  simp only[c1,cT,φIV w.1 n hd hn,bS,φ5x,c,if_true];rfl
 ·have c1:(w.2==0)=false:=by simpa using c
  simp[c,c1]
theorem φBb (w:φE) (n t:List UInt8) {k:Nat} (h:dl k w.1) (hk:k≤1000000000) (ht:t.length<1000000000000):ψ26.f w n t=some (φ1A (φL n t) w):=by
 have hd:=φ1a h hk
 unfold ψ26.f φ1A
 by_cases c:w.2=0
 ·have c1:(w.2==0)=true:=by simpa using c
  simp only[c1,cT,φKv w.1 n t hd ht,bS,φ5x,c,if_true];rfl
 ·have c1:(w.2==0)=false:=by simpa using c
  simp[c,c1]
theorem φ6j (w:φE) (n:List UInt8) {k:Nat} (h:dl k w.1) (hk:k≤1000000000):ψ2A.f w n=some (φ1A (φG n) w):=by
 have hd:=φ1a h hk
 unfold ψ2A.f φ1A
 by_cases c:w.2=0
 ·have c1:(w.2==0)=true:=by simpa using c
  simp only[c1,cT,φNZ w.1 n hd,bS,φ5x,c,if_true];rfl
 ·have c1:(w.2==0)=false:=by simpa using c
  simp[c,c1]
theorem φKz (w:φE) (a b:List UInt8) {k:Nat} (h:dl k w.1) (hk:k≤1000000000) (hb:b.length<2 ^ 62):ψ28.f w a b=some (φ1A (φ2T a b) w):=by
 have hd:=φ1a h hk
 unfold ψ28.f φ1A
 by_cases c:w.2=0
 ·have c1:(w.2==0)=true:=by simpa using c
  simp only[c1,cT,φJK w.1 a b hd hb,bS,φ5x,c,if_true];rfl
 ·have c1:(w.2==0)=false:=by simpa using c
  simp[c,c1]
def φ1P (n t:List UInt8) (w:φE):φE:=φ9 (φG n) (φ9 (φL n t) (φ9 (φV n) (φ9 (φB n) w)))
def φ6M (n t:List UInt8) (w:φE):φE:=φ1A (φG n) (φ1A (φL n t) (φ1A (φV n) (φ1A (φB n) w)))
theorem φE5 (n t:List UInt8) (w:φE):φ6M n t (φA w)=φA (φ1P n t w):=by
 unfold φ6M φ1P
 rw[φ2o,φ2o,φ2o,φ2o]
theorem φOL {k m:Nat} {w:φE} (h:dl k w.1) (n t:List UInt8) (h1:k+1+n.length+t.length≤m):dl m (φ6M n t w).1:=by
 have g1:=φ5f (op:=φB n) h (κ6 _) (φ8N h n)
 have g2:=φ5f (op:=φV n) (m:=k+1+n.length) g1 (by omega) (φ9P g1 n (by omega) (by omega))
 have g3:=φ5f (op:=φL n t) (m:=m) g2 (by omega) (φ8p g2 n t (by omega))
 exact φ5f (op:=φG n) g3 (κ6 _) (φF0 g3 n)
theorem φLJ {k m:Nat} {w:φE} (h:dl k w.1) (n t:List UInt8) (h1:k+1+n.length+t.length≤m):dl m (φ1P n t w).1:=by
 have g1:=φ6R (op:=φB n) h (κ6 _) (φ8N h n)
 have g2:=φ6R (op:=φV n) (m:=k+1+n.length) g1 (by omega) (φ9P g1 n (by omega) (by omega))
 have g3:=φ6R (op:=φL n t) (m:=m) g2 (by omega) (φ8p g2 n t (by omega))
 exact φ6R (op:=φG n) g3 (κ6 _) (φF0 g3 n)
theorem φHL (w:φE) (n t:List UInt8) {k:Nat} (h:dl k w.1) (hk:k+1+n.length+t.length≤1000000000):ψ20.f w n t=some (φ6M n t w):=by
 have g1:=φ5f (op:=φB n) h (κ6 _) (φ8N h n)
 have g2:=φ5f (op:=φV n) (m:=k+1+n.length) g1 (by omega) (φ9P g1 n (by omega) (by omega))
 have g3:=φ5f (op:=φL n t) (m:=k+1+n.length+t.length) g2 (by omega) (φ8p g2 n t (by omega))
 unfold ψ20.f ψ1x.f φ6M
 simp only[φ5E w n h (by omega),bS,φ9M _ n g1 (by omega) (by omega),φBb _ n t g2 (by omega) (by omega),φ6j _ n g3 (by omega)]
theorem φ2n {op:φ1→φ1×Int} {d:φ1} {c:Int} (h:c≠0):φ9 op (d,c)=(d,c):=by
 unfold φ9;simp[h]
theorem φ2M {op:φ1→φ1×Int} {d:φ1}:φ9 op (d,0)=op d:=by
 unfold φ9;simp
theorem φH3 (d:φ1) (n:List UInt8) {k:Nat} (h:dl k d) (hk:k≤1000000000) (hn:n.length<2 ^ 62):ψ30.f d n=some (φ9 (φV n) (φB n d)):=by
 have hd:=φ1a h hk
 unfold ψ30.f
 rw[φ4X d n (by have:=hd.1;omega),bS]
 by_cases c2:φ1h d.1 n≥0
 ·have e:φB n d=φ33 n d:=by unfold φB;simp[c2]
  have g:=φHO h n
  rw[e]
  have er:ψ2j.f d n=some (φ33 n d):=φFo d n hd
  simp only[c2,dT,cT,er,bS]
  generalize φ33 n d=r at *
  obtain ⟨x,c⟩:=r
  by_cases c3:c=0
  ·have c4:(c != 0)=false:=by simpa using c3
   subst c3
   rw[φ2M]
   simp only[c4,cF,bS,φe,φHy x n (φ1a g hk) hn];rfl
  ·have c4:(c != 0)=true:=by simpa using c3
   rw[φ2n c3]
   simp only[c4,cT,bS,φo]
 ·have e:φB n d=(d,0):=by unfold φB;simp[c2]
  rw[e,φ2M]
  simp only[c2,dF,cF,bS,φe,φHy d n hd hn];rfl
theorem φHQ (d:φ1) (n t:List UInt8) {k:Nat} (h:dl k d) (hk:k+1+n.length+t.length≤1000000000):ψ2z.f d n t=some (φ1P n t (d,0)):=by
 have g1:=φ8N h n
 have g2:dl (k+1+n.length) (φ9 (φV n) (φB n d)).1:=φ6R (op:=φV n) g1 (by omega) (φ9P g1 n (by omega) (by omega))
 have g3:=φ6R (op:=φL n t) (m:=k+1+n.length+t.length) g2 (by omega) (φ8p g2 n t (by omega))
 unfold ψ2z.f φ1P
 rw[φH3 d n h (by omega) (by omega),bS,φ2M]
 generalize φ9 (φV n) (φB n d)=r at *
 obtain ⟨x,c⟩:=r
 have e2:(bif c==0 then (ψ2J.f x n t).bind fun (t2_0,t2_1)=>some (n,(([],0,0,false):φ1),t2_0,t2_1) else some (n,([],0,0,false),x,c))=some (n,([],0,0,false),(φ9 (φL n t) (x,c)).1,(φ9 (φL n t) (x,c)).2):=by
  by_cases c0:c=0
  ·subst c0
   rw[φ2M]
   simp only[show ((0:Int)==0)=true from rfl,cT,φCG x n t (φ1a g2 (by omega)) (by omega),bS];rfl
  ·have c1:(c==0)=false:=by simpa using c0
   rw[φ2n c0,c1];rfl
 simp only[e2,bS]
 generalize φ9 (φL n t) (x,c)=r at *
 obtain ⟨x,c⟩:=r
 by_cases c0:c=0
 ·subst c0
  rw[φ2M]
  simp only[show ((0:Int)==0)=true from rfl,cT,φCS x n (φ1a g3 (by omega)),bS];rfl
 ·have c1:(c==0)=false:=by simpa using c0
  rw[φ2n c0]
  simp only[c1,cF]
def sPut (v:φP) (w:φE):φE:=φ9 (φ2T [116,101,109,112] [108,105,118,101]) (φ1P [116,101,109,112] (φn v) w)
def wPut (v:φP) (w:φE):φE:=φ1A (φ2T [116,101,109,112] [108,105,118,101]) (φ6M [116,101,109,112] (φn v) w)
theorem φAW (v:φP) (w:φE):wPut v (φA w)=φA (sPut v w):=by
 unfold wPut sPut
 rw[φE5,φ2o]
theorem φBT (w:φE) (v:φP) {k:Nat} (h:dl k w.1) (hk:k+1000≤1000000000) (hl:v.2.length<2 ^ 62):ψ27.f w v=some (wPut v w):=by
 have h1:=φ5b v
 have g:=φOL h [116,101,109,112] (φn v) (m:=k+1000) (by show k+1+4+_≤_;omega)
 unfold ψ27.f wPut
 simp only[φK5 v hl,bS,φHL w [116,101,109,112] (φn v) h (show k+1+4+(φn v).length≤1000000000 by omega),φKz _ [116,101,109,112] [108,105,118,101] g hk (by show 4<2 ^ 62;decide)]
def φAZ (d:φ1) (v:φP):φ1×Int:=if φ3 d=false∨φl v=false then (d,4) else φA (sPut v (d,0))
theorem φMQ (d:φ1) (v:φP) {k:Nat} (h:dl k d) (hk:k+1000≤1000000000) (hl:v.2.length<2 ^ 62):ψ2c.f d v=some (φAZ d v):=by
 have hd:=φ1a h (by omega)
 have h1:=φ5b v
 unfold ψ2c.f φAZ
 rw[φ8u d hd,bS]
 rcases bE (φ3 d) with k1 | k1
 rotate_left
 ·simp[k1,φ9g d (by have:=hd.1;omega)]
 rcases bE (φl v) with k2 | k2
 rotate_left
 ·simp[k1,k2,φ97 v hl,φ9g d (by have:=hd.1;omega)]
 have g:=φLJ (w:=(d,0)) h [116,101,109,112] (φn v) (m:=k+1000) (by show k+1+4+_≤_;omega)
 simp only[k1,k2,nZ,cF,φ97 v hl,φBq v hl,bS,φHQ d [116,101,109,112] (φn v) h (show k+1+4+(φn v).length≤1000000000 by omega),κ9,or_self,if_false]
 unfold sPut
 generalize φ1P [116,101,109,112] (φn v) (d,0)=r at *
 obtain ⟨x,c⟩:=r
 by_cases c0:c=0
 ·subst c0
  rw[φ2M]
  simp only[show ((0:Int)==0)=true from rfl,cT,φK3 x [116,101,109,112] [108,105,118,101] (φ1a g hk) (show 4<2 ^ 62 by decide),bS,φ4l];rfl
 ·have c1:(c==0)=false:=by simpa using c0
  rw[φ2n c0]
  simp only[c1,cF,bS,φ4l];rfl
abbrev φ8:=φP×List φC×Int×Int×Int
theorem φBK (n:Nat):Lib.itoa (n:Int)=Lib.decDigits n:=by
 unfold Lib.itoa
 rw[if_neg (by omega),tN]
theorem φ6Z:∀(k n:Nat),n<10 ^ (k+1)→(Lib.decDigits n).length≤k+1
 | 0,n,h=>by rw[Lib.decDigits,dif_pos (by simpa using h)];simp
 | k+1,n,h=>by
  rw[Lib.decDigits]
  split
  ·simp
  ·have:=φ6Z k (n / 10) (by rw[Nat.div_lt_iff_lt_mul (by omega)];rw[κa] at h;exact h)
   simp only[lA,κA];omega
def digs (n:Nat):List UInt8:=if n=0 then [] else Lib.decDigits n
theorem φ4K {n:Nat} (h:n≠0):digs n=digs (n / 10)++[UInt8.ofNat (48+n % 10)]:=by
 unfold digs
 rw[if_neg h,Lib.decDigits]
 split
 ·rename_i h2
  rw[if_pos (by omega),κc h2];rfl
 ·rename_i h2
  rw[if_neg (by omega)]
theorem φCQ (n:Nat) (hn:n<1000000000000000000):ψ2M.f (n:Int)=some (Lib.decDigits n):=by
 unfold ψ2M.f
 by_cases c:n=0
 ·subst c
  rw[Lib.decDigits];rfl
 have c1:((n:Int)==0)=false:=by simpa using c
 have c2:decide ((n:Int)<0)=false:=dnn (by omega)
 have key:=φ7Q (step:=ψ2M.l0) (a:=((n:Int),([]:List UInt8),false)) (fun a=>(digs a.1.toNat++a.2.1,false)) (fun a=>0≤a.1∧a.2.2=false∧a.2.1.length+a.1.toNat≤n) (fun a=>a.1.toNat)
  (fun rec a ha ih=>by
   obtain ⟨x,s,f⟩:=a
   obtain ⟨h0,hf,hl⟩:=ha
   simp only at hf hl h0 ih ⊢
   subst hf
   obtain ⟨m,rfl⟩:∃m:Nat,x=(m:Int):=⟨x.toNat,by omega⟩
   simp only[tN] at hl ih ⊢
   by_cases d:m=0
   ·subst d
    simp[ψ2M.l0,digs]
   ·have d1:((m:Int) != 0)=true:=by simpa using d
    have e1:Int.tmod (m:Int) 10=((m % 10:Nat):Int):=rfl
    have e2:w64 (Int.tdiv (m:Int) 10)=((m / 10:Nat):Int):=by
     rw[show Int.tdiv (m:Int) 10=((m / 10:Nat):Int) from rfl];exact φ3l (by omega)
    have e3:decide (((m % 10:Nat):Int)<0)=false:=dnn (by omega)
    have e4:φ1S [IntKind.wrap .u8 (w64 (48+((m % 10:Nat):Int)))]=[UInt8.ofNat (48+m % 10)]:=by
     have e:w64 (48+((m % 10:Nat):Int))=((48+m % 10:Nat):Int):=by rw[φH (by omega) (by omega)];omega
     rw[e]
     unfold φ1S
     simp only[κ5,List.map_nil,φ7k]
    have hb:([UInt8.ofNat (48+m % 10)]:List UInt8).length+s.length≤9223372036854775807:=by show 1+_≤_;omega
    have ih:=ih (((m / 10:Nat):Int),[UInt8.ofNat (48+m % 10)]++s,false) ⟨by simp only;omega,rfl,by simp only[lA,κA,tN];omega⟩ (by simp only[tN];omega)
    simp only[tN] at ih
    simp only[ψ2M.l0,d1,cT,e1,e2,e3,cF,bS,e4,hb,dT,ih]
    rw[φ4K d,aA])
  ⟨by simp only;omega,rfl,by simp⟩ (by simp only[tN];omega)
 simp only[c1,c2,cF,key,bS,tN]
 unfold digs
 simp[c]
theorem φKs (n:Nat) (hn:n<1000000000000000000):strconv_Itoa.f (n:Int)=some (Lib.decDigits n):=by
 unfold strconv_Itoa.f
 have c:(decide (-9223372036854775808≤(n:Int)) && decide ((n:Int)≤9223372036854775807))=true:=by simp;omega
 rw[c,φBK];rfl
def φ2C (word:List UInt8) (id:Int):List UInt8:=if 1≤id∧id≤100000 then word++Lib.decDigits id.toNat else []
def φ0 (id:Int):List UInt8:=φ2C [115,101,103] id
def φK (id:Int):List UInt8:=φ2C [104,105,110,116] id
theorem φEA (word:List UInt8) (id:Int) (hw:word.length≤100):ψ1a.f word id=some (φ2C word id):=by
 unfold ψ1a.f φ2C ψ6.f
 rw[φ1V,bS]
 by_cases h:1≤id∧id≤100000
 ·obtain ⟨n,rfl⟩:∃n:Nat,id=(n:Int):=⟨id.toNat,by omega⟩
  have hl:=φ6Z 5 n (by show n<1000000;omega)
  have hb:word.length+(Lib.decDigits n).length≤9223372036854775807:=by omega
  simp only[h,and_self,dT,nZ,cF,φKs n (by omega),bS,hb,cT,if_true,tN]
 ·simp[h]
theorem φ3C (id:Int):ψy.f id=some (φ0 id):=by
 unfold ψy.f φ0
 rw[φEA [115,101,103] id (by show 3≤100;decide),bS]
theorem φ4Y (id:Int):ψ2o.f id=some (φ0 id):=by
 unfold ψ2o.f φ0 φ2C
 rw[φ2N,bS]
 by_cases h:1≤id∧id≤100000
 ·obtain ⟨n,rfl⟩:∃n:Nat,id=(n:Int):=⟨id.toNat,by omega⟩
  have hl:=φ6Z 5 n (by show n<1000000;omega)
  have hb:([115,101,103]:List UInt8).length+(Lib.decDigits n).length≤9223372036854775807:=by show 3+_≤_;omega
  simp only[h,and_self,dT,nZ,cF,φCQ n (by omega),bS,hb,cT,if_true,tN]
 ·simp[h]
theorem φ4E (id:Int):(φ0 id).length≤9:=by
 unfold φ0 φ2C
 split
 ·have hl:=φ6Z 5 id.toNat (by show _<1000000;omega)
  rw[lA];show 3+_≤9;omega
 ·simp
def φ2 (d:φ1) (n:List UInt8):List UInt8×Bool:=
 if φ3 d=false then ([],false) else
 match d.1.findIdx? (fun f=>f.1==n) with
 | some i=>((d.1.getD i ([],[],0)).2.1,true)
 | none=>([],false)
theorem φ4b (d:φ1) (n:List UInt8) (h:dlim d):ψP.f d n=some (φ2 d n):=by
 have hl:=h.1
 unfold ψP.f φ2
 rw[φ4M d n (by omega),bS,φ5j d h]
 rcases φu d.1 n with ⟨e,_⟩ | ⟨i,hi,e,_⟩
 ·rw[e,φ1B e];simp
 ·rw[e,φ16 e]
  rcases bE (φ3 d) with k | k
  ·simp only[dnn (show (0:Int)≤(i:Int) by omega),cF,bS,k,nZ,φ42 hi,cT,φ3z hi,φD hi,κ9,if_false]
  ·simp only[dnn (show (0:Int)≤(i:Int) by omega),cF,bS,k,nF,cT,if_true]
theorem φ8c (d:φ1) (n:List UInt8) (h:dlim d):ψ2S.f d n=some (φ2 d n):=by
 have hl:=h.1
 unfold ψ2S.f φ2
 rw[φ8u d h,bS,φ4X d n (by omega)]
 rcases bE (φ3 d) with k | k
 rotate_left
 ·simp[k]
 rcases φu d.1 n with ⟨e,_⟩ | ⟨i,hi,e,_⟩
 ·rw[e,φ1B e];simp[k]
 ·rw[e,φ16 e]
  simp only[dnn (show (0:Int)≤(i:Int) by omega),cF,bS,k,nZ,φ42 hi,cT,φ3z hi,φD hi,κ9,if_false]
theorem φ4Q (d:φ1) (n:List UInt8) (h:dlim d):(φ2 d n).1.length≤φI d.1:=by
 unfold φ2
 split
 ·simp
 ·rcases φu d.1 n with ⟨e,_⟩ | ⟨i,hi,e,_⟩
  ·rw[φ1B e];simp
  ·rw[φ16 e]
   simp only[φD hi]
   exact φ9y (gM hi)
def segN (d:φ1) (l:List Int):Nat:=sumN (fun id=>(φ2 d (φ0 id)).1.length) l
def varN (n:Nat):List UInt8:=vLow n++[UInt8.ofNat (vTop n)]
theorem φ4w (n:Nat) (h:n≤562949953421311):varT (n:Int)=varN n:=by
 unfold varT varN
 rw[if_pos (by omega),tN]
end Go.Rf.G
