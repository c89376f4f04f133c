import Derived.Test.YtakpldeobnelfabGreatDoorRf5
import Derived.Test.YtakpldeobnelfabGreatDoorLConflictsFns
open Option renaming bind_some→bS
open List renaming length_append→lA,append_assoc→aA,mem_cons_of_mem→mC,mem_append→mA,mem_append_right→mR,mem_append_left→mL,mem_cons→mc,drop_eq_getElem_cons→dG,length_take→lT,length_drop→lD,mem_map→mM,length_map→lM,length_cons→lC,length_nil→lN,getElem_mem→gM,map_append→mp,mem_singleton→mZ
open Bool renaming and_eq_true→bA,eq_false_or_eq_true→bE,not_true→nZ,not_false→nF,true_and→tA,not_not→nn
open Int renaming toNat_natCast→tN,ofNat_lt→oL
namespace Go.Rf.G
open Go Go.Rf
set_option linter.unusedVariables false
set_option linter.unusedSimpArgs false
set_option synthInstance.maxSize 4000
theorem φBu {A B:Type} {step:(A→Option B)→A→Option B} {F:A→B} {P:A→Prop} {m:A→Nat}
  (h:∀rec a,P a→(∀a',P a'→m a'<m a→rec a'=some (F a'))→step rec a=some (F a)):∀n a,P a→m a<n→φ2h step n a=some (F a)
 | 0,_,_,hn=>by omega
 | n+1,a,hp,hn=>h (φ2h step n) a hp fun a' hp' hlt=>φBu h n a' hp' (by omega)
theorem φ5g {A B:Type} {step:(A→Option B)→A→Option B} (F:A→B) (P:A→Prop) (m:A→Nat)
  (h:∀rec a,P a→(∀a',P a'→m a'<m a→rec a'=some (F a'))→step rec a=some (F a)) {a:A} (hp:P a) (hm:m a<2 ^ 62):lp step a=some (F a):=
 φBu h FUEL a hp (Nat.lt_of_lt_of_le hm φ75)
theorem φe {A B σ:Type} {step:(A→Option B)→A→Option B} (st:Nat→σ→A) (N:Nat) (F:Nat→σ→B) (Inv:Nat→σ→Prop)
  (h:∀rec n s,n≤N→Inv n s→(∀s',n<N→Inv (n+1) s'→rec (st (n+1) s')=some (F (n+1) s'))→step rec (st n s)=some (F n s))
  (hN:N<2 ^ 62):∀n s,n≤N→Inv n s→lp step (st n s)=some (F n s):=by
 have key:∀k f n s,n≤N→Inv n s→N - n=k→k<f→φ2h step f (st n s)=some (F n s):=by
  intro k
  induction k with
  | zero=>
   intro f n s hn hi hk hf
   obtain ⟨f,rfl⟩:∃g,f=g+1:=⟨f - 1,by omega⟩
   exact h _ n s hn hi fun s' hlt=>by omega
  | succ k ih=>
   intro f n s hn hi hk hf
   obtain ⟨f,rfl⟩:∃g,f=g+1:=⟨f - 1,by omega⟩
   exact h _ n s hn hi fun s' hlt hi'=>ih f (n+1) s' hlt hi' (by omega) (by omega)
 intro n s hn hi
 exact key (N - n) FUEL n s hn hi rfl (Nat.lt_of_lt_of_le (by omega) φ75)
@[simp] theorem φD (n m:Nat):inB (n:Int) m=decide (n<m):=by
 unfold inB
 by_cases h:n<m<;>simp[h,Int.natCast_nonneg]
@[simp] theorem φG {α:Type} (z:α) (xs:List α) (n:Nat):rdA z xs (n:Int)=xs.getD n z:=rfl
theorem φE {n:Int} (h1:-9223372036854775808≤n) (h2:n<9223372036854775808):w64 n=n:=by
 unfold w64 IntKind.wrap
 simp only[IntKind.bits,IntKind.signed]
 by_cases h:n % 2 ^ 64≥2 ^ 63<;>simp[h]<;>omega
theorem φ3M {n:Nat} (h:n<9223372036854775808):w64 (n:Int)=n:=φE (by omega) (by omega)
theorem φJ {n:Nat} (h:n+1<9223372036854775808):w64 ((n:Int)+1)=((n+1:Nat):Int):=by
 rw[φE (by omega) (by omega)];omega
theorem φ8 {α:Type} {xs:List α} {z:α} {n:Nat} (h:n<xs.length):xs.getD n z=xs[n]:=by simp[List.getD,h]
theorem φDZ {α:Type} {a b:List α} {n:Nat} (h1:n<a.length) (h2:n<b.length):a.drop n=b.drop n↔a[n]=b[n]∧a.drop (n+1)=b.drop (n+1):=by
 rw[dG h1,dG h2,List.cons.injEq]
def sumN {α:Type} (f:α→Nat):List α→Nat
 | []=>0
 | x::r=>f x+sumN f r
theorem φ9v {α:Type} (f:α→Nat) {l:List α} {n:Nat} (h:n<l.length):sumN f (l.drop n)=f l[n]+sumN f (l.drop (n+1)):=by
 rw[dG h];rfl
theorem φE2 {α:Type} (f:α→Nat):∀{l:List α} {x:α},x∈l→f x≤sumN f l
 | y::l,x,h=>by
  rcases mc.1 h with k | k
  ·subst k;exact Nat.le_add_right _ _
  ·exact Nat.le_trans (φE2 f k) (Nat.le_add_left _ _)
theorem φHc {X:Type} [DecidableEq X] {step:(List X×List X×Int→Option (Unit ⊕ Bool))→List X×List X×Int→Option (Unit ⊕ Bool)} (a b:List X) (hl:a.length=b.length) (ha:a.length<2 ^ 62)
  (hs:∀rec (n:Nat),(h1:n<a.length)→(h2:n<b.length)→step rec (a,b,(n:Int))=if a[n]=b[n] then rec (a,b,((n+1:Nat):Int)) else some (.inr false))
  (he:∀rec,step rec (a,b,(a.length:Int))=some (.inl ())):lp step (a,b,0)=some (if a=b then .inl () else .inr false):=by
 have:=φe (step:=step) (fun n (_:Unit)=>(a,b,(n:Int))) a.length (fun n _=>if a.drop n=b.drop n then .inl () else .inr false) (fun _ _=>True)
  (fun rec n s hn _ ih=>by
   rcases Nat.lt_or_ge n a.length with h | h
   ·rw[hs rec n h (by omega),ih () h trivial]
    by_cases hc:a[n]=b[n]
    ·rw[if_pos hc];simp only[φDZ h (by omega:n<b.length),hc,true_and]
    ·rw[if_neg hc,if_neg fun k=>hc ((φDZ h (by omega)).1 k).1]
   ·have:n=a.length:=by omega
    subst this
    rw[he]
    simp[hl])
  ha 0 () (Nat.zero_le _) trivial
 simpa using this
def φA2 {X:Type} (mk:Int→X→X) (c:Nat):List X→Int→List X
 | [],_=>[]
 | x::r,k=>mk k x::φA2 mk c r (k+c)
@[simp] theorem φI5 {X:Type} (mk:Int→X→X) (c:Nat):∀(l:List X) (k:Int),(φA2 mk c l k).length=l.length
 | [],_=>rfl
 | x::r,k=>by simp[φA2,φI5 mk c r]
theorem φ3u {X A B:Type} {step:(A→Option (B ⊕ Bool))→A→Option (B ⊕ Bool)} (l:List X) (f:X→Bool) (st:Nat→A) (b:B) (hl:l.length<2 ^ 62)
  (hs:∀rec n,(h:n<l.length)→step rec (st n)=if f l[n]=true then rec (st (n+1)) else some (.inr false))
  (he:∀rec,step rec (st l.length)=some (.inl b)):lp step (st 0)=some (if l.all f=true then .inl b else .inr false):=by
 have:=φe (step:=step) (fun n (_:Unit)=>st n) l.length (fun n _=>if (l.drop n).all f=true then .inl b else .inr false) (fun _ _=>True)
  (fun rec n s hn _ ih=>by
   rcases Nat.lt_or_ge n l.length with h | h
   ·rw[hs rec n h,ih () h trivial,dG h,List.all_cons]
    cases f l[n]<;>simp
   ·have:n=l.length:=by omega
    subst this
    rw[he];simp) hl 0 () (Nat.zero_le _) trivial
 simpa using this
theorem φAE {X A B C:Type} {step:(A→Option (B ⊕ C))→A→Option (B ⊕ C)} (l:List X) (f:X→Bool) (r:X→C) (st:Nat→A) (b:B) (hl:l.length<2 ^ 62)
  (hs:∀rec n,(h:n<l.length)→step rec (st n)=if f l[n]=true then some (.inr (r l[n])) else rec (st (n+1)))
  (he:∀rec,step rec (st l.length)=some (.inl b)):lp step (st 0)=some (match l.find? f with | some x=>.inr (r x) | none=>.inl b):=by
 have:=φe (step:=step) (fun n (_:Unit)=>st n) l.length (fun n _=>match (l.drop n).find? f with | some x=>.inr (r x) | none=>.inl b) (fun _ _=>True)
  (fun rec n s hn _ ih=>by
   rcases Nat.lt_or_ge n l.length with h | h
   ·rw[hs rec n h,ih () h trivial,dG h,List.find?_cons]
    cases hf:f l[n]<;>simp
   ·have:n=l.length:=by omega
    subst this
    rw[he];simp) hl 0 () (Nat.zero_le _) trivial
 simpa using this
theorem φ2I {X A B S:Type} {step:(A→Option B)→A→Option B} (l:List X) (g:S→X→S) (st:Nat→S→A) (out:S→B) (Inv:Nat→S→Prop) (hl:l.length<2 ^ 62)
  (hs:∀rec n s,(h:n<l.length)→Inv n s→step rec (st n s)=rec (st (n+1) (g s l[n])))
  (hi:∀n s,(h:n<l.length)→Inv n s→Inv (n+1) (g s l[n]))
  (he:∀rec s,Inv l.length s→step rec (st l.length s)=some (out s)) (s:S) (h0:Inv 0 s):lp step (st 0 s)=some (out (l.foldl g s)):=by
 have:=φe (step:=step) st l.length (fun n s=>out ((l.drop n).foldl g s)) Inv
  (fun rec n s hn hv ih=>by
   rcases Nat.lt_or_ge n l.length with h | h
   ·rw[hs rec n s h hv,ih _ h (hi n s h hv),dG h];rfl
   ·have:n=l.length:=by omega
    subst this
    rw[he rec s hv];simp) hl 0 s (Nat.zero_le _) h0
 simpa using this
theorem φEt {A B σ:Type} {step:(A→Option B)→A→Option B} (st:Nat→σ→A) (F:Nat→σ→B) (Inv:Nat→σ→Prop)
  (h:∀rec n s,Inv n s→(∀m s',n=m+1→Inv m s'→rec (st m s')=some (F m s'))→step rec (st n s)=some (F n s)):∀n s,n<2 ^ 62→Inv n s→lp step (st n s)=some (F n s):=by
 have key:∀n f s,n<f→Inv n s→φ2h step f (st n s)=some (F n s):=by
  intro n
  induction n with
  | zero=>
   intro f s hf hi
   obtain ⟨f,rfl⟩:∃g,f=g+1:=⟨f - 1,by omega⟩
   exact h _ 0 s hi fun m s' he=>by omega
  | succ n ih=>
   intro f s hf hi
   obtain ⟨f,rfl⟩:∃g,f=g+1:=⟨f - 1,by omega⟩
   exact h _ (n+1) s hi fun m s' he hi'=>by
    have:m=n:=by omega
    subst this
    exact ih f s' (by omega) hi'
 intro n s hn hi
 exact key n FUEL s (Nat.lt_of_lt_of_le hn φ75) hi
theorem φM6 {X A B C:Type} {step:(A→Option (B ⊕ C))→A→Option (B ⊕ C)} (l:List X) (f:X→Bool) (r:X→C) (st:Nat→A) (b:B) (hl:l.length<2 ^ 62)
  (hs:∀rec n,(h:n<l.length)→step rec (st (n+1))=if f l[n]=true then some (.inr (r l[n])) else rec (st n))
  (he:∀rec,step rec (st 0)=some (.inl b)):lp step (st l.length)=some (match l.reverse.find? f with | some x=>.inr (r x) | none=>.inl b):=by
 have:=φEt (step:=step) (fun n (_:Unit)=>st n) (fun n _=>match (l.take n).reverse.find? f with | some x=>.inr (r x) | none=>.inl b) (fun n _=>n≤l.length)
  (fun rec n s hn ih=>by
   cases n with
   | zero=>rw[he];simp
   | succ n=>
    have h:n<l.length:=hn
    rw[hs rec n h,ih n () rfl (by omega),List.take_succ_eq_append_getElem h,List.reverse_append]
    simp only[List.reverse_cons,List.reverse_nil,List.nil_append,List.cons_append,List.find?_cons]
    cases hf:f l[n]<;>simp) l.length () hl (Nat.le_refl _)
 simpa using this
@[simp] theorem φX {A B C:Type} (a:A) (f:A→C) (g:B→C):φK (.inl a) f g=f a:=rfl
@[simp] theorem φd {A B C:Type} (b:B) (f:A→C) (g:B→C):φK (.inr b) f g=g b:=rfl
theorem φ1g {A B:Type} (p:A×B):(p.1,p.2)=p:=rfl
theorem φIq {α:Type} {z:α} {r:List α} {n:Nat} {v:α} (h:n<r.length):rdA z (r.set n v) (n:Int)=v:=by simp[List.getD,h]
theorem φIR {A B C:Type} [BEq A] [BEq B] [BEq C] [LawfulBEq A] [LawfulBEq B] [LawfulBEq C] [DecidableEq (A×B×C)] (x y:A×B×C):(x.1==y.1 && (x.2.1==y.2.1 && x.2.2==y.2.2))=decide (x=y):=by
 obtain ⟨a,b,c⟩:=x
 obtain ⟨d,e,f⟩:=y
 by_cases h1:a=d
 ·by_cases h2:b=e
  ·by_cases h3:c=f
   ·simp[h1,h2,h3]
   ·have:(c==f)=false:=by simpa using h3
    simp[h1,h2,h3,this]
  ·have:(b==e)=false:=by simpa using h2
   simp[h1,h2,this]
 ·have:(a==d)=false:=by simpa using h1
  simp[h1,this]
theorem φEq {a b:Nat} (h:a≠b):((a:Int) != (b:Int))=true:=by
 have:(a:Int)≠(b:Int):=by omega
 simpa using this
theorem φFs {a b:Nat} (h:a=b):((a:Int) != (b:Int))=false:=by simp[h]
theorem φMi {β:Type} {P:Prop} [Decidable P] (a b:β):(bif !decide P then a else b)=if P then b else a:=by
 by_cases h:P<;>simp[h]
theorem φ9q (a b:List (List UInt8×List UInt8×Int)) (ha:a.length<2 ^ 62):ψ2w.f a b=some (decide (a=b)):=by
 unfold ψ2w.f
 by_cases hl:a.length=b.length
 rotate_left
 ·have:a≠b:=fun h=>hl (by rw[h])
  rw[φEq hl];simp[this]
 rw[φFs hl,cF,φHc a b hl ha (fun rec n h1 h2=>?_) (fun rec=>?_)]
 ·by_cases e:a=b<;>simp[e]
 ·simp only[ψ2w.l0,oL,h1,h2,dT,cT,φD,φG,φ8 h1,φ8 h2,φJ (show n+1<9223372036854775808 by omega),φIR,φMi]
 ·simp[ψ2w.l0]
theorem φ25 (n a b:Int):ψ1R.f n a b=some (decide (a≤n∧n≤b)):=by
 unfold ψ1R.f
 by_cases h:a≤n
 ·have h2:n≥a:=h
  simp[h,h2]
 ·have h2:¬n≥a:=h
  simp[h,h2]
theorem φ1r (n a b:Int):ψ3f.f n a b=some (decide (a≤n∧n≤b)):=φ25 n a b
def φ1T (s:List UInt8):Bool:=decide (1≤s.length∧s.length≤8)
theorem φ8U (s:List UInt8):ψV.f s=some (φ1T s):=by
 unfold ψV.f φ1T
 rw[φ25,bS]
 congr 1
 apply decide_eq_decide.2
 omega
theorem φ71 (s:List UInt8):ψ2a.f s=some (φ1T s):=φ8U s
def φ2W (p:List UInt8×Bool×List UInt8):Bool:=φ1T p.1 && (decide (p.2.2.length≤24) && (!p.2.1 || p.2.2==[]))
theorem φKM (p:List UInt8×Bool×List UInt8):ψ1Z.f p=some (φ2W p):=by
 unfold ψ1Z.f φ2W
 rw[φ8U,bS]
 cases φ1T p.1
 ·rfl
 ·have:decide ((p.2.2.length:Int)≤24)=decide (p.2.2.length≤24):=decide_eq_decide.2 (by omega)
  rw[this]
  cases decide (p.2.2.length≤24)
  ·rfl
  ·cases p.2.1<;>rfl
def φ1m (l:List (List UInt8×Bool×List UInt8)):Bool:=decide (l.length≤8) && l.all φ2W
theorem φHy (l:List (List UInt8×Bool×List UInt8)) (hl:l.length<2 ^ 62):ψd.f l=some (φ1m l):=by
 have key:=φ3u (step:=ψd.l0) l φ2W (fun n=>(l,l,(l.length:Int),(n:Int))) l hl
  (fun rec n h=>by
   simp only[ψd.l0,oL,h,dT,cT,φD,φG,φ8 h,φ1g,φKM,bS,φJ (show n+1<9223372036854775808 by omega)]
   cases φ2W l[n]<;>simp)
  (fun rec=>by simp[ψd.l0])
 have key:lp ψd.l0 (l,l,(l.length:Int),0)=_:=key
 unfold ψd.f φ1m
 rw[key,bS]
 have:decide ((l.length:Int)≤8)=decide (l.length≤8):=decide_eq_decide.2 (by omega)
 cases h:l.all φ2W<;>simp[this]
theorem φ9B (l:List (List UInt8×Bool×List UInt8)) (hl:l.length<2 ^ 62):ψ2j.f l=some (φ1m l):=by
 unfold ψ2j.f φ1m
 by_cases h8:l.length≤8
 rotate_left
 ·have:(l.length:Int) > 8:=by omega
  simp[this,h8]
 have h9:¬(l.length:Int) > 8:=by omega
 have key:=φ3u (step:=ψ2j.l0) l φ2W (fun n=>(l,(n:Int))) () hl
  (fun rec n h=>by
   simp only[ψ2j.l0,oL,h,dT,cT,φD,φG,φ8 h,φ1g,φ71,bS,φJ (show n+1<9223372036854775808 by omega),φ2W]
   have hw:w64 ((n:Int)+1)=(n:Int)+1:=φE (by omega) (by omega)
   rcases bE (φ1T l[n].1) with hko | hko
   rotate_left
   ·simp[hko]
   ·by_cases h24:l[n].2.2.length≤24
    ·have:¬(l[n].2.2.length:Int) > 24:=by omega
     rcases bE l[n].2.1 with hd | hd
     ·rcases bE (l[n].2.2==[]) with he | he<;>simp[this,h24,hd,he,hko,hw]
     ·simp[this,h24,hd,hko,hw]
    ·have:(l[n].2.2.length:Int) > 24:=by omega
     simp[this,h24,hko])
  (fun rec=>by simp[ψ2j.l0])
 have key:lp ψ2j.l0 (l,0)=_:=key
 rw[key]
 cases h:l.all φ2W<;>simp[h8,h9]
def φB2 (l:List (List UInt8×Bool×List UInt8)) (key:List UInt8):Option (List UInt8×Bool×List UInt8):=l.reverse.find? fun p=>p.1==key
def ownW (l:List (List UInt8×Bool×List UInt8)) (key:List UInt8):(List UInt8×Bool×List UInt8)×Bool:=
 match φB2 l key with
 | some p=>(p,true)
 | none=>(([],false,[]),false)
theorem φJB (t:Bool×List (List UInt8×Int)×List (List UInt8×Bool×List UInt8)) (key:List UInt8) (hl:t.2.2.length<2 ^ 62):ψc.f t key=some (ownW t.2.2 key):=by
 have hk:=φM6 (step:=ψc.l0) t.2.2 (fun p=>p.1==key) (fun p=>(p,true)) (fun n=>(key,t,([],false,[]),(n:Int) - 1)) ([],false,[]) hl
  (fun rec n h=>by
   have e:((n+1:Nat):Int) - 1=(n:Int):=by omega
   have e2:w64 ((n:Int) - 1)=(n:Int) - 1:=φE (by omega) (by omega)
   have e3:(n:Int)≥0:=by omega
   simp only[e,ψc.l0,e3,dT,cT,φD,φG,h,φ8 h,e2,φ1g]
   cases h2:(t.2.2[n].1==key)<;>simp)
  (fun rec=>by simp[ψc.l0])
 unfold ψc.f ownW φB2
 rw[φE (by omega) (by omega)]
 simp only[]
 rw[hk,bS]
 cases List.find? (fun p=>p.1==key) t.2.2.reverse<;>rfl
theorem φED (t:Bool×List (List UInt8×Int)×List (List UInt8×Bool×List UInt8)) (key:List UInt8) (hl:t.2.2.length<2 ^ 62):ψ2h.f t key=some (ownW t.2.2 key):=φJB t key hl
abbrev PutT:=List UInt8×Bool×List UInt8
abbrev φg:=List UInt8×List UInt8×Int
abbrev φ9:=List UInt8×Int×Int×Int×Int
abbrev TxnT:=Bool×List (List UInt8×Int)×List (List UInt8×Bool×List UInt8)
def φ2m (l:List φ9) (key:List UInt8):φ9×Bool:=
 match l.find? (fun e=>e.1==key) with
 | some e=>(e,true)
 | none=>(([],0,0,0,0),false)
theorem φEM (l:List φ9) (key:List UInt8) (hl:l.length<2 ^ 62):ψ8.f l key=some (φ2m l key):=by
 have hk:=φAE (step:=ψ8.l0) l (fun e=>e.1==key) (fun e=>(e,true)) (fun n=>(key,([],0,0,0,0),l,(l.length:Int),(n:Int))) ([],0,0,0,0) hl
  (fun rec n h=>by
   simp only[ψ8.l0,oL,h,dT,cT,φD,φG,φ8 h,φ1g,φJ (show n+1<9223372036854775808 by omega)]
   cases l[n].1==key<;>simp)
  (fun rec=>by simp[ψ8.l0])
 have hk:lp ψ8.l0 (key,([],0,0,0,0),l,(l.length:Int),0)=_:=hk
 unfold ψ8.f φ2m
 rw[hk,bS]
 cases List.find? (fun e=>e.1==key) l<;>rfl
theorem φGV (l:List φ9) (key:List UInt8) (hl:l.length<2 ^ 62):ψ2G.f l key=some (φ2m l key):=by
 have hk:=φAE (step:=ψ2G.l0) l (fun e=>e.1==key) (fun e=>(e,true)) (fun n=>(l,key,([],0,0,0,0),(n:Int))) ([],0,0,0,0) hl
  (fun rec n h=>by
   simp only[ψ2G.l0,oL,h,dT,cT,φD,φG,φ8 h,φ1g,φJ (show n+1<9223372036854775808 by omega)]
   cases l[n].1==key<;>simp)
  (fun rec=>by simp[ψ2G.l0])
 have hk:lp ψ2G.l0 (l,key,([],0,0,0,0),0)=_:=hk
 unfold ψ2G.f φ2m
 rw[hk,bS]
 cases List.find? (fun e=>e.1==key) l<;>rfl
def φ4U (t:TxnT) (dir:List φ9):Bool:=t.2.1.all fun r=>(φ2m dir r.1).1.2.2.2.2==r.2
theorem φLP (t:TxnT) (dir:List φ9) (h1:t.2.1.length<2 ^ 62) (h2:dir.length<2 ^ 62):ψ1B.f t dir=some (φ4U t dir):=by
 have hk:=φ3u (step:=ψ1B.l0) t.2.1 (fun r=>(φ2m dir r.1).1.2.2.2.2==r.2) (fun n=>(dir,t.2.1,(t.2.1.length:Int),(n:Int))) () h1
  (fun rec n h=>by
   simp only[ψ1B.l0,oL,h,dT,cT,φD,φG,φ8 h,φEM dir _ h2,bS,φJ (show n+1<9223372036854775808 by omega),bne]
   cases (φ2m dir t.2.1[n].1).1.2.2.2.2==t.2.1[n].2<;>simp)
  (fun rec=>by simp[ψ1B.l0])
 have hk:lp ψ1B.l0 (dir,t.2.1,(t.2.1.length:Int),0)=_:=hk
 unfold ψ1B.f φ4U
 rw[hk,bS]
 cases List.all t.2.1 _<;>rfl
theorem φFc (t:TxnT) (dir:List φ9) (h1:t.2.1.length<2 ^ 62) (h2:dir.length<2 ^ 62):ψ3A.f t dir=some (φ4U t dir):=by
 have hk:=φ3u (step:=ψ3A.l0) t.2.1 (fun r=>(φ2m dir r.1).1.2.2.2.2==r.2) (fun n=>(dir,t,(n:Int))) () h1
  (fun rec n h=>by
   simp only[ψ3A.l0,oL,h,dT,cT,φD,φG,φ8 h,φGV dir _ h2,bS,φJ (show n+1<9223372036854775808 by omega),bne]
   cases (φ2m dir t.2.1[n].1).1.2.2.2.2==t.2.1[n].2<;>simp)
  (fun rec=>by simp[ψ3A.l0])
 have hk:lp ψ3A.l0 (dir,t,0)=_:=hk
 unfold ψ3A.f φ4U
 rw[hk,bS]
 cases List.all t.2.1 _<;>rfl
def φ1p (l:List PutT):List (List UInt8):=l.foldl (fun ks p=>if p.1∈ks then ks else ks++[p.1]) []
def netW (l:List PutT):List PutT:=(φ1p l).map fun k=>(ownW l k).1
theorem φ57 (l:List PutT) (p:PutT):φ1p (l++[p])=if p.1∈φ1p l then φ1p l else φ1p l++[p.1]:=by
 unfold φ1p;rw[List.foldl_append];rfl
theorem φ7N (l:List PutT) (p:PutT) (k:List UInt8):ownW (l++[p]) k=if p.1=k then (p,true) else ownW l k:=by
 unfold ownW φB2
 rw[List.reverse_append,List.reverse_cons,List.reverse_nil,List.nil_append,List.cons_append,List.nil_append,List.find?_cons]
 by_cases h:p.1=k
 ·simp[h]
 ·have:(p.1==k)=false:=by simpa using h
  simp[h,this]
theorem φ5W {α:Type} {P:List α→Prop} (h0:P []) (hs:∀l x,P l→P (l++[x])):∀l,P l:=by
 have key:∀n (l:List α),l.length=n→P l:=by
  intro n
  induction n with
  | zero=>intro l h;rw[List.eq_nil_of_length_eq_zero h];exact h0
  | succ n ih=>
   intro l h
   have hlt:n<l.length:=by omega
   have e:l.take n++[l[n]]=l:=by
    rw[←List.take_succ_eq_append_getElem hlt,List.take_of_length_le (by omega)]
   rw[←e]
   exact hs _ _ (ih _ (by simp;omega))
 exact fun l=>key l.length l rfl
theorem φK5 (l:List PutT) (k:List UInt8):k∈φ1p l↔∃p∈l,p.1=k:=by
 induction l using φ5W with
 | h0=>simp[φ1p]
 | hs l p ih=>
  rw[φ57]
  by_cases h:p.1∈φ1p l
  ·rw[if_pos h,ih]
   constructor
   ·rintro ⟨q,h1,h2⟩;exact ⟨q,mL _ h1,h2⟩
   ·rintro ⟨q,h1,h2⟩
    rcases mA.1 h1 with k1 | k1
    ·exact ⟨q,k1,h2⟩
    ·simp only[mZ] at k1
     subst k1;subst h2
     exact ih.1 h
  ·rw[if_neg h,mA,ih]
   constructor
   ·rintro (⟨q,h1,h2⟩ | h1)
    ·exact ⟨q,mL _ h1,h2⟩
    ·simp only[mZ] at h1
     exact ⟨p,by simp,h1.symm⟩
   ·rintro ⟨q,h1,h2⟩
    rcases mA.1 h1 with k1 | k1
    ·exact .inl ⟨q,k1,h2⟩
    ·simp only[mZ] at k1
     subst k1;right;simp[h2]
theorem φFd (l:List PutT):(φ1p l).Nodup:=by
 induction l using φ5W with
 | h0=>simp[φ1p]
 | hs l p ih=>
  rw[φ57]
  by_cases h:p.1∈φ1p l
  ·rw[if_pos h];exact ih
  ·rw[if_neg h,List.nodup_append]
   refine ⟨ih,by simp,fun a ha b hb=>?_⟩
   simp only[mZ] at hb
   subst hb
   intro e;subst e;exact h ha
theorem φFo (l:List PutT):(φ1p l).length≤l.length:=by
 induction l using φ5W with
 | h0=>simp[φ1p]
 | hs l p ih=>
  rw[φ57]
  split<;>simp<;>omega
theorem φMb (l:List PutT) (k:List UInt8) (h:k∈φ1p l):(ownW l k).1.1=k∧(ownW l k).2=true:=by
 induction l using φ5W with
 | h0=>simp[φ1p] at h
 | hs l p ih=>
  rw[φ7N]
  by_cases e:p.1=k
  ·rw[if_pos e];exact ⟨e,rfl⟩
  ·rw[if_neg e]
   rw[φ57] at h
   apply ih
   split at h
   ·exact h
   ·rcases mA.1 h with h | h
    ·exact h
    ·simp only[mZ] at h;exact absurd h.symm e
def φ2T (key:List UInt8):List PutT→Nat→Int→Int
 | [],_,s=>s
 | x::r,i,s=>φ2T key r (i+1) (if x.1==key then i else s)
theorem φAp (key:List UInt8):∀(l:List PutT) (i:Nat) (s:Int),(∀p∈l,p.1≠key)→φ2T key l i s=s
 | [],_,_,_=>rfl
 | x::r,i,s,h=>by
  have:(x.1==key)=false:=by simpa using h x (by simp)
  show φ2T key r (i+1) (if (x.1==key)=true then (i:Int) else s)=s
  rw[this]
  exact φAp key r (i+1) s fun p hp=>h p (mC _ hp)
theorem φDe (key:List UInt8):∀(l:List PutT) (i:Nat) (s:Int) (j:Nat) (hj:j<l.length),l[j].1=key→(∀m,(hm:m<l.length)→l[m].1=key→m=j)→φ2T key l i s=((i+j:Nat):Int)
 | x::r,i,s,0,_,h,hu=>by
  show φ2T key r (i+1) (if (x.1==key)=true then (i:Int) else s)=_
  have h:x.1=key:=h
  rw[h]
  simp only[beq_self_eq_true,if_true]
  rw[φAp key r (i+1) i fun p hp=>by
   intro e
   obtain ⟨m,hm,hp⟩:=List.getElem_of_mem hp
   have:=hu (m+1) (by simpa using hm) (by simpa [hp] using e)
   omega]
  simp
 | x::r,i,s,j+1,hj,h,hu=>by
  show φ2T key r (i+1) (if (x.1==key)=true then (i:Int) else s)=_
  rw[φDe key r (i+1) _ j (by simpa using hj) (by simpa using h) fun m hm hk=>by
   have:=hu (m+1) (by simpa using hm) (by simpa using hk);omega]
  congr 1;omega
def φ5J (out:List PutT) (p:PutT):List PutT:=if φ2T p.1 out 0 (-1)≥0 then out.set (φ2T p.1 out 0 (-1)).toNat p else out++[p]
theorem φKv (m:List PutT) (p:PutT):φ5J (netW m) p=netW (m++[p]):=by
 have keys:∀(j:Nat) (hj:j<(netW m).length),(netW m)[j].1=(φ1p m)[j]'(by simpa [netW] using hj):=fun j hj=>by
  simp only[netW,List.getElem_map]
  exact (φMb m _ (gM _)).1
 unfold φ5J
 by_cases h:p.1∈φ1p m
 ·obtain ⟨j,hj,hk⟩:=List.getElem_of_mem h
  have hj':j<(netW m).length:=by simpa [netW] using hj
  have e:=φDe p.1 (netW m) 0 (-1) j hj' (by rw[keys j hj',hk]) fun q hq hqk=>by
   rw[keys q hq] at hqk
   exact (List.getElem_inj (φFd m)).1 (hqk.trans hk.symm)
  rw[e,if_pos (by omega)]
  have e2:((0+j:Nat):Int).toNat=j:=by omega
  rw[e2]
  unfold netW
  rw[φ57,if_pos h]
  apply List.ext_getElem (by simp)
  intro i h1 h2
  rw[List.getElem_set]
  simp only[List.getElem_map]
  have hi:i<(φ1p m).length:=by simpa using h2
  by_cases hij:j=i
  ·subst hij
   rw[if_pos rfl,φ7N,if_pos hk.symm]
  ·rw[if_neg hij,φ7N,if_neg]
   intro hp
   rw[←hk] at hp
   exact hij ((List.getElem_inj (φFd m)).1 hp)
 ·rw[φAp p.1 (netW m) 0 (-1) fun q hq=>by
   intro e
   obtain ⟨j,hj,hq⟩:=List.getElem_of_mem hq
   have:=keys j hj
   rw[hq,e] at this
   exact h (this ▸ gM _)]
  rw[if_neg (by omega)]
  unfold netW
  rw[φ57,if_neg h,mp]
  congr 1
  ·apply List.map_congr_left
   intro k hk
   rw[φ7N,if_neg]
   intro e;subst e;exact h hk
  ·simp[φ7N]
theorem φMs (l:List PutT):l.foldl φ5J []=netW l:=by
 induction l using φ5W with
 | h0=>rfl
 | hs l p ih=>rw[List.foldl_append,ih];exact φKv l p
theorem φMV (out:List PutT) (p:PutT) (x9:List PutT) (x10 x11:Int) (hl:out.length<2 ^ 62) :
  lp ψ1V.l2 (out,p,-1,x9,x10,x11,(out.length:Int),0)=some (out,p,φ2T p.1 out 0 (-1),x9,x10,x11):=by
 have key:=φe (step:=ψ1V.l2) (fun n (s:Int)=>(out,p,s,x9,x10,x11,(out.length:Int),(n:Int))) out.length (fun n s=>(out,p,φ2T p.1 (out.drop n) n s,x9,x10,x11)) (fun _ _=>True)
  (fun rec n s hn _ ih=>by
   rcases Nat.lt_or_ge n out.length with h | h
   ·have hw:w64 ((n:Int)+1)=((n+1:Nat):Int):=φJ (show n+1<9223372036854775808 by omega)
    simp only[ψ1V.l2,oL,h,dT,cT,φD,φG,φ8 h,φJ (show n+1<9223372036854775808 by omega)]
    rw[dG h]
    show _=some (out,p,φ2T p.1 (out.drop (n+1)) (n+1) (if (out[n].1==p.1)=true then (n:Int) else s),x9,x10,x11)
    cases out[n].1==p.1
    ·simp only[cF,bS,Bool.false_eq_true,if_false];rw[hw];exact ih s h trivial
    ·simp only[cT,bS,if_true];rw[hw];exact ih n h trivial
   ·have:n=out.length:=by omega
    subst this
    simp[ψ1V.l2,φ2T])
  hl 0 (-1) (Nat.zero_le _) trivial
 simpa using key
theorem φHR (out:List PutT) (p:PutT):(φ5J out p).length≤out.length+1:=by
 unfold φ5J;split<;>simp
theorem φD7 (key:List UInt8):∀(l:List PutT) (i:Nat) (s:Int),φ2T key l i s=s∨(∃j:Nat,φ2T key l i s=((i+j:Nat):Int)∧j<l.length)
 | [],_,_=>.inl rfl
 | x::r,i,s=>by
  show φ2T key r (i+1) (if (x.1==key)=true then (i:Int) else s)=s∨∃j:Nat,φ2T key r (i+1) (if (x.1==key)=true then (i:Int) else s)=_∧_
  rcases φD7 key r (i+1) (if (x.1==key)=true then (i:Int) else s) with h | ⟨j,h1,h2⟩
  ·rw[h]
   split
   ·exact .inr ⟨0,by simp,by simp⟩
   ·exact .inl rfl
  ·exact .inr ⟨j+1,by rw[h1];congr 1;omega,by simp;omega⟩
theorem φJ5 (l:List PutT) (hl:l.length<2 ^ 40):ψ1V.f l=some (netW l):=by
 have hk:=φ2I (step:=ψ1V.l0) l φ5J (fun n (s:List PutT)=>(s,l,(l.length:Int),(n:Int))) id (fun n s=>s.length≤n) (by omega)
  (fun rec n s h hi=>by
   have hs:s.length<2 ^ 62:=by omega
   have hw:w64 ((n:Int)+1)=((n+1:Nat):Int):=φJ (show n+1<9223372036854775808 by omega)
   simp only[ψ1V.l0,oL,h,dT,cT,φD,φG,φ8 h,φ1g,φMV s l[n] l _ _ hs,bS,φJ (show n+1<9223372036854775808 by omega)]
   unfold φ5J
   by_cases hp:φ2T l[n].1 s 0 (-1)≥0
   ·rcases φD7 l[n].1 s 0 (-1) with k | ⟨j,k1,k2⟩
    ·omega
    ·rw[if_pos hp]
     have:inB (φ2T l[n].1 s 0 (-1)) s.length=true:=by rw[k1];simp[k2]
     simp only[hp,dT,cT,this,bS,hw]
   ·rw[if_neg hp]
    have hb:(s.length+[l[n]].length) * 40≤140737488355328:=by simp;omega
    simp only[hp,dF,cF,hb,dT,cT,bS,hw])
  (fun n s h hi=>by have:=φHR s l[n];omega)
  (fun rec s hi=>by simp[ψ1V.l0]) [] (by simp)
 have hk:lp ψ1V.l0 ([],l,(l.length:Int),0)=_:=hk
 unfold ψ1V.f
 rw[hk,φMs];rfl
theorem φM2 (t:TxnT) (hl:t.2.2.length<2 ^ 40):ψZ.f t=some (netW t.2.2):=by
 unfold ψZ.f;rw[φJ5 _ hl];rfl
def φ66 (l:List PutT) (i:Nat):Bool:=(l.take i).all fun q=>!(q.1==(l.getD i ([],false,[])).1)
theorem φL3 (t:TxnT) (out:List PutT) (i:Nat) (h:i<t.2.2.length) (hl:t.2.2.length<2 ^ 40) :
  lp ψ2e.l2 (t,out,(i:Int),true,0)=some (t,out,(i:Int),φ66 t.2.2 i):=by
 have key:=φe (step:=ψ2e.l2) (fun n (s:Bool)=>(t,out,(i:Int),s,(n:Int))) i (fun n s=>(t,out,(i:Int),s && ((t.2.2.take i).drop n).all fun q=>!(q.1==t.2.2[i].1))) (fun _ _=>True)
  (fun rec n s hn _ ih=>by
   rcases Nat.lt_or_ge n i with h2 | h2
   ·have h3:n<t.2.2.length:=by omega
    have h4:n<(t.2.2.take i).length:=by simp;omega
    have hw:w64 ((n:Int)+1)=((n+1:Nat):Int):=φJ (show n+1<9223372036854775808 by omega)
    simp only[ψ2e.l2,oL,h,h2,h3,dT,cT,φD,φG,φ8 h,φ8 h3,φJ (show n+1<9223372036854775808 by omega)]
    rw[dG h4,List.all_cons,List.getElem_take]
    cases s
    ·simp only[cF,bS]
     rw[hw,ih false h2 trivial];simp
    ·simp only[cT,bS]
     rw[hw,ih _ h2 trivial];simp
   ·have:n=i:=by omega
    subst this
    have:(t.2.2.take n).drop n=[]:=by simp
    simp[ψ2e.l2,this])
  (by omega) 0 true (Nat.zero_le _) trivial
 rw[show φ66 t.2.2 i=(t.2.2.take i).all (fun q=>!(q.1==t.2.2[i].1)) by unfold φ66;rw[φ8 h]]
 simpa using key
theorem φJq (l:List PutT) (i:Nat) (h:i<l.length):φ66 l i=true↔l[i].1 ∉ φ1p (l.take i):=by
 unfold φ66
 rw[List.all_eq_true,φK5,φ8 h]
 constructor
 ·rintro h1 ⟨p,hp,e⟩
  have:=h1 p hp
  simp[e] at this
 ·intro h1 q hq
  simp only[Bool.not_eq_true',beq_eq_false_iff_ne]
  exact fun e=>h1 ⟨q,hq,e⟩
theorem φ9F (t:TxnT) (hl:t.2.2.length<2 ^ 40):ψ2e.f t=some (netW t.2.2):=by
 have key:=φe (step:=ψ2e.l0) (fun n (s:List PutT)=>(t,s,(n:Int))) t.2.2.length (fun n s=>netW t.2.2) (fun n s=>s=(φ1p (t.2.2.take n)).map fun k=>(ownW t.2.2 k).1)
  (fun rec n s hn hi ih=>by
   rcases Nat.lt_or_ge n t.2.2.length with h | h
   ·have hs:s.length≤n:=by
     have:=φFo (t.2.2.take n)
     rw[hi,lM]
     simp only[lT] at this;omega
    have hb:(s.length+[(ownW t.2.2 t.2.2[n].1).1].length) * 40≤140737488355328:=by simp;omega
    have hw:w64 ((n:Int)+1)=((n+1:Nat):Int):=φJ (show n+1<9223372036854775808 by omega)
    simp only[ψ2e.l0,oL,h,dT,cT,φL3 t s n h hl,bS,φD,φG,φ8 h,φED t _ (show t.2.2.length<2 ^ 62 by omega),φJ (show n+1<9223372036854775808 by omega)]
    have e:=φJq t.2.2 n h
    cases hf:φ66 t.2.2 n
    ·simp only[cF,bS]
     rw[hw]
     refine ih s h ?_
     rw[hi,List.take_succ_eq_append_getElem h,φ57,if_pos]
     by_cases hm:t.2.2[n].1∈φ1p (t.2.2.take n)
     ·exact hm
     ·rw[e.2 hm] at hf;simp at hf
    ·simp only[cT,bS,hb,dT]
     rw[hw]
     refine ih _ h ?_
     rw[hi,List.take_succ_eq_append_getElem h,φ57,if_neg (e.1 hf),mp];rfl
   ·have:n=t.2.2.length:=by omega
    subst this
    rw[List.take_length] at hi
    simp[ψ2e.l0,hi,netW])
  (by omega) 0 [] (Nat.zero_le _) (by simp[φ1p])
 have key:lp ψ2e.l0 (t,[],0)=_:=key
 unfold ψ2e.f
 rw[key];rfl
theorem φ3j {a:Nat} (h:a<1000000000001):(a+1) * 40≤140737488355328:=by omega
def leK (a b:List UInt8):Bool:=Op.bytesLess a b || a==b
def insB {α:Type} (l:List (List UInt8×α)) (p:List UInt8×α):List (List UInt8×α):=
 let k:=(l.takeWhile fun x=>leK x.1 p.1).length
 l.take k++[p]++l.drop k
def φZ {α:Type} (l:List (List UInt8×α)) (key:List UInt8):List (List UInt8×α):=l.filter fun x=>!(x.1==key)
theorem φ6T {α:Type} (l:List (List UInt8×α)) (p:List UInt8×α):(insB l p).length=l.length+1:=by
 have:(l.takeWhile fun x=>leK x.1 p.1).length≤l.length:=(List.takeWhile_sublist _).length_le
 simp only[insB,lA,lT,lD,lC,lN];omega
theorem φ6s {α:Type} (l:List (List UInt8×α)) (key:List UInt8):(φZ l key).length≤l.length:=List.length_filter_le _ _
theorem φAR {α:Type} (f:α→Bool):∀(l s:List α),l.foldl (fun s x=>if f x=true then s++[x] else s) s=s++l.filter f
 | [],s=>by simp
 | x::l,s=>by
  rw[List.foldl_cons,φAR f l,List.filter_cons]
  cases f x<;>simp
def φ8x (b:Int) (l:List φg) (p:PutT):List φg:=if p.2.1=true then φZ l p.1 else insB (φZ l p.1) (p.1,p.2.2,b)
def φ72 (l:List φg) (puts:List PutT) (b:Int):List φg:=puts.foldl (φ8x b) l
theorem φIf (b:Int) (l:List φg) (p:PutT):(φ8x b l p).length≤l.length+1:=by
 have:=φ6s l p.1
 unfold φ8x;split
 ·omega
 ·rw[φ6T];omega
theorem φF5 {α:Type} (f:α→Bool) (l:List α) (n:Nat) (h:n<l.length):((l.drop n).takeWhile f).length=if f l[n]=true then ((l.drop (n+1)).takeWhile f).length+1 else 0:=by
 rw[dG h,List.takeWhile_cons]
 split<;>simp
def φ2H (p:φg) (s:List φg×Bool) (x:φg):List φg×Bool:=
 if (x.1==p.1)=true then s else if s.2=false∧leK x.1 p.1=false then (s.1++[p]++[x],true) else (s.1++[x],s.2)
theorem φCZ (p:φg) (s:List φg×Bool) (x:φg):(φ2H p s x).1.length≤s.1.length+2:=by
 unfold φ2H;split
 ·omega
 ·split<;>simp<;>omega
theorem φ8L (p:φg):∀(l out:List φg),l.foldl (φ2H p) (out,true)=(out++φZ l p.1,true)
 | [],out=>by simp[φZ]
 | x::l,out=>by
  rw[List.foldl_cons]
  by_cases h:(x.1==p.1)=true
  ·have e1:φ2H p (out,true) x=(out,true):=by unfold φ2H;rw[if_pos h]
   rw[e1,φ8L p l]
   simp[φZ,h]
  ·have e1:φ2H p (out,true) x=(out++[x],true):=by unfold φ2H;rw[if_neg h,if_neg (by simp)]
   rw[e1,φ8L p l]
   simp[φZ,h]
theorem φBi (p:φg):∀(l out:List φg),(let s:=l.foldl (φ2H p) (out,false);if s.2=true then s.1 else s.1++[p])=out++insB (φZ l p.1) p
 | [],out=>by simp[φZ,insB]
 | x::l,out=>by
  rw[List.foldl_cons]
  by_cases h:(x.1==p.1)=true
  ·have e1:φ2H p (out,false) x=(out,false):=by unfold φ2H;rw[if_pos h]
   have e2:φZ (x::l) p.1=φZ l p.1:=by simp[φZ,h]
   rw[e1,e2];exact φBi p l out
  ·have e2:φZ (x::l) p.1=x::φZ l p.1:=by simp[φZ,h]
   rw[e2]
   cases hk:leK x.1 p.1
   ·have e1:φ2H p (out,false) x=(out++[p]++[x],true):=by unfold φ2H;rw[if_neg h,if_pos ⟨rfl,hk⟩]
    rw[e1,φ8L]
    simp[insB,hk]
   ·have e1:φ2H p (out,false) x=(out++[x],false):=by unfold φ2H;rw[if_neg h,if_neg (by simp[hk])]
    rw[e1,φBi p l (out++[x])]
    simp[insB,hk]
theorem φKo (l:List φg) (p:φg) (del:Bool) (hl:l.length<2 ^ 38):ψ3Q.f l p del=some (if del=true then φZ l p.1 else insB (φZ l p.1) p):=by
 have hk:=φ2I (step:=ψ3Q.l0) l (φ2H p) (fun n (s:List φg×Bool)=>(l,p,s.1,s.2,(n:Int))) (fun s=>(p,s.1,s.2)) (fun n s=>s.1.length≤2 * n) (by omega)
  (fun rec n s h hi=>by
   have hi:s.1.length≤2 * n:=hi
   have hq:s.1.length<1000000000000:=by omega
   have hb1:(s.1.length+[p].length) * 40≤140737488355328:=φ3j (Nat.lt_succ_of_lt hq)
   have hb2:(s.1.length+([l[n]]:List φg).length) * 40≤140737488355328:=φ3j (Nat.lt_succ_of_lt hq)
   have hb3:((s.1++[p]).length+([l[n]]:List φg).length) * 40≤140737488355328:=by rw[lA];exact φ3j (Nat.succ_lt_succ hq)
   have hw:w64 ((n:Int)+1)=(n:Int)+1:=φE (by omega) (by omega)
   have hle:(Op.bytesLess l[n].1 p.1 || l[n].1==p.1)=leK l[n].1 p.1:=rfl
   simp only[ψ3Q.l0,oL,h,dT,cT,φD,φG,φ8 h,φ1g,hle]
   unfold φ2H
   rcases bE (l[n].1==p.1) with h1 | h1
   ·simp[h1,hw]
   ·rcases bE s.2 with h2 | h2
    ·simp only[h1,h2,cF,nZ,bS,φD,φG,φ8 h,φ1g,h,dT,cT,hb2]
     simp[hw]
    ·rcases bE (leK l[n].1 p.1) with h3 | h3
     ·simp only[h1,h2,h3,cF,nZ,nF,bS,φD,φG,φ8 h,φ1g,h,dT,cT,hb2]
      simp[hw]
     ·simp only[h1,h2,h3,cF,nZ,nF,bS,φD,φG,φ8 h,φ1g,h,dT,cT,hb1,hb3]
      simp[hw])
  (fun n s h hi=>by have:=φCZ p s l[n];have hi:s.1.length≤2 * n:=hi;show _≤2 * (n+1);omega)
  (fun rec s hi=>by simp[ψ3Q.l0]) ([],del) (by simp)
 have hk:lp ψ3Q.l0 (l,p,[],del,0)=_:=hk
 have hlen:∀(m:List φg) (s:List φg×Bool),(m.foldl (φ2H p) s).1.length≤s.1.length+2 * m.length:=by
  intro m
  induction m with
  | nil=>intro s;simp
  | cons x m ih=>intro s;rw[List.foldl_cons];have:=ih (φ2H p s x);have:=φCZ p s x;simp only[lC];omega
 unfold ψ3Q.f
 rw[hk,bS]
 cases del with
 | true=>rw[φ8L];simp
 | false=>
  have hf:=φBi p l []
  have hb:=hlen l ([],false)
  generalize l.foldl (φ2H p) ([],false)=s at *
  obtain ⟨s1,s2⟩:=s
  simp only[lN,Nat.zero_add] at hb
  have hb1:(s1.length+[p].length) * 40≤140737488355328:=by simp;omega
  cases s2
  ·simp only[Bool.false_eq_true,if_false,List.nil_append] at hf ⊢
   simp only[nF,cT,hb1,dT,hf]
  ·simp only[if_true,List.nil_append] at hf
   simp[hf]
theorem φHX (l:List φg) (puts:List PutT) (b:Int) (hl:l.length+puts.length<2 ^ 37):ψ2T.f l puts b=some (φ72 l puts b):=by
 have hk:=φ2I (step:=ψ2T.l0) puts (φ8x b) (fun n (s:List φg)=>(puts,b,s,(n:Int))) id (fun n s=>s.length≤l.length+n) (by omega)
  (fun rec n s h hi=>by
   simp only[ψ2T.l0,oL,h,dT,cT,φD,φG,φ8 h,φKo s _ _ (show s.length<2 ^ 38 by omega),bS,φJ (show n+1<9223372036854775808 by omega)]
   rfl)
  (fun n s h hi=>by have:=φIf b s puts[n];omega)
  (fun rec s hi=>by simp[ψ2T.l0]) l (by simp)
 have hk:lp ψ2T.l0 (puts,b,l,0)=_:=hk
 unfold ψ2T.f
 have:(([]:List φg).length+l.length) * 40≤140737488355328:=by simp;omega
 simp only[this,dT,cT,List.nil_append]
 rw[hk];rfl
theorem dnn {k:Int} (h:0≤k):decide (k<0)=false:=by
 have:¬k<0:=by omega
 simp[this]
theorem φ9g (l:List PutT):(netW l).length≤l.length:=by
 unfold netW;rw[lM];exact φFo l
theorem φ4u:∀a:List UInt8,Op.bytesLess a a=false
 | []=>rfl
 | x::a=>by simp[Op.bytesLess,φ4u a]
theorem φDp {a b:UInt8}:a<b↔a.toNat<b.toNat:=UInt8.lt_iff_toNat_lt
theorem φL0 {a b:UInt8} (h:a.toNat=b.toNat):a=b:=UInt8.toNat.inj h
theorem φ6Z:∀a b c:List UInt8,Op.bytesLess a b=true→Op.bytesLess b c=true→Op.bytesLess a c=true
 | _,[],_,h,_=>by simp[Op.bytesLess] at h
 | _,_::_,[],_,h=>by simp[Op.bytesLess] at h
 | [],_::_,_::_,_,_=>rfl
 | x::a,y::b,z::c,h1,h2=>by
  simp only[Op.bytesLess,Bool.or_eq_true,decide_eq_true_eq,bA,beq_iff_eq] at h1 h2 ⊢
  rcases h1 with h1 | ⟨h1,k1⟩
  ·rcases h2 with h2 | ⟨h2,k2⟩
   ·left;rw[φDp] at *;omega
   ·left;rw[←h2];exact h1
  ·rcases h2 with h2 | ⟨h2,k2⟩
   ·left;rw[h1];exact h2
   ·exact .inr ⟨h1.trans h2,φ6Z a b c k1 k2⟩
theorem φEf:∀a b:List UInt8,Op.bytesLess a b=false→a≠b→Op.bytesLess b a=true
 | [],[],_,h=>absurd rfl h
 | [],_::_,h,_=>by simp[Op.bytesLess] at h
 | _::_,[],_,_=>rfl
 | x::a,y::b,h1,h2=>by
  simp only[Op.bytesLess,Bool.or_eq_false_iff,decide_eq_false_iff_not,Bool.and_eq_false_iff] at h1
  simp only[Op.bytesLess,Bool.or_eq_true,decide_eq_true_eq,bA,beq_iff_eq]
  by_cases e:x=y
  ·subst e
   right
   refine ⟨rfl,φEf a b ?_ fun e=>h2 (by rw[e])⟩
   rcases h1.2 with k | k
   ·simp at k
   ·exact k
  ·left
   rw[φDp] at *
   have:=h1.1
   have hne:x.toNat≠y.toNat:=fun k=>e (φL0 k)
   omega
theorem φE3 (a b:List UInt8) (h:Op.bytesLess a b=true):Op.bytesLess b a=false:=by
 cases hb:Op.bytesLess b a with
 | false=>rfl
 | true=>have:=φ6Z a b a h hb;rw[φ4u] at this;simp at this
theorem φ5f {a b:List UInt8} (h:Op.bytesLess a b=true):a≠b:=fun e=>by rw[e,φ4u] at h;simp at h
theorem φ7U (a b:List UInt8):leK a b=!Op.bytesLess b a:=by
 unfold leK
 cases h:Op.bytesLess a b with
 | true=>rw[φE3 a b h];rfl
 | false=>
  by_cases e:a=b
  ·subst e;simp[h]
  ·rw[φEf a b h e]
   have:(a==b)=false:=by simpa using e
   simp[this]
def φ4E (b:UInt8):Bool:=(decide (97≤b.toNat) && decide (b.toNat≤122)) || (decide (48≤b.toNat) && decide (b.toNat≤57))
def φ2w (s:List UInt8):Bool:=s.all φ4E && decide (1≤s.length∧s.length≤12)
theorem φ4S (s:List UInt8) (n:Nat) (h:n<s.length):bAt s (n:Int)=(s[n].toNat:Int):=by
 unfold bAt
 rw[tN,φ8 h]
theorem φ7b {a:Nat} {k:Nat}:decide ((a:Int)≥(k:Int))=decide (k≤a):=decide_eq_decide.2 (by omega)
theorem φ8e {a:Nat} {k:Nat}:decide ((a:Int)≤(k:Int))=decide (a≤k):=decide_eq_decide.2 (by omega)
theorem φAi (s:List UInt8) (hl:s.length<2 ^ 62):ψY.f s=some (φ2w s):=by
 have key:=φ3u (step:=ψY.l0) s φ4E (fun n=>(s,(n:Int))) s hl
  (fun rec n h=>by
   have hw:w64 ((n:Int)+1)=((n+1:Nat):Int):=φJ (by omega)
   have e1:decide ((s[n].toNat:Int)≥97)=decide (97≤s[n].toNat):=φ7b (k:=97)
   have e2:decide ((s[n].toNat:Int)≤122)=decide (s[n].toNat≤122):=φ8e (k:=122)
   have e3:decide ((s[n].toNat:Int)≥48)=decide (48≤s[n].toNat):=φ7b (k:=48)
   have e4:decide ((s[n].toNat:Int)≤57)=decide (s[n].toNat≤57):=φ8e (k:=57)
   simp only[ψY.l0,oL,h,dT,cT,φD,φ4S s n h,e1,e2,e3,e4]
   unfold φ4E
   cases decide (97≤s[n].toNat)<;>cases decide (s[n].toNat≤122)<;>cases decide (48≤s[n].toNat)<;>cases decide (s[n].toNat≤57)<;>simp[hw])
  (fun rec=>by simp[ψY.l0])
 have key:lp ψY.l0 (s,0)=_:=key
 unfold ψY.f φ2w
 rw[key,bS]
 have e:decide ((1:Int)≤(s.length:Int)∧(s.length:Int)≤12)=decide (1≤s.length∧s.length≤12):=decide_eq_decide.2 (by omega)
 cases h:s.all φ4E
 ·simp
 ·simp only[if_true,φX,φ25,bS,e,tA]
theorem φBU (s:List UInt8) (hl:s.length<2 ^ 62):ψ2d.f s=some (φ2w s):=by
 have key:=φ3u (step:=ψ2d.l0) s φ4E (fun n=>(s,(n:Int))) s hl
  (fun rec n h=>by
   have hw:w64 ((n:Int)+1)=((n+1:Nat):Int):=φJ (by omega)
   have e1:decide ((s[n].toNat:Int)≥97)=decide (97≤s[n].toNat):=φ7b (k:=97)
   have e2:decide ((s[n].toNat:Int)≤122)=decide (s[n].toNat≤122):=φ8e (k:=122)
   have e3:decide ((s[n].toNat:Int)≥48)=decide (48≤s[n].toNat):=φ7b (k:=48)
   have e4:decide ((s[n].toNat:Int)≤57)=decide (s[n].toNat≤57):=φ8e (k:=57)
   simp only[ψ2d.l0,oL,h,dT,cT,φD,φ4S s n h,e1,e2,e3,e4]
   unfold φ4E
   cases decide (97≤s[n].toNat)<;>cases decide (s[n].toNat≤122)<;>cases decide (48≤s[n].toNat)<;>cases decide (s[n].toNat≤57)<;>simp[hw])
  (fun rec=>by simp[ψ2d.l0])
 have key:lp ψ2d.l0 (s,0)=_:=key
 unfold ψ2d.f φ2w
 rw[key,bS]
 have e:decide ((1:Int)≤(s.length:Int)∧(s.length:Int)≤12)=decide (1≤s.length∧s.length≤12):=decide_eq_decide.2 (by omega)
 cases h:s.all φ4E
 ·simp
 ·simp only[if_true,φX,φ1r,bS,e,tA]
abbrev φ6:=List UInt8×List UInt8×Int
abbrev φ1:=List φ6×Int×Int×Bool
def φO (l:List φ6):Nat:=sumN (fun f=>f.2.1.length) l
def φ2p (f:φ6):Bool:=φ2w f.1 && decide (0≤f.2.2∧f.2.2≤(f.2.1.length:Int))
def φ3N:Option (List UInt8)→List φ6→Bool
 | _,[]=>true
 | none,f::r=>φ3N (some f.1) r
 | some p,f::r=>Op.bytesLess p f.1 && φ3N (some f.1) r
def φ5G (l:List φ6):Bool:=l.all φ2p && φ3N none l
def φ5 (d:φ1):Bool:=decide (d.1.length≤130) && (decide (0≤d.2.1∧d.2.1≤100000) && (decide (-1≤d.2.2.1∧d.2.2.1≤100000) && (decide ((φO d.1:Int)≤d.2.1) && φ5G d.1)))
def φ4C (l:List φ6):Nat→Option (List UInt8)
 | 0=>none
 | n+1=>some (l.getD n ([],[],0)).1
def φ5S (p:Option (List UInt8)) (l:List φ6):Bool:=l.all φ2p && φ3N p l
def follows (p:Option (List UInt8)) (f:φ6):Bool:=match p with | none=>true | some q=>Op.bytesLess q f.1
theorem φF8 (p:Option (List UInt8)) (f:φ6) (l:List φ6):φ5S p (f::l)=(φ2p f && follows p f && φ5S (some f.1) l):=by
 unfold φ5S follows
 cases p<;>simp only[List.all_cons,φ3N]<;>cases φ2p f<;>simp[Bool.and_comm,Bool.and_assoc,Bool.and_left_comm]
theorem φGD (d:φ1) (hl:d.1.length<2 ^ 62) (hu:φO d.1<2 ^ 62):ψ3p.f d=some (φO d.1:Int):=by
 have key:=φe (step:=ψ3p.l0) (fun n (s:Int)=>(d,s,(n:Int))) d.1.length (fun n s=>s+(φO (d.1.drop n):Int)) (fun n s=>0≤s∧s+(φO (d.1.drop n):Int)<2 ^ 62)
  (fun rec n s hn hi ih=>by
   rcases Nat.lt_or_ge n d.1.length with h | h
   ·have e:φO (d.1.drop n)=d.1[n].2.1.length+φO (d.1.drop (n+1)):=φ9v _ h
    have h2:=hi.2
    have h1:=hi.1
    rw[e] at h2
    simp only[ψ3p.l0,oL,h,dT,cT,φD,φG,φ8 h,φJ (show n+1<9223372036854775808 by omega)]
    rw[φE (by omega) (by omega),ih _ h ⟨by omega,by omega⟩,e]
    congr 1;omega
   ·have:n=d.1.length:=by omega
    subst this
    simp[ψ3p.l0,φO,sumN])
  hl 0 0 (Nat.zero_le _) ⟨by omega,by simp only[List.drop_zero];omega⟩
 have key:lp ψ3p.l0 (d,0,0)=_:=key
 unfold ψ3p.f
 rw[key];simp
theorem φJg (d:φ1) (hl:d.1.length<2 ^ 62) (hu:φO d.1<2 ^ 62):ψ1o.f d=some (φO d.1:Int):=by
 have key:=φe (step:=ψ1o.l0) (fun n (s:Int)=>(s,d.1,(d.1.length:Int),(n:Int))) d.1.length (fun n s=>s+(φO (d.1.drop n):Int)) (fun n s=>0≤s∧s+(φO (d.1.drop n):Int)<2 ^ 62)
  (fun rec n s hn hi ih=>by
   rcases Nat.lt_or_ge n d.1.length with h | h
   ·have e:φO (d.1.drop n)=d.1[n].2.1.length+φO (d.1.drop (n+1)):=φ9v _ h
    have h2:=hi.2
    have h1:=hi.1
    rw[e] at h2
    simp only[ψ1o.l0,oL,h,dT,cT,φD,φG,φ8 h,φJ (show n+1<9223372036854775808 by omega)]
    rw[φE (by omega) (by omega),ih _ h ⟨by omega,by omega⟩,e]
    congr 1;omega
   ·have:n=d.1.length:=by omega
    subst this
    simp[ψ1o.l0,φO,sumN])
  hl 0 0 (Nat.zero_le _) ⟨by omega,by simp only[List.drop_zero];omega⟩
 have key:lp ψ1o.l0 (0,d.1,(d.1.length:Int),0)=_:=key
 unfold ψ1o.f
 rw[key];simp
theorem φ7Z (l:List φ6) (n:Nat) (h:n<l.length):φ4C l (n+1)=some l[n].1:=by
 show some (l.getD n ([],[],0)).1=_
 rw[φ8 h]
theorem φIM {f:List UInt8} (h:φ2w f=true):f.length≤12:=by
 unfold φ2w at h
 simp only[bA,decide_eq_true_eq] at h
 exact h.2.2
theorem φIx (d:φ1) (hl:d.1.length<2 ^ 62) (hu:φO d.1<2 ^ 62) (hn:∀f∈d.1,f.1.length<2 ^ 62):lp ψC.l0 (d,0,d.1,(d.1.length:Int),0)=some (if φ5G d.1=true then .inl (d,(φO d.1:Int)) else .inr false):=by
 have key:=φe (step:=ψC.l0) (fun n (s:Int)=>(d,s,d.1,(d.1.length:Int),(n:Int))) d.1.length (fun n s=>if φ5S (φ4C d.1 n) (d.1.drop n)=true then .inl (d,s+(φO (d.1.drop n):Int)) else .inr false) (fun n s=>0≤s∧s+(φO (d.1.drop n):Int)<2 ^ 62)
  (fun rec n s hn' hi ih=>by
   rcases Nat.lt_or_ge n d.1.length with h | h
   ·have e:φO (d.1.drop n)=d.1[n].2.1.length+φO (d.1.drop (n+1)):=φ9v _ h
    have h2:=hi.2
    have h1:=hi.1
    rw[e] at h2
    have hw:w64 ((n:Int)+1)=((n+1:Nat):Int):=φJ (by omega)
    have hw2:w64 (s+(d.1[n].2.1.length:Int))=s+(d.1[n].2.1.length:Int):=φE (by omega) (by omega)
    have ih2:=ih (s+(d.1[n].2.1.length:Int)) h ⟨by omega,by omega⟩
    have ea:s+(d.1[n].2.1.length:Int)+(φO (d.1.drop (n+1)):Int)=s+((d.1[n].2.1.length+φO (d.1.drop (n+1)):Nat):Int):=by omega
    rw[φ7Z d.1 n h,ea] at ih2
    have hnm:=hn d.1[n] (gM h)
    rw[dG h,φF8,←dG h,e]
    simp only[ψC.l0,oL,h,dT,cT,φD,φG,φ8 h,φAi _ hnm,bS,φ25]
    unfold φ2p
    rcases bE (φ2w d.1[n].1) with k1 | k1
    rotate_left
    ·simp[k1]
    rcases bE (decide (0≤d.1[n].2.2∧d.1[n].2.2≤(d.1[n].2.1.length:Int))) with k2 | k2
    rotate_left
    ·simp only[k1,k2,nZ,nF,cF,cT,bS,φd];simp
    simp only[k1,k2,nZ,cF,tA]
    cases n with
    | zero=>
     have z:¬((0:Nat):Int) > 0:=by omega
     simp only[z,dF,cF,bS,φX,hw2,hw,ih2,φ4C,follows,tA]
    | succ m=>
     have z:((m+1:Nat):Int) > 0:=by omega
     have hm:m<d.1.length:=by omega
     have z2:w64 (((m+1:Nat):Int) - 1)=(m:Int):=by rw[φE (by omega) (by omega)];omega
     rw[φ7Z d.1 m hm]
     simp only[z,dT,cT,z2,φD,hm,φG,φ8 hm,follows]
     rcases bE (Op.bytesLess d.1[m].1 d.1[m+1].1) with k3 | k3
     ·simp only[k3,nZ,cF,bS,φX,hw2,hw,ih2,tA]
     ·simp[k3]
   ·have:n=d.1.length:=by omega
    subst this
    simp[ψC.l0,φ5S,φ3N,φO,sumN])
  hl 0 0 (Nat.zero_le _) ⟨by omega,by simp only[List.drop_zero];omega⟩
 have key:lp ψC.l0 (d,0,d.1,(d.1.length:Int),0)=_:=key
 rw[key,List.drop_zero,Int.zero_add];rfl
theorem φLF (d:φ1) (hl:d.1.length<2 ^ 62) (hn:∀f∈d.1,f.1.length<2 ^ 62):lp ψ2L.l0 (d,0)=some (if φ5G d.1=true then .inl () else .inr false):=by
 have key:=φe (step:=ψ2L.l0) (fun n (_:Unit)=>(d,(n:Int))) d.1.length (fun n _=>if φ5S (φ4C d.1 n) (d.1.drop n)=true then .inl () else .inr false) (fun _ _=>True)
  (fun rec n s hn' _ ih=>by
   rcases Nat.lt_or_ge n d.1.length with h | h
   ·have hw:w64 ((n:Int)+1)=((n+1:Nat):Int):=φJ (by omega)
    have ih2:=ih () h trivial
    rw[φ7Z d.1 n h] at ih2
    have hnm:=hn d.1[n] (gM h)
    rw[dG h,φF8]
    simp only[ψ2L.l0,oL,h,dT,cT,φD,φG,φ8 h,φBU _ hnm,bS,φ1r]
    unfold φ2p
    rcases bE (φ2w d.1[n].1) with k1 | k1
    rotate_left
    ·simp[k1]
    rcases bE (decide (0≤d.1[n].2.2∧d.1[n].2.2≤(d.1[n].2.1.length:Int))) with k2 | k2
    rotate_left
    ·simp only[k1,k2,nZ,nF,cF,cT,bS,φd];simp
    simp only[k1,k2,nZ,cF,tA]
    cases n with
    | zero=>
     have z:¬((0:Nat):Int) > 0:=by omega
     simp only[z,dF,cF,bS,φX,hw,ih2,φ4C,follows,tA]
    | succ m=>
     have z:((m+1:Nat):Int) > 0:=by omega
     have hm:m<d.1.length:=by omega
     have z2:w64 (((m+1:Nat):Int) - 1)=(m:Int):=by rw[φE (by omega) (by omega)];omega
     have z3:(Op.bytesLess d.1[m+1].1 d.1[m].1 || d.1[m+1].1==d.1[m].1)=!Op.bytesLess d.1[m].1 d.1[m+1].1:=φ7U _ _
     rw[φ7Z d.1 m hm]
     simp only[z,dT,cT,z2,φD,hm,φG,φ8 hm,follows,z3]
     rcases bE (Op.bytesLess d.1[m].1 d.1[m+1].1) with k3 | k3
     ·simp only[k3,nZ,cF,bS,φX,hw,ih2,tA]
     ·simp[k3]
   ·have:n=d.1.length:=by omega
    subst this
    simp[ψ2L.l0,φ5S,φ3N])
  hl 0 () (Nat.zero_le _) trivial
 have key:lp ψ2L.l0 (d,0)=_:=key
 rw[key,List.drop_zero];rfl
def dlim (d:φ1):Prop:=d.1.length<1000000000∧φO d.1<1000000000000∧∀f∈d.1,f.1.length<1000000000000
theorem φ9t (d:φ1) (h:dlim d):ψC.f d=some (φ5 d):=by
 obtain ⟨h1,h2,h3⟩:=h
 unfold ψC.f φ5
 have e1:decide ((d.1.length:Int) > 130)=!decide (d.1.length≤130):=by
  by_cases c:d.1.length≤130
  ·have:¬(d.1.length:Int) > 130:=by omega
   simp[c,this]
  ·have:(d.1.length:Int) > 130:=by omega
   simp[c,this]
 rw[e1,φ25,φ25,φIx d (by omega) (by omega) fun f hf=>by have:=h3 f hf;omega]
 cases decide (d.1.length≤130)
 ·rfl
 ·simp only[nZ,cF,bS,tA]
  cases decide (0≤d.2.1∧d.2.1≤100000)
  ·rfl
  ·simp only[nZ,cF,bS,tA]
   cases decide (-1≤d.2.2.1∧d.2.2.1≤100000)
   ·rfl
   ·cases φ5G d.1<;>simp
theorem φ5y (d:φ1) (h:dlim d):ψ2L.f d=some (φ5 d):=by
 obtain ⟨h1,h2,h3⟩:=h
 unfold ψ2L.f φ5
 have e1:decide ((d.1.length:Int) > 130)=!decide (d.1.length≤130):=by
  by_cases c:d.1.length≤130
  ·have:¬(d.1.length:Int) > 130:=by omega
   simp[c,this]
  ·have:(d.1.length:Int) > 130:=by omega
   simp[c,this]
 have e2:decide ((φO d.1:Int) > d.2.1)=!decide ((φO d.1:Int)≤d.2.1):=by
  by_cases c:(φO d.1:Int)≤d.2.1
  ·have:¬(φO d.1:Int) > d.2.1:=by omega
   simp[c,this]
  ·have:(φO d.1:Int) > d.2.1:=by omega
   simp[c,this]
 rw[e1,φ1r,φ1r,φGD d (by omega) (by omega),φLF d (by omega) fun f hf=>by have:=h3 f hf;omega]
 cases decide (d.1.length≤130)
 ·rfl
 ·simp only[nZ,cF,bS,tA]
  cases decide (0≤d.2.1∧d.2.1≤100000)
  ·rfl
  ·simp only[nZ,cF,bS,tA]
   cases decide (-1≤d.2.2.1∧d.2.2.1≤100000)
   ·rfl
   ·simp only[nZ,cF,bS,tA,e2]
    cases decide ((φO d.1:Int)≤d.2.1)
    ·rfl
    ·cases φ5G d.1<;>simp
theorem φ7P (d:φ1) (h:d.1.length<1000000000000):ψ1E.f d=some d:=by
 unfold ψ1E.f
 have:(([]:List φ6).length+d.1.length) * 40≤140737488355328:=by simp;omega
 simp only[this,dT,cT,List.nil_append]
theorem φ4y (d:φ1) (h:d.1.length<1000000000000):ψ3m.f d=some d:=φ7P d h
def φ1b (l:List φ6) (name:List UInt8):Int:=match l.findIdx? (fun f=>f.1==name) with | some i=>(i:Int) | none=>-1
theorem φGZ {A B:Type} {step:(A→Option (B ⊕ Int))→A→Option (B ⊕ Int)} (l:List φ6) (name:List UInt8) (st:Nat→A) (b:B) (hl:l.length<2 ^ 62)
  (hs:∀rec n,(h:n<l.length)→step rec (st n)=if (l[n].1==name)=true then some (.inr (n:Int)) else rec (st (n+1)))
  (he:∀rec,step rec (st l.length)=some (.inl b)):lp step (st 0)=some (match l.findIdx? (fun f=>f.1==name) with | some i=>.inr (i:Int) | none=>.inl b):=by
 have:=φe (step:=step) (fun n (_:Unit)=>st n) l.length (fun n _=>match (l.drop n).findIdx? (fun f=>f.1==name) with | some i=>.inr ((n+i:Nat):Int) | none=>.inl b) (fun _ _=>True)
  (fun rec n s hn _ ih=>by
   rcases Nat.lt_or_ge n l.length with h | h
   ·rw[hs rec n h,ih () h trivial,dG h,List.findIdx?_cons]
    cases hf:l[n].1==name
    ·simp only[Bool.false_eq_true,if_false]
     cases List.findIdx? (fun f=>f.1==name) (l.drop (n+1)) with
     | none=>rfl
     | some i=>simp only[Option.map_some];congr 2;omega
    ·simp
   ·have:n=l.length:=by omega
    subst this
    rw[he];simp) hl 0 () (Nat.zero_le _) trivial
 simpa using this
theorem φ4r (d:φ1) (name:List UInt8) (hl:d.1.length<2 ^ 62):ψ1N.f d name=some (φ1b d.1 name):=by
 have hk:=φGZ (step:=ψ1N.l0) d.1 name (fun n=>(name,d.1,(d.1.length:Int),(n:Int))) () hl
  (fun rec n h=>by
   simp only[ψ1N.l0,oL,h,dT,cT,φD,φG,φ8 h,φJ (show n+1<9223372036854775808 by omega)]
   cases d.1[n].1==name<;>simp)
  (fun rec=>by simp[ψ1N.l0])
 have hk:lp ψ1N.l0 (name,d.1,(d.1.length:Int),0)=_:=hk
 unfold ψ1N.f φ1b
 rw[hk,bS]
 cases List.findIdx? (fun f=>f.1==name) d.1<;>rfl
theorem φ4B (d:φ1) (name:List UInt8) (hl:d.1.length<2 ^ 62):ψ3n.f d name=some (φ1b d.1 name):=by
 have hk:=φGZ (step:=ψ3n.l0) d.1 name (fun n=>(name,d,(n:Int))) () hl
  (fun rec n h=>by
   simp only[ψ3n.l0,oL,h,dT,cT,φD,φG,φ8 h,φJ (show n+1<9223372036854775808 by omega)]
   cases d.1[n].1==name<;>simp)
  (fun rec=>by simp[ψ3n.l0])
 have hk:lp ψ3n.l0 (name,d,0)=_:=hk
 unfold ψ3n.f φ1b
 rw[hk,bS]
 cases List.findIdx? (fun f=>f.1==name) d.1<;>rfl
theorem φz (l:List φ6) (name:List UInt8):(φ1b l name=-1∧∀f∈l,f.1≠name)∨∃i:Nat,∃h:i<l.length,φ1b l name=(i:Int)∧l[i].1=name:=by
 unfold φ1b
 cases hf:List.findIdx? (fun f=>f.1==name) l with
 | none=>
  left
  refine ⟨rfl,fun f hm=>?_⟩
  have:=List.findIdx?_eq_none_iff.1 hf f hm
  simpa using this
 | some i=>
  right
  obtain ⟨h,h1,_⟩:=List.findIdx?_eq_some_iff_getElem.1 hf
  exact ⟨i,h,rfl,by simpa using h1⟩
def tick (d:φ1):φ1:=if d.2.2.1 > 0 then (d.1,d.2.1,d.2.2.1 - 1,d.2.2.2) else d
def φW (d:φ1) (act:List φ6→Int×List φ6):φ1×Int:=
 if φ5 d=false then (d,5) else if d.2.2.2=true∨d.2.2.1=0 then ((d.1,d.2.1,d.2.2.1,true),1)
 else (((act d.1).2,(tick d).2),(act d.1).1)
theorem φ7K {d:φ1} (h:φ5 d=true):-1≤d.2.2.1∧d.2.2.1≤100000∧d.1.length≤130:=by
 unfold φ5 at h
 simp only[bA,decide_eq_true_eq] at h
 omega
theorem φ1K (d:φ1):(tick d).1=d.1:=by unfold tick;split<;>rfl
theorem φHJ (d:φ1) (h:dlim d):ψ3l.f d=some (if φ5 d=false then (d,5) else if d.2.2.2=true∨d.2.2.1=0 then ((d.1,d.2.1,d.2.2.1,true),1) else (tick d,0)):=by
 unfold ψ3l.f
 rw[φ4y d (by have:=h.1;omega),φ5y d h]
 simp only[bS]
 rcases bE (φ5 d) with k | k
 ·have hf:=φ7K k
  rcases bE d.2.2.2 with k2 | k2
  ·simp[k,k2]
  ·by_cases k3:d.2.2.1=0
   ·simp[k,k2,k3]
   ·have k4:(d.2.2.1==0)=false:=by simpa using k3
    unfold tick
    by_cases k5:d.2.2.1 > 0
    ·simp[k,k2,k3,k4,k5,φE (show -9223372036854775808≤d.2.2.1 - 1 by omega) (by omega)]
    ·simp[k,k2,k3,k4,k5]
 ·simp[k]
theorem φ7I {C:Type} (d:φ1) (h:dlim d) (c:C) (does:C→φ1→Option (Int×φ1)) (act:List φ6→Int×List φ6) (hd:φ5 d=true→does c (tick d)=some ((act d.1).1,(act d.1).2,(tick d).2)) :
  ((ψ1E.f d).bind fun t1=>(ψC.f d).bind fun t2=>
   bif !t2 then some (t1,5) else
   bif d.2.2.2 then some ((t1.1,t1.2.1,t1.2.2.1,true),1) else
   bif d.2.2.1==0 then some ((t1.1,t1.2.1,t1.2.2.1,true),1) else
   (bif decide (d.2.2.1 > 0) then let y3:=w64 (t1.2.2.1 - 1);some (c,(([],0,0,false):φ1),(t1.1,t1.2.1,y3,t1.2.2.2)) else some (c,([],0,0,false),t1):Option (C×φ1×φ1)).bind fun (x1,x4,x6)=>
   (does x1 x6).bind fun (t4_0,t4_1)=>some (t4_1,t4_0))=some (φW d act):=by
 rw[φ7P d (by have:=h.1;omega),φ9t d h]
 simp only[bS]
 unfold φW
 rcases bE (φ5 d) with k | k
 ·have hf:=φ7K k
  have hd:=hd k
  rcases bE d.2.2.2 with k2 | k2
  ·simp[k,k2]
  ·by_cases k3:d.2.2.1=0
   ·simp[k,k2,k3]
   ·have k4:(d.2.2.1==0)=false:=by simpa using k3
    have e:(bif decide (d.2.2.1 > 0) then some (c,(([],0,0,false):φ1),((d.1,d.2.1,w64 (d.2.2.1 - 1),d.2.2.2):φ1)) else some (c,([],0,0,false),d))=some (c,([],0,0,false),tick d):=by
     unfold tick
     by_cases k5:d.2.2.1 > 0
     ·simp[k5,φE (show -9223372036854775808≤d.2.2.1 - 1 by omega) (by omega)]
     ·simp[k5]
    simp only[k,k4,nZ,cF,e,bS,hd]
    simp[k2,k3]
 ·simp[k]
theorem φ3Q {l:List φ6} {i:Nat} (h:i<l.length):inB (i:Int) l.length=true:=by simp[h]
theorem φ3a {l:List φ6} {i:Nat} (h:i<l.length):rdA ([],[],0) l (i:Int)=l[i]:=by rw[φG,φ8 h]
theorem φJT {d:φ1} (h:dlim d):dlim (tick d):=by unfold dlim;rw[φ1K];exact h
def φ2a (name:List UInt8) (l:List φ6):Int×List φ6:=
 match l.findIdx? (fun f=>f.1==name) with
 | some i=>(0,l.set i ((l.getD i ([],[],0)).1,(l.getD i ([],[],0)).2.1,((l.getD i ([],[],0)).2.1.length:Int)))
 | none=>(3,l)
theorem φ19 {l:List φ6} {name:List UInt8} (h:φ1b l name=-1):l.findIdx? (fun f=>f.1==name)=none:=by
 unfold φ1b at h
 cases e:l.findIdx? (fun f=>f.1==name) with
 | none=>rfl
 | some i=>rw[e] at h;simp only at h;omega
theorem φ16 {l:List φ6} {name:List UInt8} {i:Nat} (h:φ1b l name=(i:Int)):l.findIdx? (fun f=>f.1==name)=some i:=by
 unfold φ1b at h
 cases e:l.findIdx? (fun f=>f.1==name) with
 | none=>rw[e] at h;simp only at h;omega
 | some j=>rw[e] at h;simp only at h;congr 1;omega
theorem φLQ (d:φ1) (name:List UInt8) (h:d.1.length<2 ^ 62):ψ15.f d name=some ((φ2a name d.1).1,(φ2a name d.1).2,d.2):=by
 unfold ψ15.f φ2a
 rw[φ4r d name h,bS]
 rcases φz d.1 name with ⟨e,_⟩ | ⟨i,hi,e,_⟩
 ·rw[e,φ19 e];rfl
 ·rw[e,φ16 e]
  simp only[dnn (show (0:Int)≤(i:Int) by omega),cF,φ3Q hi,cT,φ3a hi,tN,φ8 hi]
theorem φKW (d:φ1) (name:List UInt8) (h:dlim d):ψ14.f d name=some (φW d (φ2a name)):=by
 have hs:ψ1j.f d name=some (φW d (φ2a name)):=φ7I d h name (fun n x=>ψ15.f x n) (φ2a name) fun _=>by
  show ψ15.f (tick d) name=_
  rw[φLQ (tick d) name (by rw[φ1K];have:=h.1;omega),φ1K]
 unfold ψ14.f
 rw[hs];rfl
theorem φ6N (d:φ1) (h:dlim d):(∃(x:φ1) (c:Int),ψ3l.f d=some (x,c)∧(c != 0)=true∧∀act,φW d act=(x,c)) ∨
  (φ5 d=true∧ψ3l.f d=some (tick d,0)∧∀act,φW d act=(((act d.1).2,(tick d).2),(act d.1).1)):=by
 rw[φHJ d h]
 unfold φW
 rcases bE (φ5 d) with k | k
 ·by_cases k2:d.2.2.2=true∨d.2.2.1=0
  ·left
   refine ⟨(d.1,d.2.1,d.2.2.1,true),1,?_,?_,fun act=>?_⟩
   ·rw[if_neg (by simp[k]),if_pos k2]
   ·rfl
   ·rw[if_neg (by simp[k]),if_pos k2]
  ·right
   refine ⟨k,?_,fun act=>?_⟩
   ·rw[if_neg (by simp[k]),if_neg k2]
   ·rw[if_neg (by simp[k]),if_neg k2]
 ·left
  refine ⟨d,5,?_,?_,fun act=>?_⟩
  ·rw[if_pos k]
  ·rfl
  ·rw[if_pos k]
theorem φ6w (d:φ1) (name:List UInt8) (h:dlim d):ψ34.f d name=some (φW d (φ2a name)):=by
 have hl:d.1.length<2 ^ 62:=by have:=h.1;omega
 unfold ψ34.f
 rcases φ6N d h with ⟨x,c,e1,e2,e3⟩ | ⟨k,e1,e3⟩
 ·rw[e1,e3,bS];simp only[e2,cT]
 rw[e1,e3,bS]
 simp only[bne_self_eq_false,cF,φ4B d name hl,bS]
 unfold φ2a
 rcases φz d.1 name with ⟨e,_⟩ | ⟨i,hi,e,_⟩
 ·rw[e,φ19 e]
  show some (tick d,3)=some ((d.1,(tick d).2),3)
  rw[←φ1K d]
 ·rw[e,φ16 e]
  have ht:i<(tick d).1.length:=by rw[φ1K];exact hi
  simp only[dnn (show (0:Int)≤(i:Int) by omega),cF,φ3Q hi,φ3Q ht,cT,φ3a hi,φ3a ht,tN,φ8 hi]
  simp only[φ1K]
def φl (l:List φ6) (i:Nat):List φ6:=l.take i++l.drop (i+1)
theorem φ98 {l:List φ6} {i:Nat} (h:i<l.length):(φl l i).length=l.length - 1:=by
 unfold φl
 rw[lA,lT,lD];omega
def φ1h (l:List φ6) (name:List UInt8):List φ6:=
 match l.findIdx? (fun f=>f.1==name) with
 | some i=>φl l i
 | none=>l
theorem φBP (l:List φ6) (name:List UInt8):(φ1h l name).length≤l.length:=by
 unfold φ1h
 cases e:l.findIdx? (fun f=>f.1==name) with
 | none=>exact Nat.le_refl _
 | some i=>
  obtain ⟨h,_⟩:=List.findIdx?_eq_some_iff_getElem.1 e
  have:=φ98 h
  simp only;omega
theorem φGe (l:List φ6) (i:Nat) (h:i<l.length) (hl:l.length<1000000000000) {β:Type} (K:List φ6→Option β) :
  (bif (decide (0≤(i:Int)) && decide ((i:Int)≤(l.length:Int))) then
   bif decide ((([]:List φ6).length+(l.take (i:Int).toNat).length) * 40≤140737488355328) then
   bif (decide (0≤w64 ((i:Int)+1)) && decide (w64 ((i:Int)+1)≤(l.length:Int))) then
   bif decide (((([]:List φ6)++(l.take (i:Int).toNat)).length+(l.drop ((w64 ((i:Int)+1)).toNat)).length) * 40≤140737488355328) then
   K ((([]:List φ6)++(l.take (i:Int).toNat))++(l.drop ((w64 ((i:Int)+1)).toNat))) else none else none else none else none)=K (φl l i):=by
 have hw:w64 ((i:Int)+1)=((i+1:Nat):Int):=φJ (by omega)
 rw[hw]
 have c1:(decide (0≤(i:Int)) && decide ((i:Int)≤(l.length:Int)))=true:=by simp;omega
 have c2:(decide (0≤((i+1:Nat):Int)) && decide (((i+1:Nat):Int)≤(l.length:Int)))=true:=by simp;omega
 have c3:(l.take i).length * 40≤140737488355328:=by rw[lT];omega
 have c4:((l.take i).length+(l.drop (i+1)).length) * 40≤140737488355328:=by rw[lT,lD];omega
 simp only[tN,List.nil_append,lN,Nat.zero_add,c1,c2]
 simp only[c3,c4,dT,cT];rfl
theorem φB5 (d:φ1) (name:List UInt8) (h:d.1.length<1000000000):ψD.f d name=some (φ1h d.1 name,d.2):=by
 unfold ψD.f φ1h
 rw[φ4r d name (by omega),bS]
 rcases φz d.1 name with ⟨e,_⟩ | ⟨i,hi,e,_⟩
 ·rw[e,φ19 e];rfl
 ·rw[e,φ16 e]
  have c:(i:Int)≥0:=by omega
  simp only[c,dT,cT]
  exact φGe d.1 i hi (by omega) fun l=>some (l,d.2)
theorem φ9Y (l:List φ6) (i:Nat) (hi:i<l.length) (h:l.length<1000000000):ψ3q.f l (i:Int)=some (φl l i):=by
 unfold ψ3q.f
 exact φGe l i hi (by omega) fun l=>some l
def φ2X (name:List UInt8) (l:List φ6):Int×List φ6:=
 match l.findIdx? (fun f=>f.1==name) with
 | some i=>(0,φl l i)
 | none=>(3,l)
theorem φMP (d:φ1) (name:List UInt8) (h:d.1.length<1000000000):ψo.f d name=some ((φ2X name d.1).1,(φ2X name d.1).2,d.2):=by
 unfold ψo.f φ2X
 rw[φ4r d name (by omega),bS,φB5 d name h]
 unfold φ1h
 rcases φz d.1 name with ⟨e,_⟩ | ⟨i,hi,e,_⟩
 ·rw[e,φ19 e];rfl
 ·rw[e,φ16 e]
  simp only[dnn (show (0:Int)≤(i:Int) by omega),cF,bS]
theorem φKJ (d:φ1) (name:List UInt8) (h:dlim d):ψn.f d name=some (φW d (φ2X name)):=by
 have hs:ψ1h.f d name=some (φW d (φ2X name)):=φ7I d h name (fun n x=>ψo.f x n) (φ2X name) fun _=>by
  show ψo.f (tick d) name=_
  rw[φMP (tick d) name (by rw[φ1K];exact h.1),φ1K]
 unfold ψn.f
 rw[hs];rfl
theorem φ9V (d:φ1) (name:List UInt8) (h:dlim d):ψ2t.f d name=some (φW d (φ2X name)):=by
 have hl:=h.1
 unfold ψ2t.f
 rcases φ6N d h with ⟨x,c,e1,e2,e3⟩ | ⟨k,e1,e3⟩
 ·rw[e1,e3,bS];simp only[e2,cT]
 rw[e1,e3,bS]
 simp only[bne_self_eq_false,cF,φ4B d name (show d.1.length<2 ^ 62 by omega),bS]
 unfold φ2X
 rcases φz d.1 name with ⟨e,_⟩ | ⟨i,hi,e,_⟩
 ·rw[e,φ19 e]
  show some (tick d,3)=some ((d.1,(tick d).2),3)
  rw[←φ1K d]
 ·rw[e,φ16 e]
  simp only[dnn (show (0:Int)≤(i:Int) by omega),cF,φ1K,φ9Y d.1 i hi hl,bS]
def φ5A (name:List UInt8) (n:Int) (l:List φ6):Int×List φ6:=
 match l.findIdx? (fun f=>f.1==name) with
 | some i=>if 0≤n∧n≤((l.getD i ([],[],0)).2.1.length:Int) then
   (0,l.set i ((l.getD i ([],[],0)).1,(l.getD i ([],[],0)).2.1.take n.toNat,if n<(l.getD i ([],[],0)).2.2 then n else (l.getD i ([],[],0)).2.2))
  else (5,l)
 | none=>(3,l)
theorem φKk (d:φ1) (name:List UInt8) (n:Int) (h:dlim d):ψ35.f d name n=some (φW d (φ5A name n)):=by
 have hl:=h.1
 unfold ψ35.f
 rcases φ6N d h with ⟨x,c,e1,e2,e3⟩ | ⟨k,e1,e3⟩
 ·rw[e1,e3,bS];simp only[e2,cT]
 rw[e1,e3,bS]
 simp only[bne_self_eq_false,cF,φ4B d name (show d.1.length<2 ^ 62 by omega),bS]
 unfold φ5A
 rcases φz d.1 name with ⟨e,_⟩ | ⟨i,hi,e,_⟩
 ·rw[e,φ19 e]
  show some (tick d,3)=some ((d.1,(tick d).2),3)
  rw[←φ1K d]
 ·rw[e,φ16 e]
  have ht:i<(tick d).1.length:=by rw[φ1K];exact hi
  simp only[dnn (show (0:Int)≤(i:Int) by omega),cF,φ3Q hi,φ3Q ht,cT,φ3a hi,φ3a ht,φ1r,bS,φ8 hi]
  simp only[φ1K]
  by_cases c:0≤n∧n≤(d.1[i].2.1.length:Int)
  ·have c2:(decide (0≤n) && decide (n≤(d.1[i].2.1.length:Int)))=true:=by simp[c.1,c.2]
   have hs:∀v:φ6,inB (i:Int) (d.1.set i v).length=true:=fun v=>by rw[List.length_set];exact φ3Q hi
   simp only[c,c2,dT,nZ,cF,cT,tN,hs,φIq hi,List.set_set,if_true,and_self,Bool.and_self]
  ·have e5:(5:Int)=5:=rfl
   simp only[c,dF,nF,cT,if_false]
   rw[←φ1K d]
def φ2f (cap:Int) (name text:List UInt8) (l:List φ6):Int×List φ6:=
 match l.findIdx? (fun f=>f.1==name) with
 | some i=>if (text.length:Int) > cap - (φO l:Int) then (2,l) else
   (0,l.set i ((l.getD i ([],[],0)).1,(l.getD i ([],[],0)).2.1++text,(l.getD i ([],[],0)).2.2))
 | none=>(3,l)
theorem φ9i {l:List φ6} {f:φ6} (h:f∈l):f.2.1.length≤φO l:=φE2 (fun f=>f.2.1.length) h
theorem φ7t {d:φ1} (h:φ5 d=true):0≤d.2.1∧d.2.1≤100000∧(φO d.1:Int)≤d.2.1:=by
 unfold φ5 at h
 simp only[bA,decide_eq_true_eq] at h
 omega
theorem φ8f (d:φ1):(tick d).2.1=d.2.1:=by unfold tick;split<;>rfl
theorem φIS (d:φ1) (name text:List UInt8) (h:dlim d) (hc:0≤d.2.1∧d.2.1≤100000) (ht:text.length<1000000000000):ψ1.f d name text=some ((φ2f d.2.1 name text d.1).1,(φ2f d.2.1 name text d.1).2,d.2):=by
 obtain ⟨h1,h2,h3⟩:=h
 unfold ψ1.f φ2f
 rw[φ4r d name (by omega),bS,φJg d (by omega) (by omega)]
 rcases φz d.1 name with ⟨e,_⟩ | ⟨i,hi,e,_⟩
 ·rw[e,φ19 e];rfl
 ·rw[e,φ16 e]
  have hm:=φ9i (gM hi)
  have c1:d.1[i].2.1.length+text.length≤9223372036854775807:=by omega
  simp only[dnn (show (0:Int)≤(i:Int) by omega),cF,bS,φ3Q hi,cT,φ3a hi,φ8 hi,c1,dT,tN]
  rw[φE (by omega) (by omega)]
  by_cases c:(text.length:Int) > d.2.1 - (φO d.1:Int)
  ·simp[c]
  ·simp[c]
theorem φKt (d:φ1) (name text:List UInt8) (h:dlim d) (ht:text.length<1000000000000):ψ0.f d name text=some (φW d (φ2f d.2.1 name text)):=by
 have hs:ψ1f.f d (name,text)=some (φW d (φ2f d.2.1 name text)):=φ7I d h (name,text) (fun c x=>ψ1.f x c.1 c.2) (φ2f d.2.1 name text) fun k=>by
  have hc:=φ7t k
  show ψ1.f (tick d) name text=_
  rw[φIS (tick d) name text (φJT h) (by rw[φ8f];omega) ht,φ1K,φ8f]
 unfold ψ0.f
 rw[hs];rfl
theorem φ8m (d:φ1) (name text:List UInt8) (h:dlim d) (htx:text.length<1000000000000):ψ2A.f d name text=some (φW d (φ2f d.2.1 name text)):=by
 have h1:=h.1
 have h2:=h.2.1
 unfold ψ2A.f
 rcases φ6N d h with ⟨x,c,e1,e2,e3⟩ | ⟨k,e1,e3⟩
 ·rw[e1,e3,bS];simp only[e2,cT]
 rw[e1,e3,bS]
 have hc:=φ7t k
 simp only[bne_self_eq_false,cF,φ4B d name (show d.1.length<2 ^ 62 by omega),bS,φGD d (show d.1.length<2 ^ 62 by omega) (show φO d.1<2 ^ 62 by omega)]
 unfold φ2f
 rcases φz d.1 name with ⟨e,_⟩ | ⟨i,hi,e,_⟩
 ·rw[e,φ19 e]
  show some (tick d,3)=some ((d.1,(tick d).2),3)
  rw[←φ1K d]
 ·rw[e,φ16 e]
  have ht:i<(tick d).1.length:=by rw[φ1K];exact hi
  have hm:=φ9i (gM hi)
  have c1:d.1[i].2.1.length+text.length≤9223372036854775807:=by omega
  simp only[dnn (show (0:Int)≤(i:Int) by omega),cF,φ3Q hi,φ3Q ht,cT,φ3a hi,φ3a ht,φ8 hi,c1,dT,tN]
  rw[φE (by omega) (by omega)]
  simp only[φ1K]
  by_cases c:(text.length:Int) > d.2.1 - (φO d.1:Int)
  ·simp only[c,dT,cT,if_true]
   rw[←φ1K d]
  ·simp only[c,dF,cF,if_false]
def putF (l:List φ6) (f:φ6):List φ6:=
 let k:=(l.takeWhile fun x=>Op.bytesLess x.1 f.1).length
 l.take k++[f]++l.drop k
theorem φCX (d:φ1) (f:φ6) (h:d.1.length<1000000000):ψE.f d f=some (putF d.1 f,d.2):=by
 have key:=φe (step:=ψE.l0) (fun n (_:Unit)=>(d,f,(n:Int))) d.1.length (fun n _=>(d,f,((n+((d.1.drop n).takeWhile fun x=>Op.bytesLess x.1 f.1).length:Nat):Int))) (fun _ _=>True)
  (fun rec n s hn _ ih=>by
   rcases Nat.lt_or_ge n d.1.length with h2 | h2
   ·rw[φF5 _ _ _ h2]
    simp only[ψE.l0,oL,h2,dT,cT,φD,φG,φ8 h2,φJ (show n+1<9223372036854775808 by omega)]
    cases Op.bytesLess d.1[n].1 f.1
    ·simp
    ·simp only[cT,if_true]
     rw[ih () h2 trivial]
     congr 3;congr 1;omega
   ·have:n=d.1.length:=by omega
    subst this
    simp[ψE.l0])
  (by omega) 0 () (Nat.zero_le _) trivial
 have key:lp ψE.l0 (d,f,0)=_:=key
 unfold ψE.f putF
 rw[key,bS]
 simp only[List.drop_zero,Nat.zero_add]
 have htw:(d.1.takeWhile fun x=>Op.bytesLess x.1 f.1).length≤d.1.length:=(List.takeWhile_sublist _).length_le
 generalize (d.1.takeWhile fun x=>Op.bytesLess x.1 f.1).length=k at *
 have c1:(decide (0≤(k:Int)) && decide ((k:Int)≤(d.1.length:Int)))=true:=by simp;omega
 have c2:(d.1.take k).length * 40≤140737488355328:=by rw[lT];omega
 have c3:((d.1.take k).length+[f].length) * 40≤140737488355328:=by rw[lT];exact φ3j (by omega)
 have c4:((d.1.take k++[f]).length+(d.1.drop k).length) * 40≤140737488355328:=by
  rw[lA,lT,lD]
  show (min k d.1.length+1+(d.1.length - k)) * 40≤_
  omega
 simp only[tN,List.nil_append,lN,Nat.zero_add,c1]
 simp only[c2,c3,c4,dT,cT]
def φ2z (f:φ6) (s:List φ6×Bool) (x:φ6):List φ6×Bool:=
 if s.2=false∧leK x.1 f.1=false then (s.1++[f]++[x],true) else (s.1++[x],s.2)
theorem φCl (f:φ6) (s:List φ6×Bool) (x:φ6):(φ2z f s x).1.length≤s.1.length+2:=by
 unfold φ2z;split<;>simp<;>omega
theorem φCQ (f:φ6):∀(l out:List φ6),l.foldl (φ2z f) (out,true)=(out++l,true)
 | [],out=>by simp
 | x::l,out=>by
  have e1:φ2z f (out,true) x=(out++[x],true):=by unfold φ2z;rw[if_neg (by simp)]
  rw[List.foldl_cons,e1,φCQ f l];simp
theorem φFA (f:φ6):∀(l out:List φ6),(let s:=l.foldl (φ2z f) (out,false);if s.2=true then s.1 else s.1++[f])=out++insB l f
 | [],out=>by simp[insB]
 | x::l,out=>by
  rw[List.foldl_cons]
  cases hk:leK x.1 f.1
  ·have e1:φ2z f (out,false) x=(out++[f]++[x],true):=by unfold φ2z;rw[if_pos ⟨rfl,hk⟩]
   rw[e1,φCQ]
   simp[insB,hk]
  ·have e1:φ2z f (out,false) x=(out++[x],false):=by unfold φ2z;rw[if_neg (by simp[hk])]
   rw[e1,φFA f l (out++[x])]
   simp[insB,hk]
theorem φ9D (l:List φ6) (f:φ6) (hl:l.length<1000000000):ψ3o.f l f=some (insB l f):=by
 have hk:=φ2I (step:=ψ3o.l0) l (φ2z f) (fun n (s:List φ6×Bool)=>(l,f,s.1,s.2,(n:Int))) (fun s=>(f,s.1,s.2)) (fun n s=>s.1.length≤2 * n) (by omega)
  (fun rec n s h hi=>by
   have hi:s.1.length≤2 * n:=hi
   have hq:s.1.length<1000000000000:=by omega
   have hb1:(s.1.length+[f].length) * 40≤140737488355328:=φ3j (Nat.lt_succ_of_lt hq)
   have hb2:(s.1.length+([l[n]]:List φ6).length) * 40≤140737488355328:=φ3j (Nat.lt_succ_of_lt hq)
   have hb3:((s.1++[f]).length+([l[n]]:List φ6).length) * 40≤140737488355328:=by rw[lA];exact φ3j (Nat.succ_lt_succ hq)
   have hw:w64 ((n:Int)+1)=(n:Int)+1:=φE (by omega) (by omega)
   have hle:(Op.bytesLess l[n].1 f.1 || l[n].1==f.1)=leK l[n].1 f.1:=rfl
   simp only[ψ3o.l0,oL,h,dT,cT,φD,φG,φ8 h,φ1g,hle]
   unfold φ2z
   rcases bE s.2 with h2 | h2
   ·simp only[h2,cF,nZ,bS,φD,φG,φ8 h,φ1g,h,dT,cT,hb2]
    simp[hw]
   ·rcases bE (leK l[n].1 f.1) with h3 | h3
    ·simp only[h2,h3,cF,nZ,nF,bS,φD,φG,φ8 h,φ1g,h,dT,cT,hb2]
     simp[hw]
    ·simp only[h2,h3,cF,nZ,nF,bS,φD,φG,φ8 h,φ1g,h,dT,cT,hb1,hb3]
     simp[hw])
  (fun n s h hi=>by have:=φCl f s l[n];have hi:s.1.length≤2 * n:=hi;show _≤2 * (n+1);omega)
  (fun rec s hi=>by simp[ψ3o.l0]) ([],false) (by simp)
 have hk:lp ψ3o.l0 (l,f,[],false,0)=_:=hk
 have hlen:∀(m:List φ6) (s:List φ6×Bool),(m.foldl (φ2z f) s).1.length≤s.1.length+2 * m.length:=by
  intro m
  induction m with
  | nil=>intro s;simp
  | cons x m ih=>intro s;rw[List.foldl_cons];have:=ih (φ2z f s x);have:=φCl f s x;simp only[lC];omega
 unfold ψ3o.f
 rw[hk,bS]
 have hf:=φFA f l []
 have hb:=hlen l ([],false)
 generalize l.foldl (φ2z f) ([],false)=s at *
 obtain ⟨s1,s2⟩:=s
 simp only[lN,Nat.zero_add] at hb
 have hb1:(s1.length+[f].length) * 40≤140737488355328:=φ3j (by omega)
 cases s2
 ·simp only[Bool.false_eq_true,if_false,List.nil_append] at hf
  simp only[nF,cT,hb1,dT,hf]
 ·simp only[if_true,List.nil_append] at hf
  simp[hf]
theorem φCJ {α:Type} {f g:α→Bool}:∀{l:List α},(∀x∈l,f x=g x)→l.takeWhile f=l.takeWhile g
 | [],_=>rfl
 | x::l,h=>by
  rw[List.takeWhile_cons,List.takeWhile_cons,h x (by simp),φCJ fun y hy=>h y (mC _ hy)]
theorem φDz {l:List φ6} {f:φ6} (h:∀x∈l,x.1≠f.1):putF l f=insB l f:=by
 unfold putF insB
 have:(l.takeWhile fun x=>Op.bytesLess x.1 f.1)=l.takeWhile fun x=>leK x.1 f.1:=φCJ fun x hx=>by
  unfold leK
  have:(x.1==f.1)=false:=by simpa using h x hx
  rw[this,Bool.or_false]
 rw[this]
def φ2o (name:List UInt8) (l:List φ6):Int×List φ6:=
 if φ2w name=false then (5,l) else if φ1b l name≥0 then (4,l) else if 130≤l.length then (2,l) else (0,insB l (name,[],0))
theorem φM8 (d:φ1) (name:List UInt8) (h:d.1.length<1000000000) (hn:name.length<2 ^ 62):ψ5.f d name=some ((φ2o name d.1).1,(φ2o name d.1).2,d.2):=by
 unfold ψ5.f φ2o
 rw[φAi name hn,bS,φ4r d name (by omega)]
 rcases bE (φ2w name) with k | k
 rotate_left
 ·simp[k]
 simp only[k,nZ,cF,bS,Bool.true_eq_false,if_false]
 rcases φz d.1 name with ⟨e,hno⟩ | ⟨i,hi,e,_⟩
 ·have c:¬φ1b d.1 name≥0:=by omega
  simp only[c,dF,cF,if_false]
  by_cases c2:130≤d.1.length
  ·have c3:(d.1.length:Int)≥130:=by omega
   simp[c2,c3]
  ·have c3:¬(d.1.length:Int)≥130:=by omega
   simp only[c2,c3,dF,cF,if_false,φCX d _ h,bS,φDz (l:=d.1) (f:=(name,[],0)) hno]
 ·have c:φ1b d.1 name≥0:=by omega
  simp[c]
theorem φHa (d:φ1) (name:List UInt8) (h:dlim d) (hn:name.length<2 ^ 62):ψ4.f d name=some (φW d (φ2o name)):=by
 have hs:ψ1g.f d name=some (φW d (φ2o name)):=φ7I d h name (fun n x=>ψ5.f x n) (φ2o name) fun _=>by
  show ψ5.f (tick d) name=_
  rw[φM8 (tick d) name (by rw[φ1K];exact h.1) hn,φ1K]
 unfold ψ4.f
 rw[hs];rfl
theorem φ99 (d:φ1) (name:List UInt8) (h:dlim d) (hn:name.length<2 ^ 62):ψ2D.f d name=some (φW d (φ2o name)):=by
 have hl:=h.1
 unfold ψ2D.f
 rcases φ6N d h with ⟨x,c,e1,e2,e3⟩ | ⟨k,e1,e3⟩
 ·rw[e1,e3,bS];simp only[e2,cT]
 rw[e1,e3,bS]
 simp only[bne_self_eq_false,cF,φBU name hn,φ4B d name (show d.1.length<2 ^ 62 by omega),bS]
 unfold φ2o
 have ht:(d.1,(tick d).2)=tick d:=by rw[←φ1K d]
 rcases bE (φ2w name) with k | k
 rotate_left
 ·simp[k,ht]
 simp only[k,nZ,cF,Bool.true_eq_false,if_false]
 by_cases c:φ1b d.1 name≥0
 ·simp[c,ht]
 simp only[c,dF,cF,if_false]
 by_cases c2:130≤d.1.length
 ·have c3:(d.1.length:Int)≥130:=by omega
  simp[c2,c3,ht]
 ·have c3:¬(d.1.length:Int)≥130:=by omega
  simp only[c2,c3,dF,cF,if_false,φ1K,φ9D d.1 _ hl,bS]
theorem φCL:∀(l:List φ6) (p:List UInt8),φ3N (some p) l=true→(∀x∈l,Op.bytesLess p x.1=true)∧l.Pairwise (fun a b=>Op.bytesLess a.1 b.1=true)
 | [],p,_=>⟨by simp,List.Pairwise.nil⟩
 | f::l,p,h=>by
  simp only[φ3N,bA] at h
  obtain ⟨h1,h2⟩:=φCL l f.1 h.2
  refine ⟨fun x hx=>?_,List.Pairwise.cons h1 h2⟩
  rcases mc.1 hx with e | hx
  ·rw[e];exact h.1
  ·exact φ6Z _ _ _ h.1 (h1 x hx)
theorem φEN (l:List φ6) (h:φ3N none l=true):l.Pairwise (fun a b=>Op.bytesLess a.1 b.1=true):=by
 cases l with
 | nil=>exact List.Pairwise.nil
 | cons f l=>
  obtain ⟨h1,h2⟩:=φCL l f.1 h
  exact List.Pairwise.cons h1 h2
theorem φ6K {d:φ1} (h:φ5 d=true):d.1.Pairwise (fun a b=>Op.bytesLess a.1 b.1=true):=by
 unfold φ5 φ5G at h
 simp only[bA] at h
 exact φEN _ h.2.2.2.2.2
theorem φ93 {l:List φ6} {i:Nat} (h:i<l.length):l=l.take i++l[i]::l.drop (i+1):=by
 rw[←dG h,List.take_append_drop]
theorem φ5M (l:List φ6) (i:Nat):(φl l i).Sublist l:=by
 unfold φl
 have:(l.take i++l.drop (i+1)).Sublist (l.take i++l.drop i):=List.Sublist.append (List.Sublist.refl _) (List.drop_sublist_drop_left l (by omega))
 rw[List.take_append_drop] at this
 exact this
theorem φAW {l:List φ6} {i:Nat} (h:i<l.length) (hp:l.Pairwise (fun a b=>Op.bytesLess a.1 b.1=true)):∀x∈φl l i,x.1≠l[i].1:=by
 rw[φ93 h,List.pairwise_append] at hp
 obtain ⟨_,h2,h3⟩:=hp
 intro x hx
 rcases mA.1 hx with hx | hx
 ·exact φ5f (h3 x hx _ List.mem_cons_self)
 ·exact (φ5f ((List.pairwise_cons.1 h2).1 x hx)).symm
theorem φEc {l:List φ6} {name:List UInt8} (hp:l.Pairwise (fun a b=>Op.bytesLess a.1 b.1=true)):∀x∈φ1h l name,x.1≠name:=by
 unfold φ1h
 rcases φz l name with ⟨e,hno⟩ | ⟨i,hi,e,hn⟩
 ·rw[φ19 e];exact hno
 ·rw[φ16 e,←hn];exact φAW hi hp
theorem φDP {l:List φ6} {name:List UInt8} (h:∀x∈l,x.1≠name):φ1h l name=l:=by
 unfold φ1h
 have:l.findIdx? (fun f=>f.1==name)=none:=by
  rw[List.findIdx?_eq_none_iff]
  intro x hx
  simpa using h x hx
 rw[this]
theorem φJY {l:List φ6} {i:Nat} (h:i<l.length) (hp:l.Pairwise (fun a b=>Op.bytesLess a.1 b.1=true)):putF (φl l i) l[i]=l:=by
 have hs:=hp
 rw[φ93 h,List.pairwise_append] at hs
 obtain ⟨_,h2,h3⟩:=hs
 have e1:((φl l i).takeWhile fun x=>Op.bytesLess x.1 l[i].1)=l.take i:=by
  unfold φl
  rw[List.takeWhile_append_of_pos (fun x hx=>h3 x hx _ List.mem_cons_self)]
  have:(l.drop (i+1)).takeWhile (fun x=>Op.bytesLess x.1 l[i].1)=[]:=by
   cases e:l.drop (i+1) with
   | nil=>rfl
   | cons y r=>
    rw[List.takeWhile_cons,φE3 _ _ ((List.pairwise_cons.1 h2).1 y (by rw[e];simp))];rfl
  rw[this,List.append_nil]
 unfold putF
 rw[e1]
 have hk:(l.take i).length=i:=by rw[lT];omega
 simp only[hk]
 unfold φl
 rw[List.take_append_of_le_length (by omega),List.take_take,Nat.min_self,List.drop_append_of_le_length (by omega),List.drop_take,Nat.sub_self,List.take_zero,List.nil_append,aA,List.singleton_append]
 exact (φ93 h).symm
def φ2n (src dst:List UInt8) (l:List φ6):Int×List φ6:=
 if φ2w dst=false then (5,l) else
 match l.findIdx? (fun f=>f.1==src) with
 | some i=>(0,if src=dst then l else insB (φ1h (φl l i) dst) (dst,(l.getD i ([],[],0)).2))
 | none=>(3,l)
theorem φLv (d:φ1) (src dst:List UInt8) (h:d.1.length<1000000000) (hn:dst.length<2 ^ 62) (hp:d.1.Pairwise (fun a b=>Op.bytesLess a.1 b.1=true)):ψq.f d src dst=some ((φ2n src dst d.1).1,(φ2n src dst d.1).2,d.2):=by
 unfold ψq.f φ2n
 rw[φ4r d src (by omega),bS,φAi dst hn,bS,φB5 d src h]
 rcases bE (φ2w dst) with k | k
 rotate_left
 ·simp[k]
 simp only[k,nZ,cF,Bool.true_eq_false,if_false]
 rcases φz d.1 src with ⟨e,_⟩ | ⟨i,hi,e,hsrc⟩
 ·rw[e,φ19 e];rfl
 ·have e0:φ1h d.1 src=φl d.1 i:=by unfold φ1h;rw[φ16 e]
  rw[e,φ16 e,e0]
  have hl:=φ98 hi
  have hl2:=φBP (φl d.1 i) dst
  simp only[dnn (show (0:Int)≤(i:Int) by omega),cF,φ3Q hi,cT,φ3a hi,bS,φ8 hi,φB5 (φl d.1 i,d.2) dst (show (φl d.1 i).length<1000000000 by omega),φCX (φ1h (φl d.1 i) dst,d.2) (dst,d.1[i].2.1,d.1[i].2.2) (show (φ1h (φl d.1 i) dst).length<1000000000 by omega)]
  by_cases c:src=dst
  ·simp only[c,if_true]
   have hd:d.1[i].1=dst:=by rw[hsrc,c]
   have e2:φ1h (φl d.1 i) dst=φl d.1 i:=φDP (by rw[←hd];exact φAW hi hp)
   have e3:putF (φl d.1 i) (dst,d.1[i].2.1,d.1[i].2.2)=d.1:=by
    have:=φJY hi hp
    rw[←hd];exact this
   rw[e2,e3]
  ·simp only[c,if_false]
   rw[φDz (l:=φ1h (φl d.1 i) dst) (f:=(dst,d.1[i].2.1,d.1[i].2.2)) (φEc (hp.sublist (φ5M d.1 i)))]
theorem φIU (d:φ1) (src dst:List UInt8) (h:dlim d) (hn:dst.length<2 ^ 62):ψp.f d src dst=some (φW d (φ2n src dst)):=by
 have hs:ψ1i.f d (src,dst)=some (φW d (φ2n src dst)):=φ7I d h (src,dst) (fun c x=>ψq.f x c.1 c.2) (φ2n src dst) fun k=>by
  show ψq.f (tick d) src dst=_
  rw[φLv (tick d) src dst (by rw[φ1K];exact h.1) hn (by rw[φ1K];exact φ6K k),φ1K]
 unfold ψp.f
 rw[hs];rfl
theorem φK6 (d:φ1) (src dst:List UInt8) (h:dlim d) (hn:dst.length<2 ^ 62):ψ2u.f d src dst=some (φW d (φ2n src dst)):=by
 have hl:=h.1
 unfold ψ2u.f
 rcases φ6N d h with ⟨x,c,e1,e2,e3⟩ | ⟨k,e1,e3⟩
 ·rw[e1,e3,bS];simp only[e2,cT]
 rw[e1,e3,bS]
 have hp:=φ6K k
 simp only[bne_self_eq_false,cF,φBU dst hn,φ4B d src (show d.1.length<2 ^ 62 by omega),bS]
 unfold φ2n
 have ht:(d.1,(tick d).2)=tick d:=by rw[←φ1K d]
 rcases bE (φ2w dst) with k2 | k2
 rotate_left
 ·simp[k2,ht]
 simp only[k2,nZ,cF,Bool.true_eq_false,if_false]
 rcases φz d.1 src with ⟨e,_⟩ | ⟨i,hi,e,hsrc⟩
 ·rw[e,φ19 e]
  show some (tick d,3)=some ((d.1,(tick d).2),3)
  rw[←φ1K d]
 ·rw[e,φ16 e]
  have hlr:=φ98 hi
  have hl2:=φBP (φl d.1 i) dst
  simp only[dnn (show (0:Int)≤(i:Int) by omega),cF]
  by_cases c:src=dst
  ·simp[c,ht]
  have c1:(src==dst)=false:=by simpa using c
  simp only[c,c1,cF,if_false,φ3Q hi,cT,φ3a hi,φ8 hi,φ1K,φ9Y d.1 i hi hl,bS,φ4B (φl d.1 i,(tick d).2) dst (show (φl d.1 i).length<2 ^ 62 by omega)]
  rcases φz (φl d.1 i) dst with ⟨e',hno⟩ | ⟨j,hj,e',hdst⟩
  ·have c2:¬φ1b (φl d.1 i) dst≥0:=by omega
   simp only[c2,dF,cF,bS,φ9D (φl d.1 i) _ (show (φl d.1 i).length<1000000000 by omega),φDP hno]
  ·have c2:φ1b (φl d.1 i) dst≥0:=by omega
   have e4:φ1h (φl d.1 i) dst=φl (φl d.1 i) j:=by unfold φ1h;rw[φ16 e']
   rw[e4] at hl2
   simp only[c2,dT,cT]
   simp only[e',φ9Y (φl d.1 i) j hj (by omega),bS,φ9D (φl (φl d.1 i) j) _ (show (φl (φl d.1 i) j).length<1000000000 by omega),e4]
theorem φL4 (t:TxnT) (h1:t.2.1.length<1000000000000) (h2:t.2.2.length<1000000000000):ψ1J.f t=some t:=by
 unfold ψ1J.f ψ1H.f
 have c1:t.2.1.length * 24≤140737488355328:=by omega
 have c2:t.2.2.length * 40≤140737488355328:=by omega
 simp[c1,c2]
theorem φAv (t:TxnT) (h1:t.2.1.length<1000000000000) (h2:t.2.2.length<1000000000000):ψ3W.f t=some t:=by
 unfold ψ3W.f
 have c1:t.2.1.length * 24≤140737488355328:=by omega
 have c2:t.2.2.length * 40≤140737488355328:=by omega
 simp[c1,c2]
def φ63 (t:TxnT) (p:PutT):TxnT×Bool:=
 if t.1=true∧φ2W p=true∧(netW (t.2.2++[p])).length≤8∧t.2.2.length<50 then ((t.1,t.2.1,t.2.2++[p]),true) else (t,false)
theorem φHW (t:TxnT) (p:PutT) (h1:t.2.1.length<1000000000) (h2:t.2.2.length<1000000000):ψ37.f t p=some (φ63 t p):=by
 have hc:=φAv t (by omega) (by omega)
 have hb:(t.2.2.length+([p]:List PutT).length) * 40≤140737488355328:=φ3j (by omega)
 have hn:ψ2e.f (t.1,t.2.1,t.2.2++[p])=some (netW (t.2.2++[p])):=φ9F (t.1,t.2.1,t.2.2++[p]) (by show (t.2.2++[p]).length<_;rw[lA];show _+1<_;omega)
 have hl:(t.2.2++[p]).length=t.2.2.length+1:=lA
 have hp:ψ2j.f [p]=some (φ2W p):=by
  rw[φ9B [p] (by show 1<2 ^ 62;decide)]
  unfold φ1m
  simp
 unfold ψ37.f φ63
 simp only[hc,bS,hb,dT,cT,hp,hn]
 rcases bE t.1 with k | k
 rotate_left
 ·simp[k]
 rcases bE (φ2W p) with k2 | k2
 rotate_left
 ·simp[k,k2]
 simp only[k,k2,nZ,cF,true_and]
 by_cases c:(netW (t.2.2++[p])).length≤8
 rotate_left
 ·have c1:((netW (t.2.2++[p])).length:Int) > 8:=by omega
  simp only[c,c1,dT,cT,false_and,if_false]
 have c1:¬((netW (t.2.2++[p])).length:Int) > 8:=by omega
 by_cases c2:t.2.2.length<50
 ·have c3:¬(((t.2.2++[p]).length:Nat):Int) > 50:=by omega
  simp only[c,c1,c2,c3,dF,cF,and_self,if_true]
 ·have c3:(((t.2.2++[p]).length:Nat):Int) > 50:=by omega
  simp only[c,c1,c2,c3,dT,dF,cT,cF,and_false,if_false]
theorem φAd {n:Nat} (h:n<9223372036854775808):IntKind.wrap .i64 (n:Int)=n:=φ3M h
theorem φAt {n:Nat} (h:n<4294967296):IntKind.wrap .u32 (n:Int)=n:=by
 unfold IntKind.wrap
 simp only[IntKind.bits,IntKind.signed]
 simp;omega
theorem φDq (a b:Nat) (ha:a<2 ^ 63) (hb:b<2 ^ 63):bits (fun _ a b=>a ^^^ b) .i64 (a:Int) (b:Int)=((a ^^^ b:Nat):Int):=by
 unfold bits
 have h:a ^^^ b<2 ^ 63:=Nat.xor_lt_two_pow ha hb
 have e:(BitVec.ofInt 64 (a:Int) ^^^ BitVec.ofInt 64 (b:Int)).toNat=a ^^^ b:=by
  rw[BitVec.ofInt_natCast,BitVec.ofInt_natCast,BitVec.toNat_xor,BitVec.toNat_ofNat,BitVec.toNat_ofNat,Nat.mod_eq_of_lt (by omega),Nat.mod_eq_of_lt (by omega)]
 show IntKind.wrap .i64 ((BitVec.ofInt 64 (a:Int) ^^^ BitVec.ofInt 64 (b:Int)).toNat:Int)=_
 rw[e]
 exact φAd (by omega)
theorem φAe (a b:Nat) (ha:a<2 ^ 32) (hb:b<2 ^ 32):bits (fun _ a b=>a ^^^ b) .u32 (a:Int) (b:Int)=((a ^^^ b:Nat):Int):=by
 unfold bits
 have h:a ^^^ b<2 ^ 32:=Nat.xor_lt_two_pow ha hb
 have e:(BitVec.ofInt 32 (a:Int) ^^^ BitVec.ofInt 32 (b:Int)).toNat=a ^^^ b:=by
  rw[BitVec.ofInt_natCast,BitVec.ofInt_natCast,BitVec.toNat_xor,BitVec.toNat_ofNat,BitVec.toNat_ofNat,Nat.mod_eq_of_lt (by omega),Nat.mod_eq_of_lt (by omega)]
 show IntKind.wrap .u32 ((BitVec.ofInt 32 (a:Int) ^^^ BitVec.ofInt 32 (b:Int)).toNat:Int)=_
 rw[e]
 exact φAt (by omega)
theorem φKy (a:Nat) (ha:a<2 ^ 32):bits (fun _ a b=>a &&& b) .u32 (a:Int) 1=((a % 2:Nat):Int):=by
 unfold bits
 have e:(BitVec.ofInt 32 (a:Int) &&& BitVec.ofInt 32 ((1:Nat):Int)).toNat=a % 2:=by
  rw[BitVec.ofInt_natCast,BitVec.ofInt_natCast,BitVec.toNat_and,BitVec.toNat_ofNat,BitVec.toNat_ofNat,Nat.mod_eq_of_lt (by omega)]
  exact Nat.and_one_is_mod a
 show IntKind.wrap .u32 ((BitVec.ofInt 32 (a:Int) &&& BitVec.ofInt 32 ((1:Nat):Int)).toNat:Int)=_
 rw[e]
 exact φAt (by omega)
def crc1 (c:Nat):Nat:=if c % 2=1 then (c / 2) ^^^ 2197175160 else c / 2
def crcK:Nat→Nat→Nat
 | 0,c=>c
 | k+1,c=>crcK k (crc1 c)
def crcB (c:Nat) (b:UInt8):Nat:=crcK 8 (c ^^^ b.toNat)
def crcN (s:List UInt8):Nat:=s.foldl crcB 4294967295
def crcT (s:List UInt8):Int:=((4294967295 - crcN s:Nat):Int)
theorem φBS {c:Nat} (h:c<2 ^ 32):crc1 c<2 ^ 32:=by
 unfold crc1
 split
 ·exact Nat.xor_lt_two_pow (by omega) (by decide)
 ·omega
theorem φCt:∀(k:Nat) {c:Nat},c<2 ^ 32→crcK k c<2 ^ 32
 | 0,_,h=>h
 | k+1,_,h=>φCt k (φBS h)
theorem φAy {c:Nat} (h:c<2 ^ 32) (b:UInt8):crcB c b<2 ^ 32:=
 φCt 8 (Nat.xor_lt_two_pow h (by have:=b.toNat_lt;omega))
theorem φ9G:∀(s:List UInt8) {c:Nat},c<2 ^ 32→s.foldl crcB c<2 ^ 32
 | [],_,h=>h
 | b::s,_,h=>φ9G s (φAy h b)
theorem φ4i (s:List UInt8):0≤crcT s∧crcT s≤4294967295:=by unfold crcT;omega
theorem φH0 (s:List UInt8) (c:Nat) (i:Int) (hc:c<2 ^ 32):lp ψ2C.l2 (s,(c:Int),i,0)=some (s,((crcK 8 c:Nat):Int),i):=by
 have:=φe (step:=ψ2C.l2) (fun n (c:Nat)=>(s,(c:Int),i,(n:Int))) 8 (fun n c=>(s,((crcK (8 - n) c:Nat):Int),i)) (fun _ c=>c<2 ^ 32)
  (fun rec n c hn hc ih=>by
   rcases Nat.lt_or_ge n 8 with h | h
   ·have h8:(n:Int)<8:=by omega
    have hw:w64 ((n:Int)+1)=((n+1:Nat):Int):=φJ (by omega)
    have e1:w64 (Int.tdiv (c:Int) 2)=((c / 2:Nat):Int):=by
     rw[show Int.tdiv (c:Int) 2=((c / 2:Nat):Int) from rfl];exact φ3M (by omega)
    have e2:Int.tmod (c:Int) 2=((c % 2:Nat):Int):=rfl
    have e3:bits (fun _ a b=>a ^^^ b) .i64 ((c / 2:Nat):Int) 2197175160=(((c / 2) ^^^ 2197175160:Nat):Int):=φDq (c / 2) 2197175160 (by omega) (by decide)
    have e4:crcK (8 - n) c=crcK (8 - (n+1)) (crc1 c):=by
     rw[show 8 - n=(8 - (n+1))+1 by omega];rfl
    have ih:=ih (crc1 c) h (φBS hc)
    rw[e4,←ih]
    simp only[ψ2C.l2,h8,dT,cT,e1,e2]
    unfold crc1
    by_cases k:c % 2=1
    ·have k2:(((c % 2:Nat):Int)==1)=true:=by rw[k];rfl
     simp only[k2,cT,e3,bS,hw]
     rw[if_pos k]
    ·have k2:(((c % 2:Nat):Int)==1)=false:=by simp;omega
     simp only[k2,cF,bS,hw]
     rw[if_neg k]
   ·have:n=8:=by omega
    subst this
    simp[ψ2C.l2,crcK])
  (by omega) 0 c (Nat.zero_le _) hc
 exact this
theorem φLp (s:List UInt8) (c:Nat) (i:Int) (hc:c<2 ^ 32):lp ψ3.l2 (s,(c:Int),i,0)=some (s,((crcK 8 c:Nat):Int),i):=by
 have:=φe (step:=ψ3.l2) (fun n (c:Nat)=>(s,(c:Int),i,(n:Int))) 8 (fun n c=>(s,((crcK (8 - n) c:Nat):Int),i)) (fun _ c=>c<2 ^ 32)
  (fun rec n c hn hc ih=>by
   rcases Nat.lt_or_ge n 8 with h | h
   ·have h8:(n:Int)<8:=by omega
    have hw:w64 ((n:Int)+1)=((n+1:Nat):Int):=φJ (by omega)
    have e1:Int.fdiv (c:Int) (2 ^ (min 1 32))=((c / 2:Nat):Int):=by
     show Int.fdiv (c:Int) 2=_
     rw[Int.fdiv_eq_ediv_of_nonneg _ (by omega)];rfl
    have e3:bits (fun _ a b=>a ^^^ b) .u32 ((c / 2:Nat):Int) 2197175160=(((c / 2) ^^^ 2197175160:Nat):Int):=φAe (c / 2) 2197175160 (by omega) (by decide)
    have e4:crcK (8 - n) c=crcK (8 - (n+1)) (crc1 c):=by
     rw[show 8 - n=(8 - (n+1))+1 by omega];rfl
    have ih:=ih (crc1 c) h (φBS hc)
    rw[e4,←ih]
    simp only[ψ3.l2,h8,dT,cT,e1,φKy c hc]
    unfold crc1
    by_cases k:c % 2=1
    ·have k2:(((c % 2:Nat):Int)==1)=true:=by rw[k];rfl
     simp only[k2,cT,e3,bS,hw]
     rw[if_pos k]
    ·have k2:(((c % 2:Nat):Int)==1)=false:=by simp;omega
     simp only[k2,cF,bS,hw]
     rw[if_neg k]
   ·have:n=8:=by omega
    subst this
    simp[ψ3.l2,crcK])
  (by omega) 0 c (Nat.zero_le _) hc
 exact this
theorem φBK (s:List UInt8) (hl:s.length<2 ^ 62):ψ2C.f s=some (crcT s):=by
 have hk:=φ2I (step:=ψ2C.l0) s crcB (fun n (c:Nat)=>(s,(c:Int),(n:Int))) (fun c=>(c:Int)) (fun _ c=>c<2 ^ 32) hl
  (fun rec n c h hc=>by
   have hc:c<2 ^ 32:=hc
   have hw:w64 ((n:Int)+1)=((n+1:Nat):Int):=φJ (by omega)
   have hb:=s[n].toNat_lt
   have e1:w64 (bAt s (n:Int))=((s[n].toNat:Nat):Int):=by rw[φ4S s n h];exact φ3M (by omega)
   have e2:=φDq c s[n].toNat (by omega) (by omega)
   simp only[ψ2C.l0,oL,h,dT,cT,φD,e1,e2]
   rw[φH0 s _ _ (Nat.xor_lt_two_pow hc (by omega))]
   simp only[bS,hw];rfl)
  (fun n c h hc=>φAy hc _)
  (fun rec c hc=>by simp[ψ2C.l0]) 4294967295 (by decide)
 have hk:lp ψ2C.l0 (s,4294967295,0)=_:=hk
 unfold ψ2C.f crcT crcN
 rw[hk,bS]
 have:=φ9G s (c:=4294967295) (by decide)
 generalize s.foldl crcB 4294967295=c at *
 simp only
 rw[φE (by omega) (by omega)]
 congr 1;omega
theorem φHM (c:Nat) (h:c<2 ^ 32):4294967295 ^^^ c=4294967295 - c:=by
 have e:(BitVec.allOnes 32 ^^^ BitVec.ofNat 32 c).toNat=(~~~ BitVec.ofNat 32 c).toNat:=by rw[BitVec.allOnes_xor]
 rw[BitVec.toNat_xor,BitVec.toNat_not,BitVec.toNat_allOnes,BitVec.toNat_ofNat,Nat.mod_eq_of_lt h] at e
 have e:4294967295 ^^^ c=4294967296 - 1 - c:=e
 omega
theorem φ9A (s:List UInt8) (hl:s.length<2 ^ 62):ψ3.f s=some (crcT s):=by
 have hk:=φ2I (step:=ψ3.l0) s crcB (fun n (c:Nat)=>(s,(c:Int),(n:Int))) (fun c=>(c:Int)) (fun _ c=>c<2 ^ 32) hl
  (fun rec n c h hc=>by
   have hc:c<2 ^ 32:=hc
   have hw:w64 ((n:Int)+1)=((n+1:Nat):Int):=φJ (by omega)
   have hb:=s[n].toNat_lt
   have e1:IntKind.wrap .u32 (bAt s (n:Int))=((s[n].toNat:Nat):Int):=by rw[φ4S s n h];exact φAt (by omega)
   have e2:=φAe c s[n].toNat (by omega) (by omega)
   simp only[ψ3.l0,oL,h,dT,cT,φD,e1,e2]
   rw[φLp s _ _ (Nat.xor_lt_two_pow hc (by omega))]
   simp only[bS,hw];rfl)
  (fun n c h hc=>φAy hc _)
  (fun rec c hc=>by simp[ψ3.l0]) 4294967295 (by decide)
 have hk:lp ψ3.l0 (s,4294967295,0)=_:=hk
 unfold ψ3.f crcT crcN
 rw[hk,bS]
 have:=φ9G s (c:=4294967295) (by decide)
 generalize s.foldl crcB 4294967295=c at *
 have e:bits (fun _ a b=>a ^^^ b) .u32 4294967295 (c:Int)=((4294967295 ^^^ c:Nat):Int):=φAe 4294967295 c (by decide) this
 simp only[e,φHM c this]
 rw[φ3M (by omega)]
def vLow (n:Nat):List UInt8:=if h:n<128 then [] else UInt8.ofNat (128+n % 128)::vLow (n / 128)
termination_by n
decreasing_by omega
def vTop (n:Nat):Nat:=if h:n<128 then n else vTop (n / 128)
termination_by n
decreasing_by omega
theorem φ8Q:∀(k n:Nat),n<128 ^ (k+1)→(vLow n).length≤k
 | 0,n,h=>by unfold vLow;rw[dif_pos (by simpa using h)];simp
 | k+1,n,h=>by
  unfold vLow
  split
  ·simp
  ·have:=φ8Q k (n / 128) (by rw[Nat.div_lt_iff_lt_mul (by omega)];rw[Nat.pow_succ] at h;exact h)
   simp only[lC];omega
def varT (n:Int):List UInt8:=if 0≤n∧n≤562949953421311 then vLow n.toNat++[UInt8.ofNat (vTop n.toNat)] else []
theorem φk (n:Int):(varT n).length≤7:=by
 unfold varT
 split
 ·rename_i h
  have:=φ8Q 6 n.toNat (by show _<562949953421312;omega)
  rw[lA,List.length_singleton];omega
 ·simp
theorem φ5z (n:Nat):UInt8.ofNat (IntKind.wrap .u8 (n:Int)).toNat=UInt8.ofNat n:=by
 have e:IntKind.wrap .u8 (n:Int)=((n % 256:Nat):Int):=by
  unfold IntKind.wrap
  simp only[IntKind.bits,IntKind.signed]
  simp
 rw[e,tN]
 exact UInt8.ofNat_mod_size
theorem φHG:ψ1C.l0=ψ3B.l0:=by
 funext rec x
 obtain ⟨x0,x3⟩:=x
 have e1:decide (x0 > 127)=decide (x0≥128):=decide_eq_decide.2 (by omega)
 simp only[ψ1C.l0,ψ3B.l0,e1,Int.add_comm 128]
theorem φKZ:ψ1C.f=ψ3B.f:=by
 funext n
 unfold ψ1C.f ψ3B.f
 rw[φ25,φ1r,φHG]
theorem φH2 (a b:List Int):φ1G (a++b)=φ1G a++φ1G b:=mp
def φ38 (n:Nat):List Int:=if h:n<128 then [] else IntKind.wrap .u8 (w64 (128+(n % 128:Nat)))::φ38 (n / 128)
termination_by n
decreasing_by omega
theorem φ9y (n:Nat):φ1G (φ38 n)=vLow n:=by
 unfold φ38 vLow
 split
 ·rfl
 ·rw[show φ1G (IntKind.wrap .u8 (w64 (128+(n % 128:Nat)))::φ38 (n / 128))=UInt8.ofNat (IntKind.wrap .u8 (w64 (128+(n % 128:Nat)))).toNat::φ1G (φ38 (n / 128)) from rfl,φ9y (n / 128)]
  have e:w64 (128+((n % 128:Nat):Int))=((128+n % 128:Nat):Int):=by rw[φE (by omega) (by omega)];omega
  rw[e,φ5z]
termination_by n
decreasing_by omega
theorem φKd (n:Nat):(φ38 n).length=(vLow n).length:=by rw[←φ9y];unfold φ1G;rw[lM]
theorem φIu (m:Nat) (hm:m<128 ^ 7):lp ψ3B.l0 ((m:Int),[])=some (((vTop m:Nat):Int),φ38 m):=by
 have:=φ5g (step:=ψ3B.l0) (a:=((m:Int),([]:List Int)))
  (fun a=>(((vTop a.1.toNat:Nat):Int),a.2++φ38 a.1.toNat)) (fun a=>0≤a.1∧a.2.length≤7∧a.1.toNat<128 ^ (7 - a.2.length)) (fun a=>a.1.toNat)
  (fun rec a ha ih=>by
   obtain ⟨x,l⟩:=a
   obtain ⟨n,rfl⟩:∃n:Nat,x=(n:Int):=⟨x.toNat,by have:=ha.1;simp only at this;omega⟩
   obtain ⟨_,h2,h3⟩:=ha
   simp only[tN] at h2 h3 ih ⊢
   have hn:n<128 ^ 7:=Nat.lt_of_lt_of_le h3 (Nat.pow_le_pow_right (by omega) (by omega))
   have hn:n<562949953421312:=hn
   by_cases c:n<128
   ·have c1:¬(n:Int)≥128:=by omega
    simp only[ψ3B.l0,c1,dF,cF]
    rw[show vTop n=n by unfold vTop;rw[dif_pos c],show φ38 n=[] by unfold φ38;rw[dif_pos c],List.append_nil]
   ·have c1:(n:Int)≥128:=by omega
    have h4:l.length<7:=by
     rcases Nat.lt_or_ge l.length 7 with h | h
     ·exact h
     ·rw[show 7 - l.length=0 by omega] at h3;simp at h3;omega
    have e1:Int.tmod (n:Int) 128=((n % 128:Nat):Int):=rfl
    have e2:w64 (Int.tdiv (n:Int) 128)=((n / 128:Nat):Int):=by
     rw[show Int.tdiv (n:Int) 128=((n / 128:Nat):Int) from rfl];exact φ3M (by omega)
    have hb:(l.length+[IntKind.wrap .u8 (w64 (128+((n % 128:Nat):Int)))].length) * 1≤140737488355328:=by
     show (l.length+1) * 1≤_;omega
    have ih:=ih (((n / 128:Nat):Int),l++[IntKind.wrap .u8 (w64 (128+((n % 128:Nat):Int)))]) ⟨by simp only;omega,by rw[lA];show _+1≤_;omega,by
     rw[lA,tN]
     show _<128 ^ (7 - (l.length+1))
     rw[Nat.div_lt_iff_lt_mul (by omega),←Nat.pow_succ,show (7 - (l.length+1)).succ=7 - l.length by omega];exact h3⟩ (by simp only[tN];omega)
    simp only[tN] at ih
    simp only[ψ3B.l0,c1,dT,cT,e1,e2,hb,ih]
    rw[show vTop n=vTop (n / 128) by rw[vTop,dif_neg c],show φ38 n=IntKind.wrap .u8 (w64 (128+(n % 128:Nat)))::φ38 (n / 128) by rw[φ38,dif_neg c],aA];rfl)
  ⟨by simp only;omega,by simp,by simpa using hm⟩ (by simp only[tN];have:m<562949953421312:=hm;omega)
 simpa using this
theorem φ4m (n:Int):ψ3B.f n=some (varT n):=by
 unfold ψ3B.f varT
 rw[φ1r,bS]
 by_cases h:0≤n∧n≤562949953421311
 rotate_left
 ·simp[h]
 obtain ⟨m,rfl⟩:∃m:Nat,n=(m:Int):=⟨n.toNat,by omega⟩
 have hm:m<128 ^ 7:=by show m<562949953421312;omega
 have key:∃L:List Int,φ1G L=vLow m∧L.length≤7∧lp ψ3B.l0 ((m:Int),[])=some (((vTop m:Nat):Int),L):=
  ⟨φ38 m,φ9y m,by rw[φKd];have:=φ8Q 6 m hm;omega,φIu m hm⟩
 obtain ⟨L,e1,e2,e3⟩:=key
 have hb:(L.length+[IntKind.wrap .u8 ((vTop m:Nat):Int)].length) * 1≤140737488355328:=by
  show (L.length+1) * 1≤_;omega
 simp only[h,and_self,dT,nZ,cF,e3,bS,hb,cT,if_true,φH2,e1,tN]
 unfold φ1G
 simp only[List.map_cons,List.map_nil,φ5z]
theorem φAs (n:Int):ψ1C.f n=some (varT n):=by rw[φKZ,φ4m]
def fixL (n:Nat):Nat→List UInt8
 | 0=>[]
 | k+1=>UInt8.ofNat (n / 256 ^ k)::fixL n k
theorem φ9l (n:Nat):∀k,(fixL n k).length=k
 | 0=>rfl
 | k+1=>by simp[fixL,φ9l n k]
theorem φ8K (n:Nat):∀k,fixL n (k+1)=fixL (n / 256) k++[UInt8.ofNat n]
 | 0=>by simp[fixL]
 | k+1=>by
  rw[fixL,φ8K n k]
  show _=UInt8.ofNat (n / 256 / 256 ^ k)::fixL (n / 256) k++[UInt8.ofNat n]
  rw[Nat.div_div_eq_div_mul,Nat.pow_succ,Nat.mul_comm (256 ^ k) 256];rfl
def fix4 (n:Int):List UInt8:=if 0≤n∧n≤4294967295 then fixL n.toNat 4 else []
theorem φBT (n:Int) (hn:n<9223372036854775808):ψ2S.f n 4=some (fix4 n):=by
 unfold ψ2S.f fix4
 rw[φ1r,bS]
 by_cases h:0≤n
 rotate_left
 ·have h1:n<0:=by omega
  simp[h,h1]
 obtain ⟨m,rfl⟩:∃m:Nat,n=(m:Int):=⟨n.toNat,by omega⟩
 have key:=φe (step:=ψ2S.l0) (fun i (s:Nat×List UInt8)=>((s.1:Int),4,s.2,(i:Int))) 4 (fun i s=>(((s.1 / 256 ^ (4 - i):Nat):Int),fixL s.1 (4 - i)++s.2)) (fun i s=>s.1<9223372036854775808∧s.2.length≤i)
  (fun rec i s hi hv ih=>by
   obtain ⟨a,l⟩:=s
   obtain ⟨hv1,hv2⟩:=hv
   simp only at hv1 hv2 ih ⊢
   rcases Nat.lt_or_ge i 4 with h4 | h4
   ·have e0:(i:Int)<4:=by omega
    have e1:Int.tmod (a:Int) 256=((a % 256:Nat):Int):=rfl
    have e2:w64 (Int.tdiv (a:Int) 256)=((a / 256:Nat):Int):=by
     rw[show Int.tdiv (a:Int) 256=((a / 256:Nat):Int) from rfl];exact φ3M (by omega)
    have e3:φ1G [IntKind.wrap .u8 ((a % 256:Nat):Int)]=[UInt8.ofNat a]:=by
     unfold φ1G
     simp only[List.map_cons,List.map_nil,φ5z]
     congr 1;exact UInt8.ofNat_mod_size
    have hw:w64 ((i:Int)+1)=((i+1:Nat):Int):=φJ (by omega)
    have hb:([UInt8.ofNat a]:List UInt8).length+l.length≤9223372036854775807:=by show 1+_≤_;omega
    have ih:=ih (a / 256,[UInt8.ofNat a]++l) h4 ⟨by simp only;omega,by simp;omega⟩
    simp only at ih
    simp only[ψ2S.l0,e0,dT,cT,e1,e2,e3,hb,hw,ih]
    rw[show 4 - i=(4 - (i+1))+1 by omega,φ8K,Nat.pow_succ,Nat.mul_comm,←Nat.div_div_eq_div_mul,aA]
   ·have:i=4:=by omega
    subst this
    simp[ψ2S.l0,fixL])
  (by omega) 0 (m,[]) (Nat.zero_le _) ⟨by simp only;omega,by simp⟩
 have key:lp ψ2S.l0 ((m:Int),4,[],0)=some (((m / 256 ^ 4:Nat):Int),fixL m 4++[]):=key
 have h1:¬(m:Int)<0:=by omega
 have h0:decide ((1:Int)≤4∧(4:Int)≤7)=true:=by decide
 have h2:(decide ((((m / 256 ^ 4:Nat):Int)) > 0))=!decide (0≤(m:Int)∧(m:Int)≤4294967295):=by
  have:m / 256 ^ 4=m / 4294967296:=rfl
  by_cases c:m≤4294967295
  ·have:m / 256 ^ 4=0:=by rw[this];omega
   rw[this];simp;omega
  ·have:0<m / 256 ^ 4:=by rw[this];omega
   have c2:¬(0≤(m:Int)∧(m:Int)≤4294967295):=by omega
   simp only[c2,dF,nF,decide_eq_true_eq];omega
 simp only[h0,h1,dF,nZ,cF,key,bS,h2,List.append_nil,tN]
 by_cases c:0≤(m:Int)∧(m:Int)≤4294967295
 ·simp[c]
 ·rw[if_neg c,decide_eq_false c];rfl
def fixI (n:Nat):Nat→List Int
 | 0=>[]
 | k+1=>IntKind.wrap .u8 ((n / 256 ^ k:Nat):Int)::fixI n k
theorem φC8 (n:Nat):∀k,φ1G (fixI n k)=fixL n k
 | 0=>rfl
 | k+1=>by
  rw[fixI,fixL,←φC8 n k,←φ5z];rfl
theorem φB3 (n:Int):ψN.f n 4=some (fix4 n):=by
 unfold ψN.f fix4
 have h0:decide ((1:Int)≤4∧(4:Int)≤7)=true:=by decide
 have h1:decide (0≤w64 (8 * 4))=true:=by decide
 have h2:w64 (w64 (1 * 2 ^ (min (w64 (8 * 4)).toNat 64)) - 1)=4294967295:=by decide
 simp only[φ25,bS,h0,h1,h2,nZ,cF,cT]
 by_cases h:0≤n∧n≤4294967295
 rotate_left
 ·simp[h]
 obtain ⟨m,rfl⟩:∃m:Nat,n=(m:Int):=⟨n.toNat,by omega⟩
 have key:=φ5g (step:=ψN.l0) (a:=((m:Int),([]:List Int),(3:Int)))
  (fun a=>a.2.1++(fixI m (a.2.2+1).toNat)) (fun a=>a.1=(m:Int)∧-1≤a.2.2∧a.2.2≤3∧(a.2.1.length:Int)≤3 - a.2.2) (fun a=>(a.2.2+1).toNat)
  (fun rec a ha ih=>by
   obtain ⟨x,l,k⟩:=a
   obtain ⟨hx,ha1,ha2,ha3⟩:=ha
   simp only at hx ha1 ha2 ha3 ih ⊢
   subst hx
   by_cases c:k≥0
   ·obtain ⟨j,rfl⟩:∃j:Nat,k=(j:Int):=⟨k.toNat,by omega⟩
    have e1:w64 (8 * (j:Int))=((8 * j:Nat):Int):=by rw[φE (by omega) (by omega)];omega
    have e2:Int.fdiv (m:Int) (2 ^ (min ((8 * j:Nat):Int).toNat 64))=((m / 256 ^ j:Nat):Int):=by
     have e:(2:Int) ^ (8 * j)=((256 ^ j:Nat):Int):=by
      rw[show (256:Nat)=2 ^ 8 from rfl,←Nat.pow_mul,Int.natCast_pow];rfl
     rw[tN,Nat.min_eq_left (by omega),e,Int.fdiv_eq_ediv_of_nonneg _ (Int.natCast_nonneg _)]
     rfl
    have e3:w64 ((j:Int) - 1)=(j:Int) - 1:=φE (by omega) (by omega)
    have hb:(l.length+[IntKind.wrap .u8 ((m / 256 ^ j:Nat):Int)].length) * 1≤140737488355328:=by show (l.length+1) * 1≤_;omega
    have ih:=ih ((m:Int),l++[IntKind.wrap .u8 ((m / 256 ^ j:Nat):Int)],(j:Int) - 1) ⟨rfl,by simp only;omega,by simp only;omega,by simp only[lA,List.length_singleton];omega⟩ (by simp only;omega)
    simp only at ih
    have h0:(0:Int)≤((8 * j:Nat):Int):=by omega
    simp only[ψN.l0,c,dT,cT,e1,h0,e2,hb,e3,ih]
    rw[show ((j:Int) - 1+1).toNat=j by omega,show ((j:Int)+1).toNat=j+1 by omega,fixI,aA];rfl
   ·have:k=-1:=by omega
    subst this
    simp[ψN.l0,fixI])
  ⟨rfl,by simp only;omega,by simp only;omega,by simp⟩ (by show (4:Nat)<2 ^ 62;decide)
 have e9:w64 (4 - 1)=3:=by decide
 have key:lp ψN.l0 ((m:Int),[],3)=some (fixI m 4):=key
 simp only[h,and_self,dT,nZ,cF,e9,key,bS,if_true,tN,φC8]
abbrev RecT:=Int×Int×List UInt8×List UInt8×Int×Int
def φc (r:RecT):Bool:=
 decide (0≤r.2.1∧r.2.1≤1000000) && (!(r.2.1==0) || r.1==5) &&
 (if r.1=1∨r.1=4 then φ1T r.2.2.1 && (decide (r.2.2.2.1.length≤24) && (r.2.2.2.2.1==0 && r.2.2.2.2.2==0))
 else if r.1=2 then φ1T r.2.2.1 && (r.2.2.2.1==[] && (r.2.2.2.2.1==0 && r.2.2.2.2.2==0))
 else if r.1=3 then r.2.2.1==[] && (r.2.2.2.1==[] && (decide (0≤r.2.2.2.2.1∧r.2.2.2.2.1≤8) && decide (0≤r.2.2.2.2.2∧r.2.2.2.2.2≤4294967295)))
 else if r.1=5 then r.2.2.1==[] && (r.2.2.2.1==[] && (decide (0≤r.2.2.2.2.1∧r.2.2.2.2.1≤20) && decide (0≤r.2.2.2.2.2∧r.2.2.2.2.2≤4294967295)))
 else false)
theorem φHv (r:RecT):ψ2r.f r=some (φc r):=by
 obtain ⟨k,b,ky,v,c,s⟩:=r
 have e24:decide ((v.length:Int)≤24)=decide (v.length≤24):=decide_eq_decide.2 (by omega)
 unfold ψ2r.f φc
 simp only[φ1r,bS,φ71,e24]
 by_cases hb:0≤b∧b≤1000000
 rotate_left
 ·simp only[hb,dF,nF,cT,bS,φd,Bool.false_and]
 simp only[hb,and_self,dT,nZ,cF,tA]
 rcases bE (b==0 && k != 5) with h | h
 ·simp only[bA] at h
  have h2:(k==5)=false:=by have:=h.2;simpa [bne] using this
  simp only[h.1,h.2,h2,cT,bS,φd,nZ,Bool.false_or,Bool.false_and]
 have e1:(!(b==0) || k==5)=true:=by
  cases h3:(b==0)<;>cases h4:(k==5)<;>simp_all [bne]
 have e2:(bif b==0 then (bif k != 5 then some (Sum.inr false) else some (Sum.inl ((k,b,ky,v,c,s):RecT))) else some (Sum.inl (k,b,ky,v,c,s)):Option (RecT ⊕ Bool))=some (Sum.inl (k,b,ky,v,c,s)):=by
  cases h3:(b==0)
  ·rfl
  ·rw[h3] at h
   have h4:(k != 5)=false:=by simpa using h
   rw[h4];rfl
 simp only[e2,bS,φX,e1,tA]
 by_cases k1:k=1
 ·subst k1
  simp only[cT,cF,bS,e24,beq_self_eq_true,tA,Bool.and_true,show ((1:Int)==1)=true from rfl,show ((4:Int)==1)=false from rfl,show ((4:Int)==4)=true from rfl,show ((2:Int)==2)=true from rfl,show ((3:Int)==2)=false from rfl,show ((3:Int)==3)=true from rfl,show ((5:Int)==5)=true from rfl,show ((5:Int)==3)=false from rfl,show ((5:Int)==2)=false from rfl,show ((4:Int)==5)=false from rfl,show ((3:Int)==5)=false from rfl,show ((2:Int)==5)=false from rfl,show ((1:Int)==5)=false from rfl]
  cases φ1T ky<;>cases decide (v.length≤24)<;>cases (c==0)<;>simp
 by_cases k4:k=4
 ·subst k4
  simp only[cT,cF,bS,e24,beq_self_eq_true,tA,Bool.and_true,show ((1:Int)==1)=true from rfl,show ((4:Int)==1)=false from rfl,show ((4:Int)==4)=true from rfl,show ((2:Int)==2)=true from rfl,show ((3:Int)==2)=false from rfl,show ((3:Int)==3)=true from rfl,show ((5:Int)==5)=true from rfl,show ((5:Int)==3)=false from rfl,show ((5:Int)==2)=false from rfl,show ((4:Int)==5)=false from rfl,show ((3:Int)==5)=false from rfl,show ((2:Int)==5)=false from rfl,show ((1:Int)==5)=false from rfl]
  cases φ1T ky<;>cases decide (v.length≤24)<;>cases (c==0)<;>simp
 have b1:(k==1)=false:=by simpa using k1
 have b4:(k==4)=false:=by simpa using k4
 simp only[b1,b4,cF,bS,k1,k4,or_self,if_false]
 by_cases k2:k=2
 ·subst k2
  simp only[cT,cF,bS,e24,beq_self_eq_true,tA,Bool.and_true,show ((1:Int)==1)=true from rfl,show ((4:Int)==1)=false from rfl,show ((4:Int)==4)=true from rfl,show ((2:Int)==2)=true from rfl,show ((3:Int)==2)=false from rfl,show ((3:Int)==3)=true from rfl,show ((5:Int)==5)=true from rfl,show ((5:Int)==3)=false from rfl,show ((5:Int)==2)=false from rfl,show ((4:Int)==5)=false from rfl,show ((3:Int)==5)=false from rfl,show ((2:Int)==5)=false from rfl,show ((1:Int)==5)=false from rfl]
  cases φ1T ky<;>cases (v==[])<;>cases (c==0)<;>simp
 have b2:(k==2)=false:=by simpa using k2
 simp only[b2,cF,k2,if_false]
 by_cases k3:k=3
 ·subst k3
  simp only[cT,cF,bS,e24,beq_self_eq_true,tA,Bool.and_true,show ((1:Int)==1)=true from rfl,show ((4:Int)==1)=false from rfl,show ((4:Int)==4)=true from rfl,show ((2:Int)==2)=true from rfl,show ((3:Int)==2)=false from rfl,show ((3:Int)==3)=true from rfl,show ((5:Int)==5)=true from rfl,show ((5:Int)==3)=false from rfl,show ((5:Int)==2)=false from rfl,show ((4:Int)==5)=false from rfl,show ((3:Int)==5)=false from rfl,show ((2:Int)==5)=false from rfl,show ((1:Int)==5)=false from rfl]
  cases (ky==[])<;>cases (v==[])<;>cases decide (0≤c∧c≤8)<;>simp
 have b3:(k==3)=false:=by simpa using k3
 simp only[b3,cF,k3,if_false]
 by_cases k5:k=5
 ·subst k5
  simp only[cT,cF,bS,e24,beq_self_eq_true,tA,Bool.and_true,show ((1:Int)==1)=true from rfl,show ((4:Int)==1)=false from rfl,show ((4:Int)==4)=true from rfl,show ((2:Int)==2)=true from rfl,show ((3:Int)==2)=false from rfl,show ((3:Int)==3)=true from rfl,show ((5:Int)==5)=true from rfl,show ((5:Int)==3)=false from rfl,show ((5:Int)==2)=false from rfl,show ((4:Int)==5)=false from rfl,show ((3:Int)==5)=false from rfl,show ((2:Int)==5)=false from rfl,show ((1:Int)==5)=false from rfl]
  cases (ky==[])<;>cases (v==[])<;>cases decide (0≤c∧c≤20)<;>simp
 have b5:(k==5)=false:=by simpa using k5
 simp only[b5,cF,k5,if_false]
theorem φ6j (r:RecT):ψl.f r=some (φc r):=by
 obtain ⟨k,b,ky,v,c,s⟩:=r
 have e24:decide ((v.length:Int)≤24)=decide (v.length≤24):=decide_eq_decide.2 (by omega)
 have hb0:decide (1≤b∧b≤1000000)=(decide (0≤b∧b≤1000000) && !(b==0)):=by
  by_cases h:b=0
  ·subst h;rfl
  ·have:(b==0)=false:=by simpa using h
   rw[this,nF,Bool.and_true]
   exact decide_eq_decide.2 (by omega)
 unfold ψl.f φc
 simp only[φ25,bS,φ8U,e24,hb0,beq_self_eq_true,tA,Bool.and_true]
 by_cases k1:k=1
 ·subst k1
  simp only[cT,cF,bS,e24,hb0,beq_self_eq_true,tA,Bool.and_true,show ((1:Int)==1)=true from rfl,show ((4:Int)==1)=false from rfl,show ((4:Int)==4)=true from rfl,show ((2:Int)==2)=true from rfl,show ((3:Int)==2)=false from rfl,show ((3:Int)==3)=true from rfl,show ((5:Int)==5)=true from rfl,show ((5:Int)==3)=false from rfl,show ((5:Int)==2)=false from rfl,show ((4:Int)==5)=false from rfl,show ((3:Int)==5)=false from rfl,show ((2:Int)==5)=false from rfl,show ((1:Int)==5)=false from rfl]
  cases φ1T ky<;>cases decide (v.length≤24)<;>cases decide (0≤b∧b≤1000000)<;>cases (b==0)<;>simp
 by_cases k4:k=4
 ·subst k4
  simp only[cT,cF,bS,e24,hb0,beq_self_eq_true,tA,Bool.and_true,show ((1:Int)==1)=true from rfl,show ((4:Int)==1)=false from rfl,show ((4:Int)==4)=true from rfl,show ((2:Int)==2)=true from rfl,show ((3:Int)==2)=false from rfl,show ((3:Int)==3)=true from rfl,show ((5:Int)==5)=true from rfl,show ((5:Int)==3)=false from rfl,show ((5:Int)==2)=false from rfl,show ((4:Int)==5)=false from rfl,show ((3:Int)==5)=false from rfl,show ((2:Int)==5)=false from rfl,show ((1:Int)==5)=false from rfl]
  cases φ1T ky<;>cases decide (v.length≤24)<;>cases decide (0≤b∧b≤1000000)<;>cases (b==0)<;>simp
 have b1:(k==1)=false:=by simpa using k1
 have b4:(k==4)=false:=by simpa using k4
 simp only[b1,b4,cF,bS,k1,k4,or_self,if_false]
 by_cases k2:k=2
 ·subst k2
  simp only[cT,cF,bS,e24,hb0,beq_self_eq_true,tA,Bool.and_true,show ((1:Int)==1)=true from rfl,show ((4:Int)==1)=false from rfl,show ((4:Int)==4)=true from rfl,show ((2:Int)==2)=true from rfl,show ((3:Int)==2)=false from rfl,show ((3:Int)==3)=true from rfl,show ((5:Int)==5)=true from rfl,show ((5:Int)==3)=false from rfl,show ((5:Int)==2)=false from rfl,show ((4:Int)==5)=false from rfl,show ((3:Int)==5)=false from rfl,show ((2:Int)==5)=false from rfl,show ((1:Int)==5)=false from rfl]
  cases φ1T ky<;>cases decide (0≤b∧b≤1000000)<;>cases (b==0)<;>simp
 have b2:(k==2)=false:=by simpa using k2
 simp only[b2,cF,k2,if_false]
 by_cases k3:k=3
 ·subst k3
  simp only[cT,cF,bS,e24,hb0,beq_self_eq_true,tA,Bool.and_true,show ((1:Int)==1)=true from rfl,show ((4:Int)==1)=false from rfl,show ((4:Int)==4)=true from rfl,show ((2:Int)==2)=true from rfl,show ((3:Int)==2)=false from rfl,show ((3:Int)==3)=true from rfl,show ((5:Int)==5)=true from rfl,show ((5:Int)==3)=false from rfl,show ((5:Int)==2)=false from rfl,show ((4:Int)==5)=false from rfl,show ((3:Int)==5)=false from rfl,show ((2:Int)==5)=false from rfl,show ((1:Int)==5)=false from rfl]
  cases decide (0≤c∧c≤8)<;>cases decide (0≤s∧s≤4294967295)<;>cases decide (0≤b∧b≤1000000)<;>cases (b==0)<;>simp
 have b3:(k==3)=false:=by simpa using k3
 simp only[b3,cF,k3,if_false]
 by_cases k5:k=5
 ·subst k5
  simp only[cT,cF,bS,e24,hb0,beq_self_eq_true,tA,Bool.and_true,show ((1:Int)==1)=true from rfl,show ((4:Int)==1)=false from rfl,show ((4:Int)==4)=true from rfl,show ((2:Int)==2)=true from rfl,show ((3:Int)==2)=false from rfl,show ((3:Int)==3)=true from rfl,show ((5:Int)==5)=true from rfl,show ((5:Int)==3)=false from rfl,show ((5:Int)==2)=false from rfl,show ((4:Int)==5)=false from rfl,show ((3:Int)==5)=false from rfl,show ((2:Int)==5)=false from rfl,show ((1:Int)==5)=false from rfl]
  cases decide (0≤c∧c≤20)<;>cases decide (0≤s∧s≤4294967295)<;>cases decide (0≤b∧b≤1000000)<;>simp
 have b5:(k==5)=false:=by simpa using k5
 simp only[b5,cF,k5,if_false,Bool.and_false]
def φ7 (r:RecT):List UInt8:=
 if φc r=false then [] else
 if r.1=1∨r.1=4 then varT r.1++varT r.2.1++varT (r.2.2.1.length:Int)++r.2.2.1++varT (r.2.2.2.1.length:Int)++r.2.2.2.1
 else if r.1=2 then varT r.1++varT r.2.1++varT (r.2.2.1.length:Int)++r.2.2.1
 else varT r.1++varT r.2.1++varT r.2.2.2.2.1++fix4 r.2.2.2.2.2
theorem φ4R (n:Int):(fix4 n).length≤4:=by
 unfold fix4;split
 ·rw[φ9l];omega
 ·simp
theorem φ39 (r:RecT):(φ7 r).length≤60:=by
 obtain ⟨k,b,ky,v,c,s⟩:=r
 unfold φ7
 split
 ·simp
 rename_i h
 have h:φc (k,b,ky,v,c,s)=true:=by simpa using h
 have l1:=φk k
 have l2:=φk b
 have l3:=φk (ky.length:Int)
 have l4:=φk (v.length:Int)
 have l5:=φk c
 have l6:=φ4R s
 unfold φc φ1T at h
 simp only[bA] at h
 have h:=h.2
 split
 ·rename_i c1
  simp only at c1
  simp only[c1,if_true,bA,decide_eq_true_eq] at h
  simp only[lA];omega
 ·rename_i c1
  simp only at c1
  split
  ·rename_i c2
   simp only at c2
   rw[if_neg c1,if_pos c2] at h
   simp only[bA,decide_eq_true_eq] at h
   simp only[lA];omega
  ·simp only[lA];omega
theorem φ1B {a b:Nat} (h:a+b≤1000000000000000):decide (a+b≤9223372036854775807)=true:=by
 rw[decide_eq_true_eq];omega
theorem φ6H (r:RecT):ψ31.f r=some (φ7 r):=by
 obtain ⟨k,b,ky,v,c,s⟩:=r
 unfold ψ31.f φ7
 rw[φHv,bS]
 rcases bE (φc (k,b,ky,v,c,s)) with h | h
 rotate_left
 ·simp[h]
 have hs:s<9223372036854775808∨k=1∨k=4∨k=2:=by
  unfold φc at h
  simp only[bA] at h
  have h:=h.2
  by_cases c1:k=1∨k=4
  ·omega
  by_cases c2:k=2
  ·omega
  rw[if_neg c1,if_neg c2] at h
  left
  split at h
  ·simp only[bA,decide_eq_true_eq] at h;omega
  ·split at h
   ·simp only[bA,decide_eq_true_eq] at h;omega
   ·simp at h
 have hlen:k=1∨k=4∨k=2→ky.length≤8∧v.length≤24:=by
  intro hk
  unfold φc φ1T at h
  simp only[bA] at h
  have h:=h.2
  by_cases c1:k=1∨k=4
  ·rw[if_pos c1] at h
   simp only[bA,decide_eq_true_eq] at h;omega
  by_cases c2:k=2
  ·rw[if_neg c1,if_pos c2] at h
   simp only[bA,decide_eq_true_eq,beq_iff_eq] at h
   rw[h.2.1];simp;omega
  ·omega
 have l1:=φk k
 have l2:=φk b
 have l3:=φk (ky.length:Int)
 have l4:=φk (v.length:Int)
 have l5:=φk c
 have l6:=φ4R s
 simp only[h,nZ,cF,φ4m,bS,φ1B (show (varT k).length+(varT b).length≤1000000000000000 by omega),cT,Bool.true_eq_false,if_false]
 have kk:(bif k==1 then some (((k,b,ky,v,c,s):RecT),varT k++varT b,k,k==1) else some ((k,b,ky,v,c,s),varT k++varT b,k,k==4))=some ((k,b,ky,v,c,s),varT k++varT b,k,decide (k=1∨k=4)):=by
  by_cases c1:k=1
  ·subst c1;rfl
  ·have b1:(k==1)=false:=by simpa using c1
   rw[b1,cF]
   by_cases c4:k=4
   ·subst c4;rfl
   ·have b4:(k==4)=false:=by simpa using c4
    rw[b4,decide_eq_false (by omega)]
 simp only[kk,bS]
 by_cases c1:k=1∨k=4
 ·have hl:=hlen (by omega)
  simp only[c1,dT,cT,if_true,
   φ1B (show (varT k++varT b).length+(varT (ky.length:Int)).length≤1000000000000000 by simp only[lA];omega),
   φ1B (show (varT k++varT b++varT (ky.length:Int)).length+ky.length≤1000000000000000 by simp only[lA];omega),
   φ1B (show (varT k++varT b++varT (ky.length:Int)++ky).length+(varT (v.length:Int)).length≤1000000000000000 by simp only[lA];omega),
   φ1B (show (varT k++varT b++varT (ky.length:Int)++ky++varT (v.length:Int)).length+v.length≤1000000000000000 by simp only[lA];omega)]
 by_cases c2:k=2
 ·have hl:=hlen (by omega)
  have b2:(k==2)=true:=by simpa using c2
  simp only[c1,b2,dF,cF,cT,if_false,
   φ1B (show (varT k++varT b).length+(varT (ky.length:Int)).length≤1000000000000000 by simp only[lA];omega),
   φ1B (show (varT k++varT b++varT (ky.length:Int)).length+ky.length≤1000000000000000 by simp only[lA];omega)]
  rw[if_pos c2]
 ·have b2:(k==2)=false:=by simpa using c2
  simp only[c1,c2,b2,dF,cF,if_false,
   φ1B (show (varT k++varT b).length+(varT c).length≤1000000000000000 by simp only[lA];omega),cT,
   φBT s (by omega),bS,
   φ1B (show (varT k++varT b++varT c).length+(fix4 s).length≤1000000000000000 by simp only[lA];omega)]
theorem φ6k (s:List UInt8) (h:s.length<2 ^ 62):ψ1l.f s=some (varT (s.length:Int)++s):=by
 have l:=φk (s.length:Int)
 unfold ψ1l.f
 have c:(varT (s.length:Int)).length+s.length≤9223372036854775807:=by omega
 simp only[φAs,bS,c,dT,cT]
theorem φLu (l:List Int):∀n (acc:List UInt8),n≤l.length→acc.length≤7 * n→l.length<1000000000000→lp ψ1p.l0 (acc,l,(l.length:Int),(n:Int))=some (acc++((l.drop n).map varT).flatten):=by
 intro n acc hn ha hl
 have:=φe (step:=ψ1p.l0) (fun n (acc:List UInt8)=>(acc,l,(l.length:Int),(n:Int))) l.length (fun n acc=>acc++((l.drop n).map varT).flatten) (fun n acc=>acc.length≤7 * n)
  (fun rec n acc hn ha ih=>by
   rcases Nat.lt_or_ge n l.length with h | h
   ·have hv:=φk l[n]
    have hb:acc.length+(varT l[n]).length≤9223372036854775807:=by omega
    have ih:=ih (acc++varT l[n]) h (by rw[lA];omega)
    simp only[ψ1p.l0,oL,h,dT,cT,φD,φG,φ8 h,φAs,bS,hb,φJ (show n+1<9223372036854775808 by omega),ih]
    rw[dG h,List.map_cons,List.flatten_cons,aA]
   ·have:n=l.length:=by omega
    subst this
    simp[ψ1p.l0])
  (by omega) n acc hn ha
 exact this
theorem φ7J (l:List Int) (hl:l.length<1000000000000):ψ1p.f l=some (l.map varT).flatten:=by
 unfold ψ1p.f
 have:=φLu l 0 [] (Nat.zero_le _) (by simp) hl
 have this:lp ψ1p.l0 ([],l,(l.length:Int),0)=_:=this
 rw[this];simp
theorem φB9 (r:RecT):ψw.f r=some (φ7 r):=by
 obtain ⟨k,b,ky,v,c,s⟩:=r
 unfold ψw.f φ7
 rw[φ6j,bS]
 rcases bE (φc (k,b,ky,v,c,s)) with h | h
 rotate_left
 ·simp[h]
 have hlen:k=1∨k=4∨k=2→ky.length≤8∧v.length≤24:=by
  intro hk
  unfold φc φ1T at h
  simp only[bA] at h
  have h:=h.2
  by_cases c1:k=1∨k=4
  ·rw[if_pos c1] at h
   simp only[bA,decide_eq_true_eq] at h;omega
  by_cases c2:k=2
  ·rw[if_neg c1,if_pos c2] at h
   simp only[bA,decide_eq_true_eq,beq_iff_eq] at h
   rw[h.2.1];simp;omega
  ·omega
 have l1:=φk k
 have l2:=φk b
 have l3:=φk (ky.length:Int)
 have l4:=φk (v.length:Int)
 have l5:=φk c
 have l6:=φ4R s
 have hv:ψ1p.f [k,b]=some (varT k++varT b):=by rw[φ7J [k,b] (by show 2<1000000000000;decide)];simp
 simp only[h,nZ,cF,hv,bS,Bool.true_eq_false,if_false]
 have kk:(bif k==1 then some (((k,b,ky,v,c,s):RecT),varT k++varT b,k,k==1) else some ((k,b,ky,v,c,s),varT k++varT b,k,k==4))=some ((k,b,ky,v,c,s),varT k++varT b,k,decide (k=1∨k=4)):=by
  by_cases c1:k=1
  ·subst c1;rfl
  ·have b1:(k==1)=false:=by simpa using c1
   rw[b1,cF]
   by_cases c4:k=4
   ·subst c4;rfl
   ·have b4:(k==4)=false:=by simpa using c4
    rw[b4,decide_eq_false (by omega)]
 simp only[kk,bS]
 by_cases c1:k=1∨k=4
 ·have hl:=hlen (by omega)
  simp only[c1,dT,cT,if_true,φ6k ky (by omega),φ6k v (by omega),bS,
   φ1B (show (varT k++varT b).length+(varT (ky.length:Int)++ky).length≤1000000000000000 by simp only[lA];omega),
   φ1B (show (varT k++varT b++(varT (ky.length:Int)++ky)).length+(varT (v.length:Int)++v).length≤1000000000000000 by simp only[lA];omega)]
  simp only[aA]
 by_cases c2:k=2
 ·have hl:=hlen (by omega)
  have b2:(k==2)=true:=by simpa using c2
  simp only[c1,b2,dF,cF,cT,if_false,φ6k ky (by omega),bS,
   φ1B (show (varT k++varT b).length+(varT (ky.length:Int)++ky).length≤1000000000000000 by simp only[lA];omega)]
  rw[if_pos c2]
  simp only[aA]
 ·have b2:(k==2)=false:=by simpa using c2
  simp only[c1,c2,b2,dF,cF,if_false,φAs,bS,
   φ1B (show (varT k++varT b).length+(varT c).length≤1000000000000000 by simp only[lA];omega),cT,
   φB3 s,bS,
   φ1B (show (varT k++varT b++varT c).length+(fix4 s).length≤1000000000000000 by simp only[lA];omega)]
def frame (s:List UInt8):List UInt8:=
 if 200<s.length then [] else fix4 (crcT (varT (s.length:Int)++s))++(varT (s.length:Int)++s)
theorem φ4x (s:List UInt8):(frame s).length≤211:=by
 unfold frame
 split
 ·simp
 ·have l1:=φk (s.length:Int)
  have l2:=φ4R (crcT (varT (s.length:Int)++s))
  simp only[lA];omega
theorem φ7E (s:List UInt8) (h:s.length<2 ^ 62):ψ2U.f s=some (frame s):=by
 unfold ψ2U.f frame
 by_cases c:200<s.length
 ·have c1:(s.length:Int) > 200:=by omega
  simp[c,c1]
 have c1:¬(s.length:Int) > 200:=by omega
 have l1:=φk (s.length:Int)
 have l2:=φ4R (crcT (varT (s.length:Int)++s))
 have r:=φ4i (varT (s.length:Int)++s)
 simp only[c,c1,dF,cF,if_false,φ4m,bS,φ1B (show (varT (s.length:Int)).length+s.length≤1000000000000000 by omega),cT,
  φBK (varT (s.length:Int)++s) (by rw[lA];omega),φBT _ (show crcT (varT (s.length:Int)++s)<9223372036854775808 by omega),
  φ1B (show (fix4 (crcT (varT (s.length:Int)++s))).length+(varT (s.length:Int)++s).length≤1000000000000000 by simp only[lA];omega)]
theorem φ8M (s:List UInt8) (h:s.length<2 ^ 62):ψO.f s=some (frame s):=by
 unfold ψO.f frame
 by_cases c:200<s.length
 ·have c1:(s.length:Int) > 200:=by omega
  simp[c,c1]
 have c1:¬(s.length:Int) > 200:=by omega
 have l1:=φk (s.length:Int)
 have l2:=φ4R (crcT (varT (s.length:Int)++s))
 have r:=φ4i (varT (s.length:Int)++s)
 simp only[c,c1,dF,cF,if_false,φ6k s (by omega),bS,cT,
  φ9A (varT (s.length:Int)++s) (by rw[lA];omega),φB3,
  φ1B (show (fix4 (crcT (varT (s.length:Int)++s))).length+(varT (s.length:Int)++s).length≤1000000000000000 by simp only[lA];omega)]
def φ3H (l:List RecT):List UInt8:=(l.map φ7).flatten
def φ1I (l:List RecT):Int:=crcT (φ3H l)
theorem φ6v:∀(l:List RecT),(φ3H l).length≤60 * l.length
 | []=>by simp[φ3H]
 | r::l=>by
  have h1:=φ6v l
  have h2:=φ39 r
  unfold φ3H at *
  rw[List.map_cons,List.flatten_cons,lA,lC];omega
theorem φCO (l:List RecT) (r:RecT):φ3H (l++[r])=φ3H l++φ7 r:=by
 unfold φ3H;simp
theorem φ7z (l:List RecT) (hl:l.length<1000000000000):ψ33.f l=some (φ1I l):=by
 have hk:=φe (step:=ψ33.l0) (fun n (_:Unit)=>(l,φ3H (l.take n),(n:Int))) l.length (fun _ _=>φ3H l) (fun _ _=>True)
  (fun rec n s hn _ ih=>by
   rcases Nat.lt_or_ge n l.length with h | h
   ·have h1:=φ6v (l.take n)
    have h2:=φ39 l[n]
    rw[lT] at h1
    have ih:=ih () h trivial
    rw[List.take_succ_eq_append_getElem h,φCO] at ih
    simp only[ψ33.l0,oL,h,dT,cT,φD,φG,φ8 h,φ1g,φ6H,bS,φ1B (show (φ3H (l.take n)).length+(φ7 l[n]).length≤1000000000000000 by omega),φJ (show n+1<9223372036854775808 by omega),ih]
   ·have:n=l.length:=by omega
    subst this
    simp[ψ33.l0])
  (by omega) 0 () (Nat.zero_le _) trivial
 have hk:lp ψ33.l0 (l,[],0)=_:=hk
 have hl2:=φ6v l
 unfold ψ33.f φ1I
 rw[hk,bS,φBK _ (by omega),bS]
theorem φBd (l:List RecT) (hl:l.length<1000000000000):ψ13.f l=some (φ1I l):=by
 have hk:=φe (step:=ψ13.l0) (fun n (_:Unit)=>(φ3H (l.take n),l,(l.length:Int),(n:Int))) l.length (fun _ _=>φ3H l) (fun _ _=>True)
  (fun rec n s hn _ ih=>by
   rcases Nat.lt_or_ge n l.length with h | h
   ·have h1:=φ6v (l.take n)
    have h2:=φ39 l[n]
    rw[lT] at h1
    have ih:=ih () h trivial
    rw[List.take_succ_eq_append_getElem h,φCO] at ih
    simp only[ψ13.l0,oL,h,dT,cT,φD,φG,φ8 h,φ1g,φB9,bS,φ1B (show (φ3H (l.take n)).length+(φ7 l[n]).length≤1000000000000000 by omega),φJ (show n+1<9223372036854775808 by omega),ih]
   ·have:n=l.length:=by omega
    subst this
    simp[ψ13.l0])
  (by omega) 0 () (Nat.zero_le _) trivial
 have hk:lp ψ13.l0 ([],l,(l.length:Int),0)=_:=hk
 have hl2:=φ6v l
 unfold ψ13.f φ1I
 rw[hk,bS,φ9A _ (by omega),bS]
theorem φEV {a:Nat} (h:a<1000000000001):(a+1) * 64≤140737488355328:=by omega
def φQ (p:φg):RecT:=(4,p.2.2,p.1,p.2.1,0,0)
def φLw (r:RecT):Nat:=(frame (φ7 r)).length
def φEP (l:List RecT):Nat:=sumN φLw l
theorem φCS {α:Type} (f:α→Nat):∀(l:List α) (x:α),sumN f (l++[x])=sumN f l+f x
 | [],x=>by simp[sumN]
 | y::l,x=>by
  have:=φCS f l x
  simp only[List.cons_append,sumN,this];omega
def φb (l:List φg) (mark:Int):List RecT:=l.map φQ++[(5,mark,[],[],(l.length:Int),φ1I (l.map φQ))]
theorem φJw (l:List φg) (n:Nat) (h:n<l.length):(l.take (n+1)).map φQ=(l.take n).map φQ++[φQ l[n]]:=by
 rw[List.take_succ_eq_append_getElem h,mp];rfl
theorem φMZ (l:List φg) (mark:Int) (hl:l.length<1000000000):ψ1S.f l mark=some (φb l mark):=by
 have hk:=φe (step:=ψ1S.l0) (fun n (_:Unit)=>(l,mark,(l.take n).map φQ,l,(l.length:Int),(n:Int))) l.length (fun _ _=>(l,mark,l.map φQ)) (fun _ _=>True)
  (fun rec n s hn _ ih=>by
   rcases Nat.lt_or_ge n l.length with h | h
   ·have ih:=ih () h trivial
    rw[φJw l n h] at ih
    have hb:(((l.take n).map φQ).length+([φQ l[n]]:List RecT).length) * 64≤140737488355328:=by
     rw[lM,lT];exact φEV (by omega)
    have hb2:(((l.take n).map φQ).length+([(4,l[n].2.2,l[n].1,l[n].2.1,0,0)]:List RecT).length) * 64≤140737488355328:=hb
    have hkp:((4,l[n].2.2,l[n].1,l[n].2.1,0,0):RecT)=φQ l[n]:=rfl
    simp only[ψ1S.l0,oL,h,dT,cT,φD,φG,φ8 h,hkp,φJ (show n+1<9223372036854775808 by omega),ih]
    exact congrArg (fun b=>bif b then some (l,mark,l.map φQ) else none) (decide_eq_true hb2)
   ·have:n=l.length:=by omega
    subst this
    simp[ψ1S.l0])
  (by omega) 0 () (Nat.zero_le _) trivial
 have hk:lp ψ1S.l0 (l,mark,[],l,(l.length:Int),0)=_:=hk
 unfold ψ1S.f φb
 rw[hk,bS]
 have hb:((l.map φQ).length+([((5,mark,[],[],(l.length:Int),φ1I (l.map φQ)):RecT)]:List RecT).length) * 64≤140737488355328:=by
  rw[lM];exact φEV (by omega)
 simp only[φBd (l.map φQ) (by rw[lM];omega),bS,hb,dT,cT]
abbrev CurT:=List Int×Int×Int
def Cur (c:CurT):Prop:=0≤c.2.1∧c.1.length<2 ^ 60
theorem φ7W (x:Int):0≤bits (fun _ a b=>a &&& b) .i64 x 255∧bits (fun _ a b=>a &&& b) .i64 x 255≤255:=by
 have e:bits (fun _ a b=>a &&& b) .i64 x 255=IntKind.wrap .i64 ((BitVec.ofInt 64 x &&& BitVec.ofInt 64 255).toNat:Int):=rfl
 have h:(BitVec.ofInt 64 x &&& BitVec.ofInt 64 255).toNat≤255:=by
  rw[BitVec.toNat_and]
  exact Nat.le_trans Nat.and_le_right (by decide)
 rw[e,φAd (by omega)]
 omega
theorem φ6L {c:CurT} (h:Cur c):∃x c',ψ3e.f c=some (x,c')∧0≤x∧x≤255∧Cur c':=by
 obtain ⟨l,i,s⟩:=c
 obtain ⟨h1,h2⟩:=h
 simp only at h1 h2
 unfold ψ3e.f
 simp only
 generalize bits (fun _ a b=>a ^^^ b) .i64 _ _=y
 by_cases c:i<(l.length:Int)
 ·obtain ⟨j,rfl⟩:∃j:Nat,i=(j:Int):=⟨i.toNat,by omega⟩
  have c2:j<l.length:=by omega
  simp only[c,dT,cT,φD,c2]
  refine ⟨_,_,rfl,(φ7W _).1,(φ7W _).2,?_,h2⟩
  show 0≤w64 _
  rw[φE (by omega) (by omega)];omega
 ·simp only[c,dF,cF]
  exact ⟨_,_,rfl,(φ7W _).1,(φ7W _).2,h1,h2⟩
theorem φEE {x n:Int} (hx:0≤x) (hn:0<n):0≤Int.tmod x n∧Int.tmod x n<n:=by
 exact ⟨Int.tmod_nonneg n hx,Int.tmod_lt_of_pos x hn⟩
theorem φ3y {c:CurT} (h:Cur c) (n:Int):∃x c',ψ3d.f c n=some (x,c')∧0≤x∧(0<n→x<n)∧(n≤0→x=0)∧Cur c':=by
 unfold ψ3d.f
 by_cases c0:n≤0
 ·simp only[c0,dT,cT]
  exact ⟨0,c,rfl,Int.le_refl _,fun h=>by omega,fun _=>rfl,h⟩
 have hn:(n != 0)=true:=by simp;omega
 by_cases c1:n≤256
 ·obtain ⟨x,c',e,h1,h2,h3⟩:=φ6L h
  simp only[c0,c1,dT,dF,cT,cF,e,bS,hn]
  have:=φEE h1 (show 0<n by omega)
  exact ⟨_,_,rfl,this.1,fun _=>this.2,fun h=>h.elim,h3⟩
 ·obtain ⟨x,c1',e1,a1,b1,h1⟩:=φ6L h
  obtain ⟨y,c2',e2,a2,b2,h2⟩:=φ6L h1
  obtain ⟨z,c3',e3,a3,b3,h3⟩:=φ6L h2
  obtain ⟨w,c4',e4,a4,b4,h4⟩:=φ6L h3
  simp only[c0,c1,dF,cF,e1,e2,e3,e4,bS,hn,cT]
  rw[φE (n:=x * 16777216) (by omega) (by omega),φE (n:=y * 65536) (by omega) (by omega),φE (n:=z * 256) (by omega) (by omega),φE (n:=x * 16777216+y * 65536) (by omega) (by omega),φE (n:=x * 16777216+y * 65536+z * 256) (by omega) (by omega),φE (n:=x * 16777216+y * 65536+z * 256+w) (by omega) (by omega)]
  have:=φEE (x:=x * 16777216+y * 65536+z * 256+w) (n:=n) (by omega) (by omega)
  exact ⟨_,_,rfl,this.1,fun _=>this.2,fun h=>h.elim,h4⟩
theorem φEx {c:CurT} (h:Cur c) (n:Int):∃b c',ψ3h.f c n=some (b,c')∧Cur c':=by
 obtain ⟨x,c',e,_,_,_,h'⟩:=φ3y h n
 unfold ψ3h.f
 simp only[e,bS]
 exact ⟨_,_,rfl,h'⟩
theorem φEo {c:CurT} (h:Cur c) (l:List (List UInt8)) (hl:0<l.length):∃x c',ψ3i.f c l=some (x,c')∧x∈l∧Cur c':=by
 obtain ⟨x,c',e,h1,h2,_,h'⟩:=φ3y h (l.length:Int)
 have h2:=h2 (by omega)
 unfold ψ3i.f
 simp only[e,bS]
 obtain ⟨j,rfl⟩:∃j:Nat,x=(j:Int):=⟨x.toNat,by omega⟩
 have c2:j<l.length:=by omega
 simp only[φD,c2,dT,cT,φG,φ8 c2]
 exact ⟨_,_,rfl,gM c2,h'⟩
def φGh:List (List UInt8):=[[97],[98],[99],[107,101,121],[108,111,110,103,110,97,109,101]]
theorem φ9M {c:CurT} (h:Cur c):∃x c',ψ3r.f c=some (x,c')∧φ1T x=true∧Cur c':=by
 obtain ⟨x,c',e,hm,h'⟩:=φEo h φGh (by decide)
 unfold ψ3r.f
 have e:ψ3i.f c [[97],[98],[99],[107,101,121],[108,111,110,103,110,97,109,101]]=some (x,c'):=e
 simp only[e,bS]
 refine ⟨_,_,rfl,?_,h'⟩
 have:∀y∈φGh,φ1T y=true:=by decide
 exact this x hm
theorem φBE {A B σ:Type} {step:(A→Option B)→A→Option B} (st:Nat→σ→A) (Inv:Nat→σ→Prop) (Post:B→Prop)
  (hz:∀rec s,Inv 0 s→∃b,step rec (st 0 s)=some b∧Post b)
  (hs:∀rec n s,Inv (n+1) s→∃s',Inv n s'∧step rec (st (n+1) s)=rec (st n s')) (n:Nat) (s:σ) (hi:Inv n s) (hn:n<2 ^ 62):∃b,lp step (st n s)=some b∧Post b:=by
 have key:∀n f s,Inv n s→n<f→∃b,φ2h step f (st n s)=some b∧Post b:=by
  intro n
  induction n with
  | zero=>
   intro f s hi hf
   obtain ⟨f,rfl⟩:∃g,f=g+1:=⟨f - 1,by omega⟩
   exact hz _ s hi
  | succ n ih=>
   intro f s hi hf
   obtain ⟨f,rfl⟩:∃g,f=g+1:=⟨f - 1,by omega⟩
   obtain ⟨s',hi',e⟩:=hs (φ2h step f) n s hi
   show ∃b,step (φ2h step f) (st (n+1) s)=some b∧Post b
   rw[e]
   exact ih f s' hi' (by omega)
 exact key n FUEL s hi (Nat.lt_of_lt_of_le hn φ75)
theorem φ7T {A B:Type} {step:(A→Option B)→A→Option B} (P:A→Prop) (m:A→Nat) (Post:B→Prop)
  (h:∀rec a,P a→(∃b,step rec a=some b∧Post b)∨∃a',P a'∧m a'<m a∧step rec a=rec a') {a:A} (hp:P a) (hm:m a<2 ^ 62):∃b,lp step a=some b∧Post b:=by
 have key:∀f a,P a→m a<f→∃b,φ2h step f a=some b∧Post b:=by
  intro f
  induction f with
  | zero=>intro a _ hf;omega
  | succ f ih=>
   intro a hp hf
   rcases h (φ2h step f) a hp with hx | ⟨a',hp',hlt,e⟩
   ·exact hx
   ·show ∃b,step (φ2h step f) a=some b∧Post b
    rw[e]
    exact ih a' hp' (by omega)
 exact key FUEL a hp (Nat.lt_of_lt_of_le hm φ75)
theorem φIt {c:CurT} (h:Cur c) (most:Int) (h0:0≤most) (h1:most<1000000000):∃x c',ψ3k.f c most=some (x,c')∧(x.length:Int)≤most∧Cur c':=by
 obtain ⟨st,c1,e1,_,_,_,hc1⟩:=φ3y h 4
 obtain ⟨n,c2,e2,a2,b2,_,hc2⟩:=φ3y hc1 (most+1)
 have b2:=b2 (by omega)
 obtain ⟨m,rfl⟩:∃m:Nat,n=(m:Int):=⟨n.toNat,by omega⟩
 have key:=φBE (step:=ψ3k.l0) (fun k (s:CurT×List Int)=>(s.1,s.2,st,(k:Int))) (fun k s=>Cur s.1∧s.2.length+k=m) (fun b=>Cur b.1∧b.2.length=m)
  (fun rec s hi=>⟨_,by simp[ψ3k.l0],hi.1,by simpa using hi.2⟩)
  (fun rec k s hi=>by
   obtain ⟨hi1,hi2⟩:=hi
   obtain ⟨x,c',e,_,_,h'⟩:=φ6L hi1
   have e0:((k+1:Nat):Int) > 0:=by omega
   have hw:w64 (((k+1:Nat):Int) - 1)=(k:Int):=by rw[φE (by omega) (by omega)];omega
   have hb:∀v:Int,(s.2.length+[v].length) * 1≤140737488355328:=fun v=>by show (s.2.length+1) * 1≤_;omega
   cases d1:(st==1)<;>cases d2:(st==2)<;>simp only[ψ3k.l0,e0,dT,cT,cF,e,bS,d1,d2,hb,hw]
   all_goals exact ⟨(c',s.2++[_]),⟨h',by simp only[lA,List.length_singleton];omega⟩,rfl⟩)
  m (c2,[]) ⟨hc2,by simp⟩ (by omega)
 obtain ⟨⟨c3,xs⟩,e3,hc3,hl⟩:=key
 have e3:lp ψ3k.l0 (c2,[],st,(m:Int))=some (c3,xs):=e3
 unfold ψ3k.f
 rw[e1,bS]
 simp only[φE (n:=most+1) (by omega) (by omega),e2,bS,e3]
 refine ⟨_,_,rfl,?_,hc3⟩
 unfold φ1G
 simp only at hl
 rw[lM,hl];omega
theorem φHf (l:List Int) (hl:l.length<2 ^ 60):∃c,ψ3g.f l=some c∧Cur c:=by
 have key:∃s,lp ψ3g.l0 (l,w64 (10101+(l.length:Int)),0)=some (l,s):=by
  have:=φ7T (step:=ψ3g.l0) (a:=(l,w64 (10101+(l.length:Int)),((0:Nat):Int))) (fun a=>a.1=l∧∃n:Nat,a.2.2=(n:Int)∧n≤l.length) (fun a=>l.length - a.2.2.toNat) (fun b=>b.1=l)
   (fun rec a ha=>by
    obtain ⟨x,s,i⟩:=a
    obtain ⟨hx,n,hn,hle⟩:=ha
    simp only at hx hn
    subst hx hn
    by_cases c:n<x.length
    ·by_cases c2:(n:Int)<4000
     ·right
      have c3:(n:Int)<(x.length:Int):=by omega
      refine ⟨(x,bits (fun _ a b=>a &&& b) .i64 (w64 ((w64 ((w64 (s * 131))+(w64 (x.getD n 0))))+7)) 1073741823,((n+1:Nat):Int)),⟨rfl,n+1,rfl,c⟩,by simp only[tN];omega,?_⟩
      simp only[ψ3g.l0,c3,c2,dT,cT,φD,c,φG,φJ (show n+1<9223372036854775808 by omega)]
     ·left
      have c3:(n:Int)<(x.length:Int):=by omega
      exact ⟨(x,s),by simp only[ψ3g.l0,c3,c2,dT,dF,cT,cF],rfl⟩
    ·left
     have c3:¬(n:Int)<(x.length:Int):=by omega
     exact ⟨(x,s),by simp only[ψ3g.l0,c3,dF,cF],rfl⟩)
   ⟨rfl,0,rfl,Nat.zero_le _⟩ (by simp only;omega)
  obtain ⟨⟨b1,b2⟩,e,hb⟩:=this
  simp only at hb
  subst hb
  exact ⟨b2,e⟩
 obtain ⟨s,e⟩:=key
 unfold ψ3g.f
 simp only[e,bS]
 exact ⟨_,rfl,Int.le_refl _,hl⟩
abbrev φG3:=List UInt8×Int
def φ5l (t:TxnT) (key:List UInt8) (b:Int):TxnT×Int:=
 if t.1=false∨φ1T key=false then (t,4) else
 match t.2.1.find? (fun r=>r.1==key) with
 | some r=>if r.2=b then (t,0) else (t,7)
 | none=>if 20≤t.2.1.length then (t,5) else ((t.1,t.2.1++[(key,b)],t.2.2),0)
theorem φIG {a:Nat} (h:a<1000000000001):(a+1) * 24≤140737488355328:=by omega
theorem φM9 (t:TxnT) (key:List UInt8) (b:Int) (h1:t.2.1.length<1000000000) (h2:t.2.2.length<1000000000):ψ36.f t key b=some (φ5l t key b):=by
 unfold ψ36.f φ5l
 rw[φAv t (by omega) (by omega),bS]
 rcases bE t.1 with k | k
 rotate_left
 ·simp[k]
 simp only[k,nZ,cF,φ71,bS]
 rcases bE (φ1T key) with k2 | k2
 rotate_left
 ·simp[k2]
 have key':=φAE (step:=ψ36.l0) t.2.1 (fun r=>r.1==key) (fun r=>(t,if r.2=b then (0:Int) else 7)) (fun n=>(key,b,t,((false,[],[]):TxnT),t,(n:Int))) (key,b,t,(false,[],[]),t) (by omega)
  (fun rec n h=>by
   simp only[ψ36.l0,oL,h,dT,cT,φD,φG,φ8 h,φJ (show n+1<9223372036854775808 by omega)]
   rcases bE (t.2.1[n].1==key) with c | c
   ·by_cases c2:t.2.1[n].2=b
    ·have c3:(t.2.1[n].2 != b)=false:=by simpa using c2
     simp only[c,c3,cT,cF,if_true]
     rw[if_pos c2]
    ·have c3:(t.2.1[n].2 != b)=true:=by simpa using c2
     simp only[c,c2,c3,cT,if_true,if_false]
   ·simp only[c,cF,Bool.false_eq_true,if_false])
  (fun rec=>by simp[ψ36.l0])
 have key':lp ψ36.l0 (key,b,t,(false,[],[]),t,0)=_:=key'
 simp only[k2,nZ,cF,key',bS,Bool.true_eq_false,or_self,if_false]
 cases t.2.1.find? (fun r=>r.1==key) with
 | some r=>
  simp only[φd]
  split<;>rfl
 | none=>
  simp only[φX]
  by_cases c:20≤t.2.1.length
  ·have c2:(t.2.1.length:Int)≥20:=by omega
   simp only[c,c2,dT,cT,if_true]
  ·have c2:¬(t.2.1.length:Int)≥20:=by omega
   have hb:(t.2.1.length+([(key,b)]:List φG3).length) * 24≤140737488355328:=φIG (by omega)
   have hb:decide ((t.2.1.length+([(key,b)]:List φG3).length) * 24≤140737488355328)=true:=decide_eq_true hb
   simp only[c,c2,dF,cF,if_false,hb,cT,k]
theorem φJO {k:Nat} (hk:k<2 ^ 60):w64 (((k+1:Nat):Int) - 1)=(k:Int):=by rw[φE (by omega) (by omega)];omega
theorem φLx (l:List Int):ψ29.f l=some (decide ((l.length:Int) > 1048576)):=rfl
def srt {α:Type} (l:List (List UInt8×α)):Prop:=l.Pairwise (fun a b=>Op.bytesLess a.1 b.1=true)
theorem φ5v {α:Type} (x:List UInt8×α) (l:List (List UInt8×α)) (p:List UInt8×α):insB (x::l) p=if leK x.1 p.1=true then x::insB l p else p::x::l:=by
 cases h:leK x.1 p.1<;>simp[insB,h]
theorem φ3Y {α:Type} (y p:List UInt8×α):∀l:List (List UInt8×α),y∈insB l p↔y=p∨y∈l
 | []=>by simp[insB]
 | x::l=>by
  rw[φ5v]
  split
  ·rw[mc,φ3Y y p l,mc]
   constructor
   ·rintro (h | h | h)
    ·exact .inr (.inl h)
    ·exact .inl h
    ·exact .inr (.inr h)
   ·rintro (h | h | h)
    ·exact .inr (.inl h)
    ·exact .inl h
    ·exact .inr (.inr h)
  ·rw[mc]
theorem φ9f {α:Type} (p:List UInt8×α):∀l:List (List UInt8×α),srt l→(∀x∈l,x.1≠p.1)→srt (insB l p)
 | [],_,_=>by simp[insB,srt]
 | x::l,h,hn=>by
  have h:=List.pairwise_cons.1 h
  rw[φ5v]
  split
  ·rename_i c
   refine List.Pairwise.cons (fun y hy=>?_) (φ9f p l h.2 fun y hy=>hn y (mC _ hy))
   rcases (φ3Y y p l).1 hy with e | hy
   ·rw[e]
    unfold leK at c
    rcases Bool.or_eq_true _ _ ▸ c with c | c
    ·exact c
    ·exact absurd (by simpa using c) (hn x List.mem_cons_self)
   ·exact h.1 y hy
  ·rename_i c
   have c2:Op.bytesLess p.1 x.1=true:=by
    rw[φ7U] at c
    simpa using c
   refine List.Pairwise.cons (fun y hy=>?_) (List.Pairwise.cons h.1 h.2)
   rcases mc.1 hy with e | hy
   ·rw[e];exact c2
   ·exact φ6Z _ _ _ c2 (h.1 y hy)
theorem φD5 {α:Type} {l:List (List UInt8×α)} (h:srt l) (k:List UInt8):srt (φZ l k):=h.sublist List.filter_sublist
theorem φ6d {α:Type} (l:List (List UInt8×α)) (k:List UInt8) (y:List UInt8×α):y∈φZ l k↔y∈l∧y.1≠k:=by
 unfold φZ
 rw[List.mem_filter]
 simp
abbrev φS:=Int×List Int
def φ1X (hi:Int):Option Int→List Int→Bool
 | _,[]=>true
 | p,x::r=>decide (1≤x∧x≤hi) && ((match p with | none=>true | some q=>decide (q<x)) && φ1X hi (some x) r)
def φ6c (l:List Int):Nat→Option Int
 | 0=>none
 | n+1=>some (l.getD n 0)
theorem φ7g (l:List Int) (n:Nat) (h:n<l.length):φ6c l (n+1)=some l[n]:=by
 show some (l.getD n 0)=_
 rw[φ8 h]
def φm (v:φS):Bool:=φ1X (w64 (v.1 - 1)) none v.2 && (decide (1≤v.1∧v.1≤100000) && decide (1≤(v.2.length:Int)∧(v.2.length:Int)≤60))
theorem φJ9 (v:φS) (hl:v.2.length<2 ^ 62):lp ψW.l0 (v,v.2,(v.2.length:Int),0)=some (if φ1X (w64 (v.1 - 1)) none v.2=true then .inl v else .inr false):=by
 have key:=φe (step:=ψW.l0) (fun n (_:Unit)=>(v,v.2,(v.2.length:Int),(n:Int))) v.2.length (fun n _=>if φ1X (w64 (v.1 - 1)) (φ6c v.2 n) (v.2.drop n)=true then .inl v else .inr false) (fun _ _=>True)
  (fun rec n s hn' _ ih=>by
   rcases Nat.lt_or_ge n v.2.length with h | h
   ·have hw:w64 ((n:Int)+1)=((n+1:Nat):Int):=φJ (by omega)
    have ih2:=ih () h trivial
    rw[φ7g v.2 n h] at ih2
    rw[dG h]
    simp only[φ1X,ψW.l0,oL,h,dT,cT,φD,φG,φ8 h,bS,φ25]
    rcases bE (decide (1≤v.2[n]∧v.2[n]≤w64 (v.1 - 1))) with k2 | k2
    rotate_left
    ·simp only[k2,nF,cT,bS,φd];simp
    simp only[k2,nZ,cF,tA]
    cases n with
    | zero=>
     have z:¬((0:Nat):Int) > 0:=by omega
     simp only[z,dF,cF,bS,φX,hw,ih2,φ6c,tA]
    | succ m=>
     have z:((m+1:Nat):Int) > 0:=by omega
     have hm:m<v.2.length:=by omega
     have z2:w64 (((m+1:Nat):Int) - 1)=(m:Int):=by rw[φE (by omega) (by omega)];omega
     rw[φ7g v.2 m hm]
     simp only[z,dT,cT,z2,φD,hm,φG,φ8 hm]
     by_cases k3:v.2[m]<v.2[m+1]
     ·have k4:¬v.2[m]≥v.2[m+1]:=by omega
      simp only[k3,k4,dT,dF,cF,bS,φX,hw,ih2,tA]
     ·have k4:v.2[m]≥v.2[m+1]:=by omega
      simp[k3,k4]
   ·have:n=v.2.length:=by omega
    subst this
    simp[ψW.l0,φ1X])
  hl 0 () (Nat.zero_le _) trivial
 have key:lp ψW.l0 (v,v.2,(v.2.length:Int),0)=_:=key
 rw[key,List.drop_zero];rfl
theorem φH7 (v:φS) (hl:v.2.length<2 ^ 62):lp ψ2b.l0 (v,0)=some (if φ1X (w64 (v.1 - 1)) none v.2=true then .inl () else .inr false):=by
 have key:=φe (step:=ψ2b.l0) (fun n (_:Unit)=>(v,(n:Int))) v.2.length (fun n _=>if φ1X (w64 (v.1 - 1)) (φ6c v.2 n) (v.2.drop n)=true then .inl () else .inr false) (fun _ _=>True)
  (fun rec n s hn' _ ih=>by
   rcases Nat.lt_or_ge n v.2.length with h | h
   ·have hw:w64 ((n:Int)+1)=((n+1:Nat):Int):=φJ (by omega)
    have ih2:=ih () h trivial
    rw[φ7g v.2 n h] at ih2
    rw[dG h]
    simp only[φ1X,ψ2b.l0,oL,h,dT,cT,φD,φG,φ8 h,bS,φ1r]
    rcases bE (decide (1≤v.2[n]∧v.2[n]≤w64 (v.1 - 1))) with k2 | k2
    rotate_left
    ·simp only[k2,nF,cT,bS,φd];simp
    simp only[k2,nZ,cF,tA]
    cases n with
    | zero=>
     have z:¬((0:Nat):Int) > 0:=by omega
     simp only[z,dF,cF,bS,φX,hw,ih2,φ6c,tA]
    | succ m=>
     have z:((m+1:Nat):Int) > 0:=by omega
     have hm:m<v.2.length:=by omega
     have z2:w64 (((m+1:Nat):Int) - 1)=(m:Int):=by rw[φE (by omega) (by omega)];omega
     rw[φ7g v.2 m hm]
     simp only[z,dT,cT,z2,φD,hm,φG,φ8 hm]
     by_cases k3:v.2[m]<v.2[m+1]
     ·have k4:¬v.2[m+1]≤v.2[m]:=by omega
      simp only[k3,k4,dT,dF,cF,bS,φX,hw,ih2,tA]
     ·have k4:v.2[m+1]≤v.2[m]:=by omega
      simp[k3,k4]
   ·have:n=v.2.length:=by omega
    subst this
    simp[ψ2b.l0,φ1X])
  hl 0 () (Nat.zero_le _) trivial
 have key:lp ψ2b.l0 (v,0)=_:=key
 rw[key,List.drop_zero];rfl
theorem φFZ (v:φS) (hl:v.2.length<2 ^ 62):ψW.f v=some (φm v):=by
 unfold ψW.f φm
 rw[φJ9 v hl,bS]
 rcases bE (φ1X (w64 (v.1 - 1)) none v.2) with k | k
 rotate_left
 ·simp[k]
 simp only[k,if_true,φX,φ25,bS,tA]
 cases decide (1≤v.1∧v.1≤100000)<;>rfl
theorem φ8j (v:φS) (hl:v.2.length<2 ^ 62):ψ2b.f v=some (φm v):=by
 unfold ψ2b.f φm
 rw[φH7 v hl]
 simp only[φ1r,bS]
 rcases bE (decide (1≤v.1∧v.1≤100000)) with k | k
 rotate_left
 ·simp only[k,nF,cT,Bool.false_and,Bool.and_false]
 rcases bE (decide (1≤(v.2.length:Int)∧(v.2.length:Int)≤60)) with k2 | k2
 rotate_left
 ·simp only[k,k2,nF,nZ,cF,cT,Bool.and_false]
 simp only[k,k2,nZ,cF,Bool.and_true]
 cases φ1X (w64 (v.1 - 1)) none v.2<;>simp
theorem φ62 {v:φS} (h:φm v=true):v.2.length≤60:=by
 unfold φm at h
 simp only[bA,decide_eq_true_eq] at h
 omega
theorem φAV:∀l:List Int,((l.map varT).flatten).length≤7 * l.length
 | []=>by simp
 | x::l=>by
  have h1:=φAV l
  have h2:=φk x
  rw[List.map_cons,List.flatten_cons,lA,lC];omega
def φ10 (v:φS):List UInt8:=if φm v=false then [] else frame (varT v.1++varT (v.2.length:Int)++(v.2.map varT).flatten)
theorem φAg (v:φS):(φ10 v).length≤211:=by
 unfold φ10;split
 ·simp
 ·exact φ4x _
theorem φMo (v:φS) (hl:v.2.length<2 ^ 62):ψv.f v=some (φ10 v):=by
 unfold ψv.f φ10
 rw[φFZ v hl,bS]
 rcases bE (φm v) with k | k
 rotate_left
 ·simp[k]
 have h60:=φ62 k
 have h1:=φAV v.2
 have h2:=φk v.1
 have h3:=φk (v.2.length:Int)
 have hv:ψ1p.f [v.1,(v.2.length:Int)]=some (varT v.1++varT (v.2.length:Int)):=by rw[φ7J [v.1,(v.2.length:Int)] (by show 2<1000000000000;decide)];simp
 simp only[k,nZ,cF,hv,bS,φ7J v.2 (by omega),φ1B (show (varT v.1++varT (v.2.length:Int)).length+((v.2.map varT).flatten).length≤1000000000000000 by rw[lA];omega),cT,φ8M _ (show (varT v.1++varT (v.2.length:Int)++(v.2.map varT).flatten).length<2 ^ 62 by rw[lA,lA];omega),Bool.true_eq_false,if_false]
theorem φA4 (v:φS) (hl:v.2.length<2 ^ 62):ψ30.f v=some (φ10 v):=by
 unfold ψ30.f φ10
 rw[φ8j v hl,bS]
 rcases bE (φm v) with k | k
 rotate_left
 ·simp[k]
 have h60:=φ62 k
 have h1:=φAV v.2
 have h2:=φk v.1
 have h3:=φk (v.2.length:Int)
 have key:=φe (step:=ψ30.l0) (fun n (acc:List UInt8)=>(v,acc,(n:Int))) v.2.length (fun n acc=>acc++((v.2.drop n).map varT).flatten) (fun n acc=>acc.length≤14+7 * n)
  (fun rec n acc hn ha ih=>by
   rcases Nat.lt_or_ge n v.2.length with h | h
   ·have hv:=φk v.2[n]
    have hb:acc.length+(varT v.2[n]).length≤9223372036854775807:=by omega
    have ih:=ih (acc++varT v.2[n]) h (by rw[lA];omega)
    simp only[ψ30.l0,oL,h,dT,cT,φD,φG,φ8 h,φ4m,bS,hb,φJ (show n+1<9223372036854775808 by omega),ih]
    rw[dG h,List.map_cons,List.flatten_cons,aA]
   ·have:n=v.2.length:=by omega
    subst this
    simp[ψ30.l0])
  (by omega) 0 (varT v.1++varT (v.2.length:Int)) (Nat.zero_le _) (by rw[lA];omega)
 have key:lp ψ30.l0 (v,varT v.1++varT (v.2.length:Int),0)=_:=key
 simp only[k,nZ,cF,φ4m,bS,φ1B (show (varT v.1).length+(varT (v.2.length:Int)).length≤1000000000000000 by omega),cT,key,List.drop_zero,φ7E _ (show (varT v.1++varT (v.2.length:Int)++(v.2.map varT).flatten).length<2 ^ 62 by rw[lA,lA];omega),Bool.true_eq_false,if_false]
def dl (k:Nat) (d:φ1):Prop:=d.1.length<k∧φO d.1<k∧∀f∈d.1,f.1.length<k
theorem φ1J {k:Nat} {d:φ1} (h:dl k d) (hk:k≤1000000000):dlim d:=⟨by have:=h.1;omega,by have:=h.2.1;omega,fun f hf=>by have:=h.2.2 f hf;omega⟩
theorem φ3T {k m:Nat} {d:φ1} (h:dl k d) (hk:k≤m):dl m d:=⟨by have:=h.1;omega,by have:=h.2.1;omega,fun f hf=>by have:=h.2.2 f hf;omega⟩
theorem φ8Z {k m:Nat} {d:φ1} {act:List φ6→Int×List φ6} (h:dl k d) (hm:k≤m) (ha:dl m ((act d.1).2,d.2)):dl m (φW d act).1:=by
 unfold φW
 split
 ·exact φ3T h hm
 ·split
  ·exact φ3T h hm
  ·exact ha
theorem φ70 {α:Type} (f:α→Nat) {a b:List α} (h:a.Sublist b):sumN f a≤sumN f b:=by
 induction h with
 | slnil=>exact Nat.le_refl _
 | cons x _ ih=>simp only[sumN];omega
 | cons_cons x _ ih=>simp only[sumN];omega
theorem φGr {k:Nat} {d:φ1} {l:List φ6} (h:dl k d) (hs:l.Sublist d.1):dl k (l,d.2):=
 ⟨Nat.lt_of_le_of_lt hs.length_le h.1,Nat.lt_of_le_of_lt (φ70 _ hs) h.2.1,fun f hf=>h.2.2 f (hs.subset hf)⟩
def φ20 (n:List UInt8) (d:φ1):φ1×Int:=φW d (φ2X n)
def φa (n:List UInt8) (d:φ1):φ1×Int:=φW d (φ2o n)
def φU (n t:List UInt8) (d:φ1):φ1×Int:=φW d (φ2f d.2.1 n t)
def φN (n:List UInt8) (d:φ1):φ1×Int:=φW d (φ2a n)
def φ3B (a b:List UInt8) (d:φ1):φ1×Int:=φW d (φ2n a b)
theorem φGq {k:Nat} {d:φ1} (h:dl k d) (n:List UInt8):dl k (φ20 n d).1:=
 φ8Z h (Nat.le_refl _) (by
  unfold φ2X
  split
  ·exact φGr h (φ5M _ _)
  ·exact h)
theorem φMR {k m:Nat} {d:φ1} (h:dl k d) (f:φ6) (h1:k+1≤m) (h2:k+f.2.1.length≤m) (h3:f.1.length<m):dl m (insB d.1 f,d.2):=by
 refine ⟨?_,?_,fun g hg=>?_⟩
 ·show (insB d.1 f).length<m
  rw[φ6T];have:=h.1;omega
 ·show φO (insB d.1 f)<m
  have e:φO (insB d.1 f)=φO d.1+f.2.1.length:=by
   unfold φO
   generalize d.1=l
   induction l with
   | nil=>simp[insB,sumN]
   | cons x l ih=>
    rw[φ5v]
    split
    ·simp only[sumN,ih];omega
    ·simp only[sumN];omega
  rw[e];have:=h.2.1;omega
 ·rcases (φ3Y g f d.1).1 hg with e | hg
  ·rw[e];exact h3
  ·have:=h.2.2 g hg;omega
theorem φ83 {k m:Nat} {d:φ1} (h:dl k d) (n:List UInt8) (h1:k+1≤m) (h3:n.length<m):dl m (φa n d).1:=
 φ8Z h (by omega) (by
  unfold φ2o
  split
  ·exact φ3T h (by omega)
  split
  ·exact φ3T h (by omega)
  split
  ·exact φ3T h (by omega)
  ·exact φMR h _ h1 (by simp;omega) h3)
theorem φM7 (l:List φ6) (i:Nat) (f:φ6) (k:Nat) (hi:i<l.length) (hf:f.2.1.length≤l[i].2.1.length+k):φO (l.set i f)≤φO l+k:=by
 unfold φO
 induction l generalizing i with
 | nil=>simp at hi
 | cons x l ih=>
  cases i with
  | zero=>
   simp only[List.set_cons_zero,sumN]
   simp only[List.getElem_cons_zero] at hf
   omega
  | succ i=>
   simp only[List.set_cons_succ,sumN]
   have:=ih i (by simpa using hi) (by simpa using hf)
   omega
theorem φFB {k m c:Nat} {d:φ1} (h:dl k d) (i:Nat) (f:φ6) (hi:i<d.1.length) (hn:f.1=(d.1[i]).1) (hf:f.2.1.length≤d.1[i].2.1.length+c) (hm:k+c≤m):dl m (d.1.set i f,d.2):=by
 refine ⟨?_,?_,fun g hg=>?_⟩
 ·show (d.1.set i f).length<m
  rw[List.length_set];have:=h.1;omega
 ·show φO (d.1.set i f)<m
  have:=φM7 d.1 i f c hi hf
  have:=h.2.1;omega
 ·rcases List.mem_or_eq_of_mem_set hg with hg | e
  ·have:=h.2.2 g hg;omega
  ·rw[e,hn];have:=h.2.2 _ (gM hi);omega
theorem φ7h {k m:Nat} {d:φ1} (h:dl k d) (n t:List UInt8) (h1:k+t.length≤m):dl m (φU n t d).1:=
 φ8Z h (by omega) (by
  unfold φ2f
  rcases φz d.1 n with ⟨e,_⟩ | ⟨i,hi,e,_⟩
  ·rw[φ19 e];exact φ3T h (by omega)
  ·rw[φ16 e]
   simp only
   split
   ·exact φ3T h (by omega)
   ·rw[φ8 hi]
    exact φFB h i _ hi rfl (by simp) h1)
theorem φFi {k:Nat} {d:φ1} (h:dl k d) (n:List UInt8):dl k (φN n d).1:=
 φ8Z h (Nat.le_refl _) (by
  unfold φ2a
  rcases φz d.1 n with ⟨e,_⟩ | ⟨i,hi,e,_⟩
  ·rw[φ19 e];exact h
  ·rw[φ16 e]
   simp only
   rw[φ8 hi]
   exact φFB (c:=0) h i _ hi rfl (by simp) (Nat.le_refl _))
theorem φFH (l:List φ6) (n:List UInt8):(φ1h l n).Sublist l:=by
 unfold φ1h;split
 ·exact φ5M _ _
 ·exact List.Sublist.refl _
abbrev φH:=φ1×Int
def told (c:Int):Int:=if c=0 then 0 else if c=1 then 1 else if c=2 then 2 else 3
theorem φ1L (c:Int):told c=0↔c=0:=by
 unfold told;split
 ·simp[*]
 ·split
  ·simp[*]
  ·split
   ·simp[*]
   ·simp[*]
theorem φCK (c:Int):ψ1m.f c=some (told c):=by
 unfold ψ1m.f told
 by_cases h0:c=0
 ·simp[h0]
 ·by_cases h1:c=1
  ·simp[h1]
  ·by_cases h2:c=2
   ·simp[h2]
   ·have b0:(c==0)=false:=by simpa using h0
    have b1:(c==1)=false:=by simpa using h1
    have b2:(c==2)=false:=by simpa using h2
    rw[b0,b1,b2];simp[h0,h1,h2]
theorem φ2S (c:Int):ψ3E.f c=some (told c):=φCK c
def φI (op:φ1→φ1×Int) (w:φH):φH:=if w.2=0 then op w.1 else w
def φ18 (op:φ1→φ1×Int) (w:φH):φH:=if w.2=0 then ((op w.1).1,told (op w.1).2) else w
def φC (w:φH):φH:=(w.1,told w.2)
theorem φ3C (op:φ1→φ1×Int) (w:φH):φ18 op (φC w)=φC (φI op w):=by
 unfold φ18 φI φC
 by_cases h:w.2=0
 ·have h2:told w.2=0:=(φ1L _).2 h
  simp only[h2,if_true]
  rw[if_pos h]
 ·have h2:¬told w.2=0:=fun e=>h ((φ1L _).1 e)
  simp[h,h2]
def φF (n:List UInt8) (d:φ1):φ1×Int:=if φ1b d.1 n≥0 then φ20 n d else (d,0)
theorem φ7c {k:Nat} {d:φ1} (h:dl k d) (n:List UInt8):dl k (φF n d).1:=by
 unfold φF;split
 ·exact φGq h n
 ·exact h
theorem φ6A {k m:Nat} {w:φH} {op:φ1→φ1×Int} (h:dl k w.1) (hm:k≤m) (ho:dl m (op w.1).1):dl m (φI op w).1:=by
 unfold φI;split
 ·exact ho
 ·exact φ3T h hm
theorem φ5a {k m:Nat} {w:φH} {op:φ1→φ1×Int} (h:dl k w.1) (hm:k≤m) (ho:dl m (op w.1).1):dl m (φ18 op w).1:=by
 unfold φ18;split
 ·exact ho
 ·exact φ3T h hm
theorem φ6a (w:φH) (d:φ1) (c:Int):ψ24.f w d c=some (d,told c):=by
 unfold ψ24.f;rw[φCK];rfl
theorem φ5R (w:φH) (n:List UInt8) {k:Nat} (h:dl k w.1) (hk:k≤1000000000):ψ1w.f w n=some (φ18 (φF n) w):=by
 have hd:=φ1J h hk
 unfold ψ1w.f φ18 φF
 by_cases c:w.2=0
 ·have c1:(w.2==0)=true:=by simpa using c
  simp only[c1,cT,φ4r w.1 n (by have:=hd.1;omega),bS,φKJ w.1 n hd,φ6a]
  by_cases c2:φ1b w.1.1 n≥0
  ·simp only[c2,dT,cT,c,if_true];rfl
  ·simp only[c2,dF,cF,c,if_true,if_false]
   congr 1
   show w=(w.1,told 0)
   rw[show told 0=w.2 by rw[c];rfl]
 ·have c1:(w.2==0)=false:=by simpa using c
  simp[c,c1]
theorem φ9r (w:φH) (n:List UInt8) {k:Nat} (h:dl k w.1) (hk:k≤1000000000) (hn:n.length<2 ^ 62):ψ1s.f w n=some (φ18 (φa n) w):=by
 have hd:=φ1J h hk
 unfold ψ1s.f φ18
 by_cases c:w.2=0
 ·have c1:(w.2==0)=true:=by simpa using c
  simp only[c1,cT,φHa w.1 n hd hn,bS,φ6a,c,if_true];rfl
 ·have c1:(w.2==0)=false:=by simpa using c
  simp[c,c1]
theorem φBG (w:φH) (n t:List UInt8) {k:Nat} (h:dl k w.1) (hk:k≤1000000000) (ht:t.length<1000000000000):ψ1z.f w n t=some (φ18 (φU n t) w):=by
 have hd:=φ1J h hk
 unfold ψ1z.f φ18
 by_cases c:w.2=0
 ·have c1:(w.2==0)=true:=by simpa using c
  simp only[c1,cT,φKt w.1 n t hd ht,bS,φ6a,c,if_true];rfl
 ·have c1:(w.2==0)=false:=by simpa using c
  simp[c,c1]
theorem φ86 (w:φH) (n:List UInt8) {k:Nat} (h:dl k w.1) (hk:k≤1000000000):ψ23.f w n=some (φ18 (φN n) w):=by
 have hd:=φ1J h hk
 unfold ψ23.f φ18
 by_cases c:w.2=0
 ·have c1:(w.2==0)=true:=by simpa using c
  simp only[c1,cT,φKW w.1 n hd,bS,φ6a,c,if_true];rfl
 ·have c1:(w.2==0)=false:=by simpa using c
  simp[c,c1]
theorem φHu (w:φH) (a b:List UInt8) {k:Nat} (h:dl k w.1) (hk:k≤1000000000) (hb:b.length<2 ^ 62):ψ21.f w a b=some (φ18 (φ3B a b) w):=by
 have hd:=φ1J h hk
 unfold ψ21.f φ18
 by_cases c:w.2=0
 ·have c1:(w.2==0)=true:=by simpa using c
  simp only[c1,cT,φIU w.1 a b hd hb,bS,φ6a,c,if_true];rfl
 ·have c1:(w.2==0)=false:=by simpa using c
  simp[c,c1]
def φ1f (n t:List UInt8) (w:φH):φH:=φI (φN n) (φI (φU n t) (φI (φa n) (φI (φF n) w)))
def φ6B (n t:List UInt8) (w:φH):φH:=φ18 (φN n) (φ18 (φU n t) (φ18 (φa n) (φ18 (φF n) w)))
theorem φDB (n t:List UInt8) (w:φH):φ6B n t (φC w)=φC (φ1f n t w):=by
 unfold φ6B φ1f
 rw[φ3C,φ3C,φ3C,φ3C]
theorem φMS {k m:Nat} {w:φH} (h:dl k w.1) (n t:List UInt8) (h1:k+1+n.length+t.length≤m):dl m (φ6B n t w).1:=by
 have g1:=φ5a (op:=φF n) h (Nat.le_refl _) (φ7c h n)
 have g2:=φ5a (op:=φa n) (m:=k+1+n.length) g1 (by omega) (φ83 g1 n (by omega) (by omega))
 have g3:=φ5a (op:=φU n t) (m:=m) g2 (by omega) (φ7h g2 n t (by omega))
 exact φ5a (op:=φN n) g3 (Nat.le_refl _) (φFi g3 n)
theorem φHD {k m:Nat} {w:φH} (h:dl k w.1) (n t:List UInt8) (h1:k+1+n.length+t.length≤m):dl m (φ1f n t w).1:=by
 have g1:=φ6A (op:=φF n) h (Nat.le_refl _) (φ7c h n)
 have g2:=φ6A (op:=φa n) (m:=k+1+n.length) g1 (by omega) (φ83 g1 n (by omega) (by omega))
 have g3:=φ6A (op:=φU n t) (m:=m) g2 (by omega) (φ7h g2 n t (by omega))
 exact φ6A (op:=φN n) g3 (Nat.le_refl _) (φFi g3 n)
theorem φDi (w:φH) (n t:List UInt8) {k:Nat} (h:dl k w.1) (hk:k+1+n.length+t.length≤1000000000):ψ1t.f w n t=some (φ6B n t w):=by
 have g1:=φ5a (op:=φF n) h (Nat.le_refl _) (φ7c h n)
 have g2:=φ5a (op:=φa n) (m:=k+1+n.length) g1 (by omega) (φ83 g1 n (by omega) (by omega))
 have g3:=φ5a (op:=φU n t) (m:=k+1+n.length+t.length) g2 (by omega) (φ7h g2 n t (by omega))
 unfold ψ1t.f ψ1q.f φ6B
 simp only[φ5R w n h (by omega),bS,φ9r _ n g1 (by omega) (by omega),φBG _ n t g2 (by omega) (by omega),φ86 _ n g3 (by omega)]
theorem φ2E {op:φ1→φ1×Int} {d:φ1} {c:Int} (h:c≠0):φI op (d,c)=(d,c):=by
 unfold φI;simp[h]
theorem φ1v {op:φ1→φ1×Int} {d:φ1}:φI op (d,0)=op d:=by
 unfold φI;simp
theorem φBN (d:φ1) (n:List UInt8) {k:Nat} (h:dl k d) (hk:k≤1000000000) (hn:n.length<2 ^ 62):ψ3H.f d n=some (φI (φa n) (φF n d)):=by
 have hd:=φ1J h hk
 unfold ψ3H.f
 rw[φ4B d n (by have:=hd.1;omega),bS]
 by_cases c2:φ1b d.1 n≥0
 ·have e:φF n d=φ20 n d:=by unfold φF;simp[c2]
  have g:=φGq h n
  rw[e]
  have er:ψ2t.f d n=some (φ20 n d):=φ9V d n hd
  simp only[c2,dT,cT,er,bS]
  generalize φ20 n d=r at *
  obtain ⟨x,c⟩:=r
  by_cases c3:c=0
  ·have c4:(c != 0)=false:=by simpa using c3
   subst c3
   rw[φ1v]
   simp only[c4,cF,bS,φX,φ99 x n (φ1J g hk) hn];rfl
  ·have c4:(c != 0)=true:=by simpa using c3
   rw[φ2E c3]
   simp only[c4,cT,bS,φd]
 ·have e:φF n d=(d,0):=by unfold φF;simp[c2]
  rw[e,φ1v]
  simp only[c2,dF,cF,bS,φX,φ99 d n hd hn];rfl
theorem φEI (d:φ1) (n t:List UInt8) {k:Nat} (h:dl k d) (hk:k+1+n.length+t.length≤1000000000):ψ3F.f d n t=some (φ1f n t (d,0)):=by
 have g1:=φ7c h n
 have g2:dl (k+1+n.length) (φI (φa n) (φF n d)).1:=φ6A (op:=φa n) g1 (by omega) (φ83 g1 n (by omega) (by omega))
 have g3:=φ6A (op:=φU n t) (m:=k+1+n.length+t.length) g2 (by omega) (φ7h g2 n t (by omega))
 unfold ψ3F.f φ1f
 rw[φBN d n h (by omega) (by omega),bS,φ1v]
 generalize φI (φa n) (φF n d)=r at *
 obtain ⟨x,c⟩:=r
 have e2:(bif c==0 then (ψ2A.f x n t).bind fun (t2_0,t2_1)=>some (n,(([],0,0,false):φ1),t2_0,t2_1) else some (n,([],0,0,false),x,c))=some (n,([],0,0,false),(φI (φU n t) (x,c)).1,(φI (φU n t) (x,c)).2):=by
  by_cases c0:c=0
  ·subst c0
   rw[φ1v]
   simp only[show ((0:Int)==0)=true from rfl,cT,φ8m x n t (φ1J g2 (by omega)) (by omega),bS];rfl
  ·have c1:(c==0)=false:=by simpa using c0
   rw[φ2E c0,c1];rfl
 simp only[e2,bS]
 generalize φI (φU n t) (x,c)=r at *
 obtain ⟨x,c⟩:=r
 by_cases c0:c=0
 ·subst c0
  rw[φ1v]
  simp only[show ((0:Int)==0)=true from rfl,cT,φ6w x n (φ1J g3 (by omega)),bS];rfl
 ·have c1:(c==0)=false:=by simpa using c0
  rw[φ2E c0]
  simp only[c1,cF]
def sPut (v:φS) (w:φH):φH:=φI (φ3B [116,101,109,112] [108,105,118,101]) (φ1f [116,101,109,112] (φ10 v) w)
def wPut (v:φS) (w:φH):φH:=φ18 (φ3B [116,101,109,112] [108,105,118,101]) (φ6B [116,101,109,112] (φ10 v) w)
theorem φDv (v:φS) (w:φH):wPut v (φC w)=φC (sPut v w):=by
 unfold wPut sPut
 rw[φDB,φ3C]
theorem φCF (w:φH) (v:φS) {k:Nat} (h:dl k w.1) (hk:k+1000≤1000000000) (hl:v.2.length<2 ^ 62):ψ20.f w v=some (wPut v w):=by
 have h1:=φAg v
 have g:=φMS h [116,101,109,112] (φ10 v) (m:=k+1000) (by show k+1+4+_≤_;omega)
 unfold ψ20.f wPut
 simp only[φMo v hl,bS,φDi w [116,101,109,112] (φ10 v) h (show k+1+4+(φ10 v).length≤1000000000 by omega),φHu _ [116,101,109,112] [108,105,118,101] g hk (by show 4<2 ^ 62;decide)]
def φ6m (d:φ1) (v:φS):φ1×Int:=if φ5 d=false∨φm v=false then (d,4) else φC (sPut v (d,0))
theorem φBk (d:φ1) (v:φS) {k:Nat} (h:dl k d) (hk:k+1000≤1000000000) (hl:v.2.length<2 ^ 62):ψ2i.f d v=some (φ6m d v):=by
 have hd:=φ1J h (by omega)
 have h1:=φAg v
 unfold ψ2i.f φ6m
 rw[φ5y d hd,bS]
 rcases bE (φ5 d) with k1 | k1
 rotate_left
 ·simp[k1,φ4y d (by have:=hd.1;omega)]
 rcases bE (φm v) with k2 | k2
 rotate_left
 ·simp[k1,k2,φ8j v hl,φ4y d (by have:=hd.1;omega)]
 have g:=φHD (w:=(d,0)) h [116,101,109,112] (φ10 v) (m:=k+1000) (by show k+1+4+_≤_;omega)
 simp only[k1,k2,nZ,cF,φ8j v hl,φA4 v hl,bS,φEI d [116,101,109,112] (φ10 v) h (show k+1+4+(φ10 v).length≤1000000000 by omega),Bool.true_eq_false,or_self,if_false]
 unfold sPut
 generalize φ1f [116,101,109,112] (φ10 v) (d,0)=r at *
 obtain ⟨x,c⟩:=r
 by_cases c0:c=0
 ·subst c0
  rw[φ1v]
  simp only[show ((0:Int)==0)=true from rfl,cT,φK6 x [116,101,109,112] [108,105,118,101] (φ1J g hk) (show 4<2 ^ 62 by decide),bS,φ2S];rfl
 ·have c1:(c==0)=false:=by simpa using c0
  rw[φ2E c0]
  simp only[c1,cF,bS,φ2S];rfl
abbrev φA:=φS×List φ9×Int×Int×Int
theorem φ9e (n:Nat):Lib.itoa (n:Int)=Lib.decDigits n:=by
 unfold Lib.itoa
 rw[if_neg (by omega),tN]
theorem φ4v:∀(k n:Nat),n<10 ^ (k+1)→(Lib.decDigits n).length≤k+1
 | 0,n,h=>by rw[Lib.decDigits,dif_pos (by simpa using h)];simp
 | k+1,n,h=>by
  rw[Lib.decDigits]
  split
  ·simp
  ·have:=φ4v k (n / 10) (by rw[Nat.div_lt_iff_lt_mul (by omega)];rw[Nat.pow_succ] at h;exact h)
   simp only[lA,List.length_singleton];omega
def digs (n:Nat):List UInt8:=if n=0 then [] else Lib.decDigits n
theorem φ4X {n:Nat} (h:n≠0):digs n=digs (n / 10)++[UInt8.ofNat (48+n % 10)]:=by
 unfold digs
 rw[if_neg h,Lib.decDigits]
 split
 ·rename_i h2
  rw[if_pos (by omega),Nat.mod_eq_of_lt h2];rfl
 ·rename_i h2
  rw[if_neg (by omega)]
theorem φAn (n:Nat) (hn:n<1000000000000000000):ψ2E.f (n:Int)=some (Lib.decDigits n):=by
 unfold ψ2E.f
 by_cases c:n=0
 ·subst c
  rw[Lib.decDigits];rfl
 have c1:((n:Int)==0)=false:=by simpa using c
 have c2:decide ((n:Int)<0)=false:=dnn (by omega)
 have key:=φ5g (step:=ψ2E.l0) (a:=((n:Int),([]:List UInt8),false)) (fun a=>(digs a.1.toNat++a.2.1,false)) (fun a=>0≤a.1∧a.2.2=false∧a.2.1.length+a.1.toNat≤n) (fun a=>a.1.toNat)
  (fun rec a ha ih=>by
   obtain ⟨x,s,f⟩:=a
   obtain ⟨h0,hf,hl⟩:=ha
   simp only at hf hl h0 ih ⊢
   subst hf
   obtain ⟨m,rfl⟩:∃m:Nat,x=(m:Int):=⟨x.toNat,by omega⟩
   simp only[tN] at hl ih ⊢
   by_cases d:m=0
   ·subst d
    simp[ψ2E.l0,digs]
   ·have d1:((m:Int) != 0)=true:=by simpa using d
    have e1:Int.tmod (m:Int) 10=((m % 10:Nat):Int):=rfl
    have e2:w64 (Int.tdiv (m:Int) 10)=((m / 10:Nat):Int):=by
     rw[show Int.tdiv (m:Int) 10=((m / 10:Nat):Int) from rfl];exact φ3M (by omega)
    have e3:decide (((m % 10:Nat):Int)<0)=false:=dnn (by omega)
    have e4:φ1G [IntKind.wrap .u8 (w64 (48+((m % 10:Nat):Int)))]=[UInt8.ofNat (48+m % 10)]:=by
     have e:w64 (48+((m % 10:Nat):Int))=((48+m % 10:Nat):Int):=by rw[φE (by omega) (by omega)];omega
     rw[e]
     unfold φ1G
     simp only[List.map_cons,List.map_nil,φ5z]
    have hb:([UInt8.ofNat (48+m % 10)]:List UInt8).length+s.length≤9223372036854775807:=by show 1+_≤_;omega
    have ih:=ih (((m / 10:Nat):Int),[UInt8.ofNat (48+m % 10)]++s,false) ⟨by simp only;omega,rfl,by simp only[lA,List.length_singleton,tN];omega⟩ (by simp only[tN];omega)
    simp only[tN] at ih
    simp only[ψ2E.l0,d1,cT,e1,e2,e3,cF,bS,e4,hb,dT,ih]
    rw[φ4X d,aA])
  ⟨by simp only;omega,rfl,by simp⟩ (by simp only[tN];omega)
 simp only[c1,c2,cF,key,bS,tN]
 unfold digs
 simp[c]
end Go.Rf.G
