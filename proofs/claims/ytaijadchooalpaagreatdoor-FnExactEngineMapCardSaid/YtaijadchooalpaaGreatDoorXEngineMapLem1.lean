import Derived.Test.YtaijadchooalpaaGreatDoorRf5
import Derived.Test.YtaijadchooalpaaGreatDoorXEngineMapFns
open Option renaming bind_some→bS
open List renaming length_append→lA,append_assoc→aA,mem_cons_of_mem→mC,mem_append→mA,mem_append_right→mR,mem_append_left→mL,mem_cons→mc,drop_eq_getElem_cons→dG,length_take→lT,length_drop→lD,mem_map→mM,length_map→lM,length_cons→lC,length_nil→lN,getElem_mem→gM,map_append→mp,mem_singleton→mZ,append_nil→κ3,nodup_append→κ4,mem_cons_self→κ5,take_append_drop→κ7,take_succ_eq_append_getElem→κ8,flatMap_append→κ9,map_cons→κC,nodup_cons→κE,range'→κF,cons_append→κH,replicate→κI
open Bool renaming and_eq_true→bA,eq_false_or_eq_true→bE,not_true→nZ,not_false→nF,true_and→tA,not_not→nn,or_eq_false_iff→κ6
open Int renaming toNat_natCast→tN,ofNat_lt→oL
open Nat renaming eq_of_beq_eq_true→κ0,lt_or_ge→κ1,lt_of_lt_of_le→κ2,le_of_ble_eq_true→κA,zero_le→κB,le_refl→κD,pow_succ→κJ
open Array renaming length_toList→κG
set_option linter.unusedVariables false
set_option linter.unusedSimpArgs false
namespace Go.Rf.G
open Go Go.Rf
set_option synthInstance.maxSize 4000
theorem φ77 {A B:Type} {step:(A→Option B)→A→Option B} {F:A→B} {P:A→Prop} {m:A→Nat}
  (h:∀rec a,P a→(∀a',P a'→m a'<m a→rec a'=some (F a'))→step rec a=some (F a)):∀n a,P a→m a<n→φ1Y step n a=some (F a)
 | 0,_,_,hn=>by omega
 | n+1,a,hp,hn=>h (φ1Y step n) a hp fun a' hp' hlt=>φ77 h n a' hp' (by omega)
theorem φ42 {A B:Type} {step:(A→Option B)→A→Option B} (F:A→B) (P:A→Prop) (m:A→Nat)
  (h:∀rec a,P a→(∀a',P a'→m a'<m a→rec a'=some (F a'))→step rec a=some (F a)) {a:A} (hp:P a) (hm:m a<2 ^ 62):lp step a=some (F a):=
 φ77 h FUEL a hp (κ2 hm φ46)
theorem φa {A B σ:Type} {step:(A→Option B)→A→Option B} (st:Nat→σ→A) (N:Nat) (F:Nat→σ→B) (Inv:Nat→σ→Prop)
  (h:∀rec n s,n≤N→Inv n s→(∀s',n<N→Inv (n+1) s'→rec (st (n+1) s')=some (F (n+1) s'))→step rec (st n s)=some (F n s))
  (hN:N<2 ^ 62):∀n s,n≤N→Inv n s→lp step (st n s)=some (F n s):=by
 have key:∀k f n s,n≤N→Inv n s→N - n=k→k<f→φ1Y step f (st n s)=some (F n s):=by
  intro k
  induction k with
  | zero=>
   intro f n s hn hi hk hf
   obtain ⟨f,rfl⟩:∃g,f=g+1:=⟨f - 1,by omega⟩
   exact h _ n s hn hi fun s' hlt=>by omega
  | succ k ih=>
   intro f n s hn hi hk hf
   obtain ⟨f,rfl⟩:∃g,f=g+1:=⟨f - 1,by omega⟩
   exact h _ n s hn hi fun s' hlt hi'=>ih f (n+1) s' hlt hi' (by omega) (by omega)
 intro n s hn hi
 exact key (N - n) FUEL n s hn hi rfl (κ2 (by omega) φ46)
@[simp] theorem φ8 (n m:Nat):inB (n:Int) m=decide (n<m):=by
 unfold inB
 by_cases h:n<m<;>simp[h,Int.natCast_nonneg]
@[simp] theorem φH {α:Type} (z:α) (xs:List α) (n:Nat):rdA z xs (n:Int)=xs.getD n z:=rfl
theorem φ2 {n:Int} (h1:-9223372036854775808≤n) (h2:n<9223372036854775808):w64 n=n:=by
 unfold w64 IntKind.wrap
 simp only[IntKind.bits,IntKind.signed]
 by_cases h:n % 2 ^ 64≥2 ^ 63<;>simp[h]<;>omega
theorem φ1O {n:Nat} (h:n<9223372036854775808):w64 (n:Int)=n:=φ2 (by omega) (by omega)
theorem φC {n:Nat} (h:n+1<9223372036854775808):w64 ((n:Int)+1)=((n+1:Nat):Int):=by
 rw[φ2 (by omega) (by omega)];omega
theorem φo {l:Nat} (h:l≤reachBytes):l<140737488355328:=by unfold reachBytes at h;omega
theorem φ6 {α:Type} {xs:List α} {z:α} {n:Nat} (h:n<xs.length):xs.getD n z=xs[n]:=by simp[List.getD,h]
theorem φ6x {α:Type} {a b:List α} {n:Nat} (h1:n<a.length) (h2:n<b.length):a.drop n=b.drop n↔a[n]=b[n]∧a.drop (n+1)=b.drop (n+1):=by
 rw[dG h1,dG h2,List.cons.injEq]
def szr (b:Nat) (left:Int):Int:=if (b:Int)≤left then left - b else -1
theorem φ13 {b:Nat} {left:Int}:decide (szr b left<0)=!decide ((b:Int)≤left):=by
 unfold szr
 by_cases h:(b:Int)≤left
 ·rw[if_pos h];simp[h]
 ·rw[if_neg h];simp[h]
theorem φ1A {b:Nat} {left:Int} (h:(b:Int)≤left):szr b left=left - b:=if_pos h
def sumN {α:Type} (f:α→Nat):List α→Nat
 | []=>0
 | x::r=>f x+sumN f r
theorem φ5q {α:Type} (f:α→Nat) {l:List α} {n:Nat} (h:n<l.length):sumN f (l.drop n)=f l[n]+sumN f (l.drop (n+1)):=by
 rw[dG h];rfl
theorem φ3k {α:Type} (f:α→Nat):∀{l:List α} {x:α},x∈l→f x≤sumN f l
 | y::l,x,h=>by
  rcases mc.1 h with k | k
  ·subst k;exact Nat.le_add_right _ _
  ·exact Nat.le_trans (φ3k f k) (Nat.le_add_left _ _)
def φB {α:Type} (f:α→Nat) (l:List α):Nat:=l.length+sumN f l
theorem φ3R {X:Type} {step:(List X×Int×Int→Option (Int ⊕ Int))→List X×Int×Int→Option (Int ⊕ Int)} (bulk:X→Nat) (l:List X) (hl:l.length<2 ^ 62)
  (hs:∀rec (n:Nat) (left:Int),(hn:n<l.length)→0≤left→left≤1048576→step rec (l,left,(n:Int))=if (bulk l[n]:Int)≤left then rec (l,left - bulk l[n],((n+1:Nat):Int)) else some (.inr (-1)))
  (he:∀rec (left:Int),step rec (l,left,(l.length:Int))=some (.inl left)) (left:Int) (h0:0≤left) (h1:left≤1048576) :
  lp step (l,left,0)=some (if (sumN bulk l:Int)≤left then .inl (left - sumN bulk l) else .inr (-1)):=by
 have:=φa (step:=step) (fun n (s:Int)=>(l,s,(n:Int))) l.length (fun n s=>if (sumN bulk (l.drop n):Int)≤s then .inl (s - sumN bulk (l.drop n)) else .inr (-1)) (fun _ s=>0≤s∧s≤1048576)
  (fun rec n s hn hi ih=>by
   rcases κ1 n l.length with h | h
   ·rw[hs rec n s h hi.1 hi.2,φ5q bulk h]
    by_cases hb:(bulk l[n]:Int)≤s
    ·rw[if_pos hb,ih _ h ⟨by omega,by omega⟩]
     congr 1
     by_cases hc:(sumN bulk (l.drop (n+1)):Int)≤s - bulk l[n]
     ·rw[if_pos hc,if_pos (by omega)];congr 1;omega
     ·rw[if_neg hc,if_neg (by omega)]
    ·rw[if_neg hb,if_neg (by omega)]
   ·have:n=l.length:=by omega
    subst this
    rw[he]
    simp[sumN,hi.1])
  hl 0 left (κB _) ⟨h0,h1⟩
 simpa using this
theorem φ2b {X:Type} [DecidableEq X] {step:(List X×List X×Int→Option (Unit ⊕ Bool))→List X×List X×Int→Option (Unit ⊕ Bool)} (a b:List X) (hl:a.length=b.length) (ha:a.length<2 ^ 62)
  (hs:∀rec (n:Nat),(h1:n<a.length)→(h2:n<b.length)→step rec (a,b,(n:Int))=if a[n]=b[n] then rec (a,b,((n+1:Nat):Int)) else some (.inr false))
  (he:∀rec,step rec (a,b,(a.length:Int))=some (.inl ())):lp step (a,b,0)=some (if a=b then .inl () else .inr false):=by
 have:=φa (step:=step) (fun n (_:Unit)=>(a,b,(n:Int))) a.length (fun n _=>if a.drop n=b.drop n then .inl () else .inr false) (fun _ _=>True)
  (fun rec n s hn _ ih=>by
   rcases κ1 n a.length with h | h
   ·rw[hs rec n h (by omega),ih () h trivial]
    by_cases hc:a[n]=b[n]
    ·rw[if_pos hc];simp only[φ6x h (by omega:n<b.length),hc,true_and]
    ·rw[if_neg hc,if_neg fun k=>hc ((φ6x h (by omega)).1 k).1]
   ·have:n=a.length:=by omega
    subst this
    rw[he]
    simp[hl])
  ha 0 () (κB _) trivial
 simpa using this
theorem φ2u {X:Type} {step:(List X×List X×Int→Option (List X))→List X×List X×Int→Option (List X)} (l:List X) (hl:l.length<2 ^ 62)
  (hs:∀rec (r:List X) (n:Nat),(h1:n<l.length)→r.length=l.length→step rec (l,r,(n:Int))=rec (l,r.set n l[n],((n+1:Nat):Int)))
  (he:∀rec r,step rec (l,r,(l.length:Int))=some r) (r:List X) (hr:r.length=l.length):lp step (l,r,0)=some l:=by
 have:=φa (step:=step) (fun n (r:List X)=>(l,r,(n:Int))) l.length (fun n r=>l) (fun n r=>r.length=l.length∧r.take n=l.take n)
  (fun rec n r hn hi ih=>by
   obtain ⟨hi1,hi2⟩:=hi
   rcases κ1 n l.length with h | h
   ·rw[hs rec r n h hi1]
    refine ih _ h ⟨by simp[hi1],?_⟩
    rw[κ8 (by simp[hi1,h]),κ8 h,List.take_set_of_le (κD _),hi2]
    simp
   ·have:n=l.length:=by omega
    subst this
    rw[he]
    rw[List.take_length,←hi1,List.take_length] at hi2
    rw[hi2])
  hl 0 r (κB _) ⟨hr,by simp⟩
 simpa using this
def φU {X:Type} (mk:Int→X→X) (c:Nat):List X→Int→List X
 | [],_=>[]
 | x::r,k=>mk k x::φU mk c r (k+c)
@[simp] theorem φ5c {X:Type} (mk:Int→X→X) (c:Nat):∀(l:List X) (k:Int),(φU mk c l k).length=l.length
 | [],_=>rfl
 | x::r,k=>by simp[φU,φ5c mk c r]
theorem φ5w {X:Type} (mk:Int→X→X) (c:Nat):∀(l:List X) (k:Int) (n:Nat) (h:n<l.length) (h':n<(φU mk c l k).length),(φU mk c l k)[n]=mk (k+c * n) l[n]
 | x::r,k,0,_,_=>by simp[φU]
 | x::r,k,n+1,h,h'=>by
  simp only[φU,List.getElem_cons_succ]
  rw[φ5w mk c r (k+c) n (by simpa using h) _]
  congr 1
  rw[Int.natCast_add,Int.mul_add];omega
theorem φ2s {X:Type} {step:(List X×Int×Int→Option (List X×Int))→List X×Int×Int→Option (List X×Int)} (mk:Int→X→X) (c:Nat) (l:List X) (hl:l.length<2 ^ 62)
  (hs:∀rec (r:List X) (k:Int) (n:Nat),r.length=l.length→(h:n<r.length)→0<k→k<1000000000000→step rec (r,k,(n:Int))=rec (r.set n (mk k r[n]),k+c,((n+1:Nat):Int)))
  (he:∀rec (r:List X) (k:Int),r.length=l.length→step rec (r,k,(l.length:Int))=some (r,k)) (k:Int) (h0:0<k) (h1:k+c * l.length<1000000000000) :
  lp step (l,k,0)=some (φU mk c l k,k+c * l.length):=by
 have key:=φa (step:=step) (fun n (s:List X×Int)=>(s.1,s.2,(n:Int))) l.length (fun n s=>(φU mk c l k,k+c * l.length))
  (fun n s=>s.1.length=l.length∧s.2=k+c * n∧s.1.take n=(φU mk c l k).take n∧s.1.drop n=l.drop n)
  (fun rec n s hn hi ih=>by
   obtain ⟨i1,i2,i3,i4⟩:=hi
   rcases κ1 n l.length with h | h
   ·have hb:(c:Int) * n≤c * l.length:=Int.mul_le_mul_of_nonneg_left (by omega) (by omega)
    have hb0:0≤(c:Int) * n:=Int.mul_nonneg (by omega) (by omega)
    rw[hs rec s.1 s.2 n i1 (by omega) (by omega) (by omega)]
    refine ih (s.1.set n (mk s.2 (s.1[n]'(by omega))),s.2+c) h ⟨by simp[i1],?_,?_,?_⟩
    ·show s.2+c=_;rw[i2,Int.natCast_add,Int.mul_add];omega
    ·show (s.1.set n _).take (n+1)=_
     have hg:s.1[n]'(by omega)=l[n]:=by
      have:=i4
      rw[dG (by omega),dG h,List.cons.injEq] at this
      exact this.1
     rw[κ8 (by simp;omega),κ8 (by simp;omega),List.take_set_of_le (κD _),i3,φ5w mk c l k n h]
     simp[i2,hg]
    ·show (s.1.set n _).drop (n+1)=_
     rw[List.drop_set_of_lt (by omega)]
     have:=i4
     rw[dG (by omega),dG h,List.cons.injEq] at this
     exact this.2
   ·have:n=l.length:=by omega
    subst this
    rw[he rec s.1 s.2 i1,i2]
    rw[←i1,List.take_length,i1,←φ5c mk c l k,List.take_length] at i3
    rw[i3])
  hl 0 (l,k) (κB _) ⟨rfl,by simp,by simp,by simp⟩
 simpa using key
theorem φ9z {X:Type} {step:(List X×Int×Int→Option (Int ⊕ Int))→List X×Int×Int→Option (Int ⊕ Int)} (mk:Int→X→X) (c:Nat) (l:List X) (hl:l.length<2 ^ 62)
  (hs:∀rec (r:List X) (k:Int) (n:Nat) (x:X),(h:n<r.length)→n<4611686018427387904→r[n]=mk k x→0<k→k<1000000000000→step rec (r,k,(n:Int))=rec (r,k+c,((n+1:Nat):Int)))
  (he:∀rec (r:List X) (k:Int),step rec (r,k,(r.length:Int))=some (.inl k)) (k:Int) (h0:0<k) (h1:k+c * l.length<1000000000000) :
  lp step (φU mk c l k,k,0)=some (.inl (k+c * l.length)):=by
 have key:=φa (step:=step) (fun n (s:Int)=>(φU mk c l k,s,(n:Int))) l.length (fun n s=>.inl (k+c * l.length))
  (fun n s=>s=k+c * n)
  (fun rec n s hn hi ih=>by
   rcases κ1 n l.length with h | h
   ·have hb:(c:Int) * n≤c * l.length:=Int.mul_le_mul_of_nonneg_left (by omega) (by omega)
    have hb0:0≤(c:Int) * n:=Int.mul_nonneg (by omega) (by omega)
    rw[hs rec _ s n l[n] (by simpa using h) (by omega) (by rw[φ5w mk c l k n h,hi]) (by omega) (by omega)]
    exact ih _ h (by rw[hi,Int.natCast_add,Int.mul_add];omega)
   ·have:n=l.length:=by omega
    subst this
    have:=he rec (φU mk c l k) s
    rw[φ5c] at this
    rw[this,hi])
  hl 0 k (κB _) (by simp)
 simpa using key
theorem φ7y {X A B:Type} {step:(A→Option (B ⊕ Bool))→A→Option (B ⊕ Bool)} (l:List X) (f:X→Bool) (st:Nat→A) (b:B) (hl:l.length<2 ^ 62)
  (hs:∀rec n,(h:n<l.length)→step rec (st n)=if f l[n]=true then rec (st (n+1)) else some (.inr false))
  (he:∀rec,step rec (st l.length)=some (.inl b)):lp step (st 0)=some (if l.all f=true then .inl b else .inr false):=by
 have:=φa (step:=step) (fun n (_:Unit)=>st n) l.length (fun n _=>if (l.drop n).all f=true then .inl b else .inr false) (fun _ _=>True)
  (fun rec n s hn _ ih=>by
   rcases κ1 n l.length with h | h
   ·rw[hs rec n h,ih () h trivial,dG h,List.all_cons]
    cases f l[n]<;>simp
   ·have:n=l.length:=by omega
    subst this
    rw[he];simp) hl 0 () (κB _) trivial
 simpa using this
theorem φ8P {X A B C:Type} {step:(A→Option (B ⊕ C))→A→Option (B ⊕ C)} (l:List X) (f:X→Bool) (r:X→C) (st:Nat→A) (b:B) (hl:l.length<2 ^ 62)
  (hs:∀rec n,(h:n<l.length)→step rec (st n)=if f l[n]=true then some (.inr (r l[n])) else rec (st (n+1)))
  (he:∀rec,step rec (st l.length)=some (.inl b)):lp step (st 0)=some (match l.find? f with | some x=>.inr (r x) | none=>.inl b):=by
 have:=φa (step:=step) (fun n (_:Unit)=>st n) l.length (fun n _=>match (l.drop n).find? f with | some x=>.inr (r x) | none=>.inl b) (fun _ _=>True)
  (fun rec n s hn _ ih=>by
   rcases κ1 n l.length with h | h
   ·rw[hs rec n h,ih () h trivial,dG h,List.find?_cons]
    cases hf:f l[n]<;>simp
   ·have:n=l.length:=by omega
    subst this
    rw[he];simp) hl 0 () (κB _) trivial
 simpa using this
theorem φ7i {X A B S:Type} {step:(A→Option B)→A→Option B} (l:List X) (g:S→X→S) (st:Nat→S→A) (out:S→B) (Inv:Nat→S→Prop) (hl:l.length<2 ^ 62)
  (hs:∀rec n s,(h:n<l.length)→Inv n s→step rec (st n s)=rec (st (n+1) (g s l[n])))
  (hi:∀n s,(h:n<l.length)→Inv n s→Inv (n+1) (g s l[n]))
  (he:∀rec s,Inv l.length s→step rec (st l.length s)=some (out s)) (s:S) (h0:Inv 0 s):lp step (st 0 s)=some (out (l.foldl g s)):=by
 have:=φa (step:=step) st l.length (fun n s=>out ((l.drop n).foldl g s)) Inv
  (fun rec n s hn hv ih=>by
   rcases κ1 n l.length with h | h
   ·rw[hs rec n s h hv,ih _ h (hi n s h hv),dG h];rfl
   ·have:n=l.length:=by omega
    subst this
    rw[he rec s hv];simp) hl 0 s (κB _) h0
 simpa using this
theorem φBw {A B σ:Type} {step:(A→Option B)→A→Option B} (st:Nat→σ→A) (F:Nat→σ→B) (Inv:Nat→σ→Prop)
  (h:∀rec n s,Inv n s→(∀m s',n=m+1→Inv m s'→rec (st m s')=some (F m s'))→step rec (st n s)=some (F n s)):∀n s,n<2 ^ 62→Inv n s→lp step (st n s)=some (F n s):=by
 have key:∀n f s,n<f→Inv n s→φ1Y step f (st n s)=some (F n s):=by
  intro n
  induction n with
  | zero=>
   intro f s hf hi
   obtain ⟨f,rfl⟩:∃g,f=g+1:=⟨f - 1,by omega⟩
   exact h _ 0 s hi fun m s' he=>by omega
  | succ n ih=>
   intro f s hf hi
   obtain ⟨f,rfl⟩:∃g,f=g+1:=⟨f - 1,by omega⟩
   exact h _ (n+1) s hi fun m s' he hi'=>by
    have:m=n:=by omega
    subst this
    exact ih f s' (by omega) hi'
 intro n s hn hi
 exact key n FUEL s (κ2 hn φ46) hi
def okL {α:Type} (f:α→Prop) (l:List α):Prop:=l.length≤reachBytes∧∀x∈l,f x
@[simp] theorem φ20 {A B C:Type} (a:A) (f:A→C) (g:B→C):φG (.inl a) f g=f a:=rfl
@[simp] theorem φ3a {A B C:Type} (b:B) (f:A→C) (g:B→C):φG (.inr b) f g=g b:=rfl
theorem φp {A B:Type} (p:A×B):(p.1,p.2)=p:=rfl
theorem φ7t {α:Type} {f:α→Nat} (h:∀x,f x=0):∀l:List α,sumN f l=0
 | []=>rfl
 | x::r=>by show f x+sumN f r=0;rw[h,φ7t h r]
theorem φ2z {β:Type} (n:Int) (a b:β):(bif (n==n) then a else b)=a:=by simp
theorem φ2x {β:Type} {c n:Int} (h1:0≤n) (h2:c * n≤140737488355328) (a b:β):(bif (decide (0≤n) && decide (c * n≤140737488355328)) then a else b)=a:=by simp[h1,h2]
theorem φ2i {α:Type} {z:α} {r:List α} {n:Nat} {v:α} (h:n<r.length):rdA z (r.set n v) (n:Int)=v:=by simp[List.getD,h]
noncomputable def mt (k:Int):List UInt8:=(ψv.f k).getD []
theorem φ1i (k:Int) (h0:0<k) (h1:k<2000000000000):ψv.f k=some (mt k):=by
 have:∃b,ψv.f k=some b:=by
  unfold ψv.f
  have hk:¬k≤0:=by omega
  simp only[hk,dF,cF]
  have key:∀(n:Nat) (k:Int) (acc:List UInt8),0≤k→k<n→(n:Int)≤2000000000000→acc.length+k.toNat<4000000000000→∀f,n<f→∃b,φ1Y ψv.l0 f (k,acc)=some b∧b.length<4000000000000:=by
   intro n
   induction n with
   | zero=>intro k acc h0 h1;omega
   | succ n ih=>
    intro k acc h0 h1 h2 h3 f hf
    obtain ⟨f,rfl⟩:∃g,f=g+1:=⟨f - 1,by omega⟩
    show ∃b,ψv.l0 (φ1Y ψv.l0 f) (k,acc)=some b∧_
    simp only[ψv.l0]
    by_cases hk:k > 0
    ·have hd:Int.tdiv k 10=k / 10:=Int.tdiv_eq_ediv_of_nonneg (by omega)
     have hw:w64 (Int.tdiv k 10)=k / 10:=by rw[hd];exact φ2 (by omega) (by omega)
     have hlen:((φL [IntKind.wrap .u8 (w64 (48+(Int.tmod k 10)))]).length+acc.length≤9223372036854775807):=by simp[φL];omega
     simp only[hk,dT,cT,hlen,hw]
     exact ih (k / 10) _ (by omega) (by omega) (by omega) (by simp[φL];omega) f (by omega)
    ·simp only[hk,dF,cF]
     exact ⟨acc,rfl,by omega⟩
  obtain ⟨b,hb,hl⟩:=key (k.toNat+1) k [] (by omega) (by omega) (by omega) (by simp;omega) FUEL (κ2 (by omega) φ46)
  have hb:lp ψv.l0 (k,[])=some b:=hb
  rw[hb,bS]
  have hle:([109]:List UInt8).length+b.length≤9223372036854775807:=by simp;omega
  simp only[hle,dT,cT]
  exact ⟨_,rfl⟩
 obtain ⟨b,hb⟩:=this
 unfold mt
 rw[hb];rfl
def φ40 (x:Int):Nat:=0
def φ4i (x:Int):Prop:=True
theorem φ9P (x:Int) (h:wfD (.int .i64) x):φ4i x:=trivial
theorem φ8b (l:List (Int)) (left:Int) (h0:0≤left) (h1:left≤1048576) (hx:okL φ4i l):ψ13.f l left=some (szr (φB φ40 l) left):=by
 have hl:=φo hx.1
 unfold ψ13.f
 simp only[Bool.cond_decide]
 rw[φ2 (by omega) (by omega)]
 unfold szr φB
 rw[show sumN φ40 l=0 from φ7t (fun _=>rfl) l]
 repeat' split
 all_goals first | rfl | (congr 1;omega) | omega
theorem φCH (l:List (Int)) (hx:okL φ4i l) (hs:l.length≤1048576):ψ1I.f l=some l:=by
 have hl:=φo hx.1
 unfold ψ1I.f
 rw[φ2z,φ2x (by omega) (by omega)]
 simp only[]
 rw[φ2u l (by omega) (fun rec r n h1 h2=>?_) (fun rec r=>?_) _ (by simp)]
 ·rfl
 ·have h3:n<r.length:=by omega
  simp only[ψ1I.l0,oL,h1,h3,dT,cT,φ8,φH,φ6 h1,φC (show n+1<9223372036854775808 by omega),tN]
 ·simp[ψ1I.l0]
theorem φ9Z (a b:List (Int)) (ha:a.length<2 ^ 62):ψZ.f a b=some (decide (a=b)):=by
 unfold ψZ.f
 by_cases hl:a.length=b.length
 rotate_left
 ·have:a≠b:=fun h=>hl (by rw[h])
  have h2:((a.length:Int) != (b.length:Int))=true:=by simp;omega
  rw[h2];simp[this]
 have h2:((a.length:Int) != (b.length:Int))=false:=by simp;omega
 rw[h2,cF,φ2b a b hl ha (fun rec n h1 h2=>?_) (fun rec=>?_)]
 ·by_cases e:a=b<;>simp[e,φG]
 ·simp only[ψZ.l0,oL,h1,h2,dT,cT,φ8,φH,φ6 h1,φ6 h2,φC (show n+1<9223372036854775808 by omega)]
  by_cases e:a[n]=b[n]
  ·simp[e]
  ·have e2:(a[n]==b[n])=false:=by simpa using e
   have e3:(a[n] != b[n])=true:=by simpa using e
   simp[e,e2,e3]
 ·simp[ψZ.l0]
noncomputable def φ5n (k:Int) (x:Int):Int:=k
theorem φBM (l:List (Int)) (k:Int) (hl:l.length<2 ^ 62) (h0:0<k) (h1:k+1 * l.length<1000000000000):ψp.f l k=some (k+1 * l.length,φU φ5n 1 l k):=by
 unfold ψp.f
 rw[φ2s φ5n 1 l hl (fun rec r k n hr h h0 h1=>?_) (fun rec r k hr=>?_) k h0 h1]
 ·rfl
 ·have hn:n<4611686018427387904:=by omega
  have e1:w64 (k+1)=k+1:=by rw[φ2 (by omega) (by omega)]
  simp only[ψp.l0,oL,h,dT,cT,φ8,List.length_set,tN,φ2i h,φH,φ6 h,List.set_set,φC (show n+1<9223372036854775808 by omega),e1,bS]
  rfl
 ·simp[ψp.l0,hr]
def φg (x:List UInt8×List UInt8×Int):Nat:=x.1.length+x.2.1.length
def φ2v (x:List UInt8×List UInt8×Int):Prop:=x.1.length≤reachBytes∧x.2.1.length≤reachBytes
theorem φAj (x:List UInt8×List UInt8×Int) (h:wfD (.pair .str (.pair .str (.int .i64))) x):φ2v x:=⟨h.1,h.2.1⟩
theorem φBH (x:List UInt8×List UInt8×Int) (left:Int) (h0:0≤left) (h1:left≤1048576) (hx:φ2v x):ψ11.f x left=some (szr (φg x) left):=by
 unfold φ2v at hx
 have l0:=φo hx.1
 have l1:=φo hx.2
 unfold ψ11.f szr φg
 simp only[Bool.cond_decide]
 rw[φ2 (by omega) (by omega)]
 by_cases c0:left - (x.1.length:Int)<0
 ·simp only[c0,if_true];rw[if_neg (by omega)]
 simp only[c0,if_false]
 rw[φ2 (by omega) (by omega)]
 repeat' split
 all_goals first | rfl | (congr 1;omega) | omega
theorem φAP (l:List (List UInt8×List UInt8×Int)) (left:Int) (h0:0≤left) (h1:left≤1048576) (hx:okL φ2v l):ψ12.f l left=some (szr (φB φg l) left):=by
 have hl:=φo hx.1
 unfold ψ12.f
 simp only[Bool.cond_decide]
 rw[φ2 (by omega) (by omega)]
 by_cases c:left - (l.length:Int)<0
 ·rw[if_pos c];unfold szr φB;rw[if_neg (by omega)]
 rw[if_neg c,φ3R φg l (by omega) (fun rec n s hn i0 i1=>?_) (fun rec s=>?_) _ (by omega) (by omega)]
 ·rw[bS];unfold szr φB
  by_cases d:(sumN φg l:Int)≤left - l.length
  ·rw[if_pos d,if_pos (by omega)];show some _=some _;congr 1;omega
  ·rw[if_neg d,if_neg (by omega)];rfl
 ·have hb:=hx.2 l[n] (gM hn)
  simp only[ψ12.l0,oL,hn,dT,cT,φ8,φH,φ6 hn,φC (show n+1<9223372036854775808 by omega),φp,φBH _ s i0 i1 hb,bS,φ13]
  by_cases d:(φg l[n]:Int)≤s
  ·simp only[d,dT,nZ,cF,if_true,φ1A d]
  ·simp only[d,dF,nF,cT,if_false]
 ·simp[ψ12.l0]
theorem φ98 (x:List UInt8×List UInt8×Int):ψ1G.f x=some x:=rfl
theorem φBp (l:List (List UInt8×List UInt8×Int)) (hx:okL φ2v l) (hs:l.length≤1048576):ψ1H.f l=some l:=by
 have hl:=φo hx.1
 unfold ψ1H.f
 rw[φ2z,φ2x (by omega) (by omega)]
 simp only[]
 rw[φ2u l (by omega) (fun rec r n h1 h2=>?_) (fun rec r=>?_) _ (by simp)]
 ·rfl
 ·have h3:n<r.length:=by omega
  simp only[ψ1H.l0,oL,h1,h3,dT,cT,φ8,φH,φ6 h1,φC (show n+1<9223372036854775808 by omega),tN,φp,φ98,bS]
 ·simp[ψ1H.l0]
theorem φ9N (x y:List UInt8×List UInt8×Int):ψX.f x y=some (decide (x=y)):=by
 obtain ⟨a0,a1,a2⟩:=x
 obtain ⟨b0,b1,b2⟩:=y
 unfold ψX.f
 by_cases e0:a0=b0
 rotate_left
 ·have d2:(a0==b0)=false:=by simpa using e0
  have d3:(a0 != b0)=true:=by simpa using e0
  simp[e0,d2,d3]
 by_cases e1:a1=b1
 rotate_left
 ·have d2:(a1==b1)=false:=by simpa using e1
  have d3:(a1 != b1)=true:=by simpa using e1
  simp[e1,d2,d3]
 by_cases e2:a2=b2
 rotate_left
 ·have d2:(a2==b2)=false:=by simpa using e2
  have d3:(a2 != b2)=true:=by simpa using e2
  simp[e2,d2,d3]
 simp[e0,e1,e2]
theorem φAW (a b:List (List UInt8×List UInt8×Int)) (ha:a.length<2 ^ 62):ψY.f a b=some (decide (a=b)):=by
 unfold ψY.f
 by_cases hl:a.length=b.length
 rotate_left
 ·have:a≠b:=fun h=>hl (by rw[h])
  have h2:((a.length:Int) != (b.length:Int))=true:=by simp;omega
  rw[h2];simp[this]
 have h2:((a.length:Int) != (b.length:Int))=false:=by simp;omega
 rw[h2,cF,φ2b a b hl ha (fun rec n h1 h2=>?_) (fun rec=>?_)]
 ·by_cases e:a=b<;>simp[e,φG]
 ·simp only[ψY.l0,oL,h1,h2,dT,cT,φ8,φH,φ6 h1,φ6 h2,φC (show n+1<9223372036854775808 by omega),φp,φ9N _ _,bS]
  by_cases e:a[n]=b[n]
  ·simp[e]
  ·have e2:(a[n]==b[n])=false:=by simpa using e
   have e3:(a[n] != b[n])=true:=by simpa using e
   simp[e,e2,e3]
 ·simp[ψY.l0]
noncomputable def φ5s (k:Int) (x:List UInt8×List UInt8×Int):List UInt8×List UInt8×Int:=(mt k,mt (k+1),k+2)
theorem φCA (l:List (List UInt8×List UInt8×Int)) (k:Int) (hl:l.length<2 ^ 62) (h0:0<k) (h1:k+3 * l.length<1000000000000):ψo.f l k=some (k+3 * l.length,φU φ5s 3 l k):=by
 unfold ψo.f
 rw[φ2s φ5s 3 l hl (fun rec r k n hr h h0 h1=>?_) (fun rec r k hr=>?_) k h0 h1]
 ·rfl
 ·have hn:n<4611686018427387904:=by omega
  have e1:w64 (k+1)=k+1:=by rw[φ2 (by omega) (by omega)]
  have e2:w64 (k+1+1)=k+2:=by rw[φ2 (by omega) (by omega)];omega
  have e3:w64 (k+2+1)=k+3:=by rw[φ2 (by omega) (by omega)];omega
  simp only[ψo.l0,oL,h,dT,cT,φ8,List.length_set,tN,φ2i h,φH,φ6 h,List.set_set,φC (show n+1<9223372036854775808 by omega),e1,e2,e3,φ1i k (by omega) (by omega),φ1i (k+1) (by omega) (by omega),bS]
  rfl
 ·simp[ψo.l0,hr]
theorem φ9Q (x y:List UInt8×List UInt8×Int):ψb.f x y=some (decide (x=y)):=by
 obtain ⟨a0,a1,a2⟩:=x
 obtain ⟨b0,b1,b2⟩:=y
 unfold ψb.f
 by_cases e0:a0=b0
 rotate_left
 ·have d2:(a0==b0)=false:=by simpa using e0
  have d3:(a0 != b0)=true:=by simpa using e0
  simp[e0,d2,d3]
 by_cases e1:a1=b1
 rotate_left
 ·have d2:(a1==b1)=false:=by simpa using e1
  have d3:(a1 != b1)=true:=by simpa using e1
  simp[e1,d2,d3]
 by_cases e2:a2=b2
 rotate_left
 ·have d2:(a2==b2)=false:=by simpa using e2
  have d3:(a2 != b2)=true:=by simpa using e2
  simp[e2,d2,d3]
 simp[e0,e1,e2]
theorem φ9R (a b:List (List UInt8×List UInt8×Int)) (ha:a.length<2 ^ 62):ψc.f a b=some (decide (a=b)):=by
 unfold ψc.f
 by_cases hl:a.length=b.length
 rotate_left
 ·have:a≠b:=fun h=>hl (by rw[h])
  have h2:((a.length:Int) != (b.length:Int))=true:=by simp;omega
  rw[h2];simp[this]
 have h2:((a.length:Int) != (b.length:Int))=false:=by simp;omega
 rw[h2,cF,φ2b a b hl ha (fun rec n h1 h2=>?_) (fun rec=>?_)]
 ·by_cases e:a=b<;>simp[e,φG]
 ·simp only[ψc.l0,oL,h1,h2,dT,cT,φ8,φH,φ6 h1,φ6 h2,φC (show n+1<9223372036854775808 by omega),φp,φ9Q _ _,bS]
  by_cases e:a[n]=b[n]
  ·simp[e]
  ·have e2:(a[n]==b[n])=false:=by simpa using e
   have e3:(a[n] != b[n])=true:=by simpa using e
   simp[e,e2,e3]
 ·simp[ψc.l0]
noncomputable def φ3L (k:Int) (x:List UInt8×List UInt8×Int):List UInt8×List UInt8×Int:=(mt k,mt (k+1),k+2)
theorem φ9d (l:List (List UInt8×List UInt8×Int)) (k:Int) (hl:l.length<2 ^ 62) (h0:0<k) (h1:k+3 * l.length<1000000000000):ψr.f l k=some (k+3 * l.length,φU φ3L 3 l k):=by
 unfold ψr.f
 rw[φ2s φ3L 3 l hl (fun rec r k n hr h h0 h1=>?_) (fun rec r k hr=>?_) k h0 h1]
 ·rfl
 ·have hn:n<4611686018427387904:=by omega
  have e1:w64 (k+1)=k+1:=by rw[φ2 (by omega) (by omega)]
  have e2:w64 (k+1+1)=k+2:=by rw[φ2 (by omega) (by omega)];omega
  have e3:w64 (k+2+1)=k+3:=by rw[φ2 (by omega) (by omega)];omega
  simp only[ψr.l0,oL,h,dT,cT,φ8,List.length_set,tN,φ2i h,φH,φ6 h,List.set_set,φC (show n+1<9223372036854775808 by omega),e1,e2,e3,φ1i k (by omega) (by omega),φ1i (k+1) (by omega) (by omega),bS]
  rfl
 ·simp[ψr.l0,hr]
theorem φAY (l:List (List UInt8×List UInt8×Int)) (k:Int) (hl:l.length<2 ^ 62) (h0:0<k) (h1:k+3 * l.length<1000000000000):ψk.f (φU φ3L 3 l k) k=some (k+3 * l.length):=by
 unfold ψk.f
 rw[φ9z φ3L 3 l hl (fun rec r k n x h hn0 hx h0 h1=>?_) (fun rec r k=>?_) k h0 h1]
 ·rfl
 ·have hn:n+1<9223372036854775808:=by omega
  have e1:w64 (k+1)=k+1:=by rw[φ2 (by omega) (by omega)]
  have e2:w64 (k+1+1)=k+2:=by rw[φ2 (by omega) (by omega)];omega
  have e3:w64 (k+2+1)=k+3:=by rw[φ2 (by omega) (by omega)];omega
  simp only[ψk.l0,oL,h,dT,cT,φ8,φH,φ6 h,hx,φ3L,φC hn,e1,e2,e3,φ1i k (by omega) (by omega),φ1i (k+1) (by omega) (by omega),bS,beq_self_eq_true,nZ,bne_self_eq_false,cF]
  rfl
 ·simp[ψk.l0]
def φ2N (x:List UInt8×Bool×List UInt8):Nat:=x.1.length+x.2.2.length
def φ2t (x:List UInt8×Bool×List UInt8):Prop:=x.1.length≤reachBytes∧x.2.2.length≤reachBytes
theorem φAy (x:List UInt8×Bool×List UInt8) (h:wfD (.pair .str (.pair .bool .str)) x):φ2t x:=⟨h.1,h.2.2⟩
theorem φAF (x:List UInt8×Bool×List UInt8) (left:Int) (h0:0≤left) (h1:left≤1048576) (hx:φ2t x):ψ15.f x left=some (szr (φ2N x) left):=by
 unfold φ2t at hx
 have l0:=φo hx.1
 have l1:=φo hx.2
 unfold ψ15.f szr φ2N
 simp only[Bool.cond_decide]
 rw[φ2 (by omega) (by omega)]
 by_cases c0:left - (x.1.length:Int)<0
 ·simp only[c0,if_true];rw[if_neg (by omega)]
 simp only[c0,if_false]
 rw[φ2 (by omega) (by omega)]
 repeat' split
 all_goals first | rfl | (congr 1;omega) | omega
theorem φ8r (l:List (List UInt8×Bool×List UInt8)) (left:Int) (h0:0≤left) (h1:left≤1048576) (hx:okL φ2t l):ψ16.f l left=some (szr (φB φ2N l) left):=by
 have hl:=φo hx.1
 unfold ψ16.f
 simp only[Bool.cond_decide]
 rw[φ2 (by omega) (by omega)]
 by_cases c:left - (l.length:Int)<0
 ·rw[if_pos c];unfold szr φB;rw[if_neg (by omega)]
 rw[if_neg c,φ3R φ2N l (by omega) (fun rec n s hn i0 i1=>?_) (fun rec s=>?_) _ (by omega) (by omega)]
 ·rw[bS];unfold szr φB
  by_cases d:(sumN φ2N l:Int)≤left - l.length
  ·rw[if_pos d,if_pos (by omega)];show some _=some _;congr 1;omega
  ·rw[if_neg d,if_neg (by omega)];rfl
 ·have hb:=hx.2 l[n] (gM hn)
  simp only[ψ16.l0,oL,hn,dT,cT,φ8,φH,φ6 hn,φC (show n+1<9223372036854775808 by omega),φp,φAF _ s i0 i1 hb,bS,φ13]
  by_cases d:(φ2N l[n]:Int)≤s
  ·simp only[d,dT,nZ,cF,if_true,φ1A d]
  ·simp only[d,dF,nF,cT,if_false]
 ·simp[ψ16.l0]
theorem φAx (x:List UInt8×Bool×List UInt8):ψ1K.f x=some x:=rfl
theorem φBz (l:List (List UInt8×Bool×List UInt8)) (hx:okL φ2t l) (hs:l.length≤1048576):ψ1L.f l=some l:=by
 have hl:=φo hx.1
 unfold ψ1L.f
 rw[φ2z,φ2x (by omega) (by omega)]
 simp only[]
 rw[φ2u l (by omega) (fun rec r n h1 h2=>?_) (fun rec r=>?_) _ (by simp)]
 ·rfl
 ·have h3:n<r.length:=by omega
  simp only[ψ1L.l0,oL,h1,h3,dT,cT,φ8,φH,φ6 h1,φC (show n+1<9223372036854775808 by omega),tN,φp,φAx,bS]
 ·simp[ψ1L.l0]
theorem φAb (x y:List UInt8×Bool×List UInt8):ψd.f x y=some (decide (x=y)):=by
 obtain ⟨a0,a1,a2⟩:=x
 obtain ⟨b0,b1,b2⟩:=y
 unfold ψd.f
 by_cases e0:a0=b0
 rotate_left
 ·have d2:(a0==b0)=false:=by simpa using e0
  have d3:(a0 != b0)=true:=by simpa using e0
  simp[e0,d2,d3]
 by_cases e1:a1=b1
 rotate_left
 ·have d2:(a1==b1)=false:=by simpa using e1
  have d3:(a1 != b1)=true:=by simpa using e1
  simp[e1,d2,d3]
 by_cases e2:a2=b2
 rotate_left
 ·have d2:(a2==b2)=false:=by simpa using e2
  have d3:(a2 != b2)=true:=by simpa using e2
  simp[e2,d2,d3]
 simp[e0,e1,e2]
theorem φAG (a b:List (List UInt8×Bool×List UInt8)) (ha:a.length<2 ^ 62):ψe.f a b=some (decide (a=b)):=by
 unfold ψe.f
 by_cases hl:a.length=b.length
 rotate_left
 ·have:a≠b:=fun h=>hl (by rw[h])
  have h2:((a.length:Int) != (b.length:Int))=true:=by simp;omega
  rw[h2];simp[this]
 have h2:((a.length:Int) != (b.length:Int))=false:=by simp;omega
 rw[h2,cF,φ2b a b hl ha (fun rec n h1 h2=>?_) (fun rec=>?_)]
 ·by_cases e:a=b<;>simp[e,φG]
 ·simp only[ψe.l0,oL,h1,h2,dT,cT,φ8,φH,φ6 h1,φ6 h2,φC (show n+1<9223372036854775808 by omega),φp,φAb _ _,bS]
  by_cases e:a[n]=b[n]
  ·simp[e]
  ·have e2:(a[n]==b[n])=false:=by simpa using e
   have e3:(a[n] != b[n])=true:=by simpa using e
   simp[e,e2,e3]
 ·simp[ψe.l0]
noncomputable def φ67 (k:Int) (x:List UInt8×Bool×List UInt8):List UInt8×Bool×List UInt8:=(mt k,Int.tmod (k+1) 3==0,mt (k+2))
theorem φB2 (l:List (List UInt8×Bool×List UInt8)) (k:Int) (hl:l.length<2 ^ 62) (h0:0<k) (h1:k+3 * l.length<1000000000000):ψs.f l k=some (k+3 * l.length,φU φ67 3 l k):=by
 unfold ψs.f
 rw[φ2s φ67 3 l hl (fun rec r k n hr h h0 h1=>?_) (fun rec r k hr=>?_) k h0 h1]
 ·rfl
 ·have hn:n<4611686018427387904:=by omega
  have e1:w64 (k+1)=k+1:=by rw[φ2 (by omega) (by omega)]
  have e2:w64 (k+1+1)=k+2:=by rw[φ2 (by omega) (by omega)];omega
  have e3:w64 (k+2+1)=k+3:=by rw[φ2 (by omega) (by omega)];omega
  simp only[ψs.l0,oL,h,dT,cT,φ8,List.length_set,tN,φ2i h,φH,φ6 h,List.set_set,φC (show n+1<9223372036854775808 by omega),e1,e2,e3,φ1i k (by omega) (by omega),φ1i (k+2) (by omega) (by omega),bS]
  rfl
 ·simp[ψs.l0,hr]
def φ1k (x:List UInt8×Int):Nat:=x.1.length
def φ32 (x:List UInt8×Int):Prop:=x.1.length≤reachBytes
theorem φ9p (x:List UInt8×Int) (h:wfD (.pair .str (.int .i64)) x):φ32 x:=h.1
theorem φAa (x:List UInt8×Int) (left:Int) (h0:0≤left) (h1:left≤1048576) (hx:φ32 x):ψ17.f x left=some (szr (φ1k x) left):=by
 unfold φ32 at hx
 have l0:=φo hx
 unfold ψ17.f szr φ1k
 simp only[Bool.cond_decide]
 rw[φ2 (by omega) (by omega)]
 repeat' split
 all_goals first | rfl | (congr 1;omega) | omega
theorem φBY (l:List (List UInt8×Int)) (left:Int) (h0:0≤left) (h1:left≤1048576) (hx:okL φ32 l):ψ18.f l left=some (szr (φB φ1k l) left):=by
 have hl:=φo hx.1
 unfold ψ18.f
 simp only[Bool.cond_decide]
 rw[φ2 (by omega) (by omega)]
 by_cases c:left - (l.length:Int)<0
 ·rw[if_pos c];unfold szr φB;rw[if_neg (by omega)]
 rw[if_neg c,φ3R φ1k l (by omega) (fun rec n s hn i0 i1=>?_) (fun rec s=>?_) _ (by omega) (by omega)]
 ·rw[bS];unfold szr φB
  by_cases d:(sumN φ1k l:Int)≤left - l.length
  ·rw[if_pos d,if_pos (by omega)];show some _=some _;congr 1;omega
  ·rw[if_neg d,if_neg (by omega)];rfl
 ·have hb:=hx.2 l[n] (gM hn)
  simp only[ψ18.l0,oL,hn,dT,cT,φ8,φH,φ6 hn,φC (show n+1<9223372036854775808 by omega),φp,φAa _ s i0 i1 hb,bS,φ13]
  by_cases d:(φ1k l[n]:Int)≤s
  ·simp only[d,dT,nZ,cF,if_true,φ1A d]
  ·simp only[d,dF,nF,cT,if_false]
 ·simp[ψ18.l0]
theorem φ8y (x:List UInt8×Int):ψ1M.f x=some x:=rfl
theorem φ8v (l:List (List UInt8×Int)) (hx:okL φ32 l) (hs:l.length≤1048576):ψ1N.f l=some l:=by
 have hl:=φo hx.1
 unfold ψ1N.f
 rw[φ2z,φ2x (by omega) (by omega)]
 simp only[]
 rw[φ2u l (by omega) (fun rec r n h1 h2=>?_) (fun rec r=>?_) _ (by simp)]
 ·rfl
 ·have h3:n<r.length:=by omega
  simp only[ψ1N.l0,oL,h1,h3,dT,cT,φ8,φH,φ6 h1,φC (show n+1<9223372036854775808 by omega),tN,φp,φ8y,bS]
 ·simp[ψ1N.l0]
theorem φAA (x y:List UInt8×Int):ψf.f x y=some (decide (x=y)):=by
 obtain ⟨a0,a1⟩:=x
 obtain ⟨b0,b1⟩:=y
 unfold ψf.f
 by_cases e0:a0=b0
 rotate_left
 ·have d2:(a0==b0)=false:=by simpa using e0
  have d3:(a0 != b0)=true:=by simpa using e0
  simp[e0,d2,d3]
 by_cases e1:a1=b1
 rotate_left
 ·have d2:(a1==b1)=false:=by simpa using e1
  have d3:(a1 != b1)=true:=by simpa using e1
  simp[e1,d2,d3]
 simp[e0,e1]
theorem φBq (a b:List (List UInt8×Int)) (ha:a.length<2 ^ 62):ψg.f a b=some (decide (a=b)):=by
 unfold ψg.f
 by_cases hl:a.length=b.length
 rotate_left
 ·have:a≠b:=fun h=>hl (by rw[h])
  have h2:((a.length:Int) != (b.length:Int))=true:=by simp;omega
  rw[h2];simp[this]
 have h2:((a.length:Int) != (b.length:Int))=false:=by simp;omega
 rw[h2,cF,φ2b a b hl ha (fun rec n h1 h2=>?_) (fun rec=>?_)]
 ·by_cases e:a=b<;>simp[e,φG]
 ·simp only[ψg.l0,oL,h1,h2,dT,cT,φ8,φH,φ6 h1,φ6 h2,φC (show n+1<9223372036854775808 by omega),φp,φAA _ _,bS]
  by_cases e:a[n]=b[n]
  ·simp[e]
  ·have e2:(a[n]==b[n])=false:=by simpa using e
   have e3:(a[n] != b[n])=true:=by simpa using e
   simp[e,e2,e3]
 ·simp[ψg.l0]
noncomputable def φ5e (k:Int) (x:List UInt8×Int):List UInt8×Int:=(mt k,k+1)
theorem φAU (l:List (List UInt8×Int)) (k:Int) (hl:l.length<2 ^ 62) (h0:0<k) (h1:k+2 * l.length<1000000000000):ψt.f l k=some (k+2 * l.length,φU φ5e 2 l k):=by
 unfold ψt.f
 rw[φ2s φ5e 2 l hl (fun rec r k n hr h h0 h1=>?_) (fun rec r k hr=>?_) k h0 h1]
 ·rfl
 ·have hn:n<4611686018427387904:=by omega
  have e1:w64 (k+1)=k+1:=by rw[φ2 (by omega) (by omega)]
  have e2:w64 (k+1+1)=k+2:=by rw[φ2 (by omega) (by omega)];omega
  simp only[ψt.l0,oL,h,dT,cT,φ8,List.length_set,tN,φ2i h,φH,φ6 h,List.set_set,φC (show n+1<9223372036854775808 by omega),e1,e2,φ1i k (by omega) (by omega),bS]
  rfl
 ·simp[ψt.l0,hr]
def φ2C (x:List UInt8×Int×Int×Int×Int):Nat:=x.1.length
def φ3E (x:List UInt8×Int×Int×Int×Int):Prop:=x.1.length≤reachBytes
theorem φ9q (x:List UInt8×Int×Int×Int×Int) (h:wfD (.pair .str (.pair (.int .i64) (.pair (.int .i64) (.pair (.int .i64) (.int .i64))))) x):φ3E x:=h.1
theorem φ9h (x:List UInt8×Int×Int×Int×Int) (left:Int) (h0:0≤left) (h1:left≤1048576) (hx:φ3E x):ψz.f x left=some (szr (φ2C x) left):=by
 unfold φ3E at hx
 have l0:=φo hx
 unfold ψz.f szr φ2C
 simp only[Bool.cond_decide]
 rw[φ2 (by omega) (by omega)]
 repeat' split
 all_goals first | rfl | (congr 1;omega) | omega
theorem φAh (l:List (List UInt8×Int×Int×Int×Int)) (left:Int) (h0:0≤left) (h1:left≤1048576) (hx:okL φ3E l):ψ10.f l left=some (szr (φB φ2C l) left):=by
 have hl:=φo hx.1
 unfold ψ10.f
 simp only[Bool.cond_decide]
 rw[φ2 (by omega) (by omega)]
 by_cases c:left - (l.length:Int)<0
 ·rw[if_pos c];unfold szr φB;rw[if_neg (by omega)]
 rw[if_neg c,φ3R φ2C l (by omega) (fun rec n s hn i0 i1=>?_) (fun rec s=>?_) _ (by omega) (by omega)]
 ·rw[bS];unfold szr φB
  by_cases d:(sumN φ2C l:Int)≤left - l.length
  ·rw[if_pos d,if_pos (by omega)];show some _=some _;congr 1;omega
  ·rw[if_neg d,if_neg (by omega)];rfl
 ·have hb:=hx.2 l[n] (gM hn)
  simp only[ψ10.l0,oL,hn,dT,cT,φ8,φH,φ6 hn,φC (show n+1<9223372036854775808 by omega),φp,φ9h _ s i0 i1 hb,bS,φ13]
  by_cases d:(φ2C l[n]:Int)≤s
  ·simp only[d,dT,nZ,cF,if_true,φ1A d]
  ·simp only[d,dF,nF,cT,if_false]
 ·simp[ψ10.l0]
theorem φ9g (x:List UInt8×Int×Int×Int×Int):ψ1E.f x=some x:=rfl
theorem φ9C (l:List (List UInt8×Int×Int×Int×Int)) (hx:okL φ3E l) (hs:l.length≤1048576):ψ1F.f l=some l:=by
 have hl:=φo hx.1
 unfold ψ1F.f
 rw[φ2z,φ2x (by omega) (by omega)]
 simp only[]
 rw[φ2u l (by omega) (fun rec r n h1 h2=>?_) (fun rec r=>?_) _ (by simp)]
 ·rfl
 ·have h3:n<r.length:=by omega
  simp only[ψ1F.l0,oL,h1,h3,dT,cT,φ8,φH,φ6 h1,φC (show n+1<9223372036854775808 by omega),tN,φp,φ9g,bS]
 ·simp[ψ1F.l0]
theorem φB1 (x y:List UInt8×Int×Int×Int×Int):ψV.f x y=some (decide (x=y)):=by
 obtain ⟨a0,a1,a2,a3,a4⟩:=x
 obtain ⟨b0,b1,b2,b3,b4⟩:=y
 unfold ψV.f
 by_cases e0:a0=b0
 rotate_left
 ·have d2:(a0==b0)=false:=by simpa using e0
  have d3:(a0 != b0)=true:=by simpa using e0
  simp[e0,d2,d3]
 by_cases e1:a1=b1
 rotate_left
 ·have d2:(a1==b1)=false:=by simpa using e1
  have d3:(a1 != b1)=true:=by simpa using e1
  simp[e1,d2,d3]
 by_cases e2:a2=b2
 rotate_left
 ·have d2:(a2==b2)=false:=by simpa using e2
  have d3:(a2 != b2)=true:=by simpa using e2
  simp[e2,d2,d3]
 by_cases e3:a3=b3
 rotate_left
 ·have d2:(a3==b3)=false:=by simpa using e3
  have d3:(a3 != b3)=true:=by simpa using e3
  simp[e3,d2,d3]
 by_cases e4:a4=b4
 rotate_left
 ·have d2:(a4==b4)=false:=by simpa using e4
  have d3:(a4 != b4)=true:=by simpa using e4
  simp[e4,d2,d3]
 simp[e0,e1,e2,e3,e4]
theorem φ9G (a b:List (List UInt8×Int×Int×Int×Int)) (ha:a.length<2 ^ 62):ψW.f a b=some (decide (a=b)):=by
 unfold ψW.f
 by_cases hl:a.length=b.length
 rotate_left
 ·have:a≠b:=fun h=>hl (by rw[h])
  have h2:((a.length:Int) != (b.length:Int))=true:=by simp;omega
  rw[h2];simp[this]
 have h2:((a.length:Int) != (b.length:Int))=false:=by simp;omega
 rw[h2,cF,φ2b a b hl ha (fun rec n h1 h2=>?_) (fun rec=>?_)]
 ·by_cases e:a=b<;>simp[e,φG]
 ·simp only[ψW.l0,oL,h1,h2,dT,cT,φ8,φH,φ6 h1,φ6 h2,φC (show n+1<9223372036854775808 by omega),φp,φB1 _ _,bS]
  by_cases e:a[n]=b[n]
  ·simp[e]
  ·have e2:(a[n]==b[n])=false:=by simpa using e
   have e3:(a[n] != b[n])=true:=by simpa using e
   simp[e,e2,e3]
 ·simp[ψW.l0]
noncomputable def φ5E (k:Int) (x:List UInt8×Int×Int×Int×Int):List UInt8×Int×Int×Int×Int:=(mt k,k+1,k+2,k+3,k+4)
theorem φ9w (l:List (List UInt8×Int×Int×Int×Int)) (k:Int) (hl:l.length<2 ^ 62) (h0:0<k) (h1:k+5 * l.length<1000000000000):ψn.f l k=some (k+5 * l.length,φU φ5E 5 l k):=by
 unfold ψn.f
 rw[φ2s φ5E 5 l hl (fun rec r k n hr h h0 h1=>?_) (fun rec r k hr=>?_) k h0 h1]
 ·rfl
 ·have hn:n<4611686018427387904:=by omega
  have e1:w64 (k+1)=k+1:=by rw[φ2 (by omega) (by omega)]
  have e2:w64 (k+1+1)=k+2:=by rw[φ2 (by omega) (by omega)];omega
  have e3:w64 (k+2+1)=k+3:=by rw[φ2 (by omega) (by omega)];omega
  have e4:w64 (k+3+1)=k+4:=by rw[φ2 (by omega) (by omega)];omega
  have e5:w64 (k+4+1)=k+5:=by rw[φ2 (by omega) (by omega)];omega
  simp only[ψn.l0,oL,h,dT,cT,φ8,List.length_set,tN,φ2i h,φH,φ6 h,List.set_set,φC (show n+1<9223372036854775808 by omega),e1,e2,e3,e4,e5,φ1i k (by omega) (by omega),bS]
  rfl
 ·simp[ψn.l0,hr]
def φr (x:List (List UInt8×List UInt8×Int)×Int×Int×Bool):Nat:=φB φg x.1
def φ2F (x:List (List UInt8×List UInt8×Int)×Int×Int×Bool):Prop:=okL φ2v x.1
theorem φC6 (x:List (List UInt8×List UInt8×Int)×Int×Int×Bool) (h:wfD (.pair (.sl false (.pair .str (.pair .str (.int .i64)))) (.pair (.int .i64) (.pair (.int .i64) .bool))) x):φ2F x:=⟨h.1.1,fun y hy=>φAj y (h.1.2 y hy)⟩
theorem φ8o (x:List (List UInt8×List UInt8×Int)×Int×Int×Bool) (left:Int) (h0:0≤left) (h1:left≤1048576) (hx:φ2F x):ψx.f x left=some (szr (φr x) left):=by
 unfold φ2F at hx
 unfold ψx.f φr
 rw[φAP (x.1) left (by omega) (by omega) hx,bS,φ13]
 by_cases c0:((φB φg x.1:Nat):Int)≤left
 rotate_left
 ·simp only[c0,dF,nF,cT]
  all_goals (unfold szr;rw[if_neg (by omega)])
 simp only[c0,dT,nZ,cF]
 all_goals (rw[φ1A c0])
 all_goals (unfold szr;rw[if_pos (by omega)])
 all_goals first | done | (congr 1;omega)
theorem φ8w (x:List (List UInt8×List UInt8×Int)×Int×Int×Bool) (hx:φ2F x) (hs:φr x≤1048576):ψ1C.f x=some x:=by
 unfold φ2F at hx
 unfold φr at hs
 unfold ψ1C.f
 simp only[φBp (x.1) hx (by first | omega | (unfold φB at hs;omega)),bS]
def φ3u (x:List (List UInt8×List UInt8×Int)×Int×Int×Bool):Prop:=x.1.length<2 ^ 62
theorem φ9M (x y:List (List UInt8×List UInt8×Int)×Int×Int×Bool) (hx:φ3u x):ψT.f x y=some (decide (x=y)):=by
 have h0:=hx
 obtain ⟨a0,a1,a2,a3⟩:=x
 obtain ⟨b0,b1,b2,b3⟩:=y
 unfold ψT.f
 simp only[φAW a0 b0 h0,bS]
 by_cases e0:a0=b0
 rotate_left
 ·simp[e0]
 by_cases e1:a1=b1
 rotate_left
 ·have d2:(a1==b1)=false:=by simpa using e1
  have d3:(a1 != b1)=true:=by simpa using e1
  simp[e1,d2,d3]
 by_cases e2:a2=b2
 rotate_left
 ·have d2:(a2==b2)=false:=by simpa using e2
  have d3:(a2 != b2)=true:=by simpa using e2
  simp[e2,d2,d3]
 by_cases e3:a3=b3
 rotate_left
 ·have d2:(a3==b3)=false:=by simpa using e3
  have d3:(a3 != b3)=true:=by simpa using e3
  simp[e3,d2,d3]
 simp[e0,e1,e2,e3]
def φ1Z (x:List (List UInt8×List UInt8×Int)×Int×Int×Bool):Nat:=3 * x.1.length
noncomputable def φ62 (k:Int) (x:List (List UInt8×List UInt8×Int)×Int×Int×Bool):List (List UInt8×List UInt8×Int)×Int×Int×Bool:=(φU φ5s 3 (x.1) k,x.2.1,x.2.2.1,x.2.2.2)
def φ3H (x:List (List UInt8×List UInt8×Int)×Int×Int×Bool):Prop:=x.1.length<2 ^ 62
theorem φ9u (x:List (List UInt8×List UInt8×Int)×Int×Int×Bool) (k:Int) (hx:φ3H x) (h0:0<k) (h1:k+(φ1Z x:Nat)<1000000000000):ψl.f x k=some (k+(φ1Z x:Nat),φ62 k x):=by
 unfold φ3H at hx
 unfold φ1Z at h1 ⊢
 unfold ψl.f φ62
 rw[φCA (x.1) k hx (by omega) (by push_cast at h1 ⊢;omega)]
 simp only[bS]
 push_cast
 simp only[Int.add_assoc]
 try rfl
def φO (x:Bool×List (List UInt8×Int)×List (List UInt8×Bool×List UInt8)):Nat:=φB φ1k x.2.1+φB φ2N x.2.2
def φ26 (x:Bool×List (List UInt8×Int)×List (List UInt8×Bool×List UInt8)):Prop:=okL φ32 x.2.1∧okL φ2t x.2.2
theorem φ8c (x:Bool×List (List UInt8×Int)×List (List UInt8×Bool×List UInt8)) (h:wfD (.pair .bool (.pair (.sl false (.pair .str (.int .i64))) (.sl false (.pair .str (.pair .bool .str))))) x):φ26 x:=⟨⟨h.2.1.1,fun y hy=>φ9p y (h.2.1.2 y hy)⟩,⟨h.2.2.1,fun y hy=>φAy y (h.2.2.2 y hy)⟩⟩
theorem φAe (x:Bool×List (List UInt8×Int)×List (List UInt8×Bool×List UInt8)) (left:Int) (h0:0≤left) (h1:left≤1048576) (hx:φ26 x):ψ1A.f x left=some (szr (φO x) left):=by
 unfold φ26 at hx
 unfold ψ1A.f φO
 rw[φBY (x.2.1) left (by omega) (by omega) hx.1,bS,φ13]
 by_cases c0:((φB φ1k x.2.1:Nat):Int)≤left
 rotate_left
 ·simp only[c0,dF,nF,cT]
  all_goals (unfold szr;rw[if_neg (by omega)])
 simp only[c0,dT,nZ,cF]
 all_goals (rw[φ1A c0])
 rw[φ8r (x.2.2) (left - ((φB φ1k x.2.1:Nat):Int)) (by omega) (by omega) hx.2,bS,φ13]
 by_cases c1:((φB φ2N x.2.2:Nat):Int)≤left - ((φB φ1k x.2.1:Nat):Int)
 rotate_left
 ·simp only[c1,dF,nF,cT]
  all_goals (unfold szr;rw[if_neg (by omega)])
 simp only[c1,dT,nZ,cF]
 all_goals (rw[φ1A c1])
 all_goals (unfold szr;rw[if_pos (by omega)])
 all_goals first | done | (congr 1;omega)
theorem φ8n (x:Bool×List (List UInt8×Int)×List (List UInt8×Bool×List UInt8)) (hx:φ26 x) (hs:φO x≤1048576):ψ1P.f x=some x:=by
 unfold φ26 at hx
 unfold φO at hs
 unfold ψ1P.f
 simp only[φ8v (x.2.1) hx.1 (by first | omega | (unfold φB at hs;omega)),φBz (x.2.2) hx.2 (by first | omega | (unfold φB at hs;omega)),bS]
def φ4y (x:Bool×List (List UInt8×Int)×List (List UInt8×Bool×List UInt8)):Prop:=x.2.1.length<2 ^ 62∧x.2.2.length<2 ^ 62
theorem φ94 (x y:Bool×List (List UInt8×Int)×List (List UInt8×Bool×List UInt8)) (hx:φ4y x):ψi.f x y=some (decide (x=y)):=by
 obtain ⟨h1,h2⟩:=hx
 obtain ⟨a0,a1,a2⟩:=x
 obtain ⟨b0,b1,b2⟩:=y
 unfold ψi.f
 simp only[φBq a1 b1 h1,φAG a2 b2 h2,bS]
 by_cases e0:a0=b0
 rotate_left
 ·have d2:(a0==b0)=false:=by simpa using e0
  have d3:(a0 != b0)=true:=by simpa using e0
  simp[e0,d2,d3]
 by_cases e1:a1=b1
 rotate_left
 ·simp[e1]
 by_cases e2:a2=b2
 rotate_left
 ·simp[e2]
 simp[e0,e1,e2]
theorem φBX (a b:List (Bool×List (List UInt8×Int)×List (List UInt8×Bool×List UInt8))) (ha:a.length<2 ^ 62) (hx:∀x∈a,φ4y x):ψj.f a b=some (decide (a=b)):=by
 unfold ψj.f
 by_cases hl:a.length=b.length
 rotate_left
 ·have:a≠b:=fun h=>hl (by rw[h])
  have h2:((a.length:Int) != (b.length:Int))=true:=by simp;omega
  rw[h2];simp[this]
 have h2:((a.length:Int) != (b.length:Int))=false:=by simp;omega
 rw[h2,cF,φ2b a b hl ha (fun rec n h1 h2=>?_) (fun rec=>?_)]
 ·by_cases e:a=b<;>simp[e,φG]
 ·simp only[ψj.l0,oL,h1,h2,dT,cT,φ8,φH,φ6 h1,φ6 h2,φC (show n+1<9223372036854775808 by omega),φp,φ94 _ _ (hx a[n] (gM h1)),bS]
  by_cases e:a[n]=b[n]
  ·simp[e]
  ·have e2:(a[n]==b[n])=false:=by simpa using e
   have e3:(a[n] != b[n])=true:=by simpa using e
   simp[e,e2,e3]
 ·simp[ψj.l0]
def φ4D (x:Bool×List (List UInt8×Int)×List (List UInt8×Bool×List UInt8)):Prop:=x.2.1.length<2 ^ 62∧x.2.2.length<2 ^ 62
def φ21 (x:Int×List (Int)):Nat:=φB φ40 x.2
def φ2r (x:Int×List (Int)):Prop:=okL φ4i x.2
theorem φBn (x:Int×List (Int)) (h:wfD (.pair (.int .i64) (.sl false (.int .i64))) x):φ2r x:=⟨h.2.1,fun y hy=>φ9P y (h.2.2 y hy)⟩
theorem φAM (x:Int×List (Int)) (left:Int) (h0:0≤left) (h1:left≤1048576) (hx:φ2r x):ψ14.f x left=some (szr (φ21 x) left):=by
 unfold φ2r at hx
 unfold ψ14.f φ21
 rw[φ8b (x.2) left (by omega) (by omega) hx,bS,φ13]
 by_cases c0:((φB φ40 x.2:Nat):Int)≤left
 rotate_left
 ·simp only[c0,dF,nF,cT]
  all_goals (unfold szr;rw[if_neg (by omega)])
 simp only[c0,dT,nZ,cF]
 all_goals (rw[φ1A c0])
 all_goals (unfold szr;rw[if_pos (by omega)])
 all_goals first | done | (congr 1;omega)
theorem φ8l (x:Int×List (Int)) (hx:φ2r x) (hs:φ21 x≤1048576):ψ1J.f x=some x:=by
 unfold φ2r at hx
 unfold φ21 at hs
 unfold ψ1J.f
 simp only[φCH (x.2) hx (by first | omega | (unfold φB at hs;omega)),bS]
def φ72 (x:Int×List (Int)):Prop:=x.2.length<2 ^ 62
theorem φBN (x y:Int×List (Int)) (hx:φ72 x):ψa.f x y=some (decide (x=y)):=by
 have h1:=hx
 obtain ⟨a0,a1⟩:=x
 obtain ⟨b0,b1⟩:=y
 unfold ψa.f
 simp only[φ9Z a1 b1 h1,bS]
 by_cases e0:a0=b0
 rotate_left
 ·have d2:(a0==b0)=false:=by simpa using e0
  have d3:(a0 != b0)=true:=by simpa using e0
  simp[e0,d2,d3]
 by_cases e1:a1=b1
 rotate_left
 ·simp[e1]
 simp[e0,e1]
def φ1d (x:Int×List (Int)):Nat:=1 * x.2.length
noncomputable def φ5N (k:Int) (x:Int×List (Int)):Int×List (Int):=(x.1,φU φ5n 1 (x.2) k)
def φ5Y (x:Int×List (Int)):Prop:=x.2.length<2 ^ 62
theorem φAu (x:Int×List (Int)) (k:Int) (hx:φ5Y x) (h0:0<k) (h1:k+(φ1d x:Nat)<1000000000000):ψq.f x k=some (k+(φ1d x:Nat),φ5N k x):=by
 unfold φ5Y at hx
 unfold φ1d at h1 ⊢
 unfold ψq.f φ5N
 rw[φBM (x.2) k hx (by omega) (by push_cast at h1 ⊢;omega)]
 simp only[bS]
 push_cast
 simp only[Int.add_assoc]
 try rfl
def φ15 (x:(Int×List (Int))×List (List UInt8×Int×Int×Int×Int)×Int×Int×Int):Nat:=φ21 x.1+φB φ2C x.2.1
def φ2q (x:(Int×List (Int))×List (List UInt8×Int×Int×Int×Int)×Int×Int×Int):Prop:=φ2r x.1∧okL φ3E x.2.1
theorem φAJ (x:(Int×List (Int))×List (List UInt8×Int×Int×Int×Int)×Int×Int×Int) (h:wfD (.pair (.pair (.int .i64) (.sl false (.int .i64))) (.pair (.sl false (.pair .str (.pair (.int .i64) (.pair (.int .i64) (.pair (.int .i64) (.int .i64)))))) (.pair (.int .i64) (.pair (.int .i64) (.int .i64))))) x):φ2q x:=⟨φBn _ h.1,⟨h.2.1.1,fun y hy=>φ9q y (h.2.1.2 y hy)⟩⟩
theorem φ8a (x:(Int×List (Int))×List (List UInt8×Int×Int×Int×Int)×Int×Int×Int) (left:Int) (h0:0≤left) (h1:left≤1048576) (hx:φ2q x):ψ19.f x left=some (szr (φ15 x) left):=by
 unfold φ2q at hx
 unfold ψ19.f φ15
 rw[φAM (x.1) left (by omega) (by omega) hx.1,bS,φ13]
 by_cases c0:((φ21 x.1:Nat):Int)≤left
 rotate_left
 ·simp only[c0,dF,nF,cT]
  all_goals (unfold szr;rw[if_neg (by omega)])
 simp only[c0,dT,nZ,cF]
 all_goals (rw[φ1A c0])
 rw[φAh (x.2.1) (left - ((φ21 x.1:Nat):Int)) (by omega) (by omega) hx.2,bS,φ13]
 by_cases c1:((φB φ2C x.2.1:Nat):Int)≤left - ((φ21 x.1:Nat):Int)
 rotate_left
 ·simp only[c1,dF,nF,cT]
  all_goals (unfold szr;rw[if_neg (by omega)])
 simp only[c1,dT,nZ,cF]
 all_goals (rw[φ1A c1])
 all_goals (unfold szr;rw[if_pos (by omega)])
 all_goals first | done | (congr 1;omega)
theorem φAB (x:(Int×List (Int))×List (List UInt8×Int×Int×Int×Int)×Int×Int×Int) (hx:φ2q x) (hs:φ15 x≤1048576):ψ1O.f x=some x:=by
 unfold φ2q at hx
 unfold φ15 at hs
 unfold ψ1O.f
 simp only[φ8l (x.1) hx.1 (by omega),φ9C (x.2.1) hx.2 (by first | omega | (unfold φB at hs;omega)),bS]
def φ4b (x:(Int×List (Int))×List (List UInt8×Int×Int×Int×Int)×Int×Int×Int):Prop:=φ72 (x.1)∧x.2.1.length<2 ^ 62
theorem φ9E (x y:(Int×List (Int))×List (List UInt8×Int×Int×Int×Int)×Int×Int×Int) (hx:φ4b x):ψh.f x y=some (decide (x=y)):=by
 obtain ⟨h0,h1⟩:=hx
 obtain ⟨a0,a1,a2,a3,a4⟩:=x
 obtain ⟨b0,b1,b2,b3,b4⟩:=y
 unfold ψh.f
 simp only[φBN a0 b0 h0,φ9G a1 b1 h1,bS]
 by_cases e0:a0=b0
 rotate_left
 ·simp[e0]
 by_cases e1:a1=b1
 rotate_left
 ·simp[e1]
 by_cases e2:a2=b2
 rotate_left
 ·have d2:(a2==b2)=false:=by simpa using e2
  have d3:(a2 != b2)=true:=by simpa using e2
  simp[e2,d2,d3]
 by_cases e3:a3=b3
 rotate_left
 ·have d2:(a3==b3)=false:=by simpa using e3
  have d3:(a3 != b3)=true:=by simpa using e3
  simp[e3,d2,d3]
 by_cases e4:a4=b4
 rotate_left
 ·have d2:(a4==b4)=false:=by simpa using e4
  have d3:(a4 != b4)=true:=by simpa using e4
  simp[e4,d2,d3]
 simp[e0,e1,e2,e3,e4]
def φt (x:(Int×List (Int))×List (List UInt8×Int×Int×Int×Int)×Int×Int×Int):Nat:=φ1d (x.1)+5 * x.2.1.length
noncomputable def φ5d (k:Int) (x:(Int×List (Int))×List (List UInt8×Int×Int×Int×Int)×Int×Int×Int):(Int×List (Int))×List (List UInt8×Int×Int×Int×Int)×Int×Int×Int:=(φ5N k (x.1),φU φ5E 5 (x.2.1) (k+((φ1d (x.1):Nat):Int)),x.2.2.1,x.2.2.2.1,x.2.2.2.2)
def φ2f (x:(Int×List (Int))×List (List UInt8×Int×Int×Int×Int)×Int×Int×Int):Prop:=φ5Y (x.1)∧x.2.1.length<2 ^ 62
theorem φ9s (x:(Int×List (Int))×List (List UInt8×Int×Int×Int×Int)×Int×Int×Int) (k:Int) (hx:φ2f x) (h0:0<k) (h1:k+(φt x:Nat)<1000000000000):ψu.f x k=some (k+(φt x:Nat),φ5d k x):=by
 unfold φ2f at hx
 unfold φt at h1 ⊢
 unfold ψu.f φ5d
 rw[φAu (x.1) k hx.1 (by omega) (by push_cast at h1 ⊢;omega)]
 simp only[bS]
 rw[φ9w (x.2.1) (k+((φ1d (x.1):Nat):Int)) hx.2 (by omega) (by push_cast at h1 ⊢;omega)]
 simp only[bS]
 push_cast
 simp only[Int.add_assoc]
 try rfl
def φ1t (x:Bool×((Int×List (Int))×List (List UInt8×Int×Int×Int×Int)×Int×Int×Int)×(List (List UInt8×List UInt8×Int)×Int×Int×Bool)×List (Bool×List (List UInt8×Int)×List (List UInt8×Bool×List UInt8))):Nat:=φ15 x.2.1+φr x.2.2.1+φB φO x.2.2.2
def φ3M (x:Bool×((Int×List (Int))×List (List UInt8×Int×Int×Int×Int)×Int×Int×Int)×(List (List UInt8×List UInt8×Int)×Int×Int×Bool)×List (Bool×List (List UInt8×Int)×List (List UInt8×Bool×List UInt8))):Prop:=φ2q x.2.1∧φ2F x.2.2.1∧okL φ26 x.2.2.2
theorem φ9W (x:Bool×((Int×List (Int))×List (List UInt8×Int×Int×Int×Int)×Int×Int×Int)×(List (List UInt8×List UInt8×Int)×Int×Int×Bool)×List (Bool×List (List UInt8×Int)×List (List UInt8×Bool×List UInt8))) (h:wfD (.pair .bool (.pair (.pair (.pair (.int .i64) (.sl false (.int .i64))) (.pair (.sl false (.pair .str (.pair (.int .i64) (.pair (.int .i64) (.pair (.int .i64) (.int .i64)))))) (.pair (.int .i64) (.pair (.int .i64) (.int .i64))))) (.pair (.pair (.sl false (.pair .str (.pair .str (.int .i64)))) (.pair (.int .i64) (.pair (.int .i64) .bool))) (.sl false (.pair .bool (.pair (.sl false (.pair .str (.int .i64))) (.sl false (.pair .str (.pair .bool .str))))))))) x):φ3M x:=⟨φAJ _ h.2.1,φC6 _ h.2.2.1,⟨h.2.2.2.1,fun y hy=>φ8c y (h.2.2.2.2 y hy)⟩⟩
theorem φ1K (n a b:Int):ψM.f n a b=some (decide (a≤n∧n≤b)):=by
 unfold ψM.f
 by_cases h:a≤n
 ·have h2:n≥a:=h
  simp[h,h2]
 ·have h2:¬n≥a:=h
  simp[h,h2]
theorem φ1L (n a b:Int):ψ1m.f n a b=some (decide (a≤n∧n≤b)):=φ1K n a b
def φ1B (s:List UInt8):Bool:=decide (1≤s.length∧s.length≤8)
theorem φ6U (s:List UInt8):ψB.f s=some (φ1B s):=by
 unfold ψB.f φ1B
 rw[φ1K,bS]
 congr 1
 apply decide_eq_decide.2
 omega
theorem φC7 (s:List UInt8):ψ1b.f s=some (φ1B s):=φ6U s
abbrev φ1R:=List UInt8×List UInt8×Int
abbrev φ1o:=List UInt8×Int×Int×Int×Int
abbrev TxnT:=Bool×List (List UInt8×Int)×List (List UInt8×Bool×List UInt8)
def φ2O (l:List φ1o) (key:List UInt8):φ1o×Bool:=
 match l.find? (fun e=>e.1==key) with
 | some e=>(e,true)
 | none=>(([],0,0,0,0),false)
theorem φ9e (l:List φ1o) (key:List UInt8) (hl:l.length<2 ^ 62):ψ2.f l key=some (φ2O l key):=by
 have hk:=φ8P (step:=ψ2.l0) l (fun e=>e.1==key) (fun e=>(e,true)) (fun n=>(key,([],0,0,0,0),l,(l.length:Int),(n:Int))) ([],0,0,0,0) hl
  (fun rec n h=>by
   simp only[ψ2.l0,oL,h,dT,cT,φ8,φH,φ6 h,φp,φC (show n+1<9223372036854775808 by omega)]
   cases l[n].1==key<;>simp)
  (fun rec=>by simp[ψ2.l0])
 have hk:lp ψ2.l0 (key,([],0,0,0,0),l,(l.length:Int),0)=_:=hk
 unfold ψ2.f φ2O
 rw[hk,bS]
 cases List.find? (fun e=>e.1==key) l<;>rfl
theorem φBC (l:List φ1o) (key:List UInt8) (hl:l.length<2 ^ 62):ψ1T.f l key=some (φ2O l key):=by
 have hk:=φ8P (step:=ψ1T.l0) l (fun e=>e.1==key) (fun e=>(e,true)) (fun n=>(l,key,([],0,0,0,0),(n:Int))) ([],0,0,0,0) hl
  (fun rec n h=>by
   simp only[ψ1T.l0,oL,h,dT,cT,φ8,φH,φ6 h,φp,φC (show n+1<9223372036854775808 by omega)]
   cases l[n].1==key<;>simp)
  (fun rec=>by simp[ψ1T.l0])
 have hk:lp ψ1T.l0 (l,key,([],0,0,0,0),0)=_:=hk
 unfold ψ1T.f φ2O
 rw[hk,bS]
 cases List.find? (fun e=>e.1==key) l<;>rfl
theorem φ7a {α:Type} {P:List α→Prop} (h0:P []) (hs:∀l x,P l→P (l++[x])):∀l,P l:=by
 have key:∀n (l:List α),l.length=n→P l:=by
  intro n
  induction n with
  | zero=>intro l h;rw[List.eq_nil_of_length_eq_zero h];exact h0
  | succ n ih=>
   intro l h
   have hlt:n<l.length:=by omega
   have e:l.take n++[l[n]]=l:=by
    rw[←κ8 hlt,List.take_of_length_le (by omega)]
   rw[←e]
   exact hs _ _ (ih _ (by simp;omega))
 exact fun l=>key l.length l rfl
theorem φ8U {a:Nat} (h:a<1000000000001):(a+1) * 40≤140737488355328:=by omega
def leK (a b:List UInt8):Bool:=Op.bytesLess a b || a==b
theorem dnn {k:Int} (h:0≤k):decide (k<0)=false:=by
 have:¬k<0:=by omega
 simp[this]
theorem φ7W:∀a:List UInt8,Op.bytesLess a a=false
 | []=>rfl
 | x::a=>by simp[Op.bytesLess,φ7W a]
theorem φ6Y {a b:UInt8}:a<b↔a.toNat<b.toNat:=UInt8.lt_iff_toNat_lt
theorem φ92 {a b:UInt8} (h:a.toNat=b.toNat):a=b:=UInt8.toNat.inj h
theorem φ7X:∀a b c:List UInt8,Op.bytesLess a b=true→Op.bytesLess b c=true→Op.bytesLess a c=true
 | _,[],_,h,_=>by simp[Op.bytesLess] at h
 | _,_::_,[],_,h=>by simp[Op.bytesLess] at h
 | [],_::_,_::_,_,_=>rfl
 | x::a,y::b,z::c,h1,h2=>by
  simp only[Op.bytesLess,Bool.or_eq_true,decide_eq_true_eq,bA,beq_iff_eq] at h1 h2 ⊢
  rcases h1 with h1 | ⟨h1,k1⟩
  ·rcases h2 with h2 | ⟨h2,k2⟩
   ·left;rw[φ6Y] at *;omega
   ·left;rw[←h2];exact h1
  ·rcases h2 with h2 | ⟨h2,k2⟩
   ·left;rw[h1];exact h2
   ·exact .inr ⟨h1.trans h2,φ7X a b c k1 k2⟩
theorem φ7f:∀a b:List UInt8,Op.bytesLess a b=false→a≠b→Op.bytesLess b a=true
 | [],[],_,h=>absurd rfl h
 | [],_::_,h,_=>by simp[Op.bytesLess] at h
 | _::_,[],_,_=>rfl
 | x::a,y::b,h1,h2=>by
  simp only[Op.bytesLess,κ6,decide_eq_false_iff_not,Bool.and_eq_false_iff] at h1
  simp only[Op.bytesLess,Bool.or_eq_true,decide_eq_true_eq,bA,beq_iff_eq]
  by_cases e:x=y
  ·subst e
   right
   refine ⟨rfl,φ7f a b ?_ fun e=>h2 (by rw[e])⟩
   rcases h1.2 with k | k
   ·simp at k
   ·exact k
  ·left
   rw[φ6Y] at *
   have:=h1.1
   have hne:x.toNat≠y.toNat:=fun k=>e (φ92 k)
   omega
theorem φ8j (a b:List UInt8) (h:Op.bytesLess a b=true):Op.bytesLess b a=false:=by
 cases hb:Op.bytesLess b a with
 | false=>rfl
 | true=>have:=φ7X a b a h hb;rw[φ7W] at this;simp at this
theorem φA2 (a b:List UInt8):leK a b=!Op.bytesLess b a:=by
 unfold leK
 cases h:Op.bytesLess a b with
 | true=>rw[φ8j a b h];rfl
 | false=>
  by_cases e:a=b
  ·subst e;simp[h]
  ·rw[φ7f a b h e]
   have:(a==b)=false:=by simpa using e
   simp[this]
def φ2U (b:UInt8):Bool:=(decide (97≤b.toNat) && decide (b.toNat≤122)) || (decide (48≤b.toNat) && decide (b.toNat≤57))
def φ2o (s:List UInt8):Bool:=s.all φ2U && decide (1≤s.length∧s.length≤12)
theorem φ2I (s:List UInt8) (n:Nat) (h:n<s.length):bAt s (n:Int)=(s[n].toNat:Int):=by
 unfold bAt
 rw[tN,φ6 h]
theorem φ4I {a:Nat} {k:Nat}:decide ((a:Int)≥(k:Int))=decide (k≤a):=decide_eq_decide.2 (by omega)
theorem φ3o {a:Nat} {k:Nat}:decide ((a:Int)≤(k:Int))=decide (a≤k):=decide_eq_decide.2 (by omega)
theorem φ9j (s:List UInt8) (hl:s.length<2 ^ 62):ψC.f s=some (φ2o s):=by
 have key:=φ7y (step:=ψC.l0) s φ2U (fun n=>(s,(n:Int))) s hl
  (fun rec n h=>by
   have hw:w64 ((n:Int)+1)=((n+1:Nat):Int):=φC (by omega)
   have e1:decide ((s[n].toNat:Int)≥97)=decide (97≤s[n].toNat):=φ4I (k:=97)
   have e2:decide ((s[n].toNat:Int)≤122)=decide (s[n].toNat≤122):=φ3o (k:=122)
   have e3:decide ((s[n].toNat:Int)≥48)=decide (48≤s[n].toNat):=φ4I (k:=48)
   have e4:decide ((s[n].toNat:Int)≤57)=decide (s[n].toNat≤57):=φ3o (k:=57)
   simp only[ψC.l0,oL,h,dT,cT,φ8,φ2I s n h,e1,e2,e3,e4]
   unfold φ2U
   cases decide (97≤s[n].toNat)<;>cases decide (s[n].toNat≤122)<;>cases decide (48≤s[n].toNat)<;>cases decide (s[n].toNat≤57)<;>simp[hw])
  (fun rec=>by simp[ψC.l0])
 have key:lp ψC.l0 (s,0)=_:=key
 unfold ψC.f φ2o
 rw[key,bS]
 have e:decide ((1:Int)≤(s.length:Int)∧(s.length:Int)≤12)=decide (1≤s.length∧s.length≤12):=decide_eq_decide.2 (by omega)
 cases h:s.all φ2U
 ·simp
 ·simp only[if_true,φ20,φ1K,bS,e,tA]
theorem φAr (s:List UInt8) (hl:s.length<2 ^ 62):ψ1c.f s=some (φ2o s):=by
 have key:=φ7y (step:=ψ1c.l0) s φ2U (fun n=>(s,(n:Int))) s hl
  (fun rec n h=>by
   have hw:w64 ((n:Int)+1)=((n+1:Nat):Int):=φC (by omega)
   have e1:decide ((s[n].toNat:Int)≥97)=decide (97≤s[n].toNat):=φ4I (k:=97)
   have e2:decide ((s[n].toNat:Int)≤122)=decide (s[n].toNat≤122):=φ3o (k:=122)
   have e3:decide ((s[n].toNat:Int)≥48)=decide (48≤s[n].toNat):=φ4I (k:=48)
   have e4:decide ((s[n].toNat:Int)≤57)=decide (s[n].toNat≤57):=φ3o (k:=57)
   simp only[ψ1c.l0,oL,h,dT,cT,φ8,φ2I s n h,e1,e2,e3,e4]
   unfold φ2U
   cases decide (97≤s[n].toNat)<;>cases decide (s[n].toNat≤122)<;>cases decide (48≤s[n].toNat)<;>cases decide (s[n].toNat≤57)<;>simp[hw])
  (fun rec=>by simp[ψ1c.l0])
 have key:lp ψ1c.l0 (s,0)=_:=key
 unfold ψ1c.f φ2o
 rw[key,bS]
 have e:decide ((1:Int)≤(s.length:Int)∧(s.length:Int)≤12)=decide (1≤s.length∧s.length≤12):=decide_eq_decide.2 (by omega)
 cases h:s.all φ2U
 ·simp
 ·simp only[if_true,φ20,φ1L,bS,e,tA]
abbrev φi:=List UInt8×List UInt8×Int
abbrev φN:=List φi×Int×Int×Bool
def φJ (l:List φi):Nat:=sumN (fun f=>f.2.1.length) l
def φ2y (f:φi):Bool:=φ2o f.1 && decide (0≤f.2.2∧f.2.2≤(f.2.1.length:Int))
def φ2c:Option (List UInt8)→List φi→Bool
 | _,[]=>true
 | none,f::r=>φ2c (some f.1) r
 | some p,f::r=>Op.bytesLess p f.1 && φ2c (some f.1) r
def φ3h (l:List φi):Bool:=l.all φ2y && φ2c none l
def φ2T (d:φN):Bool:=decide (d.1.length≤130) && (decide (0≤d.2.1∧d.2.1≤100000) && (decide (-1≤d.2.2.1∧d.2.2.1≤100000) && (decide ((φJ d.1:Int)≤d.2.1) && φ3h d.1)))
def φ1m (l:List φi):Nat→Option (List UInt8)
 | 0=>none
 | n+1=>some (l.getD n ([],[],0)).1
def φ2h (p:Option (List UInt8)) (l:List φi):Bool:=l.all φ2y && φ2c p l
def follows (p:Option (List UInt8)) (f:φi):Bool:=match p with | none=>true | some q=>Op.bytesLess q f.1
theorem φ6h (p:Option (List UInt8)) (f:φi) (l:List φi):φ2h p (f::l)=(φ2y f && follows p f && φ2h (some f.1) l):=by
 unfold φ2h follows
 cases p<;>simp only[List.all_cons,φ2c]<;>cases φ2y f<;>simp[Bool.and_comm,Bool.and_assoc,Bool.and_left_comm]
theorem φ9I (d:φN) (hl:d.1.length<2 ^ 62) (hu:φJ d.1<2 ^ 62):ψ1o.f d=some (φJ d.1:Int):=by
 have key:=φa (step:=ψ1o.l0) (fun n (s:Int)=>(d,s,(n:Int))) d.1.length (fun n s=>s+(φJ (d.1.drop n):Int)) (fun n s=>0≤s∧s+(φJ (d.1.drop n):Int)<2 ^ 62)
  (fun rec n s hn hi ih=>by
   rcases κ1 n d.1.length with h | h
   ·have e:φJ (d.1.drop n)=d.1[n].2.1.length+φJ (d.1.drop (n+1)):=φ5q _ h
    have h2:=hi.2
    have h1:=hi.1
    rw[e] at h2
    simp only[ψ1o.l0,oL,h,dT,cT,φ8,φH,φ6 h,φC (show n+1<9223372036854775808 by omega)]
    rw[φ2 (by omega) (by omega),ih _ h ⟨by omega,by omega⟩,e]
    congr 1;omega
   ·have:n=d.1.length:=by omega
    subst this
    simp[ψ1o.l0,φJ,sumN])
  hl 0 0 (κB _) ⟨by omega,by simp only[List.drop_zero];omega⟩
 have key:lp ψ1o.l0 (d,0,0)=_:=key
 unfold ψ1o.f
 rw[key];simp
theorem φ4E (l:List φi) (n:Nat) (h:n<l.length):φ1m l (n+1)=some l[n].1:=by
 show some (l.getD n ([],[],0)).1=_
 rw[φ6 h]
theorem φBB (d:φN) (hl:d.1.length<2 ^ 62) (hu:φJ d.1<2 ^ 62) (hn:∀f∈d.1,f.1.length<2 ^ 62):lp ψ4.l0 (d,0,d.1,(d.1.length:Int),0)=some (if φ3h d.1=true then .inl (d,(φJ d.1:Int)) else .inr false):=by
 have key:=φa (step:=ψ4.l0) (fun n (s:Int)=>(d,s,d.1,(d.1.length:Int),(n:Int))) d.1.length (fun n s=>if φ2h (φ1m d.1 n) (d.1.drop n)=true then .inl (d,s+(φJ (d.1.drop n):Int)) else .inr false) (fun n s=>0≤s∧s+(φJ (d.1.drop n):Int)<2 ^ 62)
  (fun rec n s hn' hi ih=>by
   rcases κ1 n d.1.length with h | h
   ·have e:φJ (d.1.drop n)=d.1[n].2.1.length+φJ (d.1.drop (n+1)):=φ5q _ h
    have h2:=hi.2
    have h1:=hi.1
    rw[e] at h2
    have hw:w64 ((n:Int)+1)=((n+1:Nat):Int):=φC (by omega)
    have hw2:w64 (s+(d.1[n].2.1.length:Int))=s+(d.1[n].2.1.length:Int):=φ2 (by omega) (by omega)
    have ih2:=ih (s+(d.1[n].2.1.length:Int)) h ⟨by omega,by omega⟩
    have ea:s+(d.1[n].2.1.length:Int)+(φJ (d.1.drop (n+1)):Int)=s+((d.1[n].2.1.length+φJ (d.1.drop (n+1)):Nat):Int):=by omega
    rw[φ4E d.1 n h,ea] at ih2
    have hnm:=hn d.1[n] (gM h)
    rw[dG h,φ6h,←dG h,e]
    simp only[ψ4.l0,oL,h,dT,cT,φ8,φH,φ6 h,φ9j _ hnm,bS,φ1K]
    unfold φ2y
    rcases bE (φ2o d.1[n].1) with k1 | k1
    rotate_left
    ·simp[k1]
    rcases bE (decide (0≤d.1[n].2.2∧d.1[n].2.2≤(d.1[n].2.1.length:Int))) with k2 | k2
    rotate_left
    ·simp only[k1,k2,nZ,nF,cF,cT,bS,φ3a];simp
    simp only[k1,k2,nZ,cF,tA]
    cases n with
    | zero=>
     have z:¬((0:Nat):Int) > 0:=by omega
     simp only[z,dF,cF,bS,φ20,hw2,hw,ih2,φ1m,follows,tA]
    | succ m=>
     have z:((m+1:Nat):Int) > 0:=by omega
     have hm:m<d.1.length:=by omega
     have z2:w64 (((m+1:Nat):Int) - 1)=(m:Int):=by rw[φ2 (by omega) (by omega)];omega
     rw[φ4E d.1 m hm]
     simp only[z,dT,cT,z2,φ8,hm,φH,φ6 hm,follows]
     rcases bE (Op.bytesLess d.1[m].1 d.1[m+1].1) with k3 | k3
     ·simp only[k3,nZ,cF,bS,φ20,hw2,hw,ih2,tA]
     ·simp[k3]
   ·have:n=d.1.length:=by omega
    subst this
    simp[ψ4.l0,φ2h,φ2c,φJ,sumN])
  hl 0 0 (κB _) ⟨by omega,by simp only[List.drop_zero];omega⟩
 have key:lp ψ4.l0 (d,0,d.1,(d.1.length:Int),0)=_:=key
 rw[key,List.drop_zero,Int.zero_add];rfl
theorem φ93 (d:φN) (hl:d.1.length<2 ^ 62) (hn:∀f∈d.1,f.1.length<2 ^ 62):lp ψ1U.l0 (d,0)=some (if φ3h d.1=true then .inl () else .inr false):=by
 have key:=φa (step:=ψ1U.l0) (fun n (_:Unit)=>(d,(n:Int))) d.1.length (fun n _=>if φ2h (φ1m d.1 n) (d.1.drop n)=true then .inl () else .inr false) (fun _ _=>True)
  (fun rec n s hn' _ ih=>by
   rcases κ1 n d.1.length with h | h
   ·have hw:w64 ((n:Int)+1)=((n+1:Nat):Int):=φC (by omega)
    have ih2:=ih () h trivial
    rw[φ4E d.1 n h] at ih2
    have hnm:=hn d.1[n] (gM h)
    rw[dG h,φ6h]
    simp only[ψ1U.l0,oL,h,dT,cT,φ8,φH,φ6 h,φAr _ hnm,bS,φ1L]
    unfold φ2y
    rcases bE (φ2o d.1[n].1) with k1 | k1
    rotate_left
    ·simp[k1]
    rcases bE (decide (0≤d.1[n].2.2∧d.1[n].2.2≤(d.1[n].2.1.length:Int))) with k2 | k2
    rotate_left
    ·simp only[k1,k2,nZ,nF,cF,cT,bS,φ3a];simp
    simp only[k1,k2,nZ,cF,tA]
    cases n with
    | zero=>
     have z:¬((0:Nat):Int) > 0:=by omega
     simp only[z,dF,cF,bS,φ20,hw,ih2,φ1m,follows,tA]
    | succ m=>
     have z:((m+1:Nat):Int) > 0:=by omega
     have hm:m<d.1.length:=by omega
     have z2:w64 (((m+1:Nat):Int) - 1)=(m:Int):=by rw[φ2 (by omega) (by omega)];omega
     have z3:(Op.bytesLess d.1[m+1].1 d.1[m].1 || d.1[m+1].1==d.1[m].1)=!Op.bytesLess d.1[m].1 d.1[m+1].1:=φA2 _ _
     rw[φ4E d.1 m hm]
     simp only[z,dT,cT,z2,φ8,hm,φH,φ6 hm,follows,z3]
     rcases bE (Op.bytesLess d.1[m].1 d.1[m+1].1) with k3 | k3
     ·simp only[k3,nZ,cF,bS,φ20,hw,ih2,tA]
     ·simp[k3]
   ·have:n=d.1.length:=by omega
    subst this
    simp[ψ1U.l0,φ2h,φ2c])
  hl 0 () (κB _) trivial
 have key:lp ψ1U.l0 (d,0)=_:=key
 rw[key,List.drop_zero];rfl
def dlim (d:φN):Prop:=d.1.length<1000000000∧φJ d.1<1000000000000∧∀f∈d.1,f.1.length<1000000000000
theorem φ8t (d:φN) (h:dlim d):ψ4.f d=some (φ2T d):=by
 obtain ⟨h1,h2,h3⟩:=h
 unfold ψ4.f φ2T
 have e1:decide ((d.1.length:Int) > 130)=!decide (d.1.length≤130):=by
  by_cases c:d.1.length≤130
  ·have:¬(d.1.length:Int) > 130:=by omega
   simp[c,this]
  ·have:(d.1.length:Int) > 130:=by omega
   simp[c,this]
 rw[e1,φ1K,φ1K,φBB d (by omega) (by omega) fun f hf=>by have:=h3 f hf;omega]
 cases decide (d.1.length≤130)
 ·rfl
 ·simp only[nZ,cF,bS,tA]
  cases decide (0≤d.2.1∧d.2.1≤100000)
  ·rfl
  ·simp only[nZ,cF,bS,tA]
   cases decide (-1≤d.2.2.1∧d.2.2.1≤100000)
   ·rfl
   ·cases φ3h d.1<;>simp
theorem φ8h (d:φN) (h:dlim d):ψ1U.f d=some (φ2T d):=by
 obtain ⟨h1,h2,h3⟩:=h
 unfold ψ1U.f φ2T
 have e1:decide ((d.1.length:Int) > 130)=!decide (d.1.length≤130):=by
  by_cases c:d.1.length≤130
  ·have:¬(d.1.length:Int) > 130:=by omega
   simp[c,this]
  ·have:(d.1.length:Int) > 130:=by omega
   simp[c,this]
 have e2:decide ((φJ d.1:Int) > d.2.1)=!decide ((φJ d.1:Int)≤d.2.1):=by
  by_cases c:(φJ d.1:Int)≤d.2.1
  ·have:¬(φJ d.1:Int) > d.2.1:=by omega
   simp[c,this]
  ·have:(φJ d.1:Int) > d.2.1:=by omega
   simp[c,this]
 rw[e1,φ1L,φ1L,φ9I d (by omega) (by omega),φ93 d (by omega) fun f hf=>by have:=h3 f hf;omega]
 cases decide (d.1.length≤130)
 ·rfl
 ·simp only[nZ,cF,bS,tA]
  cases decide (0≤d.2.1∧d.2.1≤100000)
  ·rfl
  ·simp only[nZ,cF,bS,tA]
   cases decide (-1≤d.2.2.1∧d.2.2.1≤100000)
   ·rfl
   ·simp only[nZ,cF,bS,tA,e2]
    cases decide ((φJ d.1:Int)≤d.2.1)
    ·rfl
    ·cases φ3h d.1<;>simp
def φ1a (l:List φi) (name:List UInt8):Int:=match l.findIdx? (fun f=>f.1==name) with | some i=>(i:Int) | none=>-1
theorem φ7q {A B:Type} {step:(A→Option (B ⊕ Int))→A→Option (B ⊕ Int)} (l:List φi) (name:List UInt8) (st:Nat→A) (b:B) (hl:l.length<2 ^ 62)
  (hs:∀rec n,(h:n<l.length)→step rec (st n)=if (l[n].1==name)=true then some (.inr (n:Int)) else rec (st (n+1)))
  (he:∀rec,step rec (st l.length)=some (.inl b)):lp step (st 0)=some (match l.findIdx? (fun f=>f.1==name) with | some i=>.inr (i:Int) | none=>.inl b):=by
 have:=φa (step:=step) (fun n (_:Unit)=>st n) l.length (fun n _=>match (l.drop n).findIdx? (fun f=>f.1==name) with | some i=>.inr ((n+i:Nat):Int) | none=>.inl b) (fun _ _=>True)
  (fun rec n s hn _ ih=>by
   rcases κ1 n l.length with h | h
   ·rw[hs rec n h,ih () h trivial,dG h,List.findIdx?_cons]
    cases hf:l[n].1==name
    ·simp only[Bool.false_eq_true,if_false]
     cases List.findIdx? (fun f=>f.1==name) (l.drop (n+1)) with
     | none=>rfl
     | some i=>simp only[Option.map_some];congr 2;omega
    ·simp
   ·have:n=l.length:=by omega
    subst this
    rw[he];simp) hl 0 () (κB _) trivial
 simpa using this
theorem φBO (d:φN) (name:List UInt8) (hl:d.1.length<2 ^ 62):ψL.f d name=some (φ1a d.1 name):=by
 have hk:=φ7q (step:=ψL.l0) d.1 name (fun n=>(name,d.1,(d.1.length:Int),(n:Int))) () hl
  (fun rec n h=>by
   simp only[ψL.l0,oL,h,dT,cT,φ8,φH,φ6 h,φC (show n+1<9223372036854775808 by omega)]
   cases d.1[n].1==name<;>simp)
  (fun rec=>by simp[ψL.l0])
 have hk:lp ψL.l0 (name,d.1,(d.1.length:Int),0)=_:=hk
 unfold ψL.f φ1a
 rw[hk,bS]
 cases List.findIdx? (fun f=>f.1==name) d.1<;>rfl
theorem φAK (d:φN) (name:List UInt8) (hl:d.1.length<2 ^ 62):ψ1n.f d name=some (φ1a d.1 name):=by
 have hk:=φ7q (step:=ψ1n.l0) d.1 name (fun n=>(name,d,(n:Int))) () hl
  (fun rec n h=>by
   simp only[ψ1n.l0,oL,h,dT,cT,φ8,φH,φ6 h,φC (show n+1<9223372036854775808 by omega)]
   cases d.1[n].1==name<;>simp)
  (fun rec=>by simp[ψ1n.l0])
 have hk:lp ψ1n.l0 (name,d,0)=_:=hk
 unfold ψ1n.f φ1a
 rw[hk,bS]
 cases List.findIdx? (fun f=>f.1==name) d.1<;>rfl
theorem φ50 (l:List φi) (name:List UInt8):(φ1a l name=-1∧∀f∈l,f.1≠name)∨∃i:Nat,∃h:i<l.length,φ1a l name=(i:Int)∧l[i].1=name:=by
 unfold φ1a
 cases hf:List.findIdx? (fun f=>f.1==name) l with
 | none=>
  left
  refine ⟨rfl,fun f hm=>?_⟩
  have:=List.findIdx?_eq_none_iff.1 hf f hm
  simpa using this
 | some i=>
  right
  obtain ⟨h,h1,_⟩:=List.findIdx?_eq_some_iff_getElem.1 hf
  exact ⟨i,h,rfl,by simpa using h1⟩
theorem φ6v {l:List φi} {i:Nat} (h:i<l.length):inB (i:Int) l.length=true:=by simp[h]
theorem φ6w {l:List φi} {i:Nat} (h:i<l.length):rdA ([],[],0) l (i:Int)=l[i]:=by rw[φH,φ6 h]
theorem φ5G {l:List φi} {name:List UInt8} (h:φ1a l name=-1):l.findIdx? (fun f=>f.1==name)=none:=by
 unfold φ1a at h
 cases e:l.findIdx? (fun f=>f.1==name) with
 | none=>rfl
 | some i=>rw[e] at h;simp only at h;omega
theorem φ5k {l:List φi} {name:List UInt8} {i:Nat} (h:φ1a l name=(i:Int)):l.findIdx? (fun f=>f.1==name)=some i:=by
 unfold φ1a at h
 cases e:l.findIdx? (fun f=>f.1==name) with
 | none=>rw[e] at h;simp only at h;omega
 | some j=>rw[e] at h;simp only at h;congr 1;omega
theorem φBe {l:List φi} {f:φi} (h:f∈l):f.2.1.length≤φJ l:=φ3k (fun f=>f.2.1.length) h
theorem φ4a {α:Type} {f g:α→Nat} (h:∀x,f x≤g x):∀l:List α,sumN f l≤sumN g l
 | []=>κD _
 | x::l=>Nat.add_le_add (h x) (φ4a h l)
theorem φA9 {x0:φN} (hok:φ2F x0) (hb:φr x0≤1048576):dlim x0:=by
 have h1:φJ x0.1≤sumN φg x0.1:=φ4a (fun f=>by unfold φg;omega) _
 unfold φr φB at hb
 refine ⟨by omega,by omega,fun f hf=>?_⟩
 have h2:=φ3k φg hf
 have h3:f.1.length≤φg f:=by unfold φg;omega
 omega
theorem φ7J {n:Nat} (h:n<9223372036854775808):IntKind.wrap .i64 (n:Int)=n:=φ1O h
theorem φ56 {n:Nat} (h:n<4294967296):IntKind.wrap .u32 (n:Int)=n:=by
 unfold IntKind.wrap
 simp only[IntKind.bits,IntKind.signed]
 simp;omega
theorem φ7Q (a b:Nat) (ha:a<2 ^ 63) (hb:b<2 ^ 63):bits (fun _ a b=>a ^^^ b) .i64 (a:Int) (b:Int)=((a ^^^ b:Nat):Int):=by
 unfold bits
 have h:a ^^^ b<2 ^ 63:=Nat.xor_lt_two_pow ha hb
 have e:(BitVec.ofInt 64 (a:Int) ^^^ BitVec.ofInt 64 (b:Int)).toNat=a ^^^ b:=by
  rw[BitVec.ofInt_natCast,BitVec.ofInt_natCast,BitVec.toNat_xor,BitVec.toNat_ofNat,BitVec.toNat_ofNat,Nat.mod_eq_of_lt (by omega),Nat.mod_eq_of_lt (by omega)]
 show IntKind.wrap .i64 ((BitVec.ofInt 64 (a:Int) ^^^ BitVec.ofInt 64 (b:Int)).toNat:Int)=_
 rw[e]
 exact φ7J (by omega)
theorem φ5y (a b:Nat) (ha:a<2 ^ 32) (hb:b<2 ^ 32):bits (fun _ a b=>a ^^^ b) .u32 (a:Int) (b:Int)=((a ^^^ b:Nat):Int):=by
 unfold bits
 have h:a ^^^ b<2 ^ 32:=Nat.xor_lt_two_pow ha hb
 have e:(BitVec.ofInt 32 (a:Int) ^^^ BitVec.ofInt 32 (b:Int)).toNat=a ^^^ b:=by
  rw[BitVec.ofInt_natCast,BitVec.ofInt_natCast,BitVec.toNat_xor,BitVec.toNat_ofNat,BitVec.toNat_ofNat,Nat.mod_eq_of_lt (by omega),Nat.mod_eq_of_lt (by omega)]
 show IntKind.wrap .u32 ((BitVec.ofInt 32 (a:Int) ^^^ BitVec.ofInt 32 (b:Int)).toNat:Int)=_
 rw[e]
 exact φ56 (by omega)
theorem φBs (a:Nat) (ha:a<2 ^ 32):bits (fun _ a b=>a &&& b) .u32 (a:Int) 1=((a % 2:Nat):Int):=by
 unfold bits
 have e:(BitVec.ofInt 32 (a:Int) &&& BitVec.ofInt 32 ((1:Nat):Int)).toNat=a % 2:=by
  rw[BitVec.ofInt_natCast,BitVec.ofInt_natCast,BitVec.toNat_and,BitVec.toNat_ofNat,BitVec.toNat_ofNat,Nat.mod_eq_of_lt (by omega)]
  exact Nat.and_one_is_mod a
 show IntKind.wrap .u32 ((BitVec.ofInt 32 (a:Int) &&& BitVec.ofInt 32 ((1:Nat):Int)).toNat:Int)=_
 rw[e]
 exact φ56 (by omega)
def crc1 (c:Nat):Nat:=if c % 2=1 then (c / 2) ^^^ 2197175160 else c / 2
def crcK:Nat→Nat→Nat
 | 0,c=>c
 | k+1,c=>crcK k (crc1 c)
def crcB (c:Nat) (b:UInt8):Nat:=crcK 8 (c ^^^ b.toNat)
def crcN (s:List UInt8):Nat:=s.foldl crcB 4294967295
def crcT (s:List UInt8):Int:=((4294967295 - crcN s:Nat):Int)
theorem φ6E {c:Nat} (h:c<2 ^ 32):crc1 c<2 ^ 32:=by
 unfold crc1
 split
 ·exact Nat.xor_lt_two_pow (by omega) (by decide)
 ·omega
theorem φ6p:∀(k:Nat) {c:Nat},c<2 ^ 32→crcK k c<2 ^ 32
 | 0,_,h=>h
 | k+1,_,h=>φ6p k (φ6E h)
theorem φ55 {c:Nat} (h:c<2 ^ 32) (b:UInt8):crcB c b<2 ^ 32:=
 φ6p 8 (Nat.xor_lt_two_pow h (by have:=b.toNat_lt;omega))
theorem φ63:∀(s:List UInt8) {c:Nat},c<2 ^ 32→s.foldl crcB c<2 ^ 32
 | [],_,h=>h
 | b::s,_,h=>φ63 s (φ55 h b)
theorem φ8J (s:List UInt8):0≤crcT s∧crcT s≤4294967295:=by unfold crcT;omega
theorem φBG (s:List UInt8) (c:Nat) (i:Int) (hc:c<2 ^ 32):lp ψ1R.l2 (s,(c:Int),i,0)=some (s,((crcK 8 c:Nat):Int),i):=by
 have:=φa (step:=ψ1R.l2) (fun n (c:Nat)=>(s,(c:Int),i,(n:Int))) 8 (fun n c=>(s,((crcK (8 - n) c:Nat):Int),i)) (fun _ c=>c<2 ^ 32)
  (fun rec n c hn hc ih=>by
   rcases κ1 n 8 with h | h
   ·have h8:(n:Int)<8:=by omega
    have hw:w64 ((n:Int)+1)=((n+1:Nat):Int):=φC (by omega)
    have e1:w64 (Int.tdiv (c:Int) 2)=((c / 2:Nat):Int):=by
     rw[show Int.tdiv (c:Int) 2=((c / 2:Nat):Int) from rfl];exact φ1O (by omega)
    have e2:Int.tmod (c:Int) 2=((c % 2:Nat):Int):=rfl
    have e3:bits (fun _ a b=>a ^^^ b) .i64 ((c / 2:Nat):Int) 2197175160=(((c / 2) ^^^ 2197175160:Nat):Int):=φ7Q (c / 2) 2197175160 (by omega) (by decide)
    have e4:crcK (8 - n) c=crcK (8 - (n+1)) (crc1 c):=by
     rw[show 8 - n=(8 - (n+1))+1 by omega];rfl
    have ih:=ih (crc1 c) h (φ6E hc)
    rw[e4,←ih]
    simp only[ψ1R.l2,h8,dT,cT,e1,e2]
    unfold crc1
    by_cases k:c % 2=1
    ·have k2:(((c % 2:Nat):Int)==1)=true:=by rw[k];rfl
     simp only[k2,cT,e3,bS,hw]
     rw[if_pos k]
    ·have k2:(((c % 2:Nat):Int)==1)=false:=by simp;omega
     simp only[k2,cF,bS,hw]
     rw[if_neg k]
   ·have:n=8:=by omega
    subst this
    simp[ψ1R.l2,crcK])
  (by omega) 0 c (κB _) hc
 exact this
theorem φ8p (s:List UInt8) (c:Nat) (i:Int) (hc:c<2 ^ 32):lp ψ0.l2 (s,(c:Int),i,0)=some (s,((crcK 8 c:Nat):Int),i):=by
 have:=φa (step:=ψ0.l2) (fun n (c:Nat)=>(s,(c:Int),i,(n:Int))) 8 (fun n c=>(s,((crcK (8 - n) c:Nat):Int),i)) (fun _ c=>c<2 ^ 32)
  (fun rec n c hn hc ih=>by
   rcases κ1 n 8 with h | h
   ·have h8:(n:Int)<8:=by omega
    have hw:w64 ((n:Int)+1)=((n+1:Nat):Int):=φC (by omega)
    have e1:Int.fdiv (c:Int) (2 ^ (min 1 32))=((c / 2:Nat):Int):=by
     show Int.fdiv (c:Int) 2=_
     rw[Int.fdiv_eq_ediv_of_nonneg _ (by omega)];rfl
    have e3:bits (fun _ a b=>a ^^^ b) .u32 ((c / 2:Nat):Int) 2197175160=(((c / 2) ^^^ 2197175160:Nat):Int):=φ5y (c / 2) 2197175160 (by omega) (by decide)
    have e4:crcK (8 - n) c=crcK (8 - (n+1)) (crc1 c):=by
     rw[show 8 - n=(8 - (n+1))+1 by omega];rfl
    have ih:=ih (crc1 c) h (φ6E hc)
    rw[e4,←ih]
    simp only[ψ0.l2,h8,dT,cT,e1,φBs c hc]
    unfold crc1
    by_cases k:c % 2=1
    ·have k2:(((c % 2:Nat):Int)==1)=true:=by rw[k];rfl
     simp only[k2,cT,e3,bS,hw]
     rw[if_pos k]
    ·have k2:(((c % 2:Nat):Int)==1)=false:=by simp;omega
     simp only[k2,cF,bS,hw]
     rw[if_neg k]
   ·have:n=8:=by omega
    subst this
    simp[ψ0.l2,crcK])
  (by omega) 0 c (κB _) hc
 exact this
theorem φ9t (s:List UInt8) (hl:s.length<2 ^ 62):ψ1R.f s=some (crcT s):=by
 have hk:=φ7i (step:=ψ1R.l0) s crcB (fun n (c:Nat)=>(s,(c:Int),(n:Int))) (fun c=>(c:Int)) (fun _ c=>c<2 ^ 32) hl
  (fun rec n c h hc=>by
   have hc:c<2 ^ 32:=hc
   have hw:w64 ((n:Int)+1)=((n+1:Nat):Int):=φC (by omega)
   have hb:=s[n].toNat_lt
   have e1:w64 (bAt s (n:Int))=((s[n].toNat:Nat):Int):=by rw[φ2I s n h];exact φ1O (by omega)
   have e2:=φ7Q c s[n].toNat (by omega) (by omega)
   simp only[ψ1R.l0,oL,h,dT,cT,φ8,e1,e2]
   rw[φBG s _ _ (Nat.xor_lt_two_pow hc (by omega))]
   simp only[bS,hw];rfl)
  (fun n c h hc=>φ55 hc _)
  (fun rec c hc=>by simp[ψ1R.l0]) 4294967295 (by decide)
 have hk:lp ψ1R.l0 (s,4294967295,0)=_:=hk
 unfold ψ1R.f crcT crcN
 rw[hk,bS]
 have:=φ63 s (c:=4294967295) (by decide)
 generalize s.foldl crcB 4294967295=c at *
 simp only
 rw[φ2 (by omega) (by omega)]
 congr 1;omega
theorem φB9 (c:Nat) (h:c<2 ^ 32):4294967295 ^^^ c=4294967295 - c:=by
 have e:(BitVec.allOnes 32 ^^^ BitVec.ofNat 32 c).toNat=(~~~ BitVec.ofNat 32 c).toNat:=by rw[BitVec.allOnes_xor]
 rw[BitVec.toNat_xor,BitVec.toNat_not,BitVec.toNat_allOnes,BitVec.toNat_ofNat,Nat.mod_eq_of_lt h] at e
 have e:4294967295 ^^^ c=4294967296 - 1 - c:=e
 omega
theorem φC5 (s:List UInt8) (hl:s.length<2 ^ 62):ψ0.f s=some (crcT s):=by
 have hk:=φ7i (step:=ψ0.l0) s crcB (fun n (c:Nat)=>(s,(c:Int),(n:Int))) (fun c=>(c:Int)) (fun _ c=>c<2 ^ 32) hl
  (fun rec n c h hc=>by
   have hc:c<2 ^ 32:=hc
   have hw:w64 ((n:Int)+1)=((n+1:Nat):Int):=φC (by omega)
   have hb:=s[n].toNat_lt
   have e1:IntKind.wrap .u32 (bAt s (n:Int))=((s[n].toNat:Nat):Int):=by rw[φ2I s n h];exact φ56 (by omega)
   have e2:=φ5y c s[n].toNat (by omega) (by omega)
   simp only[ψ0.l0,oL,h,dT,cT,φ8,e1,e2]
   rw[φ8p s _ _ (Nat.xor_lt_two_pow hc (by omega))]
   simp only[bS,hw];rfl)
  (fun n c h hc=>φ55 hc _)
  (fun rec c hc=>by simp[ψ0.l0]) 4294967295 (by decide)
 have hk:lp ψ0.l0 (s,4294967295,0)=_:=hk
 unfold ψ0.f crcT crcN
 rw[hk,bS]
 have:=φ63 s (c:=4294967295) (by decide)
 generalize s.foldl crcB 4294967295=c at *
 have e:bits (fun _ a b=>a ^^^ b) .u32 4294967295 (c:Int)=((4294967295 ^^^ c:Nat):Int):=φ5y 4294967295 c (by decide) this
 simp only[e,φB9 c this]
 rw[φ1O (by omega)]
def vLow (n:Nat):List UInt8:=if h:n<128 then [] else UInt8.ofNat (128+n % 128)::vLow (n / 128)
termination_by n
decreasing_by omega
def vTop (n:Nat):Nat:=if h:n<128 then n else vTop (n / 128)
termination_by n
decreasing_by omega
theorem φ4j:∀(k n:Nat),n<128 ^ (k+1)→(vLow n).length≤k
 | 0,n,h=>by unfold vLow;rw[dif_pos (by simpa using h)];simp
 | k+1,n,h=>by
  unfold vLow
  split
  ·simp
  ·have:=φ4j k (n / 128) (by rw[Nat.div_lt_iff_lt_mul (by omega)];rw[κJ] at h;exact h)
   simp only[lC];omega
def varT (n:Int):List UInt8:=if 0≤n∧n≤562949953421311 then vLow n.toNat++[UInt8.ofNat (vTop n.toNat)] else []
theorem φ18 (n:Int):(varT n).length≤7:=by
 unfold varT
 split
 ·rename_i h
  have:=φ4j 6 n.toNat (by show _<562949953421312;omega)
  rw[lA,List.length_singleton];omega
 ·simp
theorem φ3I (n:Nat):UInt8.ofNat (IntKind.wrap .u8 (n:Int)).toNat=UInt8.ofNat n:=by
 have e:IntKind.wrap .u8 (n:Int)=((n % 256:Nat):Int):=by
  unfold IntKind.wrap
  simp only[IntKind.bits,IntKind.signed]
  simp
 rw[e,tN]
 exact UInt8.ofNat_mod_size
theorem φ9k:ψK.l0=ψ1l.l0:=by
 funext rec x
 obtain ⟨x0,x3⟩:=x
 have e1:decide (x0 > 127)=decide (x0≥128):=decide_eq_decide.2 (by omega)
 simp only[ψK.l0,ψ1l.l0,e1,Int.add_comm 128]
theorem φ9H:ψK.f=ψ1l.f:=by
 funext n
 unfold ψK.f ψ1l.f
 rw[φ1K,φ1L,φ9k]
theorem φCC (a b:List Int):φL (a++b)=φL a++φL b:=mp
def φ1C (n:Nat):List Int:=if h:n<128 then [] else IntKind.wrap .u8 (w64 (128+(n % 128:Nat)))::φ1C (n / 128)
termination_by n
decreasing_by omega
theorem φ6A (n:Nat):φL (φ1C n)=vLow n:=by
 unfold φ1C vLow
 split
 ·rfl
 ·rw[show φL (IntKind.wrap .u8 (w64 (128+(n % 128:Nat)))::φ1C (n / 128))=UInt8.ofNat (IntKind.wrap .u8 (w64 (128+(n % 128:Nat)))).toNat::φL (φ1C (n / 128)) from rfl,φ6A (n / 128)]
  have e:w64 (128+((n % 128:Nat):Int))=((128+n % 128:Nat):Int):=by rw[φ2 (by omega) (by omega)];omega
  rw[e,φ3I]
termination_by n
decreasing_by omega
theorem φBI (n:Nat):(φ1C n).length=(vLow n).length:=by rw[←φ6A];unfold φL;rw[lM]
theorem φBx (m:Nat) (hm:m<128 ^ 7):lp ψ1l.l0 ((m:Int),[])=some (((vTop m:Nat):Int),φ1C m):=by
 have:=φ42 (step:=ψ1l.l0) (a:=((m:Int),([]:List Int)))
  (fun a=>(((vTop a.1.toNat:Nat):Int),a.2++φ1C a.1.toNat)) (fun a=>0≤a.1∧a.2.length≤7∧a.1.toNat<128 ^ (7 - a.2.length)) (fun a=>a.1.toNat)
  (fun rec a ha ih=>by
   obtain ⟨x,l⟩:=a
   obtain ⟨n,rfl⟩:∃n:Nat,x=(n:Int):=⟨x.toNat,by have:=ha.1;simp only at this;omega⟩
   obtain ⟨_,h2,h3⟩:=ha
   simp only[tN] at h2 h3 ih ⊢
   have hn:n<128 ^ 7:=κ2 h3 (Nat.pow_le_pow_right (by omega) (by omega))
   have hn:n<562949953421312:=hn
   by_cases c:n<128
   ·have c1:¬(n:Int)≥128:=by omega
    simp only[ψ1l.l0,c1,dF,cF]
    rw[show vTop n=n by unfold vTop;rw[dif_pos c],show φ1C n=[] by unfold φ1C;rw[dif_pos c],κ3]
   ·have c1:(n:Int)≥128:=by omega
    have h4:l.length<7:=by
     rcases κ1 l.length 7 with h | h
     ·exact h
     ·rw[show 7 - l.length=0 by omega] at h3;simp at h3;omega
    have e1:Int.tmod (n:Int) 128=((n % 128:Nat):Int):=rfl
    have e2:w64 (Int.tdiv (n:Int) 128)=((n / 128:Nat):Int):=by
     rw[show Int.tdiv (n:Int) 128=((n / 128:Nat):Int) from rfl];exact φ1O (by omega)
    have hb:(l.length+[IntKind.wrap .u8 (w64 (128+((n % 128:Nat):Int)))].length) * 1≤140737488355328:=by
     show (l.length+1) * 1≤_;omega
    have ih:=ih (((n / 128:Nat):Int),l++[IntKind.wrap .u8 (w64 (128+((n % 128:Nat):Int)))]) ⟨by simp only;omega,by rw[lA];show _+1≤_;omega,by
     rw[lA,tN]
     show _<128 ^ (7 - (l.length+1))
     rw[Nat.div_lt_iff_lt_mul (by omega),←κJ,show (7 - (l.length+1)).succ=7 - l.length by omega];exact h3⟩ (by simp only[tN];omega)
    simp only[tN] at ih
    simp only[ψ1l.l0,c1,dT,cT,e1,e2,hb,ih]
    rw[show vTop n=vTop (n / 128) by rw[vTop,dif_neg c],show φ1C n=IntKind.wrap .u8 (w64 (128+(n % 128:Nat)))::φ1C (n / 128) by rw[φ1C,dif_neg c],aA];rfl)
  ⟨by simp only;omega,by simp,by simpa using hm⟩ (by simp only[tN];have:m<562949953421312:=hm;omega)
 simpa using this
theorem φ3z (n:Int):ψ1l.f n=some (varT n):=by
 unfold ψ1l.f varT
 rw[φ1L,bS]
 by_cases h:0≤n∧n≤562949953421311
 rotate_left
 ·simp[h]
 obtain ⟨m,rfl⟩:∃m:Nat,n=(m:Int):=⟨n.toNat,by omega⟩
 have hm:m<128 ^ 7:=by show m<562949953421312;omega
 have key:∃L:List Int,φL L=vLow m∧L.length≤7∧lp ψ1l.l0 ((m:Int),[])=some (((vTop m:Nat):Int),L):=
  ⟨φ1C m,φ6A m,by rw[φBI];have:=φ4j 6 m hm;omega,φBx m hm⟩
 obtain ⟨L,e1,e2,e3⟩:=key
 have hb:(L.length+[IntKind.wrap .u8 ((vTop m:Nat):Int)].length) * 1≤140737488355328:=by
  show (L.length+1) * 1≤_;omega
 simp only[h,and_self,dT,nZ,cF,e3,bS,hb,cT,if_true,φCC,e1,tN]
 unfold φL
 simp only[κC,List.map_nil,φ3I]
theorem φCG (n:Int):ψK.f n=some (varT n):=by rw[φ9H,φ3z]
def fixL (n:Nat):Nat→List UInt8
 | 0=>[]
 | k+1=>UInt8.ofNat (n / 256 ^ k)::fixL n k
theorem φ5f (n:Nat):∀k,(fixL n k).length=k
 | 0=>rfl
 | k+1=>by simp[fixL,φ5f n k]
theorem φ4Z (n:Nat):∀k,fixL n (k+1)=fixL (n / 256) k++[UInt8.ofNat n]
 | 0=>by simp[fixL]
 | k+1=>by
  rw[fixL,φ4Z n k]
  show _=UInt8.ofNat (n / 256 / 256 ^ k)::fixL (n / 256) k++[UInt8.ofNat n]
  rw[Nat.div_div_eq_div_mul,κJ,Nat.mul_comm (256 ^ k) 256];rfl
def fix4 (n:Int):List UInt8:=if 0≤n∧n≤4294967295 then fixL n.toNat 4 else []
theorem φ6u (n:Int) (hn:n<9223372036854775808):ψ1Y.f n 4=some (fix4 n):=by
 unfold ψ1Y.f fix4
 rw[φ1L,bS]
 by_cases h:0≤n
 rotate_left
 ·have h1:n<0:=by omega
  simp[h,h1]
 obtain ⟨m,rfl⟩:∃m:Nat,n=(m:Int):=⟨n.toNat,by omega⟩
 have key:=φa (step:=ψ1Y.l0) (fun i (s:Nat×List UInt8)=>((s.1:Int),4,s.2,(i:Int))) 4 (fun i s=>(((s.1 / 256 ^ (4 - i):Nat):Int),fixL s.1 (4 - i)++s.2)) (fun i s=>s.1<9223372036854775808∧s.2.length≤i)
  (fun rec i s hi hv ih=>by
   obtain ⟨a,l⟩:=s
   obtain ⟨hv1,hv2⟩:=hv
   simp only at hv1 hv2 ih ⊢
   rcases κ1 i 4 with h4 | h4
   ·have e0:(i:Int)<4:=by omega
    have e1:Int.tmod (a:Int) 256=((a % 256:Nat):Int):=rfl
    have e2:w64 (Int.tdiv (a:Int) 256)=((a / 256:Nat):Int):=by
     rw[show Int.tdiv (a:Int) 256=((a / 256:Nat):Int) from rfl];exact φ1O (by omega)
    have e3:φL [IntKind.wrap .u8 ((a % 256:Nat):Int)]=[UInt8.ofNat a]:=by
     unfold φL
     simp only[κC,List.map_nil,φ3I]
     congr 1;exact UInt8.ofNat_mod_size
    have hw:w64 ((i:Int)+1)=((i+1:Nat):Int):=φC (by omega)
    have hb:([UInt8.ofNat a]:List UInt8).length+l.length≤9223372036854775807:=by show 1+_≤_;omega
    have ih:=ih (a / 256,[UInt8.ofNat a]++l) h4 ⟨by simp only;omega,by simp;omega⟩
    simp only at ih
    simp only[ψ1Y.l0,e0,dT,cT,e1,e2,e3,hb,hw,ih]
    rw[show 4 - i=(4 - (i+1))+1 by omega,φ4Z,κJ,Nat.mul_comm,←Nat.div_div_eq_div_mul,aA]
   ·have:i=4:=by omega
    subst this
    simp[ψ1Y.l0,fixL])
  (by omega) 0 (m,[]) (κB _) ⟨by simp only;omega,by simp⟩
 have key:lp ψ1Y.l0 ((m:Int),4,[],0)=some (((m / 256 ^ 4:Nat):Int),fixL m 4++[]):=key
 have h1:¬(m:Int)<0:=by omega
 have h0:decide ((1:Int)≤4∧(4:Int)≤7)=true:=by decide
 have h2:(decide ((((m / 256 ^ 4:Nat):Int)) > 0))=!decide (0≤(m:Int)∧(m:Int)≤4294967295):=by
  have:m / 256 ^ 4=m / 4294967296:=rfl
  by_cases c:m≤4294967295
  ·have:m / 256 ^ 4=0:=by rw[this];omega
   rw[this];simp;omega
  ·have:0<m / 256 ^ 4:=by rw[this];omega
   have c2:¬(0≤(m:Int)∧(m:Int)≤4294967295):=by omega
   simp only[c2,dF,nF,decide_eq_true_eq];omega
 simp only[h0,h1,dF,nZ,cF,key,bS,h2,κ3,tN]
 by_cases c:0≤(m:Int)∧(m:Int)≤4294967295
 ·simp[c]
 ·rw[if_neg c,decide_eq_false c];rfl
def fixI (n:Nat):Nat→List Int
 | 0=>[]
 | k+1=>IntKind.wrap .u8 ((n / 256 ^ k:Nat):Int)::fixI n k
theorem φ7A (n:Nat):∀k,φL (fixI n k)=fixL n k
 | 0=>rfl
 | k+1=>by
  rw[fixI,fixL,←φ7A n k,←φ3I];rfl
theorem φ9V (n:Int):ψ8.f n 4=some (fix4 n):=by
 unfold ψ8.f fix4
 have h0:decide ((1:Int)≤4∧(4:Int)≤7)=true:=by decide
 have h1:decide (0≤w64 (8 * 4))=true:=by decide
 have h2:w64 (w64 (1 * 2 ^ (min (w64 (8 * 4)).toNat 64)) - 1)=4294967295:=by decide
 simp only[φ1K,bS,h0,h1,h2,nZ,cF,cT]
 by_cases h:0≤n∧n≤4294967295
 rotate_left
 ·simp[h]
 obtain ⟨m,rfl⟩:∃m:Nat,n=(m:Int):=⟨n.toNat,by omega⟩
 have key:=φ42 (step:=ψ8.l0) (a:=((m:Int),([]:List Int),(3:Int)))
  (fun a=>a.2.1++(fixI m (a.2.2+1).toNat)) (fun a=>a.1=(m:Int)∧-1≤a.2.2∧a.2.2≤3∧(a.2.1.length:Int)≤3 - a.2.2) (fun a=>(a.2.2+1).toNat)
  (fun rec a ha ih=>by
   obtain ⟨x,l,k⟩:=a
   obtain ⟨hx,ha1,ha2,ha3⟩:=ha
   simp only at hx ha1 ha2 ha3 ih ⊢
   subst hx
   by_cases c:k≥0
   ·obtain ⟨j,rfl⟩:∃j:Nat,k=(j:Int):=⟨k.toNat,by omega⟩
    have e1:w64 (8 * (j:Int))=((8 * j:Nat):Int):=by rw[φ2 (by omega) (by omega)];omega
    have e2:Int.fdiv (m:Int) (2 ^ (min ((8 * j:Nat):Int).toNat 64))=((m / 256 ^ j:Nat):Int):=by
     have e:(2:Int) ^ (8 * j)=((256 ^ j:Nat):Int):=by
      rw[show (256:Nat)=2 ^ 8 from rfl,←Nat.pow_mul,Int.natCast_pow];rfl
     rw[tN,Nat.min_eq_left (by omega),e,Int.fdiv_eq_ediv_of_nonneg _ (Int.natCast_nonneg _)]
     rfl
    have e3:w64 ((j:Int) - 1)=(j:Int) - 1:=φ2 (by omega) (by omega)
    have hb:(l.length+[IntKind.wrap .u8 ((m / 256 ^ j:Nat):Int)].length) * 1≤140737488355328:=by show (l.length+1) * 1≤_;omega
    have ih:=ih ((m:Int),l++[IntKind.wrap .u8 ((m / 256 ^ j:Nat):Int)],(j:Int) - 1) ⟨rfl,by simp only;omega,by simp only;omega,by simp only[lA,List.length_singleton];omega⟩ (by simp only;omega)
    simp only at ih
    have h0:(0:Int)≤((8 * j:Nat):Int):=by omega
    simp only[ψ8.l0,c,dT,cT,e1,h0,e2,hb,e3,ih]
    rw[show ((j:Int) - 1+1).toNat=j by omega,show ((j:Int)+1).toNat=j+1 by omega,fixI,aA];rfl
   ·have:k=-1:=by omega
    subst this
    simp[ψ8.l0,fixI])
  ⟨rfl,by simp only;omega,by simp only;omega,by simp⟩ (by show (4:Nat)<2 ^ 62;decide)
 have e9:w64 (4 - 1)=3:=by decide
 have key:lp ψ8.l0 ((m:Int),[],3)=some (fixI m 4):=key
 simp only[h,and_self,dT,nZ,cF,e9,key,bS,if_true,tN,φ7A]
abbrev RecT:=Int×Int×List UInt8×List UInt8×Int×Int
def φn (r:RecT):Bool:=
 decide (0≤r.2.1∧r.2.1≤1000000) && (!(r.2.1==0) || r.1==5) &&
 (if r.1=1∨r.1=4 then φ1B r.2.2.1 && (decide (r.2.2.2.1.length≤24) && (r.2.2.2.2.1==0 && r.2.2.2.2.2==0))
 else if r.1=2 then φ1B r.2.2.1 && (r.2.2.2.1==[] && (r.2.2.2.2.1==0 && r.2.2.2.2.2==0))
 else if r.1=3 then r.2.2.1==[] && (r.2.2.2.1==[] && (decide (0≤r.2.2.2.2.1∧r.2.2.2.2.1≤8) && decide (0≤r.2.2.2.2.2∧r.2.2.2.2.2≤4294967295)))
 else if r.1=5 then r.2.2.1==[] && (r.2.2.2.1==[] && (decide (0≤r.2.2.2.2.1∧r.2.2.2.2.1≤20) && decide (0≤r.2.2.2.2.2∧r.2.2.2.2.2≤4294967295)))
 else false)
theorem φ8q (r:RecT):ψ1h.f r=some (φn r):=by
 obtain ⟨k,b,ky,v,c,s⟩:=r
 have e24:decide ((v.length:Int)≤24)=decide (v.length≤24):=decide_eq_decide.2 (by omega)
 unfold ψ1h.f φn
 simp only[φ1L,bS,φC7,e24]
 by_cases hb:0≤b∧b≤1000000
 rotate_left
 ·simp only[hb,dF,nF,cT,bS,φ3a,Bool.false_and]
 simp only[hb,and_self,dT,nZ,cF,tA]
 rcases bE (b==0 && k != 5) with h | h
 ·simp only[bA] at h
  have h2:(k==5)=false:=by have:=h.2;simpa [bne] using this
  simp only[h.1,h.2,h2,cT,bS,φ3a,nZ,Bool.false_or,Bool.false_and]
 have e1:(!(b==0) || k==5)=true:=by
  cases h3:(b==0)<;>cases h4:(k==5)<;>simp_all [bne]
 have e2:(bif b==0 then (bif k != 5 then some (Sum.inr false) else some (Sum.inl ((k,b,ky,v,c,s):RecT))) else some (Sum.inl (k,b,ky,v,c,s)):Option (RecT ⊕ Bool))=some (Sum.inl (k,b,ky,v,c,s)):=by
  cases h3:(b==0)
  ·rfl
  ·rw[h3] at h
   have h4:(k != 5)=false:=by simpa using h
   rw[h4];rfl
 simp only[e2,bS,φ20,e1,tA]
 by_cases k1:k=1
 ·subst k1
  simp only[cT,cF,bS,e24,beq_self_eq_true,tA,Bool.and_true,show ((1:Int)==1)=true from rfl,show ((4:Int)==1)=false from rfl,show ((4:Int)==4)=true from rfl,show ((2:Int)==2)=true from rfl,show ((3:Int)==2)=false from rfl,show ((3:Int)==3)=true from rfl,show ((5:Int)==5)=true from rfl,show ((5:Int)==3)=false from rfl,show ((5:Int)==2)=false from rfl,show ((4:Int)==5)=false from rfl,show ((3:Int)==5)=false from rfl,show ((2:Int)==5)=false from rfl,show ((1:Int)==5)=false from rfl]
  cases φ1B ky<;>cases decide (v.length≤24)<;>cases (c==0)<;>simp
 by_cases k4:k=4
 ·subst k4
  simp only[cT,cF,bS,e24,beq_self_eq_true,tA,Bool.and_true,show ((1:Int)==1)=true from rfl,show ((4:Int)==1)=false from rfl,show ((4:Int)==4)=true from rfl,show ((2:Int)==2)=true from rfl,show ((3:Int)==2)=false from rfl,show ((3:Int)==3)=true from rfl,show ((5:Int)==5)=true from rfl,show ((5:Int)==3)=false from rfl,show ((5:Int)==2)=false from rfl,show ((4:Int)==5)=false from rfl,show ((3:Int)==5)=false from rfl,show ((2:Int)==5)=false from rfl,show ((1:Int)==5)=false from rfl]
  cases φ1B ky<;>cases decide (v.length≤24)<;>cases (c==0)<;>simp
 have b1:(k==1)=false:=by simpa using k1
 have b4:(k==4)=false:=by simpa using k4
 simp only[b1,b4,cF,bS,k1,k4,or_self,if_false]
 by_cases k2:k=2
 ·subst k2
  simp only[cT,cF,bS,e24,beq_self_eq_true,tA,Bool.and_true,show ((1:Int)==1)=true from rfl,show ((4:Int)==1)=false from rfl,show ((4:Int)==4)=true from rfl,show ((2:Int)==2)=true from rfl,show ((3:Int)==2)=false from rfl,show ((3:Int)==3)=true from rfl,show ((5:Int)==5)=true from rfl,show ((5:Int)==3)=false from rfl,show ((5:Int)==2)=false from rfl,show ((4:Int)==5)=false from rfl,show ((3:Int)==5)=false from rfl,show ((2:Int)==5)=false from rfl,show ((1:Int)==5)=false from rfl]
  cases φ1B ky<;>cases (v==[])<;>cases (c==0)<;>simp
 have b2:(k==2)=false:=by simpa using k2
 simp only[b2,cF,k2,if_false]
 by_cases k3:k=3
 ·subst k3
  simp only[cT,cF,bS,e24,beq_self_eq_true,tA,Bool.and_true,show ((1:Int)==1)=true from rfl,show ((4:Int)==1)=false from rfl,show ((4:Int)==4)=true from rfl,show ((2:Int)==2)=true from rfl,show ((3:Int)==2)=false from rfl,show ((3:Int)==3)=true from rfl,show ((5:Int)==5)=true from rfl,show ((5:Int)==3)=false from rfl,show ((5:Int)==2)=false from rfl,show ((4:Int)==5)=false from rfl,show ((3:Int)==5)=false from rfl,show ((2:Int)==5)=false from rfl,show ((1:Int)==5)=false from rfl]
  cases (ky==[])<;>cases (v==[])<;>cases decide (0≤c∧c≤8)<;>simp
 have b3:(k==3)=false:=by simpa using k3
 simp only[b3,cF,k3,if_false]
 by_cases k5:k=5
 ·subst k5
  simp only[cT,cF,bS,e24,beq_self_eq_true,tA,Bool.and_true,show ((1:Int)==1)=true from rfl,show ((4:Int)==1)=false from rfl,show ((4:Int)==4)=true from rfl,show ((2:Int)==2)=true from rfl,show ((3:Int)==2)=false from rfl,show ((3:Int)==3)=true from rfl,show ((5:Int)==5)=true from rfl,show ((5:Int)==3)=false from rfl,show ((5:Int)==2)=false from rfl,show ((4:Int)==5)=false from rfl,show ((3:Int)==5)=false from rfl,show ((2:Int)==5)=false from rfl,show ((1:Int)==5)=false from rfl]
  cases (ky==[])<;>cases (v==[])<;>cases decide (0≤c∧c≤20)<;>simp
 have b5:(k==5)=false:=by simpa using k5
 simp only[b5,cF,k5,if_false]
theorem φ4N (r:RecT):ψH.f r=some (φn r):=by
 obtain ⟨k,b,ky,v,c,s⟩:=r
 have e24:decide ((v.length:Int)≤24)=decide (v.length≤24):=decide_eq_decide.2 (by omega)
 have hb0:decide (1≤b∧b≤1000000)=(decide (0≤b∧b≤1000000) && !(b==0)):=by
  by_cases h:b=0
  ·subst h;rfl
  ·have:(b==0)=false:=by simpa using h
   rw[this,nF,Bool.and_true]
   exact decide_eq_decide.2 (by omega)
 unfold ψH.f φn
 simp only[φ1K,bS,φ6U,e24,hb0,beq_self_eq_true,tA,Bool.and_true]
 by_cases k1:k=1
 ·subst k1
  simp only[cT,cF,bS,e24,hb0,beq_self_eq_true,tA,Bool.and_true,show ((1:Int)==1)=true from rfl,show ((4:Int)==1)=false from rfl,show ((4:Int)==4)=true from rfl,show ((2:Int)==2)=true from rfl,show ((3:Int)==2)=false from rfl,show ((3:Int)==3)=true from rfl,show ((5:Int)==5)=true from rfl,show ((5:Int)==3)=false from rfl,show ((5:Int)==2)=false from rfl,show ((4:Int)==5)=false from rfl,show ((3:Int)==5)=false from rfl,show ((2:Int)==5)=false from rfl,show ((1:Int)==5)=false from rfl]
  cases φ1B ky<;>cases decide (v.length≤24)<;>cases decide (0≤b∧b≤1000000)<;>cases (b==0)<;>simp
 by_cases k4:k=4
 ·subst k4
  simp only[cT,cF,bS,e24,hb0,beq_self_eq_true,tA,Bool.and_true,show ((1:Int)==1)=true from rfl,show ((4:Int)==1)=false from rfl,show ((4:Int)==4)=true from rfl,show ((2:Int)==2)=true from rfl,show ((3:Int)==2)=false from rfl,show ((3:Int)==3)=true from rfl,show ((5:Int)==5)=true from rfl,show ((5:Int)==3)=false from rfl,show ((5:Int)==2)=false from rfl,show ((4:Int)==5)=false from rfl,show ((3:Int)==5)=false from rfl,show ((2:Int)==5)=false from rfl,show ((1:Int)==5)=false from rfl]
  cases φ1B ky<;>cases decide (v.length≤24)<;>cases decide (0≤b∧b≤1000000)<;>cases (b==0)<;>simp
 have b1:(k==1)=false:=by simpa using k1
 have b4:(k==4)=false:=by simpa using k4
 simp only[b1,b4,cF,bS,k1,k4,or_self,if_false]
 by_cases k2:k=2
 ·subst k2
  simp only[cT,cF,bS,e24,hb0,beq_self_eq_true,tA,Bool.and_true,show ((1:Int)==1)=true from rfl,show ((4:Int)==1)=false from rfl,show ((4:Int)==4)=true from rfl,show ((2:Int)==2)=true from rfl,show ((3:Int)==2)=false from rfl,show ((3:Int)==3)=true from rfl,show ((5:Int)==5)=true from rfl,show ((5:Int)==3)=false from rfl,show ((5:Int)==2)=false from rfl,show ((4:Int)==5)=false from rfl,show ((3:Int)==5)=false from rfl,show ((2:Int)==5)=false from rfl,show ((1:Int)==5)=false from rfl]
  cases φ1B ky<;>cases decide (0≤b∧b≤1000000)<;>cases (b==0)<;>simp
 have b2:(k==2)=false:=by simpa using k2
 simp only[b2,cF,k2,if_false]
 by_cases k3:k=3
 ·subst k3
  simp only[cT,cF,bS,e24,hb0,beq_self_eq_true,tA,Bool.and_true,show ((1:Int)==1)=true from rfl,show ((4:Int)==1)=false from rfl,show ((4:Int)==4)=true from rfl,show ((2:Int)==2)=true from rfl,show ((3:Int)==2)=false from rfl,show ((3:Int)==3)=true from rfl,show ((5:Int)==5)=true from rfl,show ((5:Int)==3)=false from rfl,show ((5:Int)==2)=false from rfl,show ((4:Int)==5)=false from rfl,show ((3:Int)==5)=false from rfl,show ((2:Int)==5)=false from rfl,show ((1:Int)==5)=false from rfl]
  cases decide (0≤c∧c≤8)<;>cases decide (0≤s∧s≤4294967295)<;>cases decide (0≤b∧b≤1000000)<;>cases (b==0)<;>simp
 have b3:(k==3)=false:=by simpa using k3
 simp only[b3,cF,k3,if_false]
 by_cases k5:k=5
 ·subst k5
  simp only[cT,cF,bS,e24,hb0,beq_self_eq_true,tA,Bool.and_true,show ((1:Int)==1)=true from rfl,show ((4:Int)==1)=false from rfl,show ((4:Int)==4)=true from rfl,show ((2:Int)==2)=true from rfl,show ((3:Int)==2)=false from rfl,show ((3:Int)==3)=true from rfl,show ((5:Int)==5)=true from rfl,show ((5:Int)==3)=false from rfl,show ((5:Int)==2)=false from rfl,show ((4:Int)==5)=false from rfl,show ((3:Int)==5)=false from rfl,show ((2:Int)==5)=false from rfl,show ((1:Int)==5)=false from rfl]
  cases decide (0≤c∧c≤20)<;>cases decide (0≤s∧s≤4294967295)<;>cases decide (0≤b∧b≤1000000)<;>simp
 have b5:(k==5)=false:=by simpa using k5
 simp only[b5,cF,k5,if_false,Bool.and_false]
def φQ (r:RecT):List UInt8:=
 if φn r=false then [] else
 if r.1=1∨r.1=4 then varT r.1++varT r.2.1++varT (r.2.2.1.length:Int)++r.2.2.1++varT (r.2.2.2.1.length:Int)++r.2.2.2.1
 else if r.1=2 then varT r.1++varT r.2.1++varT (r.2.2.1.length:Int)++r.2.2.1
 else varT r.1++varT r.2.1++varT r.2.2.2.2.1++fix4 r.2.2.2.2.2
theorem φ3p (n:Int):(fix4 n).length≤4:=by
 unfold fix4;split
 ·rw[φ5f];omega
 ·simp
theorem φ7R (r:RecT):(φQ r).length≤60:=by
 obtain ⟨k,b,ky,v,c,s⟩:=r
 unfold φQ
 split
 ·simp
 rename_i h
 have h:φn (k,b,ky,v,c,s)=true:=by simpa using h
 have l1:=φ18 k
 have l2:=φ18 b
 have l3:=φ18 (ky.length:Int)
 have l4:=φ18 (v.length:Int)
 have l5:=φ18 c
 have l6:=φ3p s
 unfold φn φ1B at h
 simp only[bA] at h
 have h:=h.2
 split
 ·rename_i c1
  simp only at c1
  simp only[c1,if_true,bA,decide_eq_true_eq] at h
  simp only[lA];omega
 ·rename_i c1
  simp only at c1
  split
  ·rename_i c2
   simp only at c2
   rw[if_neg c1,if_pos c2] at h
   simp only[bA,decide_eq_true_eq] at h
   simp only[lA];omega
  ·simp only[lA];omega
theorem φ1P {a b:Nat} (h:a+b≤1000000000000000):decide (a+b≤9223372036854775807)=true:=by
 rw[decide_eq_true_eq];omega
theorem φ89 (r:RecT):ψ1j.f r=some (φQ r):=by
 obtain ⟨k,b,ky,v,c,s⟩:=r
 unfold ψ1j.f φQ
 rw[φ8q,bS]
 rcases bE (φn (k,b,ky,v,c,s)) with h | h
 rotate_left
 ·simp[h]
 have hs:s<9223372036854775808∨k=1∨k=4∨k=2:=by
  unfold φn at h
  simp only[bA] at h
  have h:=h.2
  by_cases c1:k=1∨k=4
  ·omega
  by_cases c2:k=2
  ·omega
  rw[if_neg c1,if_neg c2] at h
  left
  split at h
  ·simp only[bA,decide_eq_true_eq] at h;omega
  ·split at h
   ·simp only[bA,decide_eq_true_eq] at h;omega
   ·simp at h
 have hlen:k=1∨k=4∨k=2→ky.length≤8∧v.length≤24:=by
  intro hk
  unfold φn φ1B at h
  simp only[bA] at h
  have h:=h.2
  by_cases c1:k=1∨k=4
  ·rw[if_pos c1] at h
   simp only[bA,decide_eq_true_eq] at h;omega
  by_cases c2:k=2
  ·rw[if_neg c1,if_pos c2] at h
   simp only[bA,decide_eq_true_eq,beq_iff_eq] at h
   rw[h.2.1];simp;omega
  ·omega
 have l1:=φ18 k
 have l2:=φ18 b
 have l3:=φ18 (ky.length:Int)
 have l4:=φ18 (v.length:Int)
 have l5:=φ18 c
 have l6:=φ3p s
 simp only[h,nZ,cF,φ3z,bS,φ1P (show (varT k).length+(varT b).length≤1000000000000000 by omega),cT,Bool.true_eq_false,if_false]
 have kk:(bif k==1 then some (((k,b,ky,v,c,s):RecT),varT k++varT b,k,k==1) else some ((k,b,ky,v,c,s),varT k++varT b,k,k==4))=some ((k,b,ky,v,c,s),varT k++varT b,k,decide (k=1∨k=4)):=by
  by_cases c1:k=1
  ·subst c1;rfl
  ·have b1:(k==1)=false:=by simpa using c1
   rw[b1,cF]
   by_cases c4:k=4
   ·subst c4;rfl
   ·have b4:(k==4)=false:=by simpa using c4
    rw[b4,decide_eq_false (by omega)]
 simp only[kk,bS]
 by_cases c1:k=1∨k=4
 ·have hl:=hlen (by omega)
  simp only[c1,dT,cT,if_true,
   φ1P (show (varT k++varT b).length+(varT (ky.length:Int)).length≤1000000000000000 by simp only[lA];omega),
   φ1P (show (varT k++varT b++varT (ky.length:Int)).length+ky.length≤1000000000000000 by simp only[lA];omega),
   φ1P (show (varT k++varT b++varT (ky.length:Int)++ky).length+(varT (v.length:Int)).length≤1000000000000000 by simp only[lA];omega),
   φ1P (show (varT k++varT b++varT (ky.length:Int)++ky++varT (v.length:Int)).length+v.length≤1000000000000000 by simp only[lA];omega)]
 by_cases c2:k=2
 ·have hl:=hlen (by omega)
  have b2:(k==2)=true:=by simpa using c2
  simp only[c1,b2,dF,cF,cT,if_false,
   φ1P (show (varT k++varT b).length+(varT (ky.length:Int)).length≤1000000000000000 by simp only[lA];omega),
   φ1P (show (varT k++varT b++varT (ky.length:Int)).length+ky.length≤1000000000000000 by simp only[lA];omega)]
  rw[if_pos c2]
 ·have b2:(k==2)=false:=by simpa using c2
  simp only[c1,c2,b2,dF,cF,if_false,
   φ1P (show (varT k++varT b).length+(varT c).length≤1000000000000000 by simp only[lA];omega),cT,
   φ6u s (by omega),bS,
   φ1P (show (varT k++varT b++varT c).length+(fix4 s).length≤1000000000000000 by simp only[lA];omega)]
theorem φC3 (s:List UInt8) (h:s.length<2 ^ 62):ψR.f s=some (varT (s.length:Int)++s):=by
 have l:=φ18 (s.length:Int)
 unfold ψR.f
 have c:(varT (s.length:Int)).length+s.length≤9223372036854775807:=by omega
 simp only[φCG,bS,c,dT,cT]
def frame (s:List UInt8):List UInt8:=
 if 200<s.length then [] else fix4 (crcT (varT (s.length:Int)++s))++(varT (s.length:Int)++s)
theorem φBJ (s:List UInt8) (h:s.length<2 ^ 62):ψ1Z.f s=some (frame s):=by
 unfold ψ1Z.f frame
 by_cases c:200<s.length
 ·have c1:(s.length:Int) > 200:=by omega
  simp[c,c1]
 have c1:¬(s.length:Int) > 200:=by omega
 have l1:=φ18 (s.length:Int)
 have l2:=φ3p (crcT (varT (s.length:Int)++s))
 have r:=φ8J (varT (s.length:Int)++s)
 simp only[c,c1,dF,cF,if_false,φ3z,bS,φ1P (show (varT (s.length:Int)).length+s.length≤1000000000000000 by omega),cT,
  φ9t (varT (s.length:Int)++s) (by rw[lA];omega),φ6u _ (show crcT (varT (s.length:Int)++s)<9223372036854775808 by omega),
  φ1P (show (fix4 (crcT (varT (s.length:Int)++s))).length+(varT (s.length:Int)++s).length≤1000000000000000 by simp only[lA];omega)]
theorem φ9r (s:List UInt8) (h:s.length<2 ^ 62):ψ9.f s=some (frame s):=by
 unfold ψ9.f frame
 by_cases c:200<s.length
 ·have c1:(s.length:Int) > 200:=by omega
  simp[c,c1]
 have c1:¬(s.length:Int) > 200:=by omega
 have l1:=φ18 (s.length:Int)
 have l2:=φ3p (crcT (varT (s.length:Int)++s))
 have r:=φ8J (varT (s.length:Int)++s)
 simp only[c,c1,dF,cF,if_false,φC3 s (by omega),bS,cT,
  φC5 (varT (s.length:Int)++s) (by rw[lA];omega),φ9V,
  φ1P (show (fix4 (crcT (varT (s.length:Int)++s))).length+(varT (s.length:Int)++s).length≤1000000000000000 by simp only[lA];omega)]
abbrev φ9A:=Int×List Int
def dl (k:Nat) (d:φN):Prop:=d.1.length<k∧φJ d.1<k∧∀f∈d.1,f.1.length<k
theorem φB6 {x0:φN} (hb:φr x0≤1048576):dl 1048577 x0:=by
 have h1:φJ x0.1≤sumN φg x0.1:=φ4a (fun f=>by unfold φg;omega) _
 unfold φr φB at hb
 refine ⟨by omega,by omega,fun f hf=>?_⟩
 have h2:=φ3k φg hf
 have h3:f.1.length≤φg f:=by unfold φg;omega
 omega
abbrev φ1E:=φ9A×List φ1o×Int×Int×Int
theorem φB7 (n:Nat):Lib.itoa (n:Int)=Lib.decDigits n:=by
 unfold Lib.itoa
 rw[if_neg (by omega),tN]
theorem φ5m:∀(k n:Nat),n<10 ^ (k+1)→(Lib.decDigits n).length≤k+1
 | 0,n,h=>by rw[Lib.decDigits,dif_pos (by simpa using h)];simp
 | k+1,n,h=>by
  rw[Lib.decDigits]
  split
  ·simp
  ·have:=φ5m k (n / 10) (by rw[Nat.div_lt_iff_lt_mul (by omega)];rw[κJ] at h;exact h)
   simp only[lA,List.length_singleton];omega
def digs (n:Nat):List UInt8:=if n=0 then [] else Lib.decDigits n
theorem φBy {n:Nat} (h:n≠0):digs n=digs (n / 10)++[UInt8.ofNat (48+n % 10)]:=by
 unfold digs
 rw[if_neg h,Lib.decDigits]
 split
 ·rename_i h2
  rw[if_pos (by omega),Nat.mod_eq_of_lt h2];rfl
 ·rename_i h2
  rw[if_neg (by omega)]
theorem φAI (n:Nat) (hn:n<1000000000000000000):ψ1S.f (n:Int)=some (Lib.decDigits n):=by
 unfold ψ1S.f
 by_cases c:n=0
 ·subst c
  rw[Lib.decDigits];rfl
 have c1:((n:Int)==0)=false:=by simpa using c
 have c2:decide ((n:Int)<0)=false:=dnn (by omega)
 have key:=φ42 (step:=ψ1S.l0) (a:=((n:Int),([]:List UInt8),false)) (fun a=>(digs a.1.toNat++a.2.1,false)) (fun a=>0≤a.1∧a.2.2=false∧a.2.1.length+a.1.toNat≤n) (fun a=>a.1.toNat)
  (fun rec a ha ih=>by
   obtain ⟨x,s,f⟩:=a
   obtain ⟨h0,hf,hl⟩:=ha
   simp only at hf hl h0 ih ⊢
   subst hf
   obtain ⟨m,rfl⟩:∃m:Nat,x=(m:Int):=⟨x.toNat,by omega⟩
   simp only[tN] at hl ih ⊢
   by_cases d:m=0
   ·subst d
    simp[ψ1S.l0,digs]
   ·have d1:((m:Int) != 0)=true:=by simpa using d
    have e1:Int.tmod (m:Int) 10=((m % 10:Nat):Int):=rfl
    have e2:w64 (Int.tdiv (m:Int) 10)=((m / 10:Nat):Int):=by
     rw[show Int.tdiv (m:Int) 10=((m / 10:Nat):Int) from rfl];exact φ1O (by omega)
    have e3:decide (((m % 10:Nat):Int)<0)=false:=dnn (by omega)
    have e4:φL [IntKind.wrap .u8 (w64 (48+((m % 10:Nat):Int)))]=[UInt8.ofNat (48+m % 10)]:=by
     have e:w64 (48+((m % 10:Nat):Int))=((48+m % 10:Nat):Int):=by rw[φ2 (by omega) (by omega)];omega
     rw[e]
     unfold φL
     simp only[κC,List.map_nil,φ3I]
    have hb:([UInt8.ofNat (48+m % 10)]:List UInt8).length+s.length≤9223372036854775807:=by show 1+_≤_;omega
    have ih:=ih (((m / 10:Nat):Int),[UInt8.ofNat (48+m % 10)]++s,false) ⟨by simp only;omega,rfl,by simp only[lA,List.length_singleton,tN];omega⟩ (by simp only[tN];omega)
    simp only[tN] at ih
    simp only[ψ1S.l0,d1,cT,e1,e2,e3,cF,bS,e4,hb,dT,ih]
    rw[φBy d,aA])
  ⟨by simp only;omega,rfl,by simp⟩ (by simp only[tN];omega)
 simp only[c1,c2,cF,key,bS,tN]
 unfold digs
 simp[c]
theorem φB0 (n:Nat) (hn:n<1000000000000000000):strconv_Itoa.f (n:Int)=some (Lib.decDigits n):=by
 unfold strconv_Itoa.f
 have c:(decide (-9223372036854775808≤(n:Int)) && decide ((n:Int)≤9223372036854775807))=true:=by simp;omega
 rw[c,φB7];rfl
def φ4s (word:List UInt8) (id:Int):List UInt8:=if 1≤id∧id≤100000 then word++Lib.decDigits id.toNat else []
def φs (id:Int):List UInt8:=φ4s [115,101,103] id
theorem φBg (word:List UInt8) (id:Int) (hw:word.length≤100):ψN.f word id=some (φ4s word id):=by
 unfold ψN.f φ4s ψ1.f
 rw[φ1K,bS]
 by_cases h:1≤id∧id≤100000
 ·obtain ⟨n,rfl⟩:∃n:Nat,id=(n:Int):=⟨id.toNat,by omega⟩
  have hl:=φ5m 5 n (by show n<1000000;omega)
  have hb:word.length+(Lib.decDigits n).length≤9223372036854775807:=by omega
  simp only[h,and_self,dT,nZ,cF,φB0 n (by omega),bS,hb,cT,if_true,tN]
 ·simp[h]
theorem φAC (id:Int):ψI.f id=some (φs id):=by
 unfold ψI.f φs
 rw[φBg [115,101,103] id (by show 3≤100;decide),bS]
theorem φAH (id:Int):ψ1i.f id=some (φs id):=by
 unfold ψ1i.f φs φ4s
 rw[φ1L,bS]
 by_cases h:1≤id∧id≤100000
 ·obtain ⟨n,rfl⟩:∃n:Nat,id=(n:Int):=⟨id.toNat,by omega⟩
  have hl:=φ5m 5 n (by show n<1000000;omega)
  have hb:([115,101,103]:List UInt8).length+(Lib.decDigits n).length≤9223372036854775807:=by show 3+_≤_;omega
  simp only[h,and_self,dT,nZ,cF,φAI n (by omega),bS,hb,cT,if_true,tN]
 ·simp[h]
def φm (d:φN) (n:List UInt8):List UInt8×Bool:=
 if φ2T d=false then ([],false) else
 match d.1.findIdx? (fun f=>f.1==n) with
 | some i=>((d.1.getD i ([],[],0)).2.1,true)
 | none=>([],false)
theorem φBW (d:φN) (n:List UInt8) (h:dlim d):ψ7.f d n=some (φm d n):=by
 have hl:=h.1
 unfold ψ7.f φm
 rw[φBO d n (by omega),bS,φ8t d h]
 rcases φ50 d.1 n with ⟨e,_⟩ | ⟨i,hi,e,_⟩
 ·rw[e,φ5G e];simp
 ·rw[e,φ5k e]
  rcases bE (φ2T d) with k | k
  ·simp only[dnn (show (0:Int)≤(i:Int) by omega),cF,bS,k,nZ,φ6v hi,cT,φ6w hi,φ6 hi,Bool.true_eq_false,if_false]
  ·simp only[dnn (show (0:Int)≤(i:Int) by omega),cF,bS,k,nF,cT,if_true]
theorem φAQ (d:φN) (n:List UInt8) (h:dlim d):ψ1X.f d n=some (φm d n):=by
 have hl:=h.1
 unfold ψ1X.f φm
 rw[φ8h d h,bS,φAK d n (by omega)]
 rcases bE (φ2T d) with k | k
 rotate_left
 ·simp[k]
 rcases φ50 d.1 n with ⟨e,_⟩ | ⟨i,hi,e,_⟩
 ·rw[e,φ5G e];simp[k]
 ·rw[e,φ5k e]
  simp only[dnn (show (0:Int)≤(i:Int) by omega),cF,bS,k,nZ,φ6v hi,cT,φ6w hi,φ6 hi,Bool.true_eq_false,if_false]
theorem φ6d (d:φN) (n:List UInt8) (h:dlim d):(φm d n).1.length≤φJ d.1:=by
 unfold φm
 split
 ·simp
 ·rcases φ50 d.1 n with ⟨e,_⟩ | ⟨i,hi,e,_⟩
  ·rw[φ5G e];simp
  ·rw[φ5k e]
   simp only[φ6 hi]
   exact φBe (gM hi)
def varN (n:Nat):List UInt8:=vLow n++[UInt8.ofNat (vTop n)]
theorem φ4K (n:Nat) (h:n≤562949953421311):varT (n:Int)=varN n:=by
 unfold varT varN
 rw[if_pos (by omega),tN]
theorem φ4o {n:Nat} (h:n<128):varN n=[UInt8.ofNat n]:=by
 unfold varN
 rw[vLow,vTop,dif_pos h,dif_pos h];rfl
theorem φ54 {n:Nat} (h:¬n<128):varN n=UInt8.ofNat (128+n % 128)::varN (n / 128):=by
 unfold varN
 rw[vLow,vTop,dif_neg h,dif_neg h];rfl
theorem φBd (k n:Nat) (h:n<128 ^ (k+1)):1≤(varN n).length∧(varN n).length≤k+1:=by
 have:=φ4j k n h
 unfold varN
 rw[lA,List.length_singleton];omega
def rvT:Nat→Bool→List UInt8→Option (Nat×Nat)
 | 0,_,_=>none
 | _+1,_,[]=>none
 | f+1,first,x::r=>if x.toNat<128 then (if x.toNat=0∧first=false then none else some (x.toNat,1)) else (rvT f false r).map fun p=>(x.toNat % 128+128 * p.1,p.2+1)
theorem φ7B:∀(f:Nat) (first:Bool) (s:List UInt8) (n k:Nat),rvT f first s=some (n,k)→(first=false→1≤n)
 | 0,_,_,_,_,h=>by simp[rvT] at h
 | f+1,_,[],_,_,h=>by simp[rvT] at h
 | f+1,first,x::r,n,k,h=>by
  intro hf
  unfold rvT at h
  split at h
  ·split at h
   ·simp at h
   ·rename_i h1 h2
    simp only[Option.some.injEq,Prod.mk.injEq] at h
    have:¬x.toNat=0:=fun e=>h2 ⟨e,hf⟩
    omega
  ·cases hr:rvT f false r with
   | none=>rw[hr] at h;simp at h
   | some p=>
    rw[hr] at h
    simp only[Option.map_some,Option.some.injEq,Prod.mk.injEq] at h
    have:=φ7B f false r p.1 p.2 hr rfl
    omega
theorem φ2P:∀(f:Nat) (first:Bool) (s:List UInt8) (n k:Nat),rvT f first s=some (n,k)→1≤k∧k≤f∧k≤s.length∧s.take k=varN n∧n<128 ^ f
 | 0,_,_,_,_,h=>by simp[rvT] at h
 | f+1,_,[],_,_,h=>by simp[rvT] at h
 | f+1,first,x::r,n,k,h=>by
  have hx:=x.toNat_lt
  unfold rvT at h
  split at h
  ·rename_i h1
   split at h
   ·simp at h
   ·simp only[Option.some.injEq,Prod.mk.injEq] at h
    obtain ⟨rfl,rfl⟩:=h
    refine ⟨κD _,by omega,by simp,?_,?_⟩
    ·rw[φ4o h1];simp
    ·exact κ2 h1 (by rw[κJ];have:=Nat.pow_pos (n:=f) (show 0<128 by omega);omega)
  ·rename_i h1
   cases hr:rvT f false r with
   | none=>rw[hr] at h;simp at h
   | some p=>
    obtain ⟨m,j⟩:=p
    rw[hr] at h
    simp only[Option.map_some,Option.some.injEq,Prod.mk.injEq] at h
    obtain ⟨rfl,rfl⟩:=h
    obtain ⟨q1,q2,q3,q4,q5⟩:=φ2P f false r m j hr
    have hm:=φ7B f false r m j hr rfl
    have hbig:¬x.toNat % 128+128 * m<128:=by omega
    refine ⟨by omega,by omega,by simp;omega,?_,?_⟩
    ·rw[φ54 hbig,List.take_succ_cons,q4]
     have e1:(x.toNat % 128+128 * m) % 128=x.toNat % 128:=by omega
     have e2:(x.toNat % 128+128 * m) / 128=m:=by omega
     have e3:128+x.toNat % 128=x.toNat:=by omega
     rw[e1,e2,e3];simp
    ·rw[κJ];omega
theorem φ5I:∀(f:Nat) (first:Bool) (n:Nat) (r:List UInt8),n<128 ^ f→(first=false→1≤n)→1≤f→rvT f first (varN n++r)=some (n,(varN n).length)
 | 0,_,_,_,_,_,h=>by omega
 | f+1,first,n,r,h,h1,_=>by
  by_cases c:n<128
  ·rw[φ4o c,List.singleton_append]
   unfold rvT
   have e:(UInt8.ofNat n).toNat=n:=by simp;omega
   rw[e,if_pos c,if_neg (by intro k;have:=h1 k.2;omega)];rfl
  ·rw[φ54 c,κH]
   unfold rvT
   have e:(UInt8.ofNat (128+n % 128)).toNat=128+n % 128:=by simp;omega
   have hf:1≤f:=by
    rcases Nat.eq_zero_or_pos f with k | k
    ·subst k;simp at h;omega
    ·exact k
   rw[e,if_neg (by omega),φ5I f false (n / 128) r (by rw[Nat.div_lt_iff_lt_mul (by omega)];rw[κJ] at h;exact h) (fun _=>by omega) hf]
   simp only[Option.map_some,lC]
   congr 2;omega
def decV (l:List UInt8):Nat:=l.foldr (fun x a=>x.toNat % 128+128 * a) 0
theorem φ6l:∀(l:List UInt8),decV l<128 ^ l.length
 | []=>by simp[decV]
 | x::l=>by
  have:=φ6l l
  show x.toNat % 128+128 * decV l<128 ^ (l.length+1)
  rw[κJ];omega
theorem φ7Y:∀(k n:Nat),n<128 ^ (k+1)→decV (varN n)=n
 | 0,n,h=>by
  have h:n<128:=by simpa using h
  rw[φ4o h]
  show (UInt8.ofNat n).toNat % 128+128 * 0=n
  have e:(UInt8.ofNat n).toNat=n:=by simp;omega
  rw[e];omega
 | k+1,n,h=>by
  by_cases c:n<128
  ·rw[φ4o c]
   show (UInt8.ofNat n).toNat % 128+128 * 0=n
   have e:(UInt8.ofNat n).toNat=n:=by simp;omega
   rw[e];omega
  ·rw[φ54 c]
   show (UInt8.ofNat (128+n % 128)).toNat % 128+128 * decV (varN (n / 128))=n
   have e:(UInt8.ofNat (128+n % 128)).toNat=128+n % 128:=by simp;omega
   rw[e,φ7Y k (n / 128) (by rw[Nat.div_lt_iff_lt_mul (by omega)];rw[κJ] at h;exact h)]
   omega
def φq (s:List UInt8):Int×Int:=match rvT 7 true s with
 | some (n,k)=>((n:Int),(k:Int))
 | none=>(0,0)
theorem φ5z (s:List UInt8):φq s=(0,0)∨∃n k:Nat,rvT 7 true s=some (n,k)∧φq s=((n:Int),(k:Int))∧1≤k∧k≤7∧k≤s.length∧s.take k=varN n∧n<562949953421312:=by
 unfold φq
 cases h:rvT 7 true s with
 | none=>exact .inl rfl
 | some p=>
  obtain ⟨n,k⟩:=p
  obtain ⟨h1,h2,h3,h4,h5⟩:=φ2P 7 true s n k h
  exact .inr ⟨n,k,rfl,rfl,h1,h2,h3,h4,h5⟩
theorem φ8x (s:List UInt8) (k4:Int) (k:Nat) (hk:k≤s.length) (h7:k≤7):lp ψ1f.l2 (s,k4,0,(k:Int) - 1)=some (s,k4,((decV (s.take k):Nat):Int)):=by
 have key:=φBw (step:=ψ1f.l2) (fun n (a:Nat)=>(s,k4,(a:Int),(n:Int) - 1)) (fun n a=>(s,k4,((decV (s.take n)+128 ^ n * a:Nat):Int))) (fun n a=>n≤k∧a<128 ^ (k - n))
  (fun rec n a hi ih=>by
   obtain ⟨hn,ha⟩:=hi
   cases n with
   | zero=>
    simp[ψ1f.l2,decV]
   | succ n=>
    have h1:n<s.length:=by omega
    have e0:((n+1:Nat):Int) - 1=(n:Int):=by omega
    have c:(n:Int)≥0:=by omega
    have hx:=s[n].toNat_lt
    have hpow:(128:Nat) ^ (k - (n+1))≤128 ^ 7:=Nat.pow_le_pow_right (by omega) (by omega)
    have ha7:a<562949953421312:=κ2 ha hpow
    have ha6:a<128 ^ 6:=κ2 ha (Nat.pow_le_pow_right (by omega) (by omega))
    have ha6:a<4398046511104:=ha6
    have e1:w64 ((a:Int) * 128)=((a * 128:Nat):Int):=by rw[φ2 (by omega) (by omega)];omega
    have e2:w64 (bAt s (n:Int))=((s[n].toNat:Nat):Int):=by rw[φ2I s n h1];exact φ1O (by omega)
    have e3:Int.tmod ((s[n].toNat:Nat):Int) 128=((s[n].toNat % 128:Nat):Int):=rfl
    have e4:w64 (((a * 128:Nat):Int)+((s[n].toNat % 128:Nat):Int))=((a * 128+s[n].toNat % 128:Nat):Int):=by rw[φ2 (by omega) (by omega)];omega
    have e5:w64 ((n:Int) - 1)=(n:Int) - 1:=φ2 (by omega) (by omega)
    have hlt:a * 128+s[n].toNat % 128<128 ^ (k - n):=by
     rw[show k - n=(k - (n+1))+1 by omega,κJ];omega
    have ih:=ih n (a * 128+s[n].toNat % 128) rfl ⟨by omega,hlt⟩
    simp only[ψ1f.l2,e0,c,dT,cT,φ8,h1,e1,e2,e3,e4,e5,ih]
    congr 4
    rw[κ8 h1]
    have hd:decV (s.take n++[s[n]])=decV (s.take n)+128 ^ n * (s[n].toNat % 128):=by
     have gen:∀l:List UInt8,decV (l++[s[n]])=decV l+128 ^ l.length * (s[n].toNat % 128):=by
      intro l
      induction l with
      | nil=>simp[decV]
      | cons x l ih=>
       show x.toNat % 128+128 * decV (l++[s[n]])=x.toNat % 128+128 * decV l+128 ^ (l.length+1) * (s[n].toNat % 128)
       rw[ih,κJ,Nat.mul_add,Nat.mul_comm (128 ^ l.length) 128,Nat.mul_assoc];omega
     rw[gen,lT,Nat.min_eq_left (by omega)]
    rw[hd,κJ,Nat.mul_add]
    have:128 ^ n * (a * 128)=128 ^ n * 128 * a:=by rw[Nat.mul_assoc,Nat.mul_comm a 128]
    omega)
  k 0 (by omega) ⟨κD _,by simp⟩
 simpa using key
theorem φ1p (s:List UInt8) (hl:s.length<2 ^ 62):ψ1f.f s=some (φq s):=by
 have key:=φ42 (step:=ψ1f.l0) (a:=(s,(1:Int))) (fun a=>match rvT 7 true s with
   | some (n,k)=>if a.2≤(k:Int) then .inr ((n:Int),(k:Int)) else .inl ()
   | none=>.inl ()) (fun a=>a.1=s∧1≤a.2∧a.2≤8) (fun a=>(8 - a.2).toNat)
  (fun rec a ha ih=>by
   obtain ⟨x,k⟩:=a
   obtain ⟨hx,h1,h2⟩:=ha
   simp only at hx h1 h2 ih ⊢
   subst hx
   obtain ⟨m,rfl⟩:∃m:Nat,k=(m:Int):=⟨k.toNat,by omega⟩
   have out:∀n j,rvT 7 true x=some (n,j)→j≤7∧j≤x.length:=fun n j hr=>by
    have:=φ2P 7 true x n j hr;exact ⟨this.2.1,this.2.2.1⟩
   by_cases c7:(m:Int)≤7
   rotate_left
   ·simp only[ψ1f.l0,c7,dF,cF]
    cases hr:rvT 7 true x with
    | none=>rfl
    | some p=>
     obtain ⟨n,j⟩:=p
     have:=(out n j hr).1
     simp only
     rw[if_neg (by omega)]
   by_cases cl:(m:Int)≤(x.length:Int)
   rotate_left
   ·simp only[ψ1f.l0,c7,cl,dT,dF,cT,cF]
    cases hr:rvT 7 true x with
    | none=>rfl
    | some p=>
     obtain ⟨n,j⟩:=p
     have:=(out n j hr).2
     simp only
     rw[if_neg (by omega)]
   have e1:w64 ((m:Int) - 1)=(m:Int) - 1:=φ2 (by omega) (by omega)
   have e2:=φ8x x (m:Int) m (by omega) (by omega)
   have hv:decV (x.take m)<128 ^ 7:=κ2 (φ6l _) (Nat.pow_le_pow_right (by omega) (by rw[lT];omega))
   have hv2:decV (x.take m)<562949953421312:=hv
   have c0:(0:Int)≤(m:Int):=by omega
   have e3:w64 ((m:Int)+1)=((m+1:Nat):Int):=φC (by omega)
   simp only[ψ1f.l0,c7,cl,dT,cT,e1,e2,bS,φ3z,φ4K _ (show decV (x.take m)≤562949953421311 by omega),c0,Bool.and_self,tN,e3]
   by_cases ck:varN (decV (x.take m))=x.take m
   ·have ck2:(varN (decV (x.take m))==x.take m)=true:=by simpa using ck
    have hr:rvT 7 true x=some (decV (x.take m),m):=by
     have hb:=φ5I 7 true (decV (x.take m)) (x.drop m) hv (by simp) (by omega)
     rw[ck,κ7,lT,Nat.min_eq_left (by omega)] at hb
     exact hb
    simp only[ck2,cT,hr]
    rw[if_pos (Int.le_refl _)]
   ·have ck2:(varN (decV (x.take m))==x.take m)=false:=by simpa using ck
    have ih:=ih (x,((m+1:Nat):Int)) ⟨rfl,by simp only;omega,by simp only;omega⟩ (by simp only;omega)
    simp only[ck2,cF,ih]
    cases hr:rvT 7 true x with
    | none=>rfl
    | some p=>
     obtain ⟨n,j⟩:=p
     have hs:=φ2P 7 true x n j hr
     have hne:j≠m:=fun e=>by
      subst e
      rw[hs.2.2.2.1,φ7Y 6 n hs.2.2.2.2] at ck
      exact ck rfl
     simp only
     by_cases cj:(m:Int)≤(j:Int)
     ·rw[if_pos cj,if_pos (by omega)]
     ·rw[if_neg cj,if_neg (by omega)])
  ⟨rfl,by simp only;omega,by simp only;omega⟩ (by show (7:Nat)<2 ^ 62;decide)
 unfold ψ1f.f φq
 rw[key,bS]
 cases hr:rvT 7 true s with
 | none=>rfl
 | some p=>
  obtain ⟨n,k⟩:=p
  have hs:=φ2P 7 true s n k hr
  simp only
  rw[if_pos (by omega)];rfl
theorem φ4r (s:List UInt8) (hl:s.length<2 ^ 62):ψF.f s=some (φq s):=by
 have key:=φa (step:=ψF.l0) (fun i (a:Nat)=>(s,(a:Int),(i:Int))) 7 (fun i a=>match rvT (7 - i) (decide (i=0)) (s.drop i) with
   | some (n,k)=>.inr (((a+128 ^ i * n:Nat):Int),((i+k:Nat):Int))
   | none=>bif ((s.drop i).take (7 - i)).all (fun x=>decide (128≤x.toNat)) then .inl () else .inr (0,0)) (fun i a=>a<128 ^ i)
  (fun rec i a hi ha ih=>by
   have hpow:(128:Nat) ^ i≤128 ^ 7:=Nat.pow_le_pow_right (by omega) hi
   have ha7:a<562949953421312:=κ2 ha hpow
   rcases κ1 i 7 with h7 | h7
   rotate_left
   ·have:i=7:=by omega
    subst this
    simp[ψF.l0,rvT]
   have c7:(i:Int)<7:=by omega
   rcases κ1 i s.length with hs | hs
   rotate_left
   ·have c:¬(i:Int)<(s.length:Int):=by omega
    have e:s.drop i=[]:=by rw[List.drop_eq_nil_iff];exact hs
    have e7:7 - i=(6 - i)+1:=by omega
    simp only[ψF.l0,c7,c,dT,dF,cT,cF,e,e7,rvT]
    simp
   have cs:(i:Int)<(s.length:Int):=by omega
   have hx:=s[i].toNat_lt
   have e1:w64 (bAt s (i:Int))=((s[i].toNat:Nat):Int):=by rw[φ2I s i hs];exact φ1O (by omega)
   have e2:w64 (7 * (i:Int))=((7 * i:Nat):Int):=by rw[φ2 (by omega) (by omega)];omega
   have e3:(0:Int)≤((7 * i:Nat):Int):=by omega
   have e4:Int.tmod ((s[i].toNat:Nat):Int) 128=((s[i].toNat % 128:Nat):Int):=rfl
   have e5:((s[i].toNat % 128:Nat):Int) * 2 ^ (min ((7 * i:Nat):Int).toNat 64)=((s[i].toNat % 128 * 128 ^ i:Nat):Int):=by
    rw[tN,Nat.min_eq_left (by omega),show (2:Int) ^ (7 * i)=((128 ^ i:Nat):Int) by
     rw[show (128:Nat)=2 ^ 7 from rfl,←Nat.pow_mul,Int.natCast_pow];rfl]
    simp
   have hb6:(128:Nat) ^ i≤128 ^ 6:=Nat.pow_le_pow_right (by omega) (by omega)
   have hb6:(128:Nat) ^ i≤4398046511104:=hb6
   have hm:s[i].toNat % 128 * 128 ^ i≤127 * 128 ^ i:=Nat.mul_le_mul_right _ (by omega)
   have e6:w64 ((s[i].toNat % 128 * 128 ^ i:Nat):Int)=((s[i].toNat % 128 * 128 ^ i:Nat):Int):=φ1O (by omega)
   have e7:w64 ((a:Int)+((s[i].toNat % 128 * 128 ^ i:Nat):Int))=((a+s[i].toNat % 128 * 128 ^ i:Nat):Int):=by rw[φ2 (by omega) (by omega)];omega
   have e8:w64 ((i:Int)+1)=((i+1:Nat):Int):=φC (by omega)
   have e9:7 - i=(6 - i)+1:=by omega
   have e10:7 - (i+1)=6 - i:=by omega
   rw[dG hs,e9]
   by_cases cb:s[i].toNat<128
   ·have cb2:¬((s[i].toNat:Nat):Int)≥128:=by omega
    by_cases cz:s[i].toNat=0
    ·have cz2:(((s[i].toNat:Nat):Int)==0)=true:=by rw[cz];rfl
     by_cases ci:i=0
     ·subst ci
      have hi0:¬((0:Nat):Int) > 0:=by omega
      simp only[ψF.l0,c7,cs,dT,cT,φ8,hs,e1,e2,e3,e4,e5,e6,e7,e8,cb2,dF,cF,cz2,hi0,bS,φ20]
      unfold rvT
      rw[if_pos cb,if_neg (by simp)]
      simp[cz]
     ·have hi0:(i:Int) > 0:=by omega
      have hd:decide (i=0)=false:=decide_eq_false ci
      simp only[ψF.l0,c7,cs,dT,cT,φ8,hs,e1,e2,e3,e4,e5,e6,e7,e8,cb2,dF,cF,cz2,hi0,bS,φ3a,hd]
      unfold rvT
      rw[if_pos cb,if_pos ⟨cz,rfl⟩]
      simp only[List.take_succ_cons]
      have hne:decide (128≤s[i].toNat)=false:=decide_eq_false (by omega)
      rw[List.all_cons,hne];rfl
    ·have cz2:(((s[i].toNat:Nat):Int)==0)=false:=by simp;omega
     simp only[ψF.l0,c7,cs,dT,cT,φ8,hs,e1,e2,e3,e4,e5,e6,e7,e8,cb2,dF,cF,cz2,bS,φ20]
     unfold rvT
     rw[if_pos cb,if_neg (fun k=>cz k.1)]
     have e11:s[i].toNat % 128=s[i].toNat:=by omega
     simp only[e11]
     rw[Nat.mul_comm (128 ^ i)]
   ·have cb2:((s[i].toNat:Nat):Int)≥128:=by omega
    have hlt:a+s[i].toNat % 128 * 128 ^ i<128 ^ (i+1):=by rw[κJ];omega
    have ih:=ih (a+s[i].toNat % 128 * 128 ^ i) h7 hlt
    rw[e10] at ih
    simp only[ψF.l0,c7,cs,dT,cT,φ8,hs,e1,e2,e3,e4,e5,e6,e7,e8,cb2,ih]
    rw[rvT,if_neg cb,show decide (i+1=0)=false from decide_eq_false (by omega)]
    cases hr:rvT (6 - i) false (s.drop (i+1)) with
    | none=>
     simp only[Option.map_none,List.take_succ_cons]
     have hge:decide (128≤s[i].toNat)=true:=decide_eq_true (by omega)
     rw[List.all_cons,hge,tA]
    | some p=>
     obtain ⟨n,k⟩:=p
     simp only[Option.map_some]
     congr 3
     ·rw[Nat.mul_add,κJ,Nat.mul_comm (128 ^ i) (s[i].toNat % 128)]
      have:128 ^ i * (128 * n)=128 ^ i * 128 * n:=by rw[Nat.mul_assoc]
      omega
     ·omega)
  (by omega) 0 0 (κB _) (by simp)
 have key:lp ψF.l0 (s,0,0)=_:=key
 unfold ψF.f φq
 rw[key,bS]
 simp only[Nat.sub_zero,List.drop_zero,dT]
 cases hr:rvT 7 true s with
 | none=>
  simp only
  cases (s.take 7).all (fun x=>decide (128≤x.toNat))<;>rfl
 | some p=>
  obtain ⟨n,k⟩:=p
  simp
def fixR (l:List UInt8):Nat:=l.foldl (fun n x=>n * 256+x.toNat) 0
theorem φ4J (l:List UInt8) (x:UInt8):fixR (l++[x])=fixR l * 256+x.toNat:=by
 unfold fixR;rw[List.foldl_append];rfl
theorem φ53 (l:List UInt8):fixR l<256 ^ l.length:=by
 induction l using φ7a with
 | h0=>simp[fixR]
 | hs l x ih=>
  have:=x.toNat_lt
  rw[φ4J,lA,List.length_singleton,κJ];omega
theorem φ8m (l:List UInt8):fixL (fixR l) l.length=l:=by
 induction l using φ7a with
 | h0=>rfl
 | hs l x ih=>
  have hx:=x.toNat_lt
  rw[φ4J,lA,List.length_singleton,φ4Z,show (fixR l * 256+x.toNat) / 256=fixR l by omega,ih]
  have:UInt8.ofNat (fixR l * 256+x.toNat)=x:=by
   have e:=UInt8.ofNat_mod_size (x:=fixR l * 256+x.toNat)
   have e2:(fixR l * 256+x.toNat) % 2 ^ 8=x.toNat:=by omega
   rw[e2] at e
   rw[←e];simp
  rw[this]
theorem φ71:∀(k n:Nat),n<256 ^ k→fixR (fixL n k)=n
 | 0,n,h=>by simp at h;subst h;rfl
 | k+1,n,h=>by
  rw[φ4Z,φ4J,φ71 k (n / 256) (by rw[Nat.div_lt_iff_lt_mul (by omega)];rw[κJ] at h;exact h)]
  have:(UInt8.ofNat n).toNat=n % 256:=by simp
  rw[this];omega
def φ1S (s:List UInt8):Int×Bool:=if s.length<4 then (0,false) else (((fixR (s.take 4):Nat):Int),true)
theorem φ7n (s:List UInt8) (n:Nat) (h:n<s.length):fixR (s.take (n+1))=fixR (s.take n) * 256+s[n].toNat:=by
 rw[κ8 h,φ4J]
theorem φ7F (s:List UInt8) (hl:s.length<2 ^ 62):ψ1d.f s 4=some (φ1S s):=by
 unfold ψ1d.f φ1S
 have h0:decide ((1:Int)≤4∧(4:Int)≤7)=true:=by decide
 simp only[φ1L,bS,h0,nZ,cF]
 by_cases c:s.length<4
 ·have c1:(s.length:Int)<4:=by omega
  simp[c,c1]
 have c1:¬(s.length:Int)<4:=by omega
 have key:=φa (step:=ψ1d.l0) (fun n (_:Unit)=>(s,4,((fixR (s.take n):Nat):Int),(n:Int))) 4 (fun _ _=>((fixR (s.take 4):Nat):Int)) (fun _ _=>True)
  (fun rec n a hn _ ih=>by
   rcases κ1 n 4 with h | h
   ·have h4:(n:Int)<4:=by omega
    have hs:n<s.length:=by omega
    have hx:=s[n].toNat_lt
    have hlt:fixR (s.take n)<256 ^ 3:=κ2 (φ53 _) (Nat.pow_le_pow_right (by omega) (by rw[lT];omega))
    have hlt:fixR (s.take n)<16777216:=hlt
    have e1:w64 (((fixR (s.take n):Nat):Int) * 256)=((fixR (s.take n) * 256:Nat):Int):=by rw[φ2 (by omega) (by omega)];omega
    have e2:w64 (bAt s (n:Int))=((s[n].toNat:Nat):Int):=by rw[φ2I s n hs];exact φ1O (by omega)
    have e3:w64 (((fixR (s.take n) * 256:Nat):Int)+((s[n].toNat:Nat):Int))=((fixR (s.take (n+1)):Nat):Int):=by
     rw[φ7n s n hs,φ2 (by omega) (by omega)];omega
    simp only[ψ1d.l0,h4,dT,cT,φ8,hs,e1,e2,e3,φC (show n+1<9223372036854775808 by omega),ih () h trivial]
   ·have:n=4:=by omega
    subst this
    simp[ψ1d.l0])
  (by omega) 0 () (κB _) trivial
 have key:lp ψ1d.l0 (s,4,0,0)=_:=key
 simp only[c,c1,dF,cF,key,bS,if_false]
theorem or64 (a b:Nat) (ha:a<2 ^ 32) (hb:b<256):bits (fun _ a b=>a ||| b) .i64 ((a * 256:Nat):Int) (b:Int)=((a * 256+b:Nat):Int):=by
 have e:(BitVec.ofInt 64 ((a * 256:Nat):Int) ||| BitVec.ofInt 64 (b:Int)).toNat=a * 256+b:=by
  rw[BitVec.ofInt_natCast,BitVec.ofInt_natCast,BitVec.toNat_or,BitVec.toNat_ofNat,BitVec.toNat_ofNat,Nat.mod_eq_of_lt (by omega),Nat.mod_eq_of_lt (by omega)]
  have:=Nat.shiftLeft_add_eq_or_of_lt (show b<2 ^ 8 from hb) a
  rw[Nat.shiftLeft_eq] at this
  exact this.symm
 show IntKind.wrap .i64 ((BitVec.ofInt 64 ((a * 256:Nat):Int) ||| BitVec.ofInt 64 (b:Int)).toNat:Int)=_
 rw[e]
 exact φ7J (by omega)
theorem φ3X (s:List UInt8) (hl:s.length<2 ^ 62):ψD.f s 4=some (φ1S s):=by
 unfold ψD.f φ1S
 have h0:decide ((1:Int)≤4∧(4:Int)≤7)=true:=by decide
 simp only[φ1K,bS,h0,nZ,cF]
 by_cases c:s.length<4
 ·have c1:(s.length:Int)<4:=by omega
  simp[c,c1]
 have c1:¬(s.length:Int)<4:=by omega
 have key:=φa (step:=ψD.l0) (fun n (_:Unit)=>(s,((fixR (s.take n):Nat):Int),4,(n:Int))) 4 (fun _ _=>((fixR (s.take 4):Nat):Int)) (fun _ _=>True)
  (fun rec n a hn _ ih=>by
   rcases κ1 n 4 with h | h
   ·have h4:(n:Int)<4:=by omega
    have hs:n<s.length:=by omega
    have hx:=s[n].toNat_lt
    have hlt:fixR (s.take n)<256 ^ 3:=κ2 (φ53 _) (Nat.pow_le_pow_right (by omega) (by rw[lT];omega))
    have hlt:fixR (s.take n)<16777216:=hlt
    have e1:w64 (((fixR (s.take n):Nat):Int) * 2 ^ (min 8 64))=((fixR (s.take n) * 256:Nat):Int):=by
     show w64 (((fixR (s.take n):Nat):Int) * 256)=_
     rw[φ2 (by omega) (by omega)];omega
    have e2:w64 (bAt s (n:Int))=((s[n].toNat:Nat):Int):=by rw[φ2I s n hs];exact φ1O (by omega)
    have e3:=or64 (fixR (s.take n)) s[n].toNat (by omega) (by omega)
    rw[←φ7n s n hs] at e3
    simp only[ψD.l0,h4,dT,cT,φ8,hs,e1,e2,e3,φC (show n+1<9223372036854775808 by omega),ih () h trivial]
   ·have:n=4:=by omega
    subst this
    simp[ψD.l0])
  (by omega) 0 () (κB _) trivial
 have key:lp ψD.l0 (s,0,4,0)=_:=key
 simp only[c,c1,dF,cF,key,bS,if_false]
def φ1X (s:List UInt8):List UInt8×Int:=
 if s.length<4 then ([],0) else
 match rvT 7 true (s.drop 4) with
 | none=>([],0)
 | some (n,k)=>if 200<n∨s.length<4+k+n then ([],0) else
  if frame ((s.take (4+k+n)).drop (4+k))=s.take (4+k+n) then ((s.take (4+k+n)).drop (4+k),((4+k+n:Nat):Int)) else ([],0)
theorem φBu (s:List UInt8) (hl:s.length<1000000000000):ψJ.f s=some (φ1X s):=by
 unfold ψJ.f φ1X
 by_cases c:s.length<4
 ·have c1:(s.length:Int)<4:=by omega
  simp[c,c1]
 have c1:¬(s.length:Int)<4:=by omega
 have c2:(decide (0≤(4:Int)) && decide ((4:Int)≤(s.length:Int)))=true:=by simp;omega
 have hd:(s.drop 4).length<2 ^ 62:=by rw[lD];omega
 simp only[c,c1,dF,cF,c2,cT,φ4r (s.drop 4) hd,bS,if_false]
 unfold φq
 cases hr:rvT 7 true (s.drop 4) with
 | none=>simp
 | some p=>
  obtain ⟨n,k⟩:=p
  obtain ⟨q1,q2,q3,q4,q5⟩:=φ2P 7 true (s.drop 4) n k hr
  have q5:n<562949953421312:=q5
  rw[lD] at q3
  have d1:(((k:Nat):Int)==0)=false:=by simp;omega
  simp only[d1,cF]
  by_cases c3:200<n
  ·have c4:((n:Nat):Int) > 200:=by omega
   simp[c3,c4]
  have c4:¬((n:Nat):Int) > 200:=by omega
  have e1:w64 (w64 ((s.length:Int) - 4) - (k:Int))=(s.length:Int) - 4 - k:=by rw[φ2 (n:=(s.length:Int) - 4) (by omega) (by omega),φ2 (by omega) (by omega)]
  have e2:w64 (4+(k:Int))=((4+k:Nat):Int):=by rw[φ2 (by omega) (by omega)];omega
  have e3:w64 (((4+k:Nat):Int)+(n:Int))=((4+k+n:Nat):Int):=by rw[φ2 (by omega) (by omega)];omega
  by_cases c5:s.length<4+k+n
  ·have c6:((n:Nat):Int) > (s.length:Int) - 4 - k:=by omega
   simp[c3,c4,c5,c6,e1]
  have c6:¬((n:Nat):Int) > (s.length:Int) - 4 - k:=by omega
  have c7:(decide (0≤((4+k+n:Nat):Int)) && decide (((4+k+n:Nat):Int)≤(s.length:Int)))=true:=by simp;omega
  have c8:(decide (0≤((4+k:Nat):Int)) && decide (((4+k:Nat):Int)≤((4+k+n:Nat):Int)))=true:=by simp;omega
  have hl2:((s.take (4+k+n)).drop (4+k)).length<2 ^ 62:=by rw[lD,lT];omega
  simp only[c3,c4,c5,c6,e1,e2,e3,c7,c8,dF,cF,cT,tN,φ9r _ hl2,bS,or_self,if_false]
  by_cases c9:frame ((s.take (4+k+n)).drop (4+k))=s.take (4+k+n)
  ·have d9:(frame ((s.take (4+k+n)).drop (4+k))==s.take (4+k+n))=true:=by simpa using c9
   simp only[d9,nZ,cF]
   rw[if_pos c9]
  ·have d9:(frame ((s.take (4+k+n)).drop (4+k))==s.take (4+k+n))=false:=by simpa using c9
   simp only[d9,nF,cT]
   rw[if_neg c9]
theorem φAm (s:List UInt8) (hl:s.length<1000000000000):ψ1k.f s=some (φ1X s):=by
 unfold ψ1k.f φ1X
 by_cases c:s.length<5
 ·have c1:(s.length:Int)<5:=by omega
  by_cases c4:s.length<4
  ·simp[c4,c1]
  ·have e:s.drop 4=[]:=by rw[List.drop_eq_nil_iff];omega
   have e2:s.length=4:=by omega
   rcases κ1 s.length 4 with h | h
   ·exact absurd h c4
   ·have hn:rvT 7 true (s.drop 4)=none:=by
     cases hr:rvT 7 true (s.drop 4) with
     | none=>rfl
     | some p=>
      obtain ⟨n,k⟩:=p
      have q:=φ2P 7 true (s.drop 4) n k hr
      rw[lD] at q
      omega
    simp[c4,c1,hn]
 have c4:¬s.length<4:=by omega
 have c1:¬(s.length:Int)<5:=by omega
 have c2:(decide (0≤(4:Int)) && decide ((4:Int)≤(s.length:Int)))=true:=by simp;omega
 have hd:(s.drop 4).length<2 ^ 62:=by rw[lD];omega
 simp only[c4,c1,dF,cF,c2,cT,φ1p (s.drop 4) hd,bS,if_false]
 unfold φq
 cases hr:rvT 7 true (s.drop 4) with
 | none=>simp
 | some p=>
  obtain ⟨n,k⟩:=p
  obtain ⟨q1,q2,q3,q4,q5⟩:=φ2P 7 true (s.drop 4) n k hr
  have q5:n<562949953421312:=q5
  rw[lD] at q3
  have d1:(((k:Nat):Int)==0)=false:=by simp;omega
  simp only[d1,cF]
  by_cases c3:200<n
  ·have c4:((n:Nat):Int) > 200:=by omega
   simp[c3,c4]
  have c4:¬((n:Nat):Int) > 200:=by omega
  have e1:w64 (w64 ((s.length:Int) - 4) - (k:Int))=(s.length:Int) - 4 - k:=by rw[φ2 (n:=(s.length:Int) - 4) (by omega) (by omega),φ2 (by omega) (by omega)]
  have e2:w64 (4+(k:Int))=((4+k:Nat):Int):=by rw[φ2 (by omega) (by omega)];omega
  have e3:w64 (((4+k:Nat):Int)+(n:Int))=((4+k+n:Nat):Int):=by rw[φ2 (by omega) (by omega)];omega
  by_cases c5:s.length<4+k+n
  ·have c6:((n:Nat):Int) > (s.length:Int) - 4 - k:=by omega
   simp[c3,c4,c5,c6,e1]
  have c6:¬((n:Nat):Int) > (s.length:Int) - 4 - k:=by omega
  have c7:(decide (0≤((4+k+n:Nat):Int)) && decide (((4+k+n:Nat):Int)≤(s.length:Int)))=true:=by simp;omega
  have c8:(decide (0≤((4+k:Nat):Int)) && decide (((4+k:Nat):Int)≤((4+k+n:Nat):Int)))=true:=by simp;omega
  have hl2:((s.take (4+k+n)).drop (4+k)).length<2 ^ 62:=by rw[lD,lT];omega
  simp only[c3,c4,c5,c6,e1,e2,e3,c7,c8,dF,cF,cT,tN,φBJ _ hl2,bS,or_self,if_false]
  by_cases c9:frame ((s.take (4+k+n)).drop (4+k))=s.take (4+k+n)
  ·have d9:(s.take (4+k+n)==frame ((s.take (4+k+n)).drop (4+k)))=true:=by simpa using c9.symm
   simp only[d9,nZ,cF]
   rw[if_pos c9]
  ·have d9:(s.take (4+k+n)==frame ((s.take (4+k+n)).drop (4+k)))=false:=by simpa using fun e=>c9 e.symm
   simp only[d9,nF,cT]
   rw[if_neg c9]
abbrev φ75:=List UInt8×Bool
def φ17 (n:Int):Prop:=0≤n∧n≤562949953421311
theorem φA6 {n:Int} (h:φ17 n):∃m:Nat,n=(m:Int)∧m<562949953421312∧varT n=varN m:=by
 unfold φ17 at h
 obtain ⟨m,rfl⟩:∃m:Nat,n=(m:Int):=⟨n.toNat,by omega⟩
 exact ⟨m,rfl,by omega,φ4K m (by omega)⟩
theorem φ3c {n:Int} (h:φ17 n) (r:List UInt8):φq (varT n++r)=(n,((varT n).length:Int))∧1≤(varT n).length:=by
 obtain ⟨m,rfl,hm,e⟩:=φA6 h
 rw[e]
 have hb:=φ5I 7 true m r hm (by simp) (by omega)
 unfold φq
 rw[hb]
 exact ⟨rfl,(φBd 6 m hm).1⟩
theorem φ1y {n:Int} (h:φ17 n) (r:List UInt8) (hl:(varT n++r).length<2 ^ 62):ψP.f (varT n++r,false)=some (n,(r,false)):=by
 obtain ⟨h1,h2⟩:=φ3c h r
 have d:((((varT n).length:Nat):Int)==0)=false:=by simp;intro e;rw[e] at h2;simp at h2
 have c:(decide (0≤(((varT n).length:Nat):Int)) && decide ((((varT n).length:Nat):Int)≤((varT n++r).length:Int)))=true:=by
  rw[lA];simp;omega
 unfold ψP.f
 simp only[φ4r _ hl,h1,bS,cF,d,c,cT,tN,List.drop_left]
theorem φ4X (s:List UInt8) (hl:s.length<2 ^ 62):(∃n r,ψP.f (s,false)=some (n,(r,false))∧s=varT n++r∧φ17 n)∨ψP.f (s,false)=some (0,(s,true)):=by
 rcases φ5z s with h | ⟨n,k,_,h,h1,h2,h3,h4,h5⟩
 ·right
  unfold ψP.f
  simp only[φ4r s hl,h,bS,cF,show ((0:Int)==0)=true from rfl,cT]
 ·left
  have hn:φ17 (n:Int):=⟨by omega,by omega⟩
  have e:s=varT (n:Int)++s.drop k:=by rw[φ4K n (by omega),←h4,κ7]
  have hb:=φ1y hn (s.drop k) (by rw[←e];exact hl)
  rw[←e] at hb
  exact ⟨(n:Int),s.drop k,hb,e,hn⟩
theorem φ4w (s:List UInt8) (hl:s.length<2 ^ 62):ψP.f (s,true)=some (0,(s,true)):=by
 unfold ψP.f
 simp only[φ4r s hl,bS,cT]
theorem φ3P (t r:List UInt8):ψO.f (t++r,false) (t.length:Int)=some (t,(r,false)):=by
 unfold ψO.f
 have c1:¬((t.length:Nat):Int) > ((t++r).length:Int):=by rw[lA];omega
 have c2:(decide (0≤((t.length:Nat):Int)) && decide (((t.length:Nat):Int)≤((t++r).length:Int)))=true:=by rw[lA];simp;omega
 simp only[cF,c1,dF,c2,cT,tN,List.take_left,List.drop_left]
theorem φ6k (s:List UInt8) (n:Int) (hn:0≤n):(∃t r,ψO.f (s,false) n=some (t,(r,false))∧s=t++r∧(t.length:Int)=n)∨ψO.f (s,false) n=some ([],(s,true)):=by
 by_cases c:n > (s.length:Int)
 ·right
  unfold ψO.f
  simp only[cF,c,dT,cT]
 ·left
  have hl:((s.take n.toNat).length:Int)=n:=by rw[lT];omega
  have:=φ3P (s.take n.toNat) (s.drop n.toNat)
  rw[κ7,hl] at this
  exact ⟨_,_,this,(κ7 _ _).symm,hl⟩
theorem φ4W (s:List UInt8) (n:Int):ψO.f (s,true) n=some ([],(s,true)):=by
 unfold ψO.f
 simp only[cT]
theorem φ5M (t r:List UInt8) (ht:φ17 (t.length:Int)) (hl:(varT (t.length:Int)++(t++r)).length<2 ^ 62):ψQ.f (varT (t.length:Int)++(t++r),false)=some (t,(r,false)):=by
 unfold ψQ.f
 simp only[φ1y ht (t++r) hl,bS,φ3P]
theorem φ5g (s:List UInt8) (hl:s.length<2 ^ 62):(∃t r,ψQ.f (s,false)=some (t,(r,false))∧s=varT (t.length:Int)++(t++r)∧φ17 (t.length:Int))∨∃r,ψQ.f (s,false)=some ([],(r,true))∧r.length≤s.length:=by
 unfold ψQ.f
 rcases φ4X s hl with ⟨n,r,e,es,hn⟩ | e
 ·rw[e,bS]
  rcases φ6k r n hn.1 with ⟨t,r2,e2,es2,ht⟩ | e2
  ·left
   refine ⟨t,r2,by simp only[e2,bS],?_,by rw[ht];exact hn⟩
   rw[ht,←es2];exact es
  ·right
   refine ⟨r,by simp only[e2,bS],?_⟩
   rw[es,lA];omega
 ·right
  refine ⟨s,?_,κD _⟩
  rw[e,bS]
  simp only[φ4W,bS]
theorem φ6C (s:List UInt8) (hl:s.length<2 ^ 62):ψQ.f (s,true)=some ([],(s,true)):=by
 unfold ψQ.f
 simp only[φ4w s hl,bS,φ4W]
theorem φ4H (t r:List UInt8) (ht:φ17 (t.length:Int)) (hl:(varT (t.length:Int)++(t++r)).length<1000000000000000):ψ1p.f (varT (t.length:Int)++(t++r))=some (t,r,true):=by
 obtain ⟨h1,h2⟩:=φ3c ht (t++r)
 have h3:=φ18 (t.length:Int)
 rw[lA,lA] at hl
 unfold ψ1p.f
 rw[φ1p _ (by rw[lA,lA];omega),h1,bS]
 generalize varT (t.length:Int)=v at *
 have d:(((v.length:Nat):Int)==0)=false:=by simp;intro e;rw[e] at h2;simp at h2
 have e1:w64 (((v++(t++r)).length:Int) - ((v.length:Nat):Int))=((t.length+r.length:Nat):Int):=by rw[lA,lA,φ2 (by omega) (by omega)];omega
 have c1:¬((t.length:Nat):Int) > ((t.length+r.length:Nat):Int):=by omega
 have e2:w64 (((v.length:Nat):Int)+((t.length:Nat):Int))=(((v++t).length:Nat):Int):=by rw[lA,φ2 (by omega) (by omega)];omega
 have c2:(decide (0≤(((v++t).length:Nat):Int)) && decide ((((v++t).length:Nat):Int)≤((v++(t++r)).length:Int)))=true:=by simp;omega
 have c3:(decide (0≤((v.length:Nat):Int)) && decide (((v.length:Nat):Int)≤(((v++t).length:Nat):Int)))=true:=by simp;omega
 have e3:(v++(t++r)).take (v++t).length=v++t:=by rw[←aA,List.take_left]
 have e4:(v++(t++r)).drop (v++t).length=r:=by rw[←aA,List.drop_left]
 simp only[d,cF,e1,c1,dF,e2,c2,c3,cT,tN,e3,e4,List.drop_left]
theorem φ5v (s:List UInt8) (hl:s.length<1000000000000000):∃t r b,ψ1p.f s=some (t,r,b)∧t.length≤s.length∧r.length≤s.length:=by
 rcases φ5z s with h | ⟨n,k,_,h,h1,h2,h3,h4,h5⟩
 ·refine ⟨[],[],false,?_,by simp,by simp⟩
  unfold ψ1p.f
  simp only[φ1p s (by omega),h,bS,show ((0:Int)==0)=true from rfl,cT]
 ·by_cases c:s.length<k+n
  ·refine ⟨[],[],false,?_,by simp,by simp⟩
   have d:(((k:Nat):Int)==0)=false:=by simp;omega
   have e1:w64 ((s.length:Int) - (k:Int))=(s.length:Int) - k:=φ2 (by omega) (by omega)
   have c1:((n:Nat):Int) > (s.length:Int) - k:=by omega
   unfold ψ1p.f
   simp only[φ1p s (by omega),h,bS,d,cF,e1,c1,dT,cT]
  ·have hn:φ17 (n:Int):=⟨by omega,by omega⟩
   have ht:(((s.drop k).take n).length:Int)=n:=by rw[lT,lD];omega
   have e:s=varT (((s.drop k).take n).length:Int)++((s.drop k).take n++(s.drop k).drop n):=by
    rw[ht,φ4K n (by omega),←h4,κ7,κ7]
   have hb:=φ4H ((s.drop k).take n) ((s.drop k).drop n) (by rw[ht];exact hn) (by rw[←e];exact hl)
   rw[←e] at hb
   exact ⟨_,_,_,hb,by rw[lT,lD];omega,by rw[lD,lD];omega⟩
def φ1G (s:List UInt8) (r:RecT):Prop:=φn r=true∧φQ r=s
theorem φ8C {r:RecT} (h:φn r=true):φ17 r.1∧φ17 r.2.1∧(r.1=1∨r.1=4→r.2.2.1.length≤8∧r.2.2.2.1.length≤24∧r.2.2.2.2.1=0∧r.2.2.2.2.2=0) ∧
  (r.1=2→r.2.2.1.length≤8∧r.2.2.2.1=[]∧r.2.2.2.2.1=0∧r.2.2.2.2.2=0) ∧
  (¬(r.1=1∨r.1=4)→¬r.1=2→r.2.2.1=[]∧r.2.2.2.1=[]∧φ17 r.2.2.2.2.1∧0≤r.2.2.2.2.2∧r.2.2.2.2.2≤4294967295):=by
 obtain ⟨k,b,ky,v,c,s⟩:=r
 unfold φn φ1B at h
 simp only[bA,decide_eq_true_eq] at h
 obtain ⟨⟨h1,_⟩,h⟩:=h
 unfold φ17
 simp only
 by_cases c1:k=1∨k=4
 ·rw[if_pos c1] at h
  simp only[bA,decide_eq_true_eq,beq_iff_eq] at h
  exact ⟨by omega,by omega,fun _=>by omega,fun e=>by omega,fun e=>absurd c1 e⟩
 rw[if_neg c1] at h
 by_cases c2:k=2
 ·rw[if_pos c2] at h
  simp only[bA,decide_eq_true_eq,beq_iff_eq] at h
  exact ⟨by omega,by omega,fun e=>absurd e c1,fun _=>⟨by omega,h.2.1,h.2.2⟩,fun _ e=>absurd c2 e⟩
 rw[if_neg c2] at h
 by_cases c3:k=3
 ·rw[if_pos c3] at h
  simp only[bA,decide_eq_true_eq,beq_iff_eq] at h
  exact ⟨by omega,by omega,fun e=>absurd e c1,fun e=>absurd e c2,fun _ _=>⟨h.1,h.2.1,by omega,by omega,by omega⟩⟩
 rw[if_neg c3] at h
 by_cases c5:k=5
 ·rw[if_pos c5] at h
  simp only[bA,decide_eq_true_eq,beq_iff_eq] at h
  exact ⟨by omega,by omega,fun e=>absurd e c1,fun e=>absurd e c2,fun _ _=>⟨h.1,h.2.1,by omega,by omega,by omega⟩⟩
 ·rw[if_neg c5] at h;simp at h
theorem φ5D {n:Int} (h:0≤n∧n≤4294967295):(fix4 n).length=4:=by
 unfold fix4;rw[if_pos h,φ5f]
theorem φ7p {n:Int} (h:0≤n∧n≤4294967295) (r:List UInt8):φ1S (fix4 n++r)=(n,true):=by
 have hl:=φ5D h
 unfold φ1S
 rw[if_neg (by rw[lA];omega)]
 have e:(fix4 n++r).take 4=fix4 n:=by rw[←hl,List.take_left]
 rw[e]
 unfold fix4
 rw[if_pos h,φ71 4 n.toNat (by show _<4294967296;omega)]
 congr 1;omega
theorem φ9o (t:List UInt8) (h:t.length=4):fix4 (φ1S t).1=t∧0≤(φ1S t).1∧(φ1S t).1≤4294967295:=by
 have hlt:=φ53 t
 rw[h] at hlt
 have hlt:fixR t<4294967296:=hlt
 unfold φ1S
 rw[if_neg (by omega),show t.take 4=t by rw[←h,List.take_length]]
 refine ⟨?_,by simp only;omega,by simp only;omega⟩
 unfold fix4
 rw[if_pos (by simp only;omega)]
 show fixL ((fixR t:Nat):Int).toNat 4=t
 rw[tN,←h,φ8m]
theorem φ3V (k:Int) {α β γ:Type} (x:α) (y:β) (z:γ):(bif k==1 then some (x,y,z,k,k==1) else some (x,y,z,k,k==4))=some (x,y,z,k,decide (k=1∨k=4)):=by
 by_cases c1:k=1
 ·subst c1;rfl
 ·have b1:(k==1)=false:=by simpa using c1
  rw[b1,cF]
  by_cases c4:k=4
  ·subst c4;rfl
  ·have b4:(k==4)=false:=by simpa using c4
   rw[b4,decide_eq_false (by omega)]
theorem φ44 (k:Int) {α β γ δ:Type} (x:α) (y:β) (z:γ) (u:δ):(bif k==1 then some (x,y,z,u,k,k==1) else some (x,y,z,u,k,k==4))=some (x,y,z,u,k,decide (k=1∨k=4)):=by
 by_cases c1:k=1
 ·subst c1;rfl
 ·have b1:(k==1)=false:=by simpa using c1
  rw[b1,cF]
  by_cases c4:k=4
  ·subst c4;rfl
  ·have b4:(k==4)=false:=by simpa using c4
   rw[b4,decide_eq_false (by omega)]
theorem app3 {a b c:List UInt8} {n:Nat} (h:(a++(b++c)).length≤n):(b++c).length≤n∧c.length≤n:=by simp only[lA] at h ⊢;omega
theorem app2 {a b:List UInt8} {n:Nat} (h:(a++b).length≤n):b.length≤n:=by simp only[lA] at h;omega
theorem lt15 {a:List UInt8} (h:a.length≤60):a.length<1000000000000000:=by omega
theorem lt62 {a:List UInt8} (h:a.length≤60):a.length<2 ^ 62:=by omega
def φ12:RecT:=(0,0,[],[],0,0)
theorem φCB {s:List UInt8} {r:RecT} (h:φ1G s r):ψE.f s=some (r,true):=by
 obtain ⟨hok,rfl⟩:=h
 have hl:=φ7R r
 obtain ⟨i1,i2,i3,i4,i5⟩:=φ8C hok
 have hok2:¬φn r=false:=by rw[hok];simp
 obtain ⟨k,b,ky,v,c,sm⟩:=r
 simp only at i1 i2 i3 i4 i5
 by_cases c1:k=1∨k=4
 ·obtain ⟨j1,j2,rfl,rfl⟩:=i3 c1
  have es:φQ (k,b,ky,v,0,0)=varT k++(varT b++(varT (ky.length:Int)++(ky++(varT (v.length:Int)++(v++[]))))):=by
   unfold φQ;rw[if_neg hok2,if_pos c1];simp[aA]
  rw[es] at hl ⊢
  have x2:=φ5M v [] ⟨by omega,by omega⟩ (lt62 (app3 (app3 hl).2).2)
  have x1:=φ5M ky (varT (v.length:Int)++(v++[])) ⟨by omega,by omega⟩ (lt62 (app3 hl).2)
  have n2:=φ1y i2 (varT (ky.length:Int)++(ky++(varT (v.length:Int)++(v++[])))) (lt62 (app2 hl))
  have n1:=φ1y i1 (varT b++(varT (ky.length:Int)++(ky++(varT (v.length:Int)++(v++[]))))) (lt62 hl)
  have hcd:decide (k=1∨k=4)=true:=decide_eq_true c1
  unfold ψE.f
  simp only[n1,n2,bS,φ3V,hcd,cT,x1,x2,cF,φ4N,hok,nZ]
  rfl
 have hcd:decide (k=1∨k=4)=false:=decide_eq_false c1
 by_cases c2:k=2
 ·obtain ⟨j1,rfl,rfl,rfl⟩:=i4 c2
  have es:φQ (k,b,ky,[],0,0)=varT k++(varT b++(varT (ky.length:Int)++(ky++[]))):=by
   unfold φQ;rw[if_neg hok2,if_neg c1,if_pos c2];simp[aA]
  rw[es] at hl ⊢
  have x1:=φ5M ky [] ⟨by omega,by omega⟩ (lt62 (app3 hl).2)
  have n2:=φ1y i2 (varT (ky.length:Int)++(ky++[])) (lt62 (app2 hl))
  have n1:=φ1y i1 (varT b++(varT (ky.length:Int)++(ky++[]))) (lt62 hl)
  have b2:(k==2)=true:=by simpa using c2
  unfold ψE.f
  simp only[n1,n2,bS,φ3V,hcd,b2,cT,x1,cF,φ4N,hok,nZ]
  rfl
 ·obtain ⟨rfl,rfl,j3,j4⟩:=i5 c1 c2
  have l4:=φ5D j4
  have es:φQ (k,b,[],[],c,sm)=varT k++(varT b++(varT c++(fix4 sm++[]))):=by
   unfold φQ;rw[if_neg hok2,if_neg c1,if_neg c2];simp[aA]
  rw[es] at hl ⊢
  have x1:=φ3P (fix4 sm) []
  rw[l4] at x1
  have x1:ψO.f (fix4 sm++[],false) 4=_:=x1
  have n3:=φ1y j3 (fix4 sm++[]) (lt62 (app3 hl).2)
  have n2:=φ1y i2 (varT c++(fix4 sm++[])) (lt62 (app2 hl))
  have n1:=φ1y i1 (varT b++(varT c++(fix4 sm++[]))) (lt62 hl)
  have b2:(k==2)=false:=by simpa using c2
  have f4:=φ7p j4 []
  rw[κ3] at f4
  unfold ψE.f
  simp only[n1,n2,n3,bS,φ3V,hcd,b2,cT,x1,cF,φ4N,hok,nZ,φ3X (fix4 sm) (show (fix4 sm).length<2 ^ 62 by omega),f4]
  rfl
theorem φB4 {s:List UInt8} {r:RecT} (h:φ1G s r):ψ1e.f s=some (r,true):=by
 obtain ⟨hok,rfl⟩:=h
 have hl:=φ7R r
 have hsh:=φ89 r
 obtain ⟨i1,i2,i3,i4,i5⟩:=φ8C hok
 have hok2:¬φn r=false:=by rw[hok];simp
 obtain ⟨k,b,ky,v,c,sm⟩:=r
 simp only at i1 i2 i3 i4 i5
 have head:∀T:List UInt8,(varT k++(varT b++T)).length≤60→φQ (k,b,ky,v,c,sm)=varT k++(varT b++T) →
   ∃a d:Nat,ψ1f.f (varT k++(varT b++T))=some (k,(a:Int))∧(decide (0≤(a:Int)) && decide ((a:Int)≤((varT k++(varT b++T)).length:Int)))=true∧(varT k++(varT b++T)).drop (a:Int).toNat=varT b++T ∧
    ψ1f.f (varT b++T)=some (b,(d:Int))∧((a:Int)==0)=false∧((d:Int)==0)=false∧(decide (0≤w64 ((a:Int)+(d:Int))) && decide (w64 ((a:Int)+(d:Int))≤((varT k++(varT b++T)).length:Int)))=true ∧
    (varT k++(varT b++T)).drop (w64 ((a:Int)+(d:Int))).toNat=T∧(varT k++(varT b++T)==[])=false:=by
  intro T hT _
  obtain ⟨p1,p2⟩:=φ3c i1 (varT b++T)
  obtain ⟨q1,q2⟩:=φ3c i2 T
  have hT2:=hT
  simp only[lA] at hT2
  have ew:w64 (((varT k).length:Int)+((varT b).length:Int))=(((varT k).length+(varT b).length:Nat):Int):=by rw[φ2 (by omega) (by omega)];omega
  refine ⟨(varT k).length,(varT b).length,?_,?_,?_,?_,?_,?_,?_,?_,?_⟩
  ·rw[φ1p _ (by omega),p1]
  ·simp only[lA];simp;omega
  ·rw[tN,List.drop_left]
  ·rw[φ1p _ (by simp only[lA];omega),q1]
  ·simp;intro e;rw[e] at p2;simp at p2
  ·simp;intro e;rw[e] at q2;simp at q2
  ·rw[ew];simp only[lA];simp;omega
  ·rw[ew,tN,←aA,←lA,List.drop_left]
  ·cases hv:varT k with
   | nil=>rw[hv] at p2;simp at p2
   | cons x l=>rfl
 by_cases c1:k=1∨k=4
 ·obtain ⟨j1,j2,rfl,rfl⟩:=i3 c1
  have hcd:decide (k=1∨k=4)=true:=decide_eq_true c1
  have es:φQ (k,b,ky,v,0,0)=varT k++(varT b++(varT (ky.length:Int)++(ky++(varT (v.length:Int)++(v++[]))))):=by
   unfold φQ;rw[if_neg hok2,if_pos c1];simp[aA]
  rw[es] at hl hsh ⊢
  obtain ⟨a,d,e1,e2,e3,e4,e5,e6,e7,e8,e9⟩:=head _ hl es
  have x2:=φ4H v [] ⟨by omega,by omega⟩ (lt15 (app3 (app3 hl).2).2)
  have x1:=φ4H ky (varT (v.length:Int)++(v++[])) ⟨by omega,by omega⟩ (lt15 (app3 hl).2)
  unfold ψ1e.f
  simp only[e1,e2,e3,e4,e5,e6,e7,e8,e9,bS,φ44,hcd,cT,x1,x2,cF,hsh,beq_self_eq_true,nZ]
 have hcd:decide (k=1∨k=4)=false:=decide_eq_false c1
 by_cases c2:k=2
 ·obtain ⟨j1,rfl,rfl,rfl⟩:=i4 c2
  have b2:(k==2)=true:=by simpa using c2
  have es:φQ (k,b,ky,[],0,0)=varT k++(varT b++(varT (ky.length:Int)++(ky++[]))):=by
   unfold φQ;rw[if_neg hok2,if_neg c1,if_pos c2];simp[aA]
  rw[es] at hl hsh ⊢
  obtain ⟨a,d,e1,e2,e3,e4,e5,e6,e7,e8,e9⟩:=head _ hl es
  have x1:=φ4H ky [] ⟨by omega,by omega⟩ (lt15 (app3 hl).2)
  unfold ψ1e.f
  simp only[e1,e2,e3,e4,e5,e6,e7,e8,e9,bS,φ44,hcd,b2,cT,x1,cF,hsh,beq_self_eq_true,nZ]
 ·obtain ⟨rfl,rfl,j3,j4⟩:=i5 c1 c2
  have b2:(k==2)=false:=by simpa using c2
  have l4:=φ5D j4
  have es:φQ (k,b,[],[],c,sm)=varT k++(varT b++(varT c++(fix4 sm++[]))):=by
   unfold φQ;rw[if_neg hok2,if_neg c1,if_neg c2];simp[aA]
  rw[es] at hl hsh ⊢
  obtain ⟨a,d,e1,e2,e3,e4,e5,e6,e7,e8,e9⟩:=head _ hl es
  obtain ⟨p1,p2⟩:=φ3c j3 (fix4 sm++[])
  have hl3:=(app3 hl).2
  have r1:ψ1f.f (varT c++(fix4 sm++[]))=some (c,((varT c).length:Int)):=by rw[φ1p _ (lt62 hl3),p1]
  have r2:(decide (0≤((varT c).length:Int)) && decide (((varT c).length:Int)≤((varT c++(fix4 sm++[])).length:Int)))=true:=by simp only[lA];simp;omega
  have r3:(varT c++(fix4 sm++[])).drop (((varT c).length:Int)).toNat=fix4 sm++[]:=by rw[tN,List.drop_left]
  have r4:ψ1d.f (fix4 sm++[]) 4=some (sm,true):=by rw[φ7F _ (lt62 (app2 hl3)),φ7p j4]
  unfold ψ1e.f
  simp only[e1,e2,e3,e4,e5,e6,e7,e8,e9,bS,φ44,hcd,b2,cT,r1,r2,r3,r4,cF,hsh,beq_self_eq_true,nZ]
noncomputable def φ4h (k b:Int) (st:φ75):Option (RecT×Bool):=
 ((bif k==1 then some ((0,0,[],[],0,0),st,(k,b,[],[],0,0),k,k==1)
 else some ((0,0,[],[],0,0),st,(k,b,[],[],0,0),k,k==4):Option ((Int×Int×List UInt8×List UInt8×Int×Int)×(List UInt8×Bool)×(Int×Int×List UInt8×List UInt8×Int×Int)×Int×Bool)).bind (fun (x2,x4,x5,x16,x27)=>
 bif x27 then
 (ψQ.f x4).bind fun (t3_0,t3_1)=>
 (ψQ.f t3_1).bind fun (t4_0,t4_1)=>
 some (x2,t4_1,(x5.1,x5.2.1,t3_0,t4_0,x5.2.2.2.2))
 else
 (bif x16==2 then
 (ψQ.f x4).bind fun (t5_0,t5_1)=>
 some (x2,t5_1,(x5.1,x5.2.1,t5_0,x5.2.2.2))
 else
 (ψP.f x4).bind fun (t6_0,t6_1)=>
 (ψO.f t6_1 4).bind fun (t7_0,t7_1)=>
 (ψD.f t7_0 4).bind fun (t8_0,t8_1)=>
 some (x2,t7_1,(x5.1,x5.2.1,x5.2.2.1,x5.2.2.2.1,t6_0,t8_0)):Option ((Int×Int×List UInt8×List UInt8×Int×Int)×(List UInt8×Bool)×Int×Int×List UInt8×List UInt8×Int×Int)).bind (fun (x2,x4,x5)=>
 some (x2,x4,x5))):Option ((Int×Int×List UInt8×List UInt8×Int×Int)×(List UInt8×Bool)×Int×Int×List UInt8×List UInt8×Int×Int)).bind (fun (x2,x4,x5)=>
 bif x4.2 then
 some ((0,0,[],[],0,0),false)
 else
 bif !(x4.1==[]) then
 some ((0,0,[],[],0,0),false)
 else
 (ψH.f x5).bind fun t9=>
 bif !t9 then
 some ((0,0,[],[],0,0),false)
 else
 some (x5,true))
theorem φBK (s:List UInt8):ψE.f s=(ψP.f (s,false)).bind fun p=>(ψP.f p.2).bind fun q=>φ4h p.1 q.1 q.2:=rfl
theorem φ8H (k b:Int) (s:List UInt8) (hl:s.length<2 ^ 62):φ4h k b (s,true)=some (φ12,false):=by
 have hf:ψD.f [] 4=some (0,false):=φ3X [] (by show 0<2 ^ 62;decide)
 unfold φ4h
 simp only[φ3V,bS]
 cases decide (k=1∨k=4)
 ·cases (k==2)
  ·simp only[cF,φ4w s hl,bS,φ4W,hf,cT];rfl
  ·simp only[cF,cT,φ6C s hl,bS];rfl
 ·simp only[cT,φ6C s hl,bS];rfl
theorem φ5T (S:List UInt8) (r:RecT) (st:φ75) (h:st.2=false→st.1=[]→φn r=true→φQ r=S) :
  ∃res:RecT×Bool,(bif st.2 then some (((0,0,[],[],0,0):RecT),false) else bif !(st.1==[]) then some ((0,0,[],[],0,0),false) else (ψH.f r).bind fun t9=>bif !t9 then some ((0,0,[],[],0,0),false) else some (r,true))=some res∧(res=(φ12,false)∨∃r,res=(r,true)∧φ1G S r):=by
 cases hb:st.2
 rotate_left
 ·exact ⟨(φ12,false),rfl,.inl rfl⟩
 simp only[cF]
 by_cases he:st.1=[]
 ·have he2:(st.1==[])=true:=by simpa using he
  simp only[he2,nZ,cF,φ4N,bS]
  cases hr:φn r
  ·exact ⟨(φ12,false),rfl,.inl rfl⟩
  ·exact ⟨(r,true),rfl,.inr ⟨r,rfl,hr,h hb he hr⟩⟩
 ·have he2:(st.1==[])=false:=by simpa using he
  simp only[he2,nF,cT]
  exact ⟨(φ12,false),rfl,.inl rfl⟩
theorem φBo (s:List UInt8) (hl:s.length<1000000000000):∃res:RecT×Bool,ψE.f s=some res∧(res=(φ12,false)∨∃r,res=(r,true)∧φ1G s r):=by
 rw[φBK]
 rcases φ4X s (by omega) with ⟨k,s1,e1,q1,i1⟩ | e1
 rotate_left
 ·rw[e1,bS]
  simp only[φ4w s (show s.length<2 ^ 62 by omega),bS,φ8H 0 0 s (show s.length<2 ^ 62 by omega)]
  exact ⟨_,rfl,.inl rfl⟩
 have l1:s1.length≤s.length:=by rw[q1,lA];omega
 rw[e1,bS]
 rcases φ4X s1 (by omega) with ⟨b,s2,e2,q2,i2⟩ | e2
 rotate_left
 ·simp only[e2,bS,φ8H k 0 s1 (show s1.length<2 ^ 62 by omega)]
  exact ⟨_,rfl,.inl rfl⟩
 have l2:s2.length≤s.length:=by rw[q2,lA] at l1;omega
 simp only[e2,bS]
 unfold φ4h
 simp only[φ3V,bS]
 by_cases c1:k=1∨k=4
 ·have hcd:decide (k=1∨k=4)=true:=decide_eq_true c1
  simp only[hcd,cT]
  rcases φ5g s2 (by omega) with ⟨ky,s3,e3,q3,i3⟩ | ⟨s3,e3,l3⟩
  rotate_left
  ·simp only[e3,bS,φ6C s3 (show s3.length<2 ^ 62 by omega)]
   exact ⟨_,rfl,.inl rfl⟩
  have l3:s3.length≤s.length:=by rw[q3,lA,lA] at l2;omega
  rcases φ5g s3 (by omega) with ⟨v,s4,e4,q4,i4⟩ | ⟨s4,e4,l4⟩
  rotate_left
  ·simp only[e3,e4,bS]
   exact ⟨_,rfl,.inl rfl⟩
  simp only[e3,e4,bS]
  exact φ5T s (k,b,ky,v,0,0) (s4,false) fun _ he hr=>by
   have he:s4=[]:=he
   subst he
   unfold φQ
   rw[if_neg (by rw[hr];simp),if_pos c1,q1,q2,q3,q4]
   simp[aA]
 have hcd:decide (k=1∨k=4)=false:=decide_eq_false c1
 by_cases c2:k=2
 ·have b2:(k==2)=true:=by simpa using c2
  simp only[hcd,b2,cT,cF]
  rcases φ5g s2 (by omega) with ⟨ky,s3,e3,q3,i3⟩ | ⟨s3,e3,l3⟩
  rotate_left
  ·simp only[e3,bS]
   exact ⟨_,rfl,.inl rfl⟩
  simp only[e3,bS]
  exact φ5T s (k,b,ky,[],0,0) (s3,false) fun _ he hr=>by
   have he:s3=[]:=he
   subst he
   unfold φQ
   rw[if_neg (by rw[hr];simp),if_neg c1,if_pos c2,q1,q2,q3]
   simp[aA]
 ·have b2:(k==2)=false:=by simpa using c2
  simp only[hcd,b2,cF]
  rcases φ4X s2 (by omega) with ⟨c,s3,e3,q3,i3⟩ | e3
  rotate_left
  ·have hf:ψD.f [] 4=some (0,false):=φ3X [] (by show 0<2 ^ 62;decide)
   simp only[e3,bS,φ4W,hf]
   exact ⟨_,rfl,.inl rfl⟩
  rcases φ6k s3 4 (by omega) with ⟨t,s4,e4,q4,i4⟩ | e4
  rotate_left
  ·have hf:ψD.f [] 4=some (0,false):=φ3X [] (by show 0<2 ^ 62;decide)
   simp only[e3,e4,bS,hf]
   exact ⟨_,rfl,.inl rfl⟩
  have ht:t.length=4:=by omega
  have hf:=φ3X t (by omega)
  obtain ⟨f1,f2,f3⟩:=φ9o t ht
  simp only[e3,e4,bS,hf]
  exact φ5T s (k,b,[],[],c,(φ1S t).1) (s4,false) fun _ he hr=>by
   have he:s4=[]:=he
   subst he
   unfold φQ
   rw[if_neg (by rw[hr];simp),if_neg c1,if_neg c2,q1,q2,q3,q4]
   simp only
   rw[f1]
   simp[aA]
theorem φ4x (S:List UInt8) (r:RecT):∃res:RecT×Bool,((ψ1j.f r).bind fun t9=>bif !(t9==S) then some (((0,0,[],[],0,0):RecT),false) else bif S==[] then some ((0,0,[],[],0,0),false) else some (r,true))=some res∧(res=(φ12,false)∨∃r,res=(r,true)∧φ1G S r):=by
 rw[φ89,bS]
 by_cases c:φQ r=S
 ·have c1:(φQ r==S)=true:=by simpa using c
  simp only[c1,nZ,cF]
  by_cases e:S=[]
  ·have e1:(S==[])=true:=by simpa using e
   simp only[e1,cT]
   exact ⟨_,rfl,.inl rfl⟩
  ·have e1:(S==[])=false:=by simpa using e
   simp only[e1,cF]
   refine ⟨_,rfl,.inr ⟨r,rfl,?_,c⟩⟩
   cases hr:φn r with
   | true=>rfl
   | false=>
    exfalso
    apply e
    rw[←c]
    unfold φQ
    rw[if_pos hr]
 ·have c1:(φQ r==S)=false:=by simpa using c
  simp only[c1,nF,cT]
  exact ⟨_,rfl,.inl rfl⟩
theorem φ68 (s:List UInt8):0≤(φq s).2∧(φq s).2≤s.length∧(φq s).2≤7:=by
 rcases φ5z s with h | ⟨n,k,_,h,h1,h2,h3,h4,h5⟩
 ·rw[h];simp
 ·rw[h];simp only;omega
end Go.Rf.G
