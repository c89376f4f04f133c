import Derived.Test.YtaijadchooalpaaRf5
import Derived.Test.YtaijadchooalpaaXModelPlayFns
open Option renaming bind_some→bS
open List renaming length_append→lA,append_assoc→aA,mem_cons_of_mem→mC,mem_append→mA,mem_append_right→mR,mem_append_left→mL,mem_cons→mc,drop_eq_getElem_cons→dG,length_take→lT,length_drop→lD,mem_map→mM,length_map→lM,length_cons→lC,length_nil→lN,getElem_mem→gM,map_append→mp,mem_singleton→mZ,take_succ_eq_append_getElem→κ0,nodup_append→κ2,mem_cons_self→κ3,append_nil→κ5,flatMap_append→κ8,replicate→κA,take_length→κB,nodup_cons→κC,range'→κE,cons_append→κG,map_cons→κH,take_append_drop→κJ
open Bool renaming and_eq_true→bA,eq_false_or_eq_true→bE,not_true→nZ,not_false→nF,true_and→tA,not_not→nn,or_eq_false_iff→κ6,not_eq_true'→κF,false_eq_true→κI
open Int renaming toNat_natCast→tN,ofNat_lt→oL
open Nat renaming eq_of_beq_eq_true→κ1,lt_or_ge→κ4,lt_of_lt_of_le→κ7,le_of_ble_eq_true→κ9,le_refl→κD,zero_le→κL
open Array renaming length_toList→κK
set_option linter.unusedVariables false
set_option linter.unusedSimpArgs false
namespace Go.Rf.G
open Go Go.Rf
set_option synthInstance.maxSize 4000
theorem φu {A B σ:Type} {step:(A→Option B)→A→Option B} (st:Nat→σ→A) (N:Nat) (F:Nat→σ→B) (Inv:Nat→σ→Prop)
  (h:∀rec n s,n≤N→Inv n s→(∀s',n<N→Inv (n+1) s'→rec (st (n+1) s')=some (F (n+1) s'))→step rec (st n s)=some (F n s))
  (hN:N<2 ^ 62):∀n s,n≤N→Inv n s→lp step (st n s)=some (F n s):=by
 have key:∀k f n s,n≤N→Inv n s→N - n=k→k<f→φ19 step f (st n s)=some (F n s):=by
  intro k
  induction k with
  | zero=>
   intro f n s hn hi hk hf
   obtain ⟨f,rfl⟩:∃g,f=g+1:=⟨f - 1,by omega⟩
   exact h _ n s hn hi fun s' hlt=>by omega
  | succ k ih=>
   intro f n s hn hi hk hf
   obtain ⟨f,rfl⟩:∃g,f=g+1:=⟨f - 1,by omega⟩
   exact h _ n s hn hi fun s' hlt hi'=>ih f (n+1) s' hlt hi' (by omega) (by omega)
 intro n s hn hi
 exact key (N - n) FUEL n s hn hi rfl (κ7 (by omega) φ3k)
@[simp] theorem φ6 (n m:Nat):inB (n:Int) m=decide (n<m):=by
 unfold inB
 by_cases h:n<m<;>simp[h,Int.natCast_nonneg]
@[simp] theorem φ7 {α:Type} (z:α) (xs:List α) (n:Nat):rdA z xs (n:Int)=xs.getD n z:=rfl
theorem φH {n:Int} (h1:-9223372036854775808≤n) (h2:n<9223372036854775808):w64 n=n:=by
 unfold w64 IntKind.wrap
 simp only[IntKind.bits,IntKind.signed]
 by_cases h:n % 2 ^ 64≥2 ^ 63<;>simp[h]<;>omega
theorem φ8 {n:Nat} (h:n+1<9223372036854775808):w64 ((n:Int)+1)=((n+1:Nat):Int):=by
 rw[φH (by omega) (by omega)];omega
theorem φ2q {l:Nat} (h:l≤reachBytes):l<140737488355328:=by unfold reachBytes at h;omega
theorem φ3 {α:Type} {xs:List α} {z:α} {n:Nat} (h:n<xs.length):xs.getD n z=xs[n]:=by simp[List.getD,h]
theorem φ5S {α:Type} {a b:List α} {n:Nat} (h1:n<a.length) (h2:n<b.length):a.drop n=b.drop n↔a[n]=b[n]∧a.drop (n+1)=b.drop (n+1):=by
 rw[dG h1,dG h2,List.cons.injEq]
def szr (b:Nat) (left:Int):Int:=if (b:Int)≤left then left - b else -1
theorem φ6Z {b:Nat} {left:Int}:decide (szr b left<0)=!decide ((b:Int)≤left):=by
 unfold szr
 by_cases h:(b:Int)≤left
 ·rw[if_pos h];simp[h]
 ·rw[if_neg h];simp[h]
theorem φ9k {b:Nat} {left:Int} (h:(b:Int)≤left):szr b left=left - b:=if_pos h
def sumN {α:Type} (f:α→Nat):List α→Nat
 | []=>0
 | x::r=>f x+sumN f r
theorem φ8x {α:Type} (f:α→Nat) {l:List α} {n:Nat} (h:n<l.length):sumN f (l.drop n)=f l[n]+sumN f (l.drop (n+1)):=by
 rw[dG h];rfl
def φ36 {α:Type} (f:α→Nat) (l:List α):Nat:=l.length+sumN f l
theorem φ89 {X:Type} {step:(List X×Int×Int→Option (Int ⊕ Int))→List X×Int×Int→Option (Int ⊕ Int)} (bulk:X→Nat) (l:List X) (hl:l.length<2 ^ 62)
  (hs:∀rec (n:Nat) (left:Int),(hn:n<l.length)→0≤left→left≤1048576→step rec (l,left,(n:Int))=if (bulk l[n]:Int)≤left then rec (l,left - bulk l[n],((n+1:Nat):Int)) else some (.inr (-1)))
  (he:∀rec (left:Int),step rec (l,left,(l.length:Int))=some (.inl left)) (left:Int) (h0:0≤left) (h1:left≤1048576) :
  lp step (l,left,0)=some (if (sumN bulk l:Int)≤left then .inl (left - sumN bulk l) else .inr (-1)):=by
 have:=φu (step:=step) (fun n (s:Int)=>(l,s,(n:Int))) l.length (fun n s=>if (sumN bulk (l.drop n):Int)≤s then .inl (s - sumN bulk (l.drop n)) else .inr (-1)) (fun _ s=>0≤s∧s≤1048576)
  (fun rec n s hn hi ih=>by
   rcases κ4 n l.length with h | h
   ·rw[hs rec n s h hi.1 hi.2,φ8x bulk h]
    by_cases hb:(bulk l[n]:Int)≤s
    ·rw[if_pos hb,ih _ h ⟨by omega,by omega⟩]
     congr 1
     by_cases hc:(sumN bulk (l.drop (n+1)):Int)≤s - bulk l[n]
     ·rw[if_pos hc,if_pos (by omega)];congr 1;omega
     ·rw[if_neg hc,if_neg (by omega)]
    ·rw[if_neg hb,if_neg (by omega)]
   ·have:n=l.length:=by omega
    subst this
    rw[he]
    simp[sumN,hi.1])
  hl 0 left (κL _) ⟨h0,h1⟩
 simpa using this
theorem φ2A {X:Type} [DecidableEq X] {step:(List X×List X×Int→Option (Unit ⊕ Bool))→List X×List X×Int→Option (Unit ⊕ Bool)} (a b:List X) (hl:a.length=b.length) (ha:a.length<2 ^ 62)
  (hs:∀rec (n:Nat),(h1:n<a.length)→(h2:n<b.length)→step rec (a,b,(n:Int))=if a[n]=b[n] then rec (a,b,((n+1:Nat):Int)) else some (.inr false))
  (he:∀rec,step rec (a,b,(a.length:Int))=some (.inl ())):lp step (a,b,0)=some (if a=b then .inl () else .inr false):=by
 have:=φu (step:=step) (fun n (_:Unit)=>(a,b,(n:Int))) a.length (fun n _=>if a.drop n=b.drop n then .inl () else .inr false) (fun _ _=>True)
  (fun rec n s hn _ ih=>by
   rcases κ4 n a.length with h | h
   ·rw[hs rec n h (by omega),ih () h trivial]
    by_cases hc:a[n]=b[n]
    ·rw[if_pos hc];simp only[φ5S h (by omega:n<b.length),hc,true_and]
    ·rw[if_neg hc,if_neg fun k=>hc ((φ5S h (by omega)).1 k).1]
   ·have:n=a.length:=by omega
    subst this
    rw[he]
    simp[hl])
  ha 0 () (κL _) trivial
 simpa using this
theorem φ7I {X:Type} {step:(List X×List X×Int→Option (List X))→List X×List X×Int→Option (List X)} (l:List X) (hl:l.length<2 ^ 62)
  (hs:∀rec (r:List X) (n:Nat),(h1:n<l.length)→r.length=l.length→step rec (l,r,(n:Int))=rec (l,r.set n l[n],((n+1:Nat):Int)))
  (he:∀rec r,step rec (l,r,(l.length:Int))=some r) (r:List X) (hr:r.length=l.length):lp step (l,r,0)=some l:=by
 have:=φu (step:=step) (fun n (r:List X)=>(l,r,(n:Int))) l.length (fun n r=>l) (fun n r=>r.length=l.length∧r.take n=l.take n)
  (fun rec n r hn hi ih=>by
   obtain ⟨hi1,hi2⟩:=hi
   rcases κ4 n l.length with h | h
   ·rw[hs rec r n h hi1]
    refine ih _ h ⟨by simp[hi1],?_⟩
    rw[κ0 (by simp[hi1,h]),κ0 h,List.take_set_of_le (κD _),hi2]
    simp
   ·have:n=l.length:=by omega
    subst this
    rw[he]
    rw[κB,←hi1,κB] at hi2
    rw[hi2])
  hl 0 r (κL _) ⟨hr,by simp⟩
 simpa using this
def φR {X:Type} (mk:Int→X→X) (c:Nat):List X→Int→List X
 | [],_=>[]
 | x::r,k=>mk k x::φR mk c r (k+c)
@[simp] theorem φ4D {X:Type} (mk:Int→X→X) (c:Nat):∀(l:List X) (k:Int),(φR mk c l k).length=l.length
 | [],_=>rfl
 | x::r,k=>by simp[φR,φ4D mk c r]
theorem φ4l {X:Type} (mk:Int→X→X) (c:Nat):∀(l:List X) (k:Int) (n:Nat) (h:n<l.length) (h':n<(φR mk c l k).length),(φR mk c l k)[n]=mk (k+c * n) l[n]
 | x::r,k,0,_,_=>by simp[φR]
 | x::r,k,n+1,h,h'=>by
  simp only[φR,List.getElem_cons_succ]
  rw[φ4l mk c r (k+c) n (by simpa using h) _]
  congr 1
  rw[Int.natCast_add,Int.mul_add];omega
theorem φ2t {X:Type} {step:(List X×Int×Int→Option (List X×Int))→List X×Int×Int→Option (List X×Int)} (mk:Int→X→X) (c:Nat) (l:List X) (hl:l.length<2 ^ 62)
  (hs:∀rec (r:List X) (k:Int) (n:Nat),r.length=l.length→(h:n<r.length)→0<k→k<1000000000000→step rec (r,k,(n:Int))=rec (r.set n (mk k r[n]),k+c,((n+1:Nat):Int)))
  (he:∀rec (r:List X) (k:Int),r.length=l.length→step rec (r,k,(l.length:Int))=some (r,k)) (k:Int) (h0:0<k) (h1:k+c * l.length<1000000000000) :
  lp step (l,k,0)=some (φR mk c l k,k+c * l.length):=by
 have key:=φu (step:=step) (fun n (s:List X×Int)=>(s.1,s.2,(n:Int))) l.length (fun n s=>(φR mk c l k,k+c * l.length))
  (fun n s=>s.1.length=l.length∧s.2=k+c * n∧s.1.take n=(φR mk c l k).take n∧s.1.drop n=l.drop n)
  (fun rec n s hn hi ih=>by
   obtain ⟨i1,i2,i3,i4⟩:=hi
   rcases κ4 n l.length with h | h
   ·have hb:(c:Int) * n≤c * l.length:=Int.mul_le_mul_of_nonneg_left (by omega) (by omega)
    have hb0:0≤(c:Int) * n:=Int.mul_nonneg (by omega) (by omega)
    rw[hs rec s.1 s.2 n i1 (by omega) (by omega) (by omega)]
    refine ih (s.1.set n (mk s.2 (s.1[n]'(by omega))),s.2+c) h ⟨by simp[i1],?_,?_,?_⟩
    ·show s.2+c=_;rw[i2,Int.natCast_add,Int.mul_add];omega
    ·show (s.1.set n _).take (n+1)=_
     have hg:s.1[n]'(by omega)=l[n]:=by
      have:=i4
      rw[dG (by omega),dG h,List.cons.injEq] at this
      exact this.1
     rw[κ0 (by simp;omega),κ0 (by simp;omega),List.take_set_of_le (κD _),i3,φ4l mk c l k n h]
     simp[i2,hg]
    ·show (s.1.set n _).drop (n+1)=_
     rw[List.drop_set_of_lt (by omega)]
     have:=i4
     rw[dG (by omega),dG h,List.cons.injEq] at this
     exact this.2
   ·have:n=l.length:=by omega
    subst this
    rw[he rec s.1 s.2 i1,i2]
    rw[←i1,κB,i1,←φ4D mk c l k,κB] at i3
    rw[i3])
  hl 0 (l,k) (κL _) ⟨rfl,by simp,by simp,by simp⟩
 simpa using key
theorem φ3l {X:Type} {step:(List X×Int×Int→Option (Int ⊕ Int))→List X×Int×Int→Option (Int ⊕ Int)} (mk:Int→X→X) (c:Nat) (l:List X) (hl:l.length<2 ^ 62)
  (hs:∀rec (r:List X) (k:Int) (n:Nat) (x:X),(h:n<r.length)→n<4611686018427387904→r[n]=mk k x→0<k→k<1000000000000→step rec (r,k,(n:Int))=rec (r,k+c,((n+1:Nat):Int)))
  (he:∀rec (r:List X) (k:Int),step rec (r,k,(r.length:Int))=some (.inl k)) (k:Int) (h0:0<k) (h1:k+c * l.length<1000000000000) :
  lp step (φR mk c l k,k,0)=some (.inl (k+c * l.length)):=by
 have key:=φu (step:=step) (fun n (s:Int)=>(φR mk c l k,s,(n:Int))) l.length (fun n s=>.inl (k+c * l.length))
  (fun n s=>s=k+c * n)
  (fun rec n s hn hi ih=>by
   rcases κ4 n l.length with h | h
   ·have hb:(c:Int) * n≤c * l.length:=Int.mul_le_mul_of_nonneg_left (by omega) (by omega)
    have hb0:0≤(c:Int) * n:=Int.mul_nonneg (by omega) (by omega)
    rw[hs rec _ s n l[n] (by simpa using h) (by omega) (by rw[φ4l mk c l k n h,hi]) (by omega) (by omega)]
    exact ih _ h (by rw[hi,Int.natCast_add,Int.mul_add];omega)
   ·have:n=l.length:=by omega
    subst this
    have:=he rec (φR mk c l k) s
    rw[φ4D] at this
    rw[this,hi])
  hl 0 k (κL _) (by simp)
 simpa using key
theorem φ4T {X A B:Type} {step:(A→Option (B ⊕ Bool))→A→Option (B ⊕ Bool)} (l:List X) (f:X→Bool) (st:Nat→A) (b:B) (hl:l.length<2 ^ 62)
  (hs:∀rec n,(h:n<l.length)→step rec (st n)=if f l[n]=true then rec (st (n+1)) else some (.inr false))
  (he:∀rec,step rec (st l.length)=some (.inl b)):lp step (st 0)=some (if l.all f=true then .inl b else .inr false):=by
 have:=φu (step:=step) (fun n (_:Unit)=>st n) l.length (fun n _=>if (l.drop n).all f=true then .inl b else .inr false) (fun _ _=>True)
  (fun rec n s hn _ ih=>by
   rcases κ4 n l.length with h | h
   ·rw[hs rec n h,ih () h trivial,dG h,List.all_cons]
    cases f l[n]<;>simp
   ·have:n=l.length:=by omega
    subst this
    rw[he];simp) hl 0 () (κL _) trivial
 simpa using this
theorem φ38 {X A B C:Type} {step:(A→Option (B ⊕ C))→A→Option (B ⊕ C)} (l:List X) (f:X→Bool) (r:X→C) (st:Nat→A) (b:B) (hl:l.length<2 ^ 62)
  (hs:∀rec n,(h:n<l.length)→step rec (st n)=if f l[n]=true then some (.inr (r l[n])) else rec (st (n+1)))
  (he:∀rec,step rec (st l.length)=some (.inl b)):lp step (st 0)=some (match l.find? f with | some x=>.inr (r x) | none=>.inl b):=by
 have:=φu (step:=step) (fun n (_:Unit)=>st n) l.length (fun n _=>match (l.drop n).find? f with | some x=>.inr (r x) | none=>.inl b) (fun _ _=>True)
  (fun rec n s hn _ ih=>by
   rcases κ4 n l.length with h | h
   ·rw[hs rec n h,ih () h trivial,dG h,List.find?_cons]
    cases hf:f l[n]<;>simp
   ·have:n=l.length:=by omega
    subst this
    rw[he];simp) hl 0 () (κL _) trivial
 simpa using this
theorem φ2p {X A B S:Type} {step:(A→Option B)→A→Option B} (l:List X) (g:S→X→S) (st:Nat→S→A) (out:S→B) (Inv:Nat→S→Prop) (hl:l.length<2 ^ 62)
  (hs:∀rec n s,(h:n<l.length)→Inv n s→step rec (st n s)=rec (st (n+1) (g s l[n])))
  (hi:∀n s,(h:n<l.length)→Inv n s→Inv (n+1) (g s l[n]))
  (he:∀rec s,Inv l.length s→step rec (st l.length s)=some (out s)) (s:S) (h0:Inv 0 s):lp step (st 0 s)=some (out (l.foldl g s)):=by
 have:=φu (step:=step) st l.length (fun n s=>out ((l.drop n).foldl g s)) Inv
  (fun rec n s hn hv ih=>by
   rcases κ4 n l.length with h | h
   ·rw[hs rec n s h hv,ih _ h (hi n s h hv),dG h];rfl
   ·have:n=l.length:=by omega
    subst this
    rw[he rec s hv];simp) hl 0 s (κL _) h0
 simpa using this
theorem φ7E {A B σ:Type} {step:(A→Option B)→A→Option B} (st:Nat→σ→A) (F:Nat→σ→B) (Inv:Nat→σ→Prop)
  (h:∀rec n s,Inv n s→(∀m s',n=m+1→Inv m s'→rec (st m s')=some (F m s'))→step rec (st n s)=some (F n s)):∀n s,n<2 ^ 62→Inv n s→lp step (st n s)=some (F n s):=by
 have key:∀n f s,n<f→Inv n s→φ19 step f (st n s)=some (F n s):=by
  intro n
  induction n with
  | zero=>
   intro f s hf hi
   obtain ⟨f,rfl⟩:∃g,f=g+1:=⟨f - 1,by omega⟩
   exact h _ 0 s hi fun m s' he=>by omega
  | succ n ih=>
   intro f s hf hi
   obtain ⟨f,rfl⟩:∃g,f=g+1:=⟨f - 1,by omega⟩
   exact h _ (n+1) s hi fun m s' he hi'=>by
    have:m=n:=by omega
    subst this
    exact ih f s' (by omega) hi'
 intro n s hn hi
 exact key n FUEL s (κ7 hn φ3k) hi
theorem φ8F {X A B C:Type} {step:(A→Option (B ⊕ C))→A→Option (B ⊕ C)} (l:List X) (f:X→Bool) (r:X→C) (st:Nat→A) (b:B) (hl:l.length<2 ^ 62)
  (hs:∀rec n,(h:n<l.length)→step rec (st (n+1))=if f l[n]=true then some (.inr (r l[n])) else rec (st n))
  (he:∀rec,step rec (st 0)=some (.inl b)):lp step (st l.length)=some (match l.reverse.find? f with | some x=>.inr (r x) | none=>.inl b):=by
 have:=φ7E (step:=step) (fun n (_:Unit)=>st n) (fun n _=>match (l.take n).reverse.find? f with | some x=>.inr (r x) | none=>.inl b) (fun n _=>n≤l.length)
  (fun rec n s hn ih=>by
   cases n with
   | zero=>rw[he];simp
   | succ n=>
    have h:n<l.length:=hn
    rw[hs rec n h,ih n () rfl (by omega),κ0 h,List.reverse_append]
    simp only[List.reverse_cons,List.reverse_nil,List.nil_append,κG,List.find?_cons]
    cases hf:f l[n]<;>simp) l.length () hl (κD _)
 simpa using this
def okL {α:Type} (f:α→Prop) (l:List α):Prop:=l.length≤reachBytes∧∀x∈l,f x
@[simp] theorem φ3Y {A B C:Type} (a:A) (f:A→C) (g:B→C):φD (.inl a) f g=f a:=rfl
@[simp] theorem φ4I {A B C:Type} (b:B) (f:A→C) (g:B→C):φD (.inr b) f g=g b:=rfl
theorem φP {A B:Type} (p:A×B):(p.1,p.2)=p:=rfl
theorem φ7F {β:Type} (n:Int) (a b:β):(bif (n==n) then a else b)=a:=by simp
theorem φ9I {β:Type} {c n:Int} (h1:0≤n) (h2:c * n≤140737488355328) (a b:β):(bif (decide (0≤n) && decide (c * n≤140737488355328)) then a else b)=a:=by simp[h1,h2]
theorem φ1y {α:Type} {z:α} {r:List α} {n:Nat} {v:α} (h:n<r.length):rdA z (r.set n v) (n:Int)=v:=by simp[List.getD,h]
noncomputable def mt (k:Int):List UInt8:=(ψv.f k).getD []
theorem φt (k:Int) (h0:0<k) (h1:k<2000000000000):ψv.f k=some (mt k):=by
 have:∃b,ψv.f k=some b:=by
  unfold ψv.f
  have hk:¬k≤0:=by omega
  simp only[hk,dF,cF]
  have key:∀(n:Nat) (k:Int) (acc:List UInt8),0≤k→k<n→(n:Int)≤2000000000000→acc.length+k.toNat<4000000000000→∀f,n<f→∃b,φ19 ψv.l0 f (k,acc)=some b∧b.length<4000000000000:=by
   intro n
   induction n with
   | zero=>intro k acc h0 h1;omega
   | succ n ih=>
    intro k acc h0 h1 h2 h3 f hf
    obtain ⟨f,rfl⟩:∃g,f=g+1:=⟨f - 1,by omega⟩
    show ∃b,ψv.l0 (φ19 ψv.l0 f) (k,acc)=some b∧_
    simp only[ψv.l0]
    by_cases hk:k > 0
    ·have hd:Int.tdiv k 10=k / 10:=Int.tdiv_eq_ediv_of_nonneg (by omega)
     have hw:w64 (Int.tdiv k 10)=k / 10:=by rw[hd];exact φH (by omega) (by omega)
     have hlen:((φ1L [IntKind.wrap .u8 (w64 (48+(Int.tmod k 10)))]).length+acc.length≤9223372036854775807):=by simp[φ1L];omega
     simp only[hk,dT,cT,hlen,hw]
     exact ih (k / 10) _ (by omega) (by omega) (by omega) (by simp[φ1L];omega) f (by omega)
    ·simp only[hk,dF,cF]
     exact ⟨acc,rfl,by omega⟩
  obtain ⟨b,hb,hl⟩:=key (k.toNat+1) k [] (by omega) (by omega) (by omega) (by simp;omega) FUEL (κ7 (by omega) φ3k)
  have hb:lp ψv.l0 (k,[])=some b:=hb
  rw[hb,bS]
  have hle:([109]:List UInt8).length+b.length≤9223372036854775807:=by simp;omega
  simp only[hle,dT,cT]
  exact ⟨_,rfl⟩
 obtain ⟨b,hb⟩:=this
 unfold mt
 rw[hb];rfl
theorem φ9r (a b:List (List UInt8)) (ha:a.length<2 ^ 62):ψe.f a b=some (decide (a=b)):=by
 unfold ψe.f
 by_cases hl:a.length=b.length
 rotate_left
 ·have:a≠b:=fun h=>hl (by rw[h])
  have h2:((a.length:Int) != (b.length:Int))=true:=by simp;omega
  rw[h2];simp[this]
 have h2:((a.length:Int) != (b.length:Int))=false:=by simp;omega
 rw[h2,cF,φ2A a b hl ha (fun rec n h1 h2=>?_) (fun rec=>?_)]
 ·by_cases e:a=b<;>simp[e,φD]
 ·simp only[ψe.l0,oL,h1,h2,dT,cT,φ6,φ7,φ3 h1,φ3 h2,φ8 (show n+1<9223372036854775808 by omega)]
  by_cases e:a[n]=b[n]
  ·simp[e]
  ·have e2:(a[n]==b[n])=false:=by simpa using e
   have e3:(a[n] != b[n])=true:=by simpa using e
   simp[e,e2,e3]
 ·simp[ψe.l0]
theorem φ84 (x y:List UInt8×List UInt8×Int):ψW.f x y=some (decide (x=y)):=by
 obtain ⟨a0,a1,a2⟩:=x
 obtain ⟨b0,b1,b2⟩:=y
 unfold ψW.f
 by_cases e0:a0=b0
 rotate_left
 ·have d2:(a0==b0)=false:=by simpa using e0
  have d3:(a0 != b0)=true:=by simpa using e0
  simp[e0,d2,d3]
 by_cases e1:a1=b1
 rotate_left
 ·have d2:(a1==b1)=false:=by simpa using e1
  have d3:(a1 != b1)=true:=by simpa using e1
  simp[e1,d2,d3]
 by_cases e2:a2=b2
 rotate_left
 ·have d2:(a2==b2)=false:=by simpa using e2
  have d3:(a2 != b2)=true:=by simpa using e2
  simp[e2,d2,d3]
 simp[e0,e1,e2]
theorem φ95 (a b:List (List UInt8×List UInt8×Int)) (ha:a.length<2 ^ 62):ψX.f a b=some (decide (a=b)):=by
 unfold ψX.f
 by_cases hl:a.length=b.length
 rotate_left
 ·have:a≠b:=fun h=>hl (by rw[h])
  have h2:((a.length:Int) != (b.length:Int))=true:=by simp;omega
  rw[h2];simp[this]
 have h2:((a.length:Int) != (b.length:Int))=false:=by simp;omega
 rw[h2,cF,φ2A a b hl ha (fun rec n h1 h2=>?_) (fun rec=>?_)]
 ·by_cases e:a=b<;>simp[e,φD]
 ·simp only[ψX.l0,oL,h1,h2,dT,cT,φ6,φ7,φ3 h1,φ3 h2,φ8 (show n+1<9223372036854775808 by omega),φP,φ84 _ _,bS]
  by_cases e:a[n]=b[n]
  ·simp[e]
  ·have e2:(a[n]==b[n])=false:=by simpa using e
   have e3:(a[n] != b[n])=true:=by simpa using e
   simp[e,e2,e3]
 ·simp[ψX.l0]
noncomputable def φ2l (k:Int) (x:List UInt8×List UInt8×Int):List UInt8×List UInt8×Int:=(mt k,mt (k+1),k+2)
theorem φ8W (l:List (List UInt8×List UInt8×Int)) (k:Int) (hl:l.length<2 ^ 62) (h0:0<k) (h1:k+3 * l.length<1000000000000):ψq.f l k=some (k+3 * l.length,φR φ2l 3 l k):=by
 unfold ψq.f
 rw[φ2t φ2l 3 l hl (fun rec r k n hr h h0 h1=>?_) (fun rec r k hr=>?_) k h0 h1]
 ·rfl
 ·have hn:n<4611686018427387904:=by omega
  have e1:w64 (k+1)=k+1:=by rw[φH (by omega) (by omega)]
  have e2:w64 (k+1+1)=k+2:=by rw[φH (by omega) (by omega)];omega
  have e3:w64 (k+2+1)=k+3:=by rw[φH (by omega) (by omega)];omega
  simp only[ψq.l0,oL,h,dT,cT,φ6,List.length_set,tN,φ1y h,φ7,φ3 h,List.set_set,φ8 (show n+1<9223372036854775808 by omega),e1,e2,e3,φt k (by omega) (by omega),φt (k+1) (by omega) (by omega),bS]
  rfl
 ·simp[ψq.l0,hr]
theorem φ8X (l:List (List UInt8×List UInt8×Int)) (k:Int) (hl:l.length<2 ^ 62) (h0:0<k) (h1:k+3 * l.length<1000000000000):ψj.f (φR φ2l 3 l k) k=some (k+3 * l.length):=by
 unfold ψj.f
 rw[φ3l φ2l 3 l hl (fun rec r k n x h hn0 hx h0 h1=>?_) (fun rec r k=>?_) k h0 h1]
 ·rfl
 ·have hn:n+1<9223372036854775808:=by omega
  have e1:w64 (k+1)=k+1:=by rw[φH (by omega) (by omega)]
  have e2:w64 (k+1+1)=k+2:=by rw[φH (by omega) (by omega)];omega
  have e3:w64 (k+2+1)=k+3:=by rw[φH (by omega) (by omega)];omega
  simp only[ψj.l0,oL,h,dT,cT,φ6,φ7,φ3 h,hx,φ2l,φ8 hn,e1,e2,e3,φt k (by omega) (by omega),φt (k+1) (by omega) (by omega),bS,beq_self_eq_true,nZ,bne_self_eq_false,cF]
  rfl
 ·simp[ψj.l0]
theorem φ8o (x y:List UInt8×Bool×List UInt8):ψY.f x y=some (decide (x=y)):=by
 obtain ⟨a0,a1,a2⟩:=x
 obtain ⟨b0,b1,b2⟩:=y
 unfold ψY.f
 by_cases e0:a0=b0
 rotate_left
 ·have d2:(a0==b0)=false:=by simpa using e0
  have d3:(a0 != b0)=true:=by simpa using e0
  simp[e0,d2,d3]
 by_cases e1:a1=b1
 rotate_left
 ·have d2:(a1==b1)=false:=by simpa using e1
  have d3:(a1 != b1)=true:=by simpa using e1
  simp[e1,d2,d3]
 by_cases e2:a2=b2
 rotate_left
 ·have d2:(a2==b2)=false:=by simpa using e2
  have d3:(a2 != b2)=true:=by simpa using e2
  simp[e2,d2,d3]
 simp[e0,e1,e2]
theorem φ8K (a b:List (List UInt8×Bool×List UInt8)) (ha:a.length<2 ^ 62):ψZ.f a b=some (decide (a=b)):=by
 unfold ψZ.f
 by_cases hl:a.length=b.length
 rotate_left
 ·have:a≠b:=fun h=>hl (by rw[h])
  have h2:((a.length:Int) != (b.length:Int))=true:=by simp;omega
  rw[h2];simp[this]
 have h2:((a.length:Int) != (b.length:Int))=false:=by simp;omega
 rw[h2,cF,φ2A a b hl ha (fun rec n h1 h2=>?_) (fun rec=>?_)]
 ·by_cases e:a=b<;>simp[e,φD]
 ·simp only[ψZ.l0,oL,h1,h2,dT,cT,φ6,φ7,φ3 h1,φ3 h2,φ8 (show n+1<9223372036854775808 by omega),φP,φ8o _ _,bS]
  by_cases e:a[n]=b[n]
  ·simp[e]
  ·have e2:(a[n]==b[n])=false:=by simpa using e
   have e3:(a[n] != b[n])=true:=by simpa using e
   simp[e,e2,e3]
 ·simp[ψZ.l0]
noncomputable def φ2W (k:Int) (x:List UInt8×Bool×List UInt8):List UInt8×Bool×List UInt8:=(mt k,Int.tmod (k+1) 3==0,mt (k+2))
theorem φ8J (l:List (List UInt8×Bool×List UInt8)) (k:Int) (hl:l.length<2 ^ 62) (h0:0<k) (h1:k+3 * l.length<1000000000000):ψr.f l k=some (k+3 * l.length,φR φ2W 3 l k):=by
 unfold ψr.f
 rw[φ2t φ2W 3 l hl (fun rec r k n hr h h0 h1=>?_) (fun rec r k hr=>?_) k h0 h1]
 ·rfl
 ·have hn:n<4611686018427387904:=by omega
  have e1:w64 (k+1)=k+1:=by rw[φH (by omega) (by omega)]
  have e2:w64 (k+1+1)=k+2:=by rw[φH (by omega) (by omega)];omega
  have e3:w64 (k+2+1)=k+3:=by rw[φH (by omega) (by omega)];omega
  simp only[ψr.l0,oL,h,dT,cT,φ6,List.length_set,tN,φ1y h,φ7,φ3 h,List.set_set,φ8 (show n+1<9223372036854775808 by omega),e1,e2,e3,φt k (by omega) (by omega),φt (k+2) (by omega) (by omega),bS]
  rfl
 ·simp[ψr.l0,hr]
theorem φ85 (l:List (List UInt8×Bool×List UInt8)) (k:Int) (hl:l.length<2 ^ 62) (h0:0<k) (h1:k+3 * l.length<1000000000000):ψk.f (φR φ2W 3 l k) k=some (k+3 * l.length):=by
 unfold ψk.f
 rw[φ3l φ2W 3 l hl (fun rec r k n x h hn0 hx h0 h1=>?_) (fun rec r k=>?_) k h0 h1]
 ·rfl
 ·have hn:n+1<9223372036854775808:=by omega
  have e1:w64 (k+1)=k+1:=by rw[φH (by omega) (by omega)]
  have e2:w64 (k+1+1)=k+2:=by rw[φH (by omega) (by omega)];omega
  have e3:w64 (k+2+1)=k+3:=by rw[φH (by omega) (by omega)];omega
  simp only[ψk.l0,oL,h,dT,cT,φ6,φ7,φ3 h,hx,φ2W,φ8 hn,e1,e2,e3,φt k (by omega) (by omega),φt (k+2) (by omega) (by omega),bS,beq_self_eq_true,nZ,bne_self_eq_false,cF]
  rfl
 ·simp[ψk.l0]
theorem φ9N (x y:List UInt8×Int):ψa.f x y=some (decide (x=y)):=by
 obtain ⟨a0,a1⟩:=x
 obtain ⟨b0,b1⟩:=y
 unfold ψa.f
 by_cases e0:a0=b0
 rotate_left
 ·have d2:(a0==b0)=false:=by simpa using e0
  have d3:(a0 != b0)=true:=by simpa using e0
  simp[e0,d2,d3]
 by_cases e1:a1=b1
 rotate_left
 ·have d2:(a1==b1)=false:=by simpa using e1
  have d3:(a1 != b1)=true:=by simpa using e1
  simp[e1,d2,d3]
 simp[e0,e1]
theorem φ7L (a b:List (List UInt8×Int)) (ha:a.length<2 ^ 62):ψb.f a b=some (decide (a=b)):=by
 unfold ψb.f
 by_cases hl:a.length=b.length
 rotate_left
 ·have:a≠b:=fun h=>hl (by rw[h])
  have h2:((a.length:Int) != (b.length:Int))=true:=by simp;omega
  rw[h2];simp[this]
 have h2:((a.length:Int) != (b.length:Int))=false:=by simp;omega
 rw[h2,cF,φ2A a b hl ha (fun rec n h1 h2=>?_) (fun rec=>?_)]
 ·by_cases e:a=b<;>simp[e,φD]
 ·simp only[ψb.l0,oL,h1,h2,dT,cT,φ6,φ7,φ3 h1,φ3 h2,φ8 (show n+1<9223372036854775808 by omega),φP,φ9N _ _,bS]
  by_cases e:a[n]=b[n]
  ·simp[e]
  ·have e2:(a[n]==b[n])=false:=by simpa using e
   have e3:(a[n] != b[n])=true:=by simpa using e
   simp[e,e2,e3]
 ·simp[ψb.l0]
noncomputable def φ2O (k:Int) (x:List UInt8×Int):List UInt8×Int:=(mt k,k+1)
theorem φ9d (l:List (List UInt8×Int)) (k:Int) (hl:l.length<2 ^ 62) (h0:0<k) (h1:k+2 * l.length<1000000000000):ψs.f l k=some (k+2 * l.length,φR φ2O 2 l k):=by
 unfold ψs.f
 rw[φ2t φ2O 2 l hl (fun rec r k n hr h h0 h1=>?_) (fun rec r k hr=>?_) k h0 h1]
 ·rfl
 ·have hn:n<4611686018427387904:=by omega
  have e1:w64 (k+1)=k+1:=by rw[φH (by omega) (by omega)]
  have e2:w64 (k+1+1)=k+2:=by rw[φH (by omega) (by omega)];omega
  simp only[ψs.l0,oL,h,dT,cT,φ6,List.length_set,tN,φ1y h,φ7,φ3 h,List.set_set,φ8 (show n+1<9223372036854775808 by omega),e1,e2,φt k (by omega) (by omega),bS]
  rfl
 ·simp[ψs.l0,hr]
theorem φ9e (l:List (List UInt8×Int)) (k:Int) (hl:l.length<2 ^ 62) (h0:0<k) (h1:k+2 * l.length<1000000000000):ψl.f (φR φ2O 2 l k) k=some (k+2 * l.length):=by
 unfold ψl.f
 rw[φ3l φ2O 2 l hl (fun rec r k n x h hn0 hx h0 h1=>?_) (fun rec r k=>?_) k h0 h1]
 ·rfl
 ·have hn:n+1<9223372036854775808:=by omega
  have e1:w64 (k+1)=k+1:=by rw[φH (by omega) (by omega)]
  have e2:w64 (k+1+1)=k+2:=by rw[φH (by omega) (by omega)];omega
  simp only[ψl.l0,oL,h,dT,cT,φ6,φ7,φ3 h,hx,φ2O,φ8 hn,e1,e2,φt k (by omega) (by omega),bS,beq_self_eq_true,nZ,bne_self_eq_false,cF]
  rfl
 ·simp[ψl.l0]
def φ20 (x:Int×Int×List UInt8×List UInt8×Int):Nat:=x.2.2.1.length+x.2.2.2.1.length
def φ2e (x:Int×Int×List UInt8×List UInt8×Int):Prop:=x.2.2.1.length≤reachBytes∧x.2.2.2.1.length≤reachBytes
theorem φ9w (x:Int×Int×List UInt8×List UInt8×Int) (h:wfD (.pair (.int .i64) (.pair (.int .i64) (.pair .str (.pair .str (.int .i64))))) x):φ2e x:=⟨h.2.2.1,h.2.2.2.1⟩
theorem φ9f (l:List (Int×Int×List UInt8×List UInt8×Int)) (h:wfD (.sl false (.pair (.int .i64) (.pair (.int .i64) (.pair .str (.pair .str (.int .i64)))))) l):okL φ2e l:=⟨h.1,fun y hy=>φ9w y (h.2 y hy)⟩
def φ4U (x:Bool×List (List UInt8×Int)×List (List UInt8×Bool×List UInt8)):Prop:=x.2.1.length<2 ^ 62∧x.2.2.length<2 ^ 62
theorem φ81 (x y:Bool×List (List UInt8×Int)×List (List UInt8×Bool×List UInt8)) (hx:φ4U x):ψf.f x y=some (decide (x=y)):=by
 obtain ⟨h1,h2⟩:=hx
 obtain ⟨a0,a1,a2⟩:=x
 obtain ⟨b0,b1,b2⟩:=y
 unfold ψf.f
 simp only[φ7L a1 b1 h1,φ8K a2 b2 h2,bS]
 by_cases e0:a0=b0
 rotate_left
 ·have d2:(a0==b0)=false:=by simpa using e0
  have d3:(a0 != b0)=true:=by simpa using e0
  simp[e0,d2,d3]
 by_cases e1:a1=b1
 rotate_left
 ·simp[e1]
 by_cases e2:a2=b2
 rotate_left
 ·simp[e2]
 simp[e0,e1,e2]
theorem φ8m (a b:List (Bool×List (List UInt8×Int)×List (List UInt8×Bool×List UInt8))) (ha:a.length<2 ^ 62) (hx:∀x∈a,φ4U x):ψg.f a b=some (decide (a=b)):=by
 unfold ψg.f
 by_cases hl:a.length=b.length
 rotate_left
 ·have:a≠b:=fun h=>hl (by rw[h])
  have h2:((a.length:Int) != (b.length:Int))=true:=by simp;omega
  rw[h2];simp[this]
 have h2:((a.length:Int) != (b.length:Int))=false:=by simp;omega
 rw[h2,cF,φ2A a b hl ha (fun rec n h1 h2=>?_) (fun rec=>?_)]
 ·by_cases e:a=b<;>simp[e,φD]
 ·simp only[ψg.l0,oL,h1,h2,dT,cT,φ6,φ7,φ3 h1,φ3 h2,φ8 (show n+1<9223372036854775808 by omega),φP,φ81 _ _ (hx a[n] (gM h1)),bS]
  by_cases e:a[n]=b[n]
  ·simp[e]
  ·have e2:(a[n]==b[n])=false:=by simpa using e
   have e3:(a[n] != b[n])=true:=by simpa using e
   simp[e,e2,e3]
 ·simp[ψg.l0]
def φ2M (x:Bool×List (List UInt8×Int)×List (List UInt8×Bool×List UInt8)):Prop:=x.2.1.length<2 ^ 62∧x.2.2.length<2 ^ 62
def φ72 (x:Int×List UInt8×List (List UInt8)):Prop:=x.2.2.length<2 ^ 62
theorem φ8T (x y:Int×List UInt8×List (List UInt8)) (hx:φ72 x):ψT.f x y=some (decide (x=y)):=by
 have h2:=hx
 obtain ⟨a0,a1,a2⟩:=x
 obtain ⟨b0,b1,b2⟩:=y
 unfold ψT.f
 simp only[φ9r a2 b2 h2,bS]
 by_cases e0:a0=b0
 rotate_left
 ·have d2:(a0==b0)=false:=by simpa using e0
  have d3:(a0 != b0)=true:=by simpa using e0
  simp[e0,d2,d3]
 by_cases e1:a1=b1
 rotate_left
 ·have d2:(a1==b1)=false:=by simpa using e1
  have d3:(a1 != b1)=true:=by simpa using e1
  simp[e1,d2,d3]
 by_cases e2:a2=b2
 rotate_left
 ·simp[e2]
 simp[e0,e1,e2]
theorem φ94 (a b:List (Int×List UInt8×List (List UInt8))) (ha:a.length<2 ^ 62) (hx:∀x∈a,φ72 x):ψU.f a b=some (decide (a=b)):=by
 unfold ψU.f
 by_cases hl:a.length=b.length
 rotate_left
 ·have:a≠b:=fun h=>hl (by rw[h])
  have h2:((a.length:Int) != (b.length:Int))=true:=by simp;omega
  rw[h2];simp[this]
 have h2:((a.length:Int) != (b.length:Int))=false:=by simp;omega
 rw[h2,cF,φ2A a b hl ha (fun rec n h1 h2=>?_) (fun rec=>?_)]
 ·by_cases e:a=b<;>simp[e,φD]
 ·simp only[ψU.l0,oL,h1,h2,dT,cT,φ6,φ7,φ3 h1,φ3 h2,φ8 (show n+1<9223372036854775808 by omega),φP,φ8T _ _ (hx a[n] (gM h1)),bS]
  by_cases e:a[n]=b[n]
  ·simp[e]
  ·have e2:(a[n]==b[n])=false:=by simpa using e
   have e3:(a[n] != b[n])=true:=by simpa using e
   simp[e,e2,e3]
 ·simp[ψU.l0]
def φ6O (x:Bool×List (List UInt8×List UInt8×Int)×Int×List (Bool×List (List UInt8×Int)×List (List UInt8×Bool×List UInt8))):Prop:=x.2.1.length<2 ^ 62∧(x.2.2.2.length<2 ^ 62∧∀y∈x.2.2.2,φ4U y)
theorem φ87 (x y:Bool×List (List UInt8×List UInt8×Int)×Int×List (Bool×List (List UInt8×Int)×List (List UInt8×Bool×List UInt8))) (hx:φ6O x):ψV.f x y=some (decide (x=y)):=by
 obtain ⟨h1,h3⟩:=hx
 obtain ⟨a0,a1,a2,a3⟩:=x
 obtain ⟨b0,b1,b2,b3⟩:=y
 unfold ψV.f
 simp only[φ95 a1 b1 h1,φ8m a3 b3 h3.1 h3.2,bS]
 by_cases e0:a0=b0
 rotate_left
 ·have d2:(a0==b0)=false:=by simpa using e0
  have d3:(a0 != b0)=true:=by simpa using e0
  simp[e0,d2,d3]
 by_cases e1:a1=b1
 rotate_left
 ·simp[e1]
 by_cases e2:a2=b2
 rotate_left
 ·have d2:(a2==b2)=false:=by simpa using e2
  have d3:(a2 != b2)=true:=by simpa using e2
  simp[e2,d2,d3]
 by_cases e3:a3=b3
 rotate_left
 ·simp[e3]
 simp[e0,e1,e2,e3]
theorem φ4p (n a b:Int):ψJ.f n a b=some (decide (a≤n∧n≤b)):=by
 unfold ψJ.f
 by_cases h:a≤n
 ·have h2:n≥a:=h
  simp[h,h2]
 ·have h2:¬n≥a:=h
  simp[h,h2]
theorem φ7J (n a b:Int):ψ1K.f n a b=some (decide (a≤n∧n≤b)):=φ4p n a b
def φx (s:List UInt8):Bool:=decide (1≤s.length∧s.length≤8)
theorem φ3q (s:List UInt8):ψ3.f s=some (φx s):=by
 unfold ψ3.f φx
 rw[φ4p,bS]
 congr 1
 apply decide_eq_decide.2
 omega
theorem φ46 (s:List UInt8):ψ14.f s=some (φx s):=φ3q s
def φm (p:List UInt8×Bool×List UInt8):Bool:=φx p.1 && (decide (p.2.2.length≤24) && (!p.2.1 || p.2.2==[]))
theorem φ55 (p:List UInt8×Bool×List UInt8):ψN.f p=some (φm p):=by
 unfold ψN.f φm
 rw[φ3q,bS]
 cases φx p.1
 ·rfl
 ·have:decide ((p.2.2.length:Int)≤24)=decide (p.2.2.length≤24):=decide_eq_decide.2 (by omega)
  rw[this]
  cases decide (p.2.2.length≤24)
  ·rfl
  ·cases p.2.1<;>rfl
def φ1u (l:List (List UInt8×Bool×List UInt8)):Bool:=decide (l.length≤8) && l.all φm
theorem φ5h (l:List (List UInt8×Bool×List UInt8)) (hl:l.length<2 ^ 62):ψ1A.f l=some (φ1u l):=by
 unfold ψ1A.f φ1u
 by_cases h8:l.length≤8
 rotate_left
 ·have:(l.length:Int) > 8:=by omega
  simp[this,h8]
 have h9:¬(l.length:Int) > 8:=by omega
 have key:=φ4T (step:=ψ1A.l0) l φm (fun n=>(l,(n:Int))) () hl
  (fun rec n h=>by
   simp only[ψ1A.l0,oL,h,dT,cT,φ6,φ7,φ3 h,φP,φ46,bS,φ8 (show n+1<9223372036854775808 by omega),φm]
   have hw:w64 ((n:Int)+1)=(n:Int)+1:=φH (by omega) (by omega)
   rcases bE (φx l[n].1) with hko | hko
   rotate_left
   ·simp[hko]
   ·by_cases h24:l[n].2.2.length≤24
    ·have:¬(l[n].2.2.length:Int) > 24:=by omega
     rcases bE l[n].2.1 with hd | hd
     ·rcases bE (l[n].2.2==[]) with he | he<;>simp[this,h24,hd,he,hko,hw]
     ·simp[this,h24,hd,hko,hw]
    ·have:(l[n].2.2.length:Int) > 24:=by omega
     simp[this,h24,hko])
  (fun rec=>by simp[ψ1A.l0])
 have key:lp ψ1A.l0 (l,0)=_:=key
 rw[key]
 cases h:l.all φm<;>simp[h8,h9]
def φ1f (l:List (List UInt8×Bool×List UInt8)) (key:List UInt8):Option (List UInt8×Bool×List UInt8):=l.reverse.find? fun p=>p.1==key
def ownW (l:List (List UInt8×Bool×List UInt8)) (key:List UInt8):(List UInt8×Bool×List UInt8)×Bool:=
 match φ1f l key with
 | some p=>(p,true)
 | none=>(([],false,[]),false)
theorem φ6D (t:Bool×List (List UInt8×Int)×List (List UInt8×Bool×List UInt8)) (key:List UInt8) (hl:t.2.2.length<2 ^ 62):ψB.f t key=some (ownW t.2.2 key):=by
 have hk:=φ8F (step:=ψB.l0) t.2.2 (fun p=>p.1==key) (fun p=>(p,true)) (fun n=>(key,t,([],false,[]),(n:Int) - 1)) ([],false,[]) hl
  (fun rec n h=>by
   have e:((n+1:Nat):Int) - 1=(n:Int):=by omega
   have e2:w64 ((n:Int) - 1)=(n:Int) - 1:=φH (by omega) (by omega)
   have e3:(n:Int)≥0:=by omega
   simp only[e,ψB.l0,e3,dT,cT,φ6,φ7,h,φ3 h,e2,φP]
   cases h2:(t.2.2[n].1==key)<;>simp)
  (fun rec=>by simp[ψB.l0])
 unfold ψB.f ownW φ1f
 rw[φH (by omega) (by omega)]
 simp only[]
 rw[hk,bS]
 cases List.find? (fun p=>p.1==key) t.2.2.reverse<;>rfl
theorem φ5o (t:Bool×List (List UInt8×Int)×List (List UInt8×Bool×List UInt8)) (key:List UInt8) (hl:t.2.2.length<2 ^ 62):ψ19.f t key=some (ownW t.2.2 key):=φ6D t key hl
abbrev PutT:=List UInt8×Bool×List UInt8
abbrev φC:=List UInt8×List UInt8×Int
abbrev φ15:=List UInt8×Int×Int×Int×Int
abbrev TxnT:=Bool×List (List UInt8×Int)×List (List UInt8×Bool×List UInt8)
def φ1S (l:List φ15) (key:List UInt8):φ15×Bool:=
 match l.find? (fun e=>e.1==key) with
 | some e=>(e,true)
 | none=>(([],0,0,0,0),false)
theorem φ7h (l:List φ15) (key:List UInt8) (hl:l.length<2 ^ 62):ψ0.f l key=some (φ1S l key):=by
 have hk:=φ38 (step:=ψ0.l0) l (fun e=>e.1==key) (fun e=>(e,true)) (fun n=>(key,([],0,0,0,0),l,(l.length:Int),(n:Int))) ([],0,0,0,0) hl
  (fun rec n h=>by
   simp only[ψ0.l0,oL,h,dT,cT,φ6,φ7,φ3 h,φP,φ8 (show n+1<9223372036854775808 by omega)]
   cases l[n].1==key<;>simp)
  (fun rec=>by simp[ψ0.l0])
 have hk:lp ψ0.l0 (key,([],0,0,0,0),l,(l.length:Int),0)=_:=hk
 unfold ψ0.f φ1S
 rw[hk,bS]
 cases List.find? (fun e=>e.1==key) l<;>rfl
theorem φ7H (l:List φ15) (key:List UInt8) (hl:l.length<2 ^ 62):ψ11.f l key=some (φ1S l key):=by
 have hk:=φ38 (step:=ψ11.l0) l (fun e=>e.1==key) (fun e=>(e,true)) (fun n=>(l,key,([],0,0,0,0),(n:Int))) ([],0,0,0,0) hl
  (fun rec n h=>by
   simp only[ψ11.l0,oL,h,dT,cT,φ6,φ7,φ3 h,φP,φ8 (show n+1<9223372036854775808 by omega)]
   cases l[n].1==key<;>simp)
  (fun rec=>by simp[ψ11.l0])
 have hk:lp ψ11.l0 (l,key,([],0,0,0,0),0)=_:=hk
 unfold ψ11.f φ1S
 rw[hk,bS]
 cases List.find? (fun e=>e.1==key) l<;>rfl
def φ2f (t:TxnT) (dir:List φ15):Bool:=t.2.1.all fun r=>(φ1S dir r.1).1.2.2.2.2==r.2
theorem φ9C (t:TxnT) (dir:List φ15) (h1:t.2.1.length<2 ^ 62) (h2:dir.length<2 ^ 62):ψE.f t dir=some (φ2f t dir):=by
 have hk:=φ4T (step:=ψE.l0) t.2.1 (fun r=>(φ1S dir r.1).1.2.2.2.2==r.2) (fun n=>(dir,t.2.1,(t.2.1.length:Int),(n:Int))) () h1
  (fun rec n h=>by
   simp only[ψE.l0,oL,h,dT,cT,φ6,φ7,φ3 h,φ7h dir _ h2,bS,φ8 (show n+1<9223372036854775808 by omega),bne]
   cases (φ1S dir t.2.1[n].1).1.2.2.2.2==t.2.1[n].2<;>simp)
  (fun rec=>by simp[ψE.l0])
 have hk:lp ψE.l0 (dir,t.2.1,(t.2.1.length:Int),0)=_:=hk
 unfold ψE.f φ2f
 rw[hk,bS]
 cases List.all t.2.1 _<;>rfl
theorem φ9A (t:TxnT) (dir:List φ15) (h1:t.2.1.length<2 ^ 62) (h2:dir.length<2 ^ 62):ψ1D.f t dir=some (φ2f t dir):=by
 have hk:=φ4T (step:=ψ1D.l0) t.2.1 (fun r=>(φ1S dir r.1).1.2.2.2.2==r.2) (fun n=>(dir,t,(n:Int))) () h1
  (fun rec n h=>by
   simp only[ψ1D.l0,oL,h,dT,cT,φ6,φ7,φ3 h,φ7H dir _ h2,bS,φ8 (show n+1<9223372036854775808 by omega),bne]
   cases (φ1S dir t.2.1[n].1).1.2.2.2.2==t.2.1[n].2<;>simp)
  (fun rec=>by simp[ψ1D.l0])
 have hk:lp ψ1D.l0 (dir,t,0)=_:=hk
 unfold ψ1D.f φ2f
 rw[hk,bS]
 cases List.all t.2.1 _<;>rfl
def φZ (l:List PutT):List (List UInt8):=l.foldl (fun ks p=>if p.1∈ks then ks else ks++[p.1]) []
def netW (l:List PutT):List PutT:=(φZ l).map fun k=>(ownW l k).1
theorem φ1l (l:List PutT) (p:PutT):φZ (l++[p])=if p.1∈φZ l then φZ l else φZ l++[p.1]:=by
 unfold φZ;rw[List.foldl_append];rfl
theorem φ3B (l:List PutT) (p:PutT) (k:List UInt8):ownW (l++[p]) k=if p.1=k then (p,true) else ownW l k:=by
 unfold ownW φ1f
 rw[List.reverse_append,List.reverse_cons,List.reverse_nil,List.nil_append,κG,List.nil_append,List.find?_cons]
 by_cases h:p.1=k
 ·simp[h]
 ·have:(p.1==k)=false:=by simpa using h
  simp[h,this]
theorem φ31 {α:Type} {P:List α→Prop} (h0:P []) (hs:∀l x,P l→P (l++[x])):∀l,P l:=by
 have key:∀n (l:List α),l.length=n→P l:=by
  intro n
  induction n with
  | zero=>intro l h;rw[List.eq_nil_of_length_eq_zero h];exact h0
  | succ n ih=>
   intro l h
   have hlt:n<l.length:=by omega
   have e:l.take n++[l[n]]=l:=by
    rw[←κ0 hlt,List.take_of_length_le (by omega)]
   rw[←e]
   exact hs _ _ (ih _ (by simp;omega))
 exact fun l=>key l.length l rfl
theorem φ5d (l:List PutT) (k:List UInt8):k∈φZ l↔∃p∈l,p.1=k:=by
 induction l using φ31 with
 | h0=>simp[φZ]
 | hs l p ih=>
  rw[φ1l]
  by_cases h:p.1∈φZ l
  ·rw[if_pos h,ih]
   constructor
   ·rintro ⟨q,h1,h2⟩;exact ⟨q,mL _ h1,h2⟩
   ·rintro ⟨q,h1,h2⟩
    rcases mA.1 h1 with k1 | k1
    ·exact ⟨q,k1,h2⟩
    ·simp only[mZ] at k1
     subst k1;subst h2
     exact ih.1 h
  ·rw[if_neg h,mA,ih]
   constructor
   ·rintro (⟨q,h1,h2⟩ | h1)
    ·exact ⟨q,mL _ h1,h2⟩
    ·simp only[mZ] at h1
     exact ⟨p,by simp,h1.symm⟩
   ·rintro ⟨q,h1,h2⟩
    rcases mA.1 h1 with k1 | k1
    ·exact .inl ⟨q,k1,h2⟩
    ·simp only[mZ] at k1
     subst k1;right;simp[h2]
theorem φ6A (l:List PutT):(φZ l).Nodup:=by
 induction l using φ31 with
 | h0=>simp[φZ]
 | hs l p ih=>
  rw[φ1l]
  by_cases h:p.1∈φZ l
  ·rw[if_pos h];exact ih
  ·rw[if_neg h,κ2]
   refine ⟨ih,by simp,fun a ha b hb=>?_⟩
   simp only[mZ] at hb
   subst hb
   intro e;subst e;exact h ha
theorem φ53 (l:List PutT):(φZ l).length≤l.length:=by
 induction l using φ31 with
 | h0=>simp[φZ]
 | hs l p ih=>
  rw[φ1l]
  split<;>simp<;>omega
theorem φ54 (l:List PutT) (k:List UInt8) (h:k∈φZ l):(ownW l k).1.1=k∧(ownW l k).2=true:=by
 induction l using φ31 with
 | h0=>simp[φZ] at h
 | hs l p ih=>
  rw[φ3B]
  by_cases e:p.1=k
  ·rw[if_pos e];exact ⟨e,rfl⟩
  ·rw[if_neg e]
   rw[φ1l] at h
   apply ih
   split at h
   ·exact h
   ·rcases mA.1 h with h | h
    ·exact h
    ·simp only[mZ] at h;exact absurd h.symm e
def φl (key:List UInt8):List PutT→Nat→Int→Int
 | [],_,s=>s
 | x::r,i,s=>φl key r (i+1) (if x.1==key then i else s)
theorem φ47 (key:List UInt8):∀(l:List PutT) (i:Nat) (s:Int),(∀p∈l,p.1≠key)→φl key l i s=s
 | [],_,_,_=>rfl
 | x::r,i,s,h=>by
  have:(x.1==key)=false:=by simpa using h x (by simp)
  show φl key r (i+1) (if (x.1==key)=true then (i:Int) else s)=s
  rw[this]
  exact φ47 key r (i+1) s fun p hp=>h p (mC _ hp)
theorem φ6m (key:List UInt8):∀(l:List PutT) (i:Nat) (s:Int) (j:Nat) (hj:j<l.length),l[j].1=key→(∀m,(hm:m<l.length)→l[m].1=key→m=j)→φl key l i s=((i+j:Nat):Int)
 | x::r,i,s,0,_,h,hu=>by
  show φl key r (i+1) (if (x.1==key)=true then (i:Int) else s)=_
  have h:x.1=key:=h
  rw[h]
  simp only[beq_self_eq_true,if_true]
  rw[φ47 key r (i+1) i fun p hp=>by
   intro e
   obtain ⟨m,hm,hp⟩:=List.getElem_of_mem hp
   have:=hu (m+1) (by simpa using hm) (by simpa [hp] using e)
   omega]
  simp
 | x::r,i,s,j+1,hj,h,hu=>by
  show φl key r (i+1) (if (x.1==key)=true then (i:Int) else s)=_
  rw[φ6m key r (i+1) _ j (by simpa using hj) (by simpa using h) fun m hm hk=>by
   have:=hu (m+1) (by simpa using hm) (by simpa using hk);omega]
  congr 1;omega
def φ24 (out:List PutT) (p:PutT):List PutT:=if φl p.1 out 0 (-1)≥0 then out.set (φl p.1 out 0 (-1)).toNat p else out++[p]
theorem φ7w (m:List PutT) (p:PutT):φ24 (netW m) p=netW (m++[p]):=by
 have keys:∀(j:Nat) (hj:j<(netW m).length),(netW m)[j].1=(φZ m)[j]'(by simpa [netW] using hj):=fun j hj=>by
  simp only[netW,List.getElem_map]
  exact (φ54 m _ (gM _)).1
 unfold φ24
 by_cases h:p.1∈φZ m
 ·obtain ⟨j,hj,hk⟩:=List.getElem_of_mem h
  have hj':j<(netW m).length:=by simpa [netW] using hj
  have e:=φ6m p.1 (netW m) 0 (-1) j hj' (by rw[keys j hj',hk]) fun q hq hqk=>by
   rw[keys q hq] at hqk
   exact (List.getElem_inj (φ6A m)).1 (hqk.trans hk.symm)
  rw[e,if_pos (by omega)]
  have e2:((0+j:Nat):Int).toNat=j:=by omega
  rw[e2]
  unfold netW
  rw[φ1l,if_pos h]
  apply List.ext_getElem (by simp)
  intro i h1 h2
  rw[List.getElem_set]
  simp only[List.getElem_map]
  have hi:i<(φZ m).length:=by simpa using h2
  by_cases hij:j=i
  ·subst hij
   rw[if_pos rfl,φ3B,if_pos hk.symm]
  ·rw[if_neg hij,φ3B,if_neg]
   intro hp
   rw[←hk] at hp
   exact hij ((List.getElem_inj (φ6A m)).1 hp)
 ·rw[φ47 p.1 (netW m) 0 (-1) fun q hq=>by
   intro e
   obtain ⟨j,hj,hq⟩:=List.getElem_of_mem hq
   have:=keys j hj
   rw[hq,e] at this
   exact h (this ▸ gM _)]
  rw[if_neg (by omega)]
  unfold netW
  rw[φ1l,if_neg h,mp]
  congr 1
  ·apply List.map_congr_left
   intro k hk
   rw[φ3B,if_neg]
   intro e;subst e;exact h hk
  ·simp[φ3B]
theorem φ7z (l:List PutT):l.foldl φ24 []=netW l:=by
 induction l using φ31 with
 | h0=>rfl
 | hs l p ih=>rw[List.foldl_append,ih];exact φ7w l p
theorem φ8p (out:List PutT) (p:PutT) (x9:List PutT) (x10 x11:Int) (hl:out.length<2 ^ 62) :
  lp ψK.l2 (out,p,-1,x9,x10,x11,(out.length:Int),0)=some (out,p,φl p.1 out 0 (-1),x9,x10,x11):=by
 have key:=φu (step:=ψK.l2) (fun n (s:Int)=>(out,p,s,x9,x10,x11,(out.length:Int),(n:Int))) out.length (fun n s=>(out,p,φl p.1 (out.drop n) n s,x9,x10,x11)) (fun _ _=>True)
  (fun rec n s hn _ ih=>by
   rcases κ4 n out.length with h | h
   ·have hw:w64 ((n:Int)+1)=((n+1:Nat):Int):=φ8 (show n+1<9223372036854775808 by omega)
    simp only[ψK.l2,oL,h,dT,cT,φ6,φ7,φ3 h,φ8 (show n+1<9223372036854775808 by omega)]
    rw[dG h]
    show _=some (out,p,φl p.1 (out.drop (n+1)) (n+1) (if (out[n].1==p.1)=true then (n:Int) else s),x9,x10,x11)
    cases out[n].1==p.1
    ·simp only[cF,bS,κI,if_false];rw[hw];exact ih s h trivial
    ·simp only[cT,bS,if_true];rw[hw];exact ih n h trivial
   ·have:n=out.length:=by omega
    subst this
    simp[ψK.l2,φl])
  hl 0 (-1) (κL _) trivial
 simpa using key
theorem φ8z (out:List PutT) (p:PutT):(φ24 out p).length≤out.length+1:=by
 unfold φ24;split<;>simp
theorem φ6Y (key:List UInt8):∀(l:List PutT) (i:Nat) (s:Int),φl key l i s=s∨(∃j:Nat,φl key l i s=((i+j:Nat):Int)∧j<l.length)
 | [],_,_=>.inl rfl
 | x::r,i,s=>by
  show φl key r (i+1) (if (x.1==key)=true then (i:Int) else s)=s∨∃j:Nat,φl key r (i+1) (if (x.1==key)=true then (i:Int) else s)=_∧_
  rcases φ6Y key r (i+1) (if (x.1==key)=true then (i:Int) else s) with h | ⟨j,h1,h2⟩
  ·rw[h]
   split
   ·exact .inr ⟨0,by simp,by simp⟩
   ·exact .inl rfl
  ·exact .inr ⟨j+1,by rw[h1];congr 1;omega,by simp;omega⟩
theorem φ8U (l:List PutT) (hl:l.length<2 ^ 40):ψK.f l=some (netW l):=by
 have hk:=φ2p (step:=ψK.l0) l φ24 (fun n (s:List PutT)=>(s,l,(l.length:Int),(n:Int))) id (fun n s=>s.length≤n) (by omega)
  (fun rec n s h hi=>by
   have hs:s.length<2 ^ 62:=by omega
   have hw:w64 ((n:Int)+1)=((n+1:Nat):Int):=φ8 (show n+1<9223372036854775808 by omega)
   simp only[ψK.l0,oL,h,dT,cT,φ6,φ7,φ3 h,φP,φ8p s l[n] l _ _ hs,bS,φ8 (show n+1<9223372036854775808 by omega)]
   unfold φ24
   by_cases hp:φl l[n].1 s 0 (-1)≥0
   ·rcases φ6Y l[n].1 s 0 (-1) with k | ⟨j,k1,k2⟩
    ·omega
    ·rw[if_pos hp]
     have:inB (φl l[n].1 s 0 (-1)) s.length=true:=by rw[k1];simp[k2]
     simp only[hp,dT,cT,this,bS,hw]
   ·rw[if_neg hp]
    have hb:(s.length+[l[n]].length) * 40≤140737488355328:=by simp;omega
    simp only[hp,dF,cF,hb,dT,cT,bS,hw])
  (fun n s h hi=>by have:=φ8z s l[n];omega)
  (fun rec s hi=>by simp[ψK.l0]) [] (by simp)
 have hk:lp ψK.l0 ([],l,(l.length:Int),0)=_:=hk
 unfold ψK.f
 rw[hk,φ7z];rfl
theorem φ69 (t:TxnT) (hl:t.2.2.length<2 ^ 40):ψA.f t=some (netW t.2.2):=by
 unfold ψA.f;rw[φ8U _ hl];rfl
def φ2k (l:List PutT) (i:Nat):Bool:=(l.take i).all fun q=>!(q.1==(l.getD i ([],false,[])).1)
theorem φ7X (t:TxnT) (out:List PutT) (i:Nat) (h:i<t.2.2.length) (hl:t.2.2.length<2 ^ 40) :
  lp ψ18.l2 (t,out,(i:Int),true,0)=some (t,out,(i:Int),φ2k t.2.2 i):=by
 have key:=φu (step:=ψ18.l2) (fun n (s:Bool)=>(t,out,(i:Int),s,(n:Int))) i (fun n s=>(t,out,(i:Int),s && ((t.2.2.take i).drop n).all fun q=>!(q.1==t.2.2[i].1))) (fun _ _=>True)
  (fun rec n s hn _ ih=>by
   rcases κ4 n i with h2 | h2
   ·have h3:n<t.2.2.length:=by omega
    have h4:n<(t.2.2.take i).length:=by simp;omega
    have hw:w64 ((n:Int)+1)=((n+1:Nat):Int):=φ8 (show n+1<9223372036854775808 by omega)
    simp only[ψ18.l2,oL,h,h2,h3,dT,cT,φ6,φ7,φ3 h,φ3 h3,φ8 (show n+1<9223372036854775808 by omega)]
    rw[dG h4,List.all_cons,List.getElem_take]
    cases s
    ·simp only[cF,bS]
     rw[hw,ih false h2 trivial];simp
    ·simp only[cT,bS]
     rw[hw,ih _ h2 trivial];simp
   ·have:n=i:=by omega
    subst this
    have:(t.2.2.take n).drop n=[]:=by simp
    simp[ψ18.l2,this])
  (by omega) 0 true (κL _) trivial
 rw[show φ2k t.2.2 i=(t.2.2.take i).all (fun q=>!(q.1==t.2.2[i].1)) by unfold φ2k;rw[φ3 h]]
 simpa using key
theorem φ9T (l:List PutT) (i:Nat) (h:i<l.length):φ2k l i=true↔l[i].1 ∉ φZ (l.take i):=by
 unfold φ2k
 rw[List.all_eq_true,φ5d,φ3 h]
 constructor
 ·rintro h1 ⟨p,hp,e⟩
  have:=h1 p hp
  simp[e] at this
 ·intro h1 q hq
  simp only[κF,beq_eq_false_iff_ne]
  exact fun e=>h1 ⟨q,hq,e⟩
theorem φ6s (t:TxnT) (hl:t.2.2.length<2 ^ 40):ψ18.f t=some (netW t.2.2):=by
 have key:=φu (step:=ψ18.l0) (fun n (s:List PutT)=>(t,s,(n:Int))) t.2.2.length (fun n s=>netW t.2.2) (fun n s=>s=(φZ (t.2.2.take n)).map fun k=>(ownW t.2.2 k).1)
  (fun rec n s hn hi ih=>by
   rcases κ4 n t.2.2.length with h | h
   ·have hs:s.length≤n:=by
     have:=φ53 (t.2.2.take n)
     rw[hi,lM]
     simp only[lT] at this;omega
    have hb:(s.length+[(ownW t.2.2 t.2.2[n].1).1].length) * 40≤140737488355328:=by simp;omega
    have hw:w64 ((n:Int)+1)=((n+1:Nat):Int):=φ8 (show n+1<9223372036854775808 by omega)
    simp only[ψ18.l0,oL,h,dT,cT,φ7X t s n h hl,bS,φ6,φ7,φ3 h,φ5o t _ (show t.2.2.length<2 ^ 62 by omega),φ8 (show n+1<9223372036854775808 by omega)]
    have e:=φ9T t.2.2 n h
    cases hf:φ2k t.2.2 n
    ·simp only[cF,bS]
     rw[hw]
     refine ih s h ?_
     rw[hi,κ0 h,φ1l,if_pos]
     by_cases hm:t.2.2[n].1∈φZ (t.2.2.take n)
     ·exact hm
     ·rw[e.2 hm] at hf;simp at hf
    ·simp only[cT,bS,hb,dT]
     rw[hw]
     refine ih _ h ?_
     rw[hi,κ0 h,φ1l,if_neg (e.1 hf),mp];rfl
   ·have:n=t.2.2.length:=by omega
    subst this
    rw[κB] at hi
    simp[ψ18.l0,hi,netW])
  (by omega) 0 [] (κL _) (by simp[φZ])
 have key:lp ψ18.l0 (t,[],0)=_:=key
 unfold ψ18.f
 rw[key];rfl
theorem φ2u {a:Nat} (h:a<1000000000001):(a+1) * 40≤140737488355328:=by omega
def leK (a b:List UInt8):Bool:=Op.bytesLess a b || a==b
def insB {α:Type} (l:List (List UInt8×α)) (p:List UInt8×α):List (List UInt8×α):=
 let k:=(l.takeWhile fun x=>leK x.1 p.1).length
 l.take k++[p]++l.drop k
def φM {α:Type} (l:List (List UInt8×α)) (key:List UInt8):List (List UInt8×α):=l.filter fun x=>!(x.1==key)
theorem φ7R {α:Type} (l:List (List UInt8×α)) (p:List UInt8×α):(insB l p).length=l.length+1:=by
 have:(l.takeWhile fun x=>leK x.1 p.1).length≤l.length:=(List.takeWhile_sublist _).length_le
 simp only[insB,lA,lT,lD,lC,lN];omega
theorem φ77 {α:Type} (l:List (List UInt8×α)) (key:List UInt8):(φM l key).length≤l.length:=List.length_filter_le _ _
theorem φ6g {α:Type} (f:α→Bool):∀(l s:List α),l.foldl (fun s x=>if f x=true then s++[x] else s) s=s++l.filter f
 | [],s=>by simp
 | x::l,s=>by
  rw[List.foldl_cons,φ6g f l,List.filter_cons]
  cases f x<;>simp
def φ2L (b:Int) (l:List φC) (p:PutT):List φC:=if p.2.1=true then φM l p.1 else insB (φM l p.1) (p.1,p.2.2,b)
def φ1N (l:List φC) (puts:List PutT) (b:Int):List φC:=puts.foldl (φ2L b) l
theorem φ5J (b:Int) (l:List φC) (p:PutT):(φ2L b l p).length≤l.length+1:=by
 have:=φ77 l p.1
 unfold φ2L;split
 ·omega
 ·rw[φ7R];omega
theorem φ6B (l:List φC) (hl:l.length<2 ^ 40):ψF.f l=some l:=by
 unfold ψF.f
 have:(([]:List φC).length+l.length) * 40≤140737488355328:=by simp;omega
 simp only[this,dT,cT,List.nil_append]
theorem φ97 (l:List φC) (key:List UInt8) (hl:l.length<2 ^ 40):ψQ.f l key=some (φM l key):=by
 have hk:=φ2p (step:=ψQ.l0) l (fun s x=>if (!(x.1==key))=true then s++[x] else s) (fun n (s:List φC)=>(key,s,l,(l.length:Int),(n:Int))) id (fun n s=>s.length≤n) (by omega)
  (fun rec n s h hi=>by
   have hb:(s.length+[l[n]].length) * 40≤140737488355328:=by simp;omega
   have hw:w64 ((n:Int)+1)=((n+1:Nat):Int):=φ8 (show n+1<9223372036854775808 by omega)
   simp only[ψQ.l0,oL,h,dT,cT,φ6,φ7,φ3 h,φP,hb,φ8 (show n+1<9223372036854775808 by omega)]
   cases l[n].1==key<;>simp[hw])
  (fun n s h hi=>by
   have:∀b:Bool,(if b=true then s++[l[n]] else s).length≤n+1:=fun b=>by cases b<;>simp<;>omega
   exact this _)
  (fun rec s hi=>by simp[ψQ.l0]) [] (by simp)
 have hk:lp ψQ.l0 (key,[],l,(l.length:Int),0)=_:=hk
 unfold ψQ.f
 rw[hk,φ6g];rfl
theorem φ8s {α:Type} (f:α→Bool) (l:List α) (n:Nat) (h:n<l.length):((l.drop n).takeWhile f).length=if f l[n]=true then ((l.drop (n+1)).takeWhile f).length+1 else 0:=by
 rw[dG h,List.takeWhile_cons]
 split<;>simp
theorem φ8D (x2:Int) (rest:List φC) (p:PutT) (x13:List PutT) (x14 x15:Int) (hl:rest.length<2 ^ 62) :
  lp ψ2.l2 (x2,rest,p,0,x13,x14,x15)=some (x2,rest,p,((rest.takeWhile fun x=>leK x.1 p.1).length:Int),x13,x14,x15):=by
 have key:=φu (step:=ψ2.l2) (fun n (_:Unit)=>(x2,rest,p,(n:Int),x13,x14,x15)) rest.length (fun n _=>(x2,rest,p,((n+((rest.drop n).takeWhile fun x=>leK x.1 p.1).length:Nat):Int),x13,x14,x15)) (fun _ _=>True)
  (fun rec n s hn _ ih=>by
   rcases κ4 n rest.length with h | h
   ·rw[φ8s _ _ _ h]
    simp only[ψ2.l2,oL,h,dT,cT,φ6,φ7,φ3 h,φ8 (show n+1<9223372036854775808 by omega)]
    show (bif leK rest[n].1 p.1 then _ else _)=_
    cases leK rest[n].1 p.1
    ·simp
    ·simp only[cT,if_true]
     rw[ih () h trivial]
     congr 4;congr 1;omega
   ·have:n=rest.length:=by omega
    subst this
    simp[ψ2.l2])
  hl 0 () (κL _) trivial
 simpa using key
theorem φ7n (l:List φC) (puts:List PutT) (b:Int) (hl:l.length+puts.length<2 ^ 40):ψ2.f l puts b=some (φ1N l puts b):=by
 have hk:=φ2p (step:=ψ2.l0) puts (φ2L b) (fun n (s:List φC)=>(b,s,puts,(puts.length:Int),(n:Int))) id (fun n s=>s.length≤l.length+n) (by omega)
  (fun rec n s h hi=>by
   have hd:=φ77 s puts[n].1
   have hw:w64 ((n:Int)+1)=((n+1:Nat):Int):=φ8 (show n+1<9223372036854775808 by omega)
   have htw:((φM s puts[n].1).takeWhile fun x=>leK x.1 puts[n].1).length≤(φM s puts[n].1).length:=(List.takeWhile_sublist _).length_le
   simp only[ψ2.l0,oL,h,dT,cT,φ6,φ7,φ3 h,φ97 s _ (show s.length<2 ^ 40 by omega),bS,φP,φ8D b (φM s puts[n].1) puts[n] puts _ _ (by omega),φ8 (show n+1<9223372036854775808 by omega)]
   unfold φ2L
   cases hdel:puts[n].2.1
   ·generalize hk:((φM s puts[n].1).takeWhile fun x=>leK x.1 puts[n].1).length=k at *
    have c1:(0:Int)≤(k:Int):=by omega
    have c2:(k:Int)≤((φM s puts[n].1).length:Int):=by omega
    have c3:(List.take k (φM s puts[n].1)).length<2 ^ 40:=by simp;omega
    simp only[cF,c1,c2,dT,Bool.and_self,cT,tN,φ6B _ c3,bS]
    have c4:((List.take k (φM s puts[n].1)).length+[(puts[n].1,puts[n].2.2,b)].length) * 40≤140737488355328:=by simp;omega
    simp only[c4,dT,cT]
    have c5:((List.take k (φM s puts[n].1)++[(puts[n].1,puts[n].2.2,b)]).length+(List.drop k (φM s puts[n].1)).length) * 40≤140737488355328:=by simp;omega
    simp only[c5,dT,cT,bS]
    have hins:insB (φM s puts[n].1) (puts[n].1,puts[n].2.2,b)=List.take k (φM s puts[n].1)++[(puts[n].1,puts[n].2.2,b)]++List.drop k (φM s puts[n].1):=by
     unfold insB;simp only[hk]
    simp[hins,hw]
   ·simp[hw])
  (fun n s h hi=>by have:=φ5J b s puts[n];omega)
  (fun rec s hi=>by simp[ψ2.l0]) l (by simp)
 have hk:lp ψ2.l0 (b,l,puts,(puts.length:Int),0)=_:=hk
 unfold ψ2.f
 rw[φ6B l (by omega),bS,hk];rfl
def φi (p:φC) (s:List φC×Bool) (x:φC):List φC×Bool:=
 if (x.1==p.1)=true then s else if s.2=false∧leK x.1 p.1=false then (s.1++[p]++[x],true) else (s.1++[x],s.2)
theorem φ67 (p:φC) (s:List φC×Bool) (x:φC):(φi p s x).1.length≤s.1.length+2:=by
 unfold φi;split
 ·omega
 ·split<;>simp<;>omega
theorem φ3n (p:φC):∀(l out:List φC),l.foldl (φi p) (out,true)=(out++φM l p.1,true)
 | [],out=>by simp[φM]
 | x::l,out=>by
  rw[List.foldl_cons]
  by_cases h:(x.1==p.1)=true
  ·have e1:φi p (out,true) x=(out,true):=by unfold φi;rw[if_pos h]
   rw[e1,φ3n p l]
   simp[φM,h]
  ·have e1:φi p (out,true) x=(out++[x],true):=by unfold φi;rw[if_neg h,if_neg (by simp)]
   rw[e1,φ3n p l]
   simp[φM,h]
theorem φ4y (p:φC):∀(l out:List φC),(let s:=l.foldl (φi p) (out,false);if s.2=true then s.1 else s.1++[p])=out++insB (φM l p.1) p
 | [],out=>by simp[φM,insB]
 | x::l,out=>by
  rw[List.foldl_cons]
  by_cases h:(x.1==p.1)=true
  ·have e1:φi p (out,false) x=(out,false):=by unfold φi;rw[if_pos h]
   have e2:φM (x::l) p.1=φM l p.1:=by simp[φM,h]
   rw[e1,e2];exact φ4y p l out
  ·have e2:φM (x::l) p.1=x::φM l p.1:=by simp[φM,h]
   rw[e2]
   cases hk:leK x.1 p.1
   ·have e1:φi p (out,false) x=(out++[p]++[x],true):=by unfold φi;rw[if_neg h,if_pos ⟨rfl,hk⟩]
    rw[e1,φ3n]
    simp[insB,hk]
   ·have e1:φi p (out,false) x=(out++[x],false):=by unfold φi;rw[if_neg h,if_neg (by simp[hk])]
    rw[e1,φ4y p l (out++[x])]
    simp[insB,hk]
theorem φ7Y (l:List φC) (p:φC) (del:Bool) (hl:l.length<2 ^ 38):ψ1E.f l p del=some (if del=true then φM l p.1 else insB (φM l p.1) p):=by
 have hk:=φ2p (step:=ψ1E.l0) l (φi p) (fun n (s:List φC×Bool)=>(l,p,s.1,s.2,(n:Int))) (fun s=>(p,s.1,s.2)) (fun n s=>s.1.length≤2 * n) (by omega)
  (fun rec n s h hi=>by
   have hi:s.1.length≤2 * n:=hi
   have hq:s.1.length<1000000000000:=by omega
   have hb1:(s.1.length+[p].length) * 40≤140737488355328:=φ2u (Nat.lt_succ_of_lt hq)
   have hb2:(s.1.length+([l[n]]:List φC).length) * 40≤140737488355328:=φ2u (Nat.lt_succ_of_lt hq)
   have hb3:((s.1++[p]).length+([l[n]]:List φC).length) * 40≤140737488355328:=by rw[lA];exact φ2u (Nat.succ_lt_succ hq)
   have hw:w64 ((n:Int)+1)=(n:Int)+1:=φH (by omega) (by omega)
   have hle:(Op.bytesLess l[n].1 p.1 || l[n].1==p.1)=leK l[n].1 p.1:=rfl
   simp only[ψ1E.l0,oL,h,dT,cT,φ6,φ7,φ3 h,φP,hle]
   unfold φi
   rcases bE (l[n].1==p.1) with h1 | h1
   ·simp[h1,hw]
   ·rcases bE s.2 with h2 | h2
    ·simp only[h1,h2,cF,nZ,bS,φ6,φ7,φ3 h,φP,h,dT,cT,hb2]
     simp[hw]
    ·rcases bE (leK l[n].1 p.1) with h3 | h3
     ·simp only[h1,h2,h3,cF,nZ,nF,bS,φ6,φ7,φ3 h,φP,h,dT,cT,hb2]
      simp[hw]
     ·simp only[h1,h2,h3,cF,nZ,nF,bS,φ6,φ7,φ3 h,φP,h,dT,cT,hb1,hb3]
      simp[hw])
  (fun n s h hi=>by have:=φ67 p s l[n];have hi:s.1.length≤2 * n:=hi;show _≤2 * (n+1);omega)
  (fun rec s hi=>by simp[ψ1E.l0]) ([],del) (by simp)
 have hk:lp ψ1E.l0 (l,p,[],del,0)=_:=hk
 have hlen:∀(m:List φC) (s:List φC×Bool),(m.foldl (φi p) s).1.length≤s.1.length+2 * m.length:=by
  intro m
  induction m with
  | nil=>intro s;simp
  | cons x m ih=>intro s;rw[List.foldl_cons];have:=ih (φi p s x);have:=φ67 p s x;simp only[lC];omega
 unfold ψ1E.f
 rw[hk,bS]
 cases del with
 | true=>rw[φ3n];simp
 | false=>
  have hf:=φ4y p l []
  have hb:=hlen l ([],false)
  generalize l.foldl (φi p) ([],false)=s at *
  obtain ⟨s1,s2⟩:=s
  simp only[lN,Nat.zero_add] at hb
  have hb1:(s1.length+[p].length) * 40≤140737488355328:=by simp;omega
  cases s2
  ·simp only[κI,if_false,List.nil_append] at hf ⊢
   simp only[nF,cT,hb1,dT,hf]
  ·simp only[if_true,List.nil_append] at hf
   simp[hf]
theorem φ9H (l:List φC) (puts:List PutT) (b:Int) (hl:l.length+puts.length<2 ^ 37):ψ13.f l puts b=some (φ1N l puts b):=by
 have hk:=φ2p (step:=ψ13.l0) puts (φ2L b) (fun n (s:List φC)=>(puts,b,s,(n:Int))) id (fun n s=>s.length≤l.length+n) (by omega)
  (fun rec n s h hi=>by
   simp only[ψ13.l0,oL,h,dT,cT,φ6,φ7,φ3 h,φ7Y s _ _ (show s.length<2 ^ 38 by omega),bS,φ8 (show n+1<9223372036854775808 by omega)]
   rfl)
  (fun n s h hi=>by have:=φ5J b s puts[n];omega)
  (fun rec s hi=>by simp[ψ13.l0]) l (by simp)
 have hk:lp ψ13.l0 (puts,b,l,0)=_:=hk
 unfold ψ13.f
 have:(([]:List φC).length+l.length) * 40≤140737488355328:=by simp;omega
 simp only[this,dT,cT,List.nil_append]
 rw[hk];rfl
theorem dnn {k:Int} (h:0≤k):decide (k<0)=false:=by
 have:¬k<0:=by omega
 simp[this]
theorem φ4Y (l:List PutT):(netW l).length≤l.length:=by
 unfold netW;rw[lM];exact φ53 l
theorem φ6K (t:TxnT) (h1:t.2.1.length<1000000000000) (h2:t.2.2.length<1000000000000):ψH.f t=some t:=by
 unfold ψH.f ψG.f
 have c1:t.2.1.length * 24≤140737488355328:=by omega
 have c2:t.2.2.length * 40≤140737488355328:=by omega
 simp[c1,c2]
theorem φ4H (t:TxnT) (h1:t.2.1.length<1000000000000) (h2:t.2.2.length<1000000000000):ψ1F.f t=some t:=by
 unfold ψ1F.f
 have c1:t.2.1.length * 24≤140737488355328:=by omega
 have c2:t.2.2.length * 40≤140737488355328:=by omega
 simp[c1,c2]
def φf (t:TxnT) (p:PutT):TxnT×Bool:=
 if t.1=true∧φm p=true∧(netW (t.2.2++[p])).length≤8∧t.2.2.length<50 then ((t.1,t.2.1,t.2.2++[p]),true) else (t,false)
theorem φ9G (t:TxnT) (p:PutT) (h1:t.2.1.length<1000000000) (h2:t.2.2.length<1000000000):ψD.f t p=some (φf t p):=by
 have hc:=φ6K t (by omega) (by omega)
 have hb:(t.2.2.length+([p]:List PutT).length) * 40≤140737488355328:=φ2u (by omega)
 have hn:ψA.f (t.1,t.2.1,t.2.2++[p])=some (netW (t.2.2++[p])):=φ69 (t.1,t.2.1,t.2.2++[p]) (by show (t.2.2++[p]).length<_;rw[lA];show _+1<_;omega)
 have hl:(t.2.2++[p]).length=t.2.2.length+1:=lA
 unfold ψD.f φf
 simp only[hc,bS,hb,dT,cT,φ55,hn]
 rcases bE t.1 with k | k
 rotate_left
 ·simp[k]
 rcases bE (φm p) with k2 | k2
 rotate_left
 ·simp[k,k2]
 simp only[k,k2,nZ,cF,true_and]
 by_cases c:(netW (t.2.2++[p])).length≤8
 rotate_left
 ·have c1:((netW (t.2.2++[p])).length:Int) > 8:=by omega
  simp only[c,c1,dT,cT,false_and,if_false]
 have c1:¬((netW (t.2.2++[p])).length:Int) > 8:=by omega
 by_cases c2:t.2.2.length<50
 ·have c3:¬(((t.2.2++[p]).length:Nat):Int) > 50:=by omega
  simp only[c,c1,c2,c3,dF,cF,and_self,if_true]
 ·have c3:(((t.2.2++[p]).length:Nat):Int) > 50:=by omega
  simp only[c,c1,c2,c3,dT,dF,cT,cF,and_false,if_false]
theorem φ98 (t:TxnT) (p:PutT) (h1:t.2.1.length<1000000000) (h2:t.2.2.length<1000000000):ψ1C.f t p=some (φf t p):=by
 have hc:=φ4H t (by omega) (by omega)
 have hb:(t.2.2.length+([p]:List PutT).length) * 40≤140737488355328:=φ2u (by omega)
 have hn:ψ18.f (t.1,t.2.1,t.2.2++[p])=some (netW (t.2.2++[p])):=φ6s (t.1,t.2.1,t.2.2++[p]) (by show (t.2.2++[p]).length<_;rw[lA];show _+1<_;omega)
 have hl:(t.2.2++[p]).length=t.2.2.length+1:=lA
 have hp:ψ1A.f [p]=some (φm p):=by
  rw[φ5h [p] (by show 1<2 ^ 62;decide)]
  unfold φ1u
  simp
 unfold ψ1C.f φf
 simp only[hc,bS,hb,dT,cT,hp,hn]
 rcases bE t.1 with k | k
 rotate_left
 ·simp[k]
 rcases bE (φm p) with k2 | k2
 rotate_left
 ·simp[k,k2]
 simp only[k,k2,nZ,cF,true_and]
 by_cases c:(netW (t.2.2++[p])).length≤8
 rotate_left
 ·have c1:((netW (t.2.2++[p])).length:Int) > 8:=by omega
  simp only[c,c1,dT,cT,false_and,if_false]
 have c1:¬((netW (t.2.2++[p])).length:Int) > 8:=by omega
 by_cases c2:t.2.2.length<50
 ·have c3:¬(((t.2.2++[p]).length:Nat):Int) > 50:=by omega
  simp only[c,c1,c2,c3,dF,cF,and_self,if_true]
 ·have c3:(((t.2.2++[p]).length:Nat):Int) > 50:=by omega
  simp only[c,c1,c2,c3,dT,dF,cT,cF,and_false,if_false]
theorem φ9p {A B σ:Type} {step:(A→Option B)→A→Option B} (st:Nat→σ→A) (Inv:Nat→σ→Prop) (Post:B→Prop)
  (hz:∀rec s,Inv 0 s→∃b,step rec (st 0 s)=some b∧Post b)
  (hs:∀rec n s,Inv (n+1) s→∃s',Inv n s'∧step rec (st (n+1) s)=rec (st n s')) (n:Nat) (s:σ) (hi:Inv n s) (hn:n<2 ^ 62):∃b,lp step (st n s)=some b∧Post b:=by
 have key:∀n f s,Inv n s→n<f→∃b,φ19 step f (st n s)=some b∧Post b:=by
  intro n
  induction n with
  | zero=>
   intro f s hi hf
   obtain ⟨f,rfl⟩:∃g,f=g+1:=⟨f - 1,by omega⟩
   exact hz _ s hi
  | succ n ih=>
   intro f s hi hf
   obtain ⟨f,rfl⟩:∃g,f=g+1:=⟨f - 1,by omega⟩
   obtain ⟨s',hi',e⟩:=hs (φ19 step f) n s hi
   show ∃b,step (φ19 step f) (st (n+1) s)=some b∧Post b
   rw[e]
   exact ih f s' hi' (by omega)
 exact key n FUEL s hi (κ7 hn φ3k)
abbrev φ3v:=List UInt8×Int
def φ1O (t:TxnT) (key:List UInt8) (b:Int):TxnT×Int:=
 if t.1=false∨φx key=false then (t,4) else
 match t.2.1.find? (fun r=>r.1==key) with
 | some r=>if r.2=b then (t,0) else (t,7)
 | none=>if 20≤t.2.1.length then (t,5) else ((t.1,t.2.1++[(key,b)],t.2.2),0)
def φ1H (t:TxnT) (key:List UInt8) (b:Int):TxnT×Int:=
 if t.1=false∨φx key=false then (t,4) else
 if t.2.1.any (fun r=>r.1==key && !(r.2==b))=true then (t,7) else
 if t.2.1.any (fun r=>r.1==key)=true then (t,0) else
 if 20≤t.2.1.length then (t,5) else ((t.1,t.2.1++[(key,b)],t.2.2),0)
theorem φ6R {a:Nat} (h:a<1000000000001):(a+1) * 24≤140737488355328:=by omega
theorem φ7e (t:TxnT) (key:List UInt8) (b:Int) (h1:t.2.1.length<1000000000) (h2:t.2.2.length<1000000000):ψ1B.f t key b=some (φ1O t key b):=by
 unfold ψ1B.f φ1O
 rw[φ4H t (by omega) (by omega),bS]
 rcases bE t.1 with k | k
 rotate_left
 ·simp[k]
 simp only[k,nZ,cF,φ46,bS]
 rcases bE (φx key) with k2 | k2
 rotate_left
 ·simp[k2]
 have key':=φ38 (step:=ψ1B.l0) t.2.1 (fun r=>r.1==key) (fun r=>(t,if r.2=b then (0:Int) else 7)) (fun n=>(key,b,t,((false,[],[]):TxnT),t,(n:Int))) (key,b,t,(false,[],[]),t) (by omega)
  (fun rec n h=>by
   simp only[ψ1B.l0,oL,h,dT,cT,φ6,φ7,φ3 h,φ8 (show n+1<9223372036854775808 by omega)]
   rcases bE (t.2.1[n].1==key) with c | c
   ·by_cases c2:t.2.1[n].2=b
    ·have c3:(t.2.1[n].2 != b)=false:=by simpa using c2
     simp only[c,c3,cT,cF,if_true]
     rw[if_pos c2]
    ·have c3:(t.2.1[n].2 != b)=true:=by simpa using c2
     simp only[c,c2,c3,cT,if_true,if_false]
   ·simp only[c,cF,κI,if_false])
  (fun rec=>by simp[ψ1B.l0])
 have key':lp ψ1B.l0 (key,b,t,(false,[],[]),t,0)=_:=key'
 simp only[k2,nZ,cF,key',bS,Bool.true_eq_false,or_self,if_false]
 cases t.2.1.find? (fun r=>r.1==key) with
 | some r=>
  simp only[φ4I]
  split<;>rfl
 | none=>
  simp only[φ3Y]
  by_cases c:20≤t.2.1.length
  ·have c2:(t.2.1.length:Int)≥20:=by omega
   simp only[c,c2,dT,cT,if_true]
  ·have c2:¬(t.2.1.length:Int)≥20:=by omega
   have hb:(t.2.1.length+([(key,b)]:List φ3v).length) * 24≤140737488355328:=φ6R (by omega)
   have hb:decide ((t.2.1.length+([(key,b)]:List φ3v).length) * 24≤140737488355328)=true:=decide_eq_true hb
   simp only[c,c2,dF,cF,if_false,hb,cT,k]
theorem φ9n (t:TxnT) (key:List UInt8) (b:Int) (h1:t.2.1.length<1000000000) (h2:t.2.2.length<1000000000):ψC.f t key b=some (φ1H t key b):=by
 unfold ψC.f φ1H
 rw[φ6K t (by omega) (by omega),bS]
 rcases bE t.1 with k | k
 rotate_left
 ·simp[k]
 simp only[k,nZ,cF,φ3q,bS]
 rcases bE (φx key) with k2 | k2
 rotate_left
 ·simp[k2]
 have key':=φu (step:=ψC.l0) (fun n (f:Bool)=>(key,b,t,((false,[],[]):TxnT),t,f,t.2.1,(t.2.1.length:Int),(n:Int))) t.2.1.length
  (fun n f=>if (t.2.1.drop n).any (fun r=>r.1==key && !(r.2==b))=true then .inr (t,7) else .inl (key,b,t,(false,[],[]),t,f || (t.2.1.drop n).any (fun r=>r.1==key))) (fun _ _=>True)
  (fun rec n f hn _ ih=>by
   rcases κ4 n t.2.1.length with h | h
   ·have hw:=φ8 (show n+1<9223372036854775808 by omega)
    rw[dG h,List.any_cons,List.any_cons]
    simp only[ψC.l0,oL,h,dT,cT,φ6,φ7,φ3 h,φ8 (show n+1<9223372036854775808 by omega)]
    rcases bE (t.2.1[n].1==key) with c | c
    ·by_cases c2:t.2.1[n].2=b
     ·have c3:(t.2.1[n].2 != b)=false:=by simpa using c2
      have c4:(t.2.1[n].2==b)=true:=by simpa using c2
      simp only[c,c3,c4,nZ,cT,cF,bS,φ3Y,hw,ih true h trivial,Bool.and_false,Bool.false_or,Bool.true_or,Bool.or_true]
     ·have c3:(t.2.1[n].2 != b)=true:=by simpa using c2
      have c4:(t.2.1[n].2==b)=false:=by simpa using c2
      simp only[c,c3,c4,nZ,nF,cT,cF,bS,φ4I,Bool.and_true,Bool.true_or,if_true]
    ·simp only[c,nF,cT,bS,φ3Y,hw,ih f h trivial,Bool.false_and,Bool.false_or]
   ·have:n=t.2.1.length:=by omega
    subst this
    simp[ψC.l0])
  (by omega) 0 false (κL _) trivial
 have key':lp ψC.l0 (key,b,t,(false,[],[]),t,false,t.2.1,(t.2.1.length:Int),0)=_:=key'
 simp only[k2,nZ,cF,key',bS,Bool.true_eq_false,or_self,if_false,List.drop_zero,Bool.false_or]
 cases t.2.1.any (fun r=>r.1==key && !(r.2==b))
 rotate_left
 ·simp only[if_true,φ4I]
 simp only[κI,if_false,φ3Y]
 cases t.2.1.any (fun r=>r.1==key)
 rotate_left
 ·simp only[if_true,cT]
 simp only[κI,if_false,cF]
 by_cases c:20≤t.2.1.length
 ·have c2:(t.2.1.length:Int)≥20:=by omega
  simp only[c,c2,dT,cT,if_true]
 ·have c2:¬(t.2.1.length:Int)≥20:=by omega
  have hb:(t.2.1.length+([(key,b)]:List φ3v).length) * 24≤140737488355328:=φ6R (by omega)
  have hb:decide ((t.2.1.length+([(key,b)]:List φ3v).length) * 24≤140737488355328)=true:=decide_eq_true hb
  simp only[c,c2,dF,cF,if_false,hb,cT,k]
structure TxnOk (t:TxnT):Prop where
 keys:t.2.1.Pairwise (fun a b=>a.1≠b.1)
 reads:t.2.1.length≤20
 writes:t.2.2.length≤50
 net:(netW t.2.2).length≤8
theorem φ7N {t:TxnT} (h:TxnOk t) (key:List UInt8) (b:Int):TxnOk (φ1O t key b).1:=by
 unfold φ1O
 split
 ·exact h
 split
 ·split<;>exact h
 ·rename_i hf
  split
  ·exact h
  ·refine ⟨?_,?_,h.writes,h.net⟩
   ·show (t.2.1++[(key,b)]).Pairwise _
    rw[List.pairwise_append]
    refine ⟨h.keys,by simp,fun x hx y hy=>?_⟩
    rw[mZ.1 hy]
    have:=List.find?_eq_none.1 hf x hx
    simpa using this
   ·show (t.2.1++[(key,b)]).length≤20
    rw[lA];show _+1≤20;omega
theorem φ9m {t:TxnT} (h:TxnOk t) (p:PutT):TxnOk (φf t p).1:=by
 unfold φf
 split
 ·rename_i c
  refine ⟨h.keys,h.reads,?_,c.2.2.1⟩
  show (t.2.2++[p]).length≤50
  rw[lA];show _+1≤50;omega
 ·exact h
theorem φ5x {t:TxnT} (h:TxnOk t) (key:List UInt8) (b:Int):φ1H t key b=φ1O t key b:=by
 unfold φ1H φ1O
 split
 ·rfl
 have hk:=h.keys
 generalize t.2.1=l at *
 cases hf:l.find? (fun r=>r.1==key) with
 | none=>
  have hn:=List.find?_eq_none.1 hf
  have a1:l.any (fun r=>r.1==key && !(r.2==b))=false:=by
   rw[List.any_eq_false];intro x hx;simp[hn x hx]
  have a2:l.any (fun r=>r.1==key)=false:=by
   rw[List.any_eq_false];exact hn
  simp only[a1,a2,κI,if_false]
 | some r=>
  have hr:=List.mem_of_find?_eq_some hf
  have hr2:r.1=key:=by simpa using List.find?_some hf
  have a2:l.any (fun r=>r.1==key)=true:=by
   rw[List.any_eq_true];exact ⟨r,hr,by simpa using hr2⟩
  have only:∀x∈l,x.1=key→x=r:=by
   intro x hx e
   rcases List.pairwise_iff_getElem.1 hk with hp
   obtain ⟨i,hi,ei⟩:=List.getElem_of_mem hx
   obtain ⟨j,hj,ej⟩:=List.getElem_of_mem hr
   rcases Nat.lt_trichotomy i j with c | c | c
   ·exact absurd (by rw[ei,ej,e,hr2]) (hp i j hi hj c)
   ·subst c;rw[←ei,ej]
   ·exact absurd (by rw[ei,ej,e,hr2]) (hp j i hj hi c)
  by_cases c:r.2=b
  ·have a1:l.any (fun r=>r.1==key && !(r.2==b))=false:=by
    rw[List.any_eq_false]
    intro x hx
    by_cases e:x.1=key
    ·rw[only x hx e];simp[c]
    ·simp[e]
   simp only[a1,a2,c,κI,if_false,if_true]
  ·have a1:l.any (fun r=>r.1==key && !(r.2==b))=true:=by
    rw[List.any_eq_true];exact ⟨r,hr,by simp[hr2,c]⟩
   simp only[a1,c,if_true,if_false]
theorem φ6Q {l:List PutT} {k:List UInt8} {p:PutT} (h:φ1f l k=some p):p∈l∧p.1=k:=by
 unfold φ1f at h
 exact ⟨by simpa using List.mem_of_find?_eq_some h,by simpa using List.find?_some h⟩
theorem φ8P {l:List PutT} {k:List UInt8} {p:PutT} (h:φ1f l k=some p):ownW l k=(p,true):=by unfold ownW;rw[h]
theorem φ8r {l:List PutT} {q:PutT}:q∈netW l↔φ1f l q.1=some q:=by
 unfold netW
 rw[mM]
 constructor
 ·rintro ⟨k,hk,rfl⟩
  have hk2:=φ54 l k hk
  rw[hk2.1]
  unfold ownW at hk2 ⊢
  cases e:φ1f l k with
  | none=>rw[e] at hk2;simp at hk2
  | some p=>rfl
 ·intro h
  refine ⟨q.1,(φ5d l q.1).2 ⟨q,(φ6Q h).1,rfl⟩,?_⟩
  rw[φ8P h]
theorem φ8d {a:Nat} (h:a<1000000000001):(a+1) * 16≤140737488355328:=by omega
theorem φ8c (l:List φ15) (hl:l.length<1000000000):ψ1.f l=some (l.map (·.1)):=by
 have key:=φu (step:=ψ1.l0) (fun n (acc:List (List UInt8))=>(acc,l,(l.length:Int),(n:Int))) l.length (fun n acc=>acc++(l.drop n).map (·.1)) (fun n acc=>acc.length=n)
  (fun rec n acc hn ha ih=>by
   rcases κ4 n l.length with h | h
   ·have hw:=φ8 (show n+1<9223372036854775808 by omega)
    have hb:(acc.length+([l[n].1]:List (List UInt8)).length) * 16≤140737488355328:=φ8d (by omega)
    have ih:=ih (acc++[l[n].1]) h (by rw[lA,ha];rfl)
    simp only[ψ1.l0,oL,h,dT,cT,φ6,φ7,φ3 h,hb,hw,ih]
    rw[dG h,κH,aA];rfl
   ·have:n=l.length:=by omega
    subst this
    simp[ψ1.l0])
  (by omega) 0 [] (κL _) rfl
 have key:lp ψ1.l0 ([],l,(l.length:Int),0)=_:=key
 unfold ψ1.f
 rw[key,bS]
 simp
theorem φ2N {A B σ:Type} {step:(A→Option B)→A→Option B} (st:Nat→σ→A) (N:Nat) (Inv:Nat→σ→Prop) (Post:B→Prop)
  (hz:∀rec s,Inv N s→∃b,step rec (st N s)=some b∧Post b)
  (hs:∀rec n s,n<N→Inv n s→∃s',Inv (n+1) s'∧step rec (st n s)=rec (st (n+1) s')) (s:σ) (hi:Inv 0 s) (hn:N<2 ^ 62):∃b,lp step (st 0 s)=some b∧Post b:=by
 have key:=φ9p (step:=step) (fun k (s:σ)=>st (N - k) s) (fun k s=>Inv (N - k) s∧k≤N) Post
  (fun rec s hi=>hz rec s hi.1)
  (fun rec k s hi=>by
   obtain ⟨h1,h2⟩:=hi
   have e:N - (k+1)+1=N - k:=by omega
   obtain ⟨s',h3,h4⟩:=hs rec (N - (k+1)) s (by omega) h1
   rw[e] at h3 h4
   exact ⟨s',⟨h3,by omega⟩,h4⟩)
  N s ⟨by rw[Nat.sub_self];exact hi,κD _⟩ hn
 simpa using key
abbrev φJ:=Int×Int×List UInt8×List UInt8×Int
abbrev AnsT:=Int×List UInt8×List (List UInt8)
theorem φ9v (l:List φ15) (hl:l.length<1000000000):ψ12.f l=some (l.map (·.1)):=by
 have key:=φ2N (step:=ψ12.l0) (fun n (a:List (List UInt8))=>(l,a,(n:Int))) l.length (fun n a=>a=(l.take n).map (·.1)) (fun b=>b=l.map (·.1))
  (fun rec a hi=>⟨_,by simp[ψ12.l0];rfl,by rw[hi,κB]⟩)
  (fun rec n a hn hi=>by
   have e0:(n:Int)<(l.length:Int):=by omega
   have hw:=φ8 (show n+1<9223372036854775808 by omega)
   have hal:a.length=n:=by rw[hi,lM,lT];omega
   have q:decide ((a.length+(0+1)) * 16≤140737488355328)=true:=by simp;omega
   refine ⟨a++[l[n].1],by rw[hi,κ0 hn,mp];rfl,?_⟩
   simp only[ψ12.l0,e0,dT,cT,φ6,hn,φ7,φ3 hn,lC,lN,q,hw])
  [] (by simp) (by omega)
 obtain ⟨b,k,kb⟩:=key
 unfold ψ12.f
 have k:lp ψ12.l0 (l,[],0)=some b:=k
 rw[k,kb];rfl
abbrev zTx:List TxnT:=κA 3 (false,[],[])
abbrev zT:TxnT:=(false,[],[])
def φq (l:List TxnT) (s:φJ):Bool:=
 decide (1≤s.1∧s.1≤6) && (decide (0≤s.2.1∧s.2.1≤2) && ((rdA zT l s.2.1).1==(s.1 != 1)))
def putS (s:φJ):PutT:=(s.2.2.1,s.1==4,s.2.2.2.1)
def ownA (p:PutT):AnsT:=bif p.2.1 then (8,[],[]) else (0,p.2.2,[])
def getG (look:List UInt8→φC×Int) (l:List TxnT) (s:φJ):List TxnT×AnsT:=
 let t:=rdA zT l s.2.1
 bif !φx s.2.2.1 then (l,(4,[],[])) else
 bif (ownW t.2.2 s.2.2.1).2 then (l,ownA (ownW t.2.2 s.2.2.1).1) else
 let p:=look s.2.2.1
 let r:=φ1H t s.2.2.1 p.1.2.2
 (l.set s.2.1.toNat r.1,bif r.2 != 0 then (r.2,[],[]) else (p.2,p.1.2.1,[]))
def putG (l:List TxnT) (s:φJ):List TxnT×AnsT:=
 let w:=φf (rdA zT l s.2.1) (putS s)
 (l.set s.2.1.toNat w.1,bif !φm (putS s) then (4,[],[]) else bif !w.2 then (5,[],[]) else (0,[],[]))
def sesG (look:List UInt8→φC×Int) (val:TxnT→Bool) (l:List TxnT) (s:φJ):List TxnT×AnsT×Option (List PutT):=
 bif !φq l s then (l,(4,[],[]),none) else
 bif s.1==1 then (l.set s.2.1.toNat (true,[],[]),(0,[],[]),none) else
 bif s.1==6 then (l.set s.2.1.toNat zT,(0,[],[]),none) else
 bif s.1==2 then ((getG look l s).1,(getG look l s).2,none) else
 bif s.1==5 then (l.set s.2.1.toNat zT,(7,[],[]),bif val (rdA zT l s.2.1) then some (netW (rdA zT l s.2.1).2.2) else none) else
 ((putG l s).1,(putG l s).2,none)
theorem φ8A {l:List TxnT} (hl:l.length=3) (s:φJ):ψP.f l s=some (φq l s):=by
 have hw:w64 ((l.length:Int) - 1)=2:=by rw[hl];rfl
 unfold ψP.f φq
 simp only[φ4p,bS,hw]
 by_cases h1:1≤s.1∧s.1≤6
 ·simp only[h1,and_self,dT,cT,tA]
  by_cases h2:0≤s.2.1∧s.2.1≤2
  ·obtain ⟨n,hn⟩:∃n:Nat,s.2.1=(n:Int):=⟨s.2.1.toNat,by omega⟩
   have hin:inB s.2.1 l.length=true:=by rw[hn,φ6,hl];simp;omega
   simp only[h2,and_self,dT,cT,tA,hin]
  ·simp only[h2,dF,cF,Bool.false_and]
 ·simp only[h1,dF,cF,Bool.false_and]
theorem φ3J {l:List TxnT} (hl:l.length=3) {s:φJ} (h:φq l s=true):∃n:Nat,∃hn:n<l.length,s.2.1=(n:Int)∧inB s.2.1 l.length=true∧rdA zT l s.2.1=l[n]∧s.2.1.toNat=n∧(l[n].1=(s.1 != 1))∧1≤s.1∧s.1≤6:=by
 unfold φq at h
 simp only[bA,decide_eq_true_eq,beq_iff_eq] at h
 obtain ⟨h1,h2,h3⟩:=h
 obtain ⟨n,hn⟩:∃n:Nat,s.2.1=(n:Int):=⟨s.2.1.toNat,by omega⟩
 have hn3:n<l.length:=by omega
 have hrd:rdA zT l s.2.1=l[n]:=by rw[hn,φ7,φ3 hn3]
 exact ⟨n,hn3,hn,by rw[hn,φ6];simp[hn3],hrd,by omega,by rw[←hrd];exact h3,h1.1,h1.2⟩
theorem φ7y (t:TxnT) (key:List UInt8) (h:t.2.2.length<2 ^ 62):ψL.f t key=some (bif (ownW t.2.2 key).2 then (ownA (ownW t.2.2 key).1,true) else ((0,[],[]),false)):=by
 unfold ψL.f ownA
 rw[φ6D t key h,bS]
 generalize ownW t.2.2 key=x
 obtain ⟨⟨a,b,v⟩,c⟩:=x
 cases c
 ·rfl
 ·cases b<;>rfl
theorem φ7Q {t:TxnT} (ht:t.2.1.length≤20∧t.2.2.length≤50) (s:φJ):ψR.f t s=some ((φf t (putS s)).1,bif !φm (putS s) then (4,[],[]) else bif !(φf t (putS s)).2 then (5,[],[]) else (0,[],[])):=by
 unfold ψR.f
 show ((ψD.f t (putS s)).bind fun x=>(ψN.f (putS s)).bind fun t2=>bif !t2 then _ else bif !x.2 then _ else _)=_
 rw[φ9G t _ (by omega) (by omega),bS,φ55,bS]
 generalize φf t (putS s)=x
 obtain ⟨x1,x2⟩:=x
 cases φm (putS s)
 ·rfl
 ·cases x2<;>rfl
abbrev ModT:=Bool×List φC×Int×List TxnT
def φN (l:List φC) (key:List UInt8):φC×Int:=
 match l.find? (fun p=>p.1==key) with
 | some p=>(p,0)
 | none=>(([],[],0),8)
def valM (l:List φC) (t:TxnT):Bool:=t.2.1.all fun r=>(φN l r.1).1.2.2==r.2
def comM (m:ModT) (g:List TxnT×AnsT×Option (List PutT)):ModT×AnsT:=
 match g.2.2 with
 | none=>((m.1,m.2.1,m.2.2.1,g.1),g.2.1)
 | some w=>if w.length=0 then ((m.1,m.2.1,m.2.2.1,g.1),(0,[],[])) else
   if 20<(φ1N m.2.1 w m.2.2.1).length∨m.2.2.1 > 1000000 then ((m.1,m.2.1,m.2.2.1,g.1),(5,[],[])) else
   ((m.1,φ1N m.2.1 w m.2.2.1,m.2.2.1+1,g.1),(0,[],[]))
def stM (m:ModT) (s:φJ):ModT×AnsT:=
 bif s.1==10 then (bif m.1 then (m,(4,[],[])) else ((true,m.2.1,m.2.2.1,zTx),(0,[],[]))) else
 bif s.1==11 then (m,(0,[],[])) else
 bif !m.1 then (m,(6,[],[])) else
 bif s.1==7 then (m,(0,[],[])) else
 bif s.1==8 then (m,(0,[],m.2.1.map (·.1))) else
 bif s.1==9 then ((false,m.2.1,m.2.2.1,zTx),(0,[],[])) else
 comM m (sesG (φN m.2.1) (valM m.2.1) m.2.2.2 s)
def runM:ModT→List φJ→ModT×List AnsT
 | m,[]=>(m,[])
 | m,s::r=>((runM (stM m s).1 r).1,(stM m s).2::(runM (stM m s).1 r).2)
abbrev newM:ModT:=(true,[],1,zTx)
structure TxR (t:TxnT):Prop extends TxnOk t where
 puts:∀p∈t.2.2,φm p=true
def TK (l:List TxnT):Prop:=l.length=3∧∀t∈l,TxR t
theorem TxR.zero (b:Bool):TxR (b,[],[]):=⟨⟨List.Pairwise.nil,by simp,by simp,by show (netW []).length≤8;decide⟩,fun p hp=>by simp at hp⟩
theorem TK.new:TK zTx:=⟨rfl,fun t ht=>by
 have:=List.eq_of_mem_replicate ht
 subst this
 exact TxR.zero false⟩
theorem TK.set {l:List TxnT} (h:TK l) (i:Nat) {t:TxnT} (ht:TxR t):TK (l.set i t):=⟨by rw[List.length_set];exact h.1,fun x hx=>by
 rcases List.mem_or_eq_of_mem_set hx with hx | rfl
 ·exact h.2 x hx
 ·exact ht⟩
def wait (l:List TxnT):Nat:=sumN (fun t=>t.2.2.length) l
theorem φ37:∀(l:List TxnT) (i:Nat) (h:i<l.length) (t:TxnT),wait (l.set i t)+l[i].2.2.length=wait l+t.2.2.length
 | x::l,0,_,t=>by simp only[List.set_cons_zero,wait,sumN,List.getElem_cons_zero];omega
 | x::l,i+1,h,t=>by
  have:=φ37 l i (by simpa using h) t
  simp only[List.set_cons_succ,wait,sumN,List.getElem_cons_succ] at this ⊢
  omega
theorem φ7o {t:TxnT} (h:TxR t) (k:List UInt8) (b:Int):TxR (φ1H t k b).1∧(φ1H t k b).1.2.2=t.2.2:=by
 have h2:(φ1H t k b).1.2.2=t.2.2:=by
  unfold φ1H
  repeat' split
  all_goals rfl
 refine ⟨⟨?_,by rw[h2];exact h.puts⟩,h2⟩
 rw[φ5x h.toTxnOk]
 exact φ7N h.toTxnOk k b
theorem φ8V {t:TxnT} (h:TxR t) (p:PutT):TxR (φf t p).1∧(φf t p).1.2.2.length≤t.2.2.length+1:=by
 refine ⟨⟨φ9m h.toTxnOk p,?_⟩,?_⟩
 ·unfold φf
  split
  ·rename_i c
   intro q hq
   rcases mA.1 hq with hq | hq
   ·exact h.puts q hq
   ·rw[mZ.1 hq];exact c.2.1
  ·exact h.puts
 ·unfold φf
  split
  ·show (t.2.2++[p]).length≤_
   simp
  ·exact Nat.le_succ _
theorem TxR.net_ok {t:TxnT} (h:TxR t):φ1u (netW t.2.2)=true∧(netW t.2.2).length≤8∧(netW t.2.2).length≤t.2.2.length:=by
 have h1:=h.net
 refine ⟨?_,h1,φ4Y _⟩
 unfold φ1u
 rw[bA]
 refine ⟨by simpa using h1,List.all_eq_true.2 fun q hq=>?_⟩
 exact h.puts q (φ6Q (φ8r.1 hq)).1
theorem φ7M (look:List UInt8→φC×Int) (val:TxnT→Bool) {l:List TxnT} (hl:TK l) (s:φJ) :
  TK (sesG look val l s).1∧(match (sesG look val l s).2.2 with | none=>wait (sesG look val l s).1≤wait l+1 | some w=>φ1u w=true∧w.length≤8∧wait (sesG look val l s).1+w.length≤wait l):=by
 unfold sesG
 cases hf:φq l s
 ·exact ⟨hl,Nat.le_succ _⟩
 obtain ⟨n,hn,h1,hin,hrd,hto,_,_,_⟩:=φ3J hl.1 hf
 have ht:=hl.2 _ (gM hn)
 have w0:∀b:Bool,wait (l.set n (b,[],[]))≤wait l+1:=fun b=>by
  have:=φ37 l n hn (b,[],[])
  simp only[lN] at this
  omega
 simp only[nZ,cF,hto,hrd]
 cases (s.1==1)
 rotate_left
 ·exact ⟨hl.set n (TxR.zero true),w0 true⟩
 cases (s.1==6)
 rotate_left
 ·exact ⟨hl.set n (TxR.zero false),w0 false⟩
 cases (s.1==2)
 rotate_left
 ·simp only[cT,cF]
  unfold getG
  simp only[hrd,hto]
  cases φx s.2.2.1
  ·exact ⟨hl,Nat.le_succ _⟩
  cases (ownW l[n].2.2 s.2.2.1).2
  ·obtain ⟨r1,r2⟩:=φ7o ht s.2.2.1 (look s.2.2.1).1.2.2
   simp only[nZ,cF]
   refine ⟨hl.set n r1,?_⟩
   have:=φ37 l n hn (φ1H l[n] s.2.2.1 (look s.2.2.1).1.2.2).1
   rw[r2] at this
   omega
  ·exact ⟨hl,Nat.le_succ _⟩
 cases (s.1==5)
 rotate_left
 ·simp only[cT,cF]
  refine ⟨hl.set n (TxR.zero false),?_⟩
  cases val l[n]
  ·exact w0 false
  ·obtain ⟨n1,n2,n3⟩:=ht.net_ok
   simp only[cT]
   refine ⟨n1,n2,?_⟩
   have:=φ37 l n hn zT
   have hz:(zT:TxnT).2.2.length=0:=rfl
   rw[hz] at this
   omega
 simp only[cF]
 unfold putG
 simp only[hrd,hto]
 obtain ⟨r1,r2⟩:=φ8V ht (putS s)
 refine ⟨hl.set n r1,?_⟩
 have:=φ37 l n hn (φf l[n] (putS s)).1
 omega
theorem φ4m:∀(a b:List φJ) (m:ModT),runM m (a++b)=((runM (runM m a).1 b).1,(runM m a).2++(runM (runM m a).1 b).2)
 | [],b,m=>rfl
 | s::a,b,m=>by
  show ((runM (stM m s).1 (a++b)).1,(stM m s).2::(runM (stM m s).1 (a++b)).2)=_
  rw[φ4m a b];rfl
theorem φ3d:∀(l:List φJ) (m:ModT),(runM m l).2.length=l.length
 | [],_=>rfl
 | s::r,m=>by
  show (_::_).length=_
  rw[lC,φ3d r];rfl
theorem φ7A (look:List UInt8→φC×Int) (val:TxnT→Bool) (l:List TxnT) (s:φJ):(sesG look val l s).2.1.2.2=[]:=by
 unfold sesG
 cases φq l s
 ·rfl
 cases (s.1==1)
 rotate_left
 ·rfl
 cases (s.1==6)
 rotate_left
 ·rfl
 cases (s.1==2)
 rotate_left
 ·show (getG look l s).2.2.2=[]
  unfold getG
  simp only
  cases φx s.2.2.1
  ·rfl
  cases (ownW (rdA zT l s.2.1).2.2 s.2.2.1).2
  ·simp only[nZ,cF]
   cases ((φ1H (rdA zT l s.2.1) s.2.2.1 (look s.2.2.1).1.2.2).2 != 0)<;>rfl
  ·simp only[nZ,cF,cT]
   unfold ownA
   cases (ownW (rdA zT l s.2.1).2.2 s.2.2.1).1.2.1<;>rfl
 cases (s.1==5)
 rotate_left
 ·rfl
 show (putG l s).2.2.2=[]
 unfold putG
 simp only
 cases φm (putS s)
 ·rfl
 ·cases (φf (rdA zT l s.2.1) (putS s)).2<;>rfl
theorem φ5R {m:ModT} (h:m.2.1.length≤20) (s:φJ):(stM m s).1.2.1.length≤20∧(stM m s).2.2.2.length≤20:=by
 unfold stM
 cases (s.1==10)
 rotate_left
 ·cases m.1
  ·exact ⟨h,by simp⟩
  ·exact ⟨h,by simp⟩
 cases (s.1==11)
 rotate_left
 ·exact ⟨h,by simp⟩
 cases m.1
 ·exact ⟨h,by simp⟩
 cases (s.1==7)
 rotate_left
 ·exact ⟨h,by simp⟩
 cases (s.1==8)
 rotate_left
 ·exact ⟨h,by simpa using h⟩
 cases (s.1==9)
 rotate_left
 ·exact ⟨h,by simp⟩
 simp only[nZ,cF]
 have hk:=φ7A (φN m.2.1) (valM m.2.1) m.2.2.2 s
 generalize sesG (φN m.2.1) (valM m.2.1) m.2.2.2 s=g at hk
 obtain ⟨l,a,w⟩:=g
 simp only at hk
 unfold comM
 cases w with
 | none=>exact ⟨h,by simp[hk]⟩
 | some w=>
  simp only
  split
  ·exact ⟨h,by simp⟩
  ·split
   ·exact ⟨h,by simp⟩
   ·rename_i c
    refine ⟨?_,by simp⟩
    show (φ1N m.2.1 w m.2.2.1).length≤20
    omega
theorem φ6P:∀(l:List φJ) {m:ModT},m.2.1.length≤20→(runM m l).1.2.1.length≤20∧∀a∈(runM m l).2,a.2.2.length≤20
 | [],m,h=>⟨h,fun a ha=>by simp[runM] at ha⟩
 | s::r,m,h=>by
  obtain ⟨h1,h2⟩:=φ5R h s
  obtain ⟨h3,h4⟩:=φ6P r h1
  refine ⟨h3,fun a ha=>?_⟩
  rcases mc.1 ha with e | e
  ·rw[e];exact h2
  ·exact h4 a e
theorem φ90 (l:List φC) (key:List UInt8) (hl:l.length<2 ^ 62):ψ1I.f l key=some (φN l key):=by
 have hk:=φ38 (step:=ψ1I.l0) l (fun e=>e.1==key) (fun e=>(e,0)) (fun n=>(l,key,([],[],0),(n:Int))) ([],[],0) hl
  (fun rec n h=>by
   simp only[ψ1I.l0,oL,h,dT,cT,φ6,φ7,φ3 h,φP,φ8 (show n+1<9223372036854775808 by omega)]
   cases l[n].1==key<;>simp)
  (fun rec=>by simp[ψ1I.l0])
 have hk:lp ψ1I.l0 (l,key,([],[],0),0)=_:=hk
 unfold ψ1I.f φN
 rw[hk,bS]
 cases List.find? (fun e=>e.1==key) l<;>rfl
def entM (p:φC):φ15:=(p.1,0,0,0,p.2.2)
theorem φ6q (l:List φC) (hl:l.length<1000000000):ψ1H.f l=some (l.map entM):=by
 have key:=φ2N (step:=ψ1H.l0) (fun n (a:List φ15)=>(l,a,(n:Int))) l.length (fun n a=>a=(l.take n).map entM) (fun b=>b=l.map entM)
  (fun rec a hi=>⟨_,by simp[ψ1H.l0];rfl,by rw[hi,κB]⟩)
  (fun rec n a hn hi=>by
   have e0:(n:Int)<(l.length:Int):=by omega
   have hw:=φ8 (show n+1<9223372036854775808 by omega)
   have hal:a.length=n:=by rw[hi,lM,lT];omega
   have q:decide ((a.length+(0+1)) * 48≤140737488355328)=true:=by simp;omega
   refine ⟨a++[entM l[n]],by rw[hi,κ0 hn,mp];rfl,?_⟩
   simp only[ψ1H.l0,e0,dT,cT,φ6,hn,φ7,φ3 hn,lC,lN,q,hw]
   rfl)
  [] (by simp) (by omega)
 obtain ⟨b,k,kb⟩:=key
 unfold ψ1H.f
 have k:lp ψ1H.l0 (l,[],0)=some b:=k
 rw[k,kb];rfl
theorem φ5r (l:List φC) (t:TxnT):φ2f t (l.map entM)=valM l t:=by
 unfold φ2f valM
 congr 1
 funext r
 unfold φ1S φN
 rw[List.find?_map]
 have:((fun e:φ15=>e.1==r.1) ∘ entM)=fun p:φC=>p.1==r.1:=rfl
 rw[this]
 cases l.find? (fun p=>p.1==r.1)<;>rfl
theorem φ9J {m:ModT} (hm:m.2.1.length≤20) (hl:TK m.2.2.2) {s:φJ} (hf:φq m.2.2.2 s=true) {t:TxnT} (ht:t=rdA zT m.2.2.2 s.2.1) :
  ψ1J.f m s t=some ((m.1,m.2.1,m.2.2.1,(getG (φN m.2.1) m.2.2.2 s).1),(getG (φN m.2.1) m.2.2.2 s).2):=by
 obtain ⟨n,hn,h1,hin,hrd,hto,_,_,_⟩:=φ3J hl.1 hf
 rw[hrd] at ht
 subst ht
 have htn:=hl.2 _ (gM hn)
 have b1:=htn.reads
 have b2:=htn.writes
 unfold ψ1J.f getG
 simp only[φ46,bS,hrd,hto]
 cases φx s.2.2.1
 ·rfl
 simp only[nZ,cF,φ5o m.2.2.2[n] s.2.2.1 (by omega),bS]
 generalize ownW m.2.2.2[n].2.2 s.2.2.1=x
 obtain ⟨⟨a,b,v⟩,c⟩:=x
 cases c
 rotate_left
 ·cases b<;>rfl
 simp only[cF,bS,φD,φ90 m.2.1 s.2.2.1 (by omega),φ7e m.2.2.2[n] s.2.2.1 _ (show _<1000000000 by omega) (show _<1000000000 by omega),φ5x htn.toTxnOk,hin]
 by_cases hr:(φ1O m.2.2.2[n] s.2.2.1 (φN m.2.1 s.2.2.1).1.2.2).2=0
 ·have e1:((φ1O m.2.2.2[n] s.2.2.1 (φN m.2.1 s.2.2.1).1.2.2).2 != 0)=false:=by simpa using hr
  simp only[e1,cF,cT,hto]
 ·have e1:((φ1O m.2.2.2[n] s.2.2.1 (φN m.2.1 s.2.2.1).1.2.2).2 != 0)=true:=by simpa using hr
  have e2:(φ1O m.2.2.2[n] s.2.2.1 (φN m.2.1 s.2.2.1).1.2.2).1=m.2.2.2[n]:=by
   revert hr
   unfold φ1O
   repeat' split
   all_goals simp
  simp only[e1,cT,e2,List.set_getElem_self]
theorem φ7C {m:ModT} (hm:m.2.1.length≤20) (hb:m.2.2.1<2 ^ 60∧0≤m.2.2.1) {t:TxnT} (ht:TxR t) (a:AnsT) :
  ψ1G.f m t=some (comM m (m.2.2.2,(7,[],[]),bif valM m.2.1 t then some (netW t.2.2) else none)):=by
 have b1:=ht.reads
 have b2:=ht.writes
 have hnl:=φ4Y t.2.2
 unfold ψ1G.f
 simp only[φ6q m.2.1 (by omega),bS,φ9A t (m.2.1.map entM) (by omega) (by rw[lM];omega),φ5r]
 cases valM m.2.1 t
 ·rfl
 simp only[nZ,cF,cT,φ6s t (by omega),bS,comM]
 by_cases c0:(netW t.2.2).length=0
 ·rw[if_pos c0,c0];rfl
 have c0':(((netW t.2.2).length:Int)==0)=false:=by simp only[beq_eq_false_iff_ne,ne_eq];omega
 rw[if_neg c0]
 simp only[c0',cF,φ9H m.2.1 (netW t.2.2) m.2.2.1 (by omega),bS]
 by_cases c1:20<(φ1N m.2.1 (netW t.2.2) m.2.2.1).length
 ·have:((φ1N m.2.1 (netW t.2.2) m.2.2.1).length:Int) > 20:=by omega
  rw[if_pos (.inl c1)]
  simp only[this,dT,cT]
 ·have:¬((φ1N m.2.1 (netW t.2.2) m.2.2.1).length:Int) > 20:=by omega
  simp only[this,dF,cF]
  by_cases c2:m.2.2.1 > 1000000
  ·rw[if_pos (.inr c2)]
   simp only[c2,dT,cT]
  ·rw[if_neg (by omega)]
   have hw:w64 (m.2.2.1+1)=m.2.2.1+1:=φH (by omega) (by omega)
   simp only[c2,dF,cF,hw]
theorem φ7D (p:PutT):φ1u [p]=φm p:=by
 unfold φ1u
 simp
theorem φ8Z {m:ModT} (hm:m.2.1.length≤20) (hb:m.2.2.1<2 ^ 60∧0≤m.2.2.1) (hl:TK m.2.2.2) (s:φJ):ψ17.f m s=some (stM m s):=by
 have htl:=hl.1
 have key:=φ2N (step:=ψ17.l0) (fun n (l:List TxnT)=>((m,s,(false,[],0,[]),(0,[],[]),(m.1,m.2.1,m.2.2.1,l),(n:Int)):ModT×φJ×ModT×AnsT×ModT×Int)) m.2.2.2.length (fun n l=>l=m.2.2.2.take n) (fun b=>b=(m,s,(false,[],0,[]),(0,[],[]),m))
  (fun rec l hi=>⟨_,by simp[ψ17.l0];rfl,by rw[hi,κB]⟩)
  (fun rec n l hn hi=>by
   have e0:(n:Int)<(m.2.2.2.length:Int):=by omega
   have hw:=φ8 (show n+1<9223372036854775808 by omega)
   have ht:=hl.2 _ (gM hn)
   have hr:=ht.reads
   have hwr:=ht.writes
   have hc:=φ4H m.2.2.2[n] (by omega) (by omega)
   have hll:l.length=n:=by rw[hi,lT];omega
   have q:decide ((l.length+(0+1)) * 56≤140737488355328)=true:=by simp;omega
   refine ⟨l++[m.2.2.2[n]],by rw[hi,κ0 hn],?_⟩
   simp only[ψ17.l0,e0,dT,cT,φ6,hn,φ7,φ3 hn,φP,hc,bS,lC,lN,q,hw])
  [] (by simp) (by omega)
 obtain ⟨b,k,hb2⟩:=key
 subst hb2
 have k:lp ψ17.l0 ((m,s,(false,[],0,[]),(0,[],[]),(m.1,m.2.1,m.2.2.1,[]),0):ModT×φJ×ModT×AnsT×ModT×Int)=some (m,s,(false,[],0,[]),(0,[],[]),m):=k
 have q0:decide ((0+m.2.1.length) * 40≤140737488355328)=true:=by simp only[decide_eq_true_eq];omega
 unfold ψ17.f
 simp only[lN,q0,cT,List.nil_append,k,bS]
 unfold stM
 cases c10:(s.1==10)
 rotate_left
 ·cases m.1<;>rfl
 cases c11:(s.1==11)
 rotate_left
 ·rfl
 cases hu:m.1
 ·rfl
 cases c7:(s.1==7)
 rotate_left
 ·rfl
 cases c8:(s.1==8)
 rotate_left
 ·simp only[cT,cF,nZ,φ6q m.2.1 (by omega),φ9v (m.2.1.map entM) (by rw[lM];omega),bS,List.map_map]
  rfl
 cases c9:(s.1==9)
 rotate_left
 ·rfl
 simp only[cF,nZ]
 have hmm:m=(m.1,m.2.1,m.2.2.1,m.2.2.2):=rfl
 have hw:w64 ((m.2.2.2.length:Int) - 1)=2:=by rw[htl];rfl
 have hno:φq m.2.2.2 s=false→comM m (sesG (φN m.2.1) (valM m.2.1) m.2.2.2 s)=(m,(4,[],[])):=fun h=>by
  unfold sesG
  rw[h];rfl
 simp only[φ7J,hw,bS]
 by_cases hse:0≤s.2.1∧s.2.1≤2
 rotate_left
 ·rw[hno (by unfold φq;simp[hse])]
  simp only[hse,dF,nF,cT,bS,φD]
 simp only[hse,and_self,dT,nZ,cF]
 by_cases hk6:1≤s.1∧s.1≤6
 rotate_left
 ·rw[hno (by unfold φq;simp[hk6])]
  simp only[hk6,dF,nF,cT,bS,φD]
 simp only[hk6,and_self,dT,nZ,cF]
 obtain ⟨n,hn⟩:∃n:Nat,s.2.1=(n:Int):=⟨s.2.1.toNat,by omega⟩
 have hn3:n<m.2.2.2.length:=by rw[htl];omega
 have hin:inB s.2.1 m.2.2.2.length=true:=by rw[hn,φ6];simp[hn3]
 have hrd0:rdA zT m.2.2.2 s.2.1=m.2.2.2[n]:=by rw[hn,φ7,φ3 hn3]
 have hrd:rdA (false,[],[]) m.2.2.2 s.2.1=m.2.2.2[n]:=hrd0
 have hnt:s.2.1.toNat=n:=by rw[hn];rfl
 have ht:=hl.2 _ (gM hn3)
 have hr:=ht.reads
 have hwr:=ht.writes
 have hfit:φq m.2.2.2 s=(m.2.2.2[n].1==(s.1 != 1)):=by
  unfold φq
  simp only[hse,hk6,and_self,dT,tA,hrd0]
 simp only[hin,hrd,cT]
 cases c1:(s.1==1)
 rotate_left
 ·have cn1:(s.1 != 1)=false:=by simpa using c1
  simp only[cT,cn1,cF]
  rw[cn1] at hfit
  cases ho:m.2.2.2[n].1
  ·rw[ho] at hfit
   simp only[cF,bS,φD,hin,c1,cT,hnt]
   unfold sesG comM
   rw[hfit,c1]
   simp only[beq_self_eq_true,nZ,cF,cT,hnt]
  ·rw[ho] at hfit
   rw[hno (by rw[hfit];rfl)]
   simp only[cT,bS,φD]
 have cn1:(s.1 != 1)=true:=by simpa using c1
 simp only[cF,cn1,cT]
 rw[cn1] at hfit
 cases ho:m.2.2.2[n].1
 ·rw[ho] at hfit
  rw[hno (by rw[hfit];rfl)]
  simp only[nF,cT,bS,φD]
 rw[ho] at hfit
 have hfit:φq m.2.2.2 s=true:=hfit
 have hrr:((true,(rdA (false,[],[]) m.2.2.2 s.2.1).2):TxnT)=m.2.2.2[n]:=by rw[hrd,←ho]
 have hrr2:((true,m.2.2.2[n].2):TxnT)=m.2.2.2[n]:=by rw[←ho]
 simp only[nZ,cF,bS,φD,c1,hin,cT,hnt,ho]
 unfold sesG
 rw[hfit,c1]
 simp only[nZ,cF,hnt]
 cases c6:(s.1==6)
 rotate_left
 ·rfl
 simp only[cF]
 cases c5:(s.1==5)
 rotate_left
 ·have c2:(s.1==2)=false:=by simp at c5 ⊢;omega
  have hz:=φ7C (m:=(m.1,m.2.1,m.2.2.1,m.2.2.2.set n zT)) hm hb ht (7,[],[])
  simp only[cT,c2,cF,hrd,hrr2,hrd0]
  rw[show ((m.1,m.2.1,m.2.2.1,m.2.2.2.set n (false,[],[])):ModT)=(m.1,m.2.1,m.2.2.1,m.2.2.2.set n zT) from rfl,hz,bS]
  rfl
 simp only[cF]
 cases c2:(s.1==2)
 rotate_left
 ·simp only[cT,hrd,hrr2,φ9J hm hl hfit hrd0.symm,bS]
  rfl
 simp only[cF,hrd,hrr2,φ98 m.2.2.2[n] (s.2.2.1,s.1==4,s.2.2.2.1) (by omega) (by omega),φ5h [(s.2.2.1,s.1==4,s.2.2.2.1)] (by simp),φ7D,bS]
 unfold putG comM
 simp only[hrd0,hnt,putS]
 by_cases hp:φm (s.2.2.1,s.1==4,s.2.2.2.1)=true
 ·simp only[hp,nZ,cF]
  cases hw2:(φf m.2.2.2[n] (s.2.2.1,s.1==4,s.2.2.2.1)).2
  ·have e2:(φf m.2.2.2[n] (s.2.2.1,s.1==4,s.2.2.2.1)).1=m.2.2.2[n]:=by
    revert hw2
    unfold φf
    split
    ·simp
    ·intro _;rfl
   simp only[nF,cT,e2,List.set_getElem_self]
  ·simp only[nZ,cF]
 ·have hp:φm (s.2.2.1,s.1==4,s.2.2.2.1)=false:=by simpa using hp
  have e2:(φf m.2.2.2[n] (s.2.2.1,s.1==4,s.2.2.2.1)).1=m.2.2.2[n]:=by
   unfold φf
   rw[if_neg (by rw[hp];simp)]
  simp only[hp,nF,cT,e2,List.set_getElem_self]
theorem φ8O (m:ModT) (g:List TxnT×AnsT×Option (List PutT)):(comM m g).1.2.2.2=g.1∧m.2.2.1≤(comM m g).1.2.2.1∧(comM m g).1.2.2.1≤m.2.2.1+1:=by
 unfold comM
 split
 ·exact ⟨rfl,Int.le_refl _,by show m.2.2.1≤_;omega⟩
 ·split
  ·exact ⟨rfl,Int.le_refl _,by show m.2.2.1≤_;omega⟩
  ·split
   ·exact ⟨rfl,Int.le_refl _,by show m.2.2.1≤_;omega⟩
   ·exact ⟨rfl,by show m.2.2.1≤m.2.2.1+1;omega,Int.le_refl _⟩
theorem φ8f {m:ModT} (h:TK m.2.2.2) (s:φJ):TK (stM m s).1.2.2.2∧m.2.2.1≤(stM m s).1.2.2.1∧(stM m s).1.2.2.1≤m.2.2.1+1:=by
 have h0:TK m.2.2.2∧m.2.2.1≤m.2.2.1∧m.2.2.1≤m.2.2.1+1:=⟨h,Int.le_refl _,by omega⟩
 have hz:TK zTx∧m.2.2.1≤m.2.2.1∧m.2.2.1≤m.2.2.1+1:=⟨TK.new,Int.le_refl _,by omega⟩
 unfold stM
 cases (s.1==10)
 rotate_left
 ·cases m.1
  ·exact hz
  ·exact h0
 cases (s.1==11)
 rotate_left
 ·exact h0
 cases m.1
 ·exact h0
 cases (s.1==7)
 rotate_left
 ·exact h0
 cases (s.1==8)
 rotate_left
 ·exact h0
 cases (s.1==9)
 rotate_left
 ·exact hz
 simp only[nZ,cF]
 obtain ⟨k1,k2,k3⟩:=φ8O m (sesG (φN m.2.1) (valM m.2.1) m.2.2.2 s)
 rw[k1]
 exact ⟨(φ7M (φN m.2.1) (valM m.2.1) h s).1,k2,k3⟩
structure MI (N:Nat) (m:ModT):Prop where
 map:m.2.1.length≤20
 tk:TK m.2.2.2
 lo:1≤m.2.2.1
 hi:m.2.2.1≤1+N
theorem MI.new:MI 0 newM:=⟨by simp,TK.new,Int.le_refl _,by decide⟩
theorem MI.step {N:Nat} {m:ModT} (h:MI N m) (s:φJ):MI (N+1) (stM m s).1:=by
 obtain ⟨k1,k2,k3⟩:=φ8f h.tk s
 have h1:=h.lo
 have h2:=h.hi
 exact ⟨(φ5R h.map s).1,k1,by omega,by omega⟩
theorem MI.run:∀(l:List φJ) {N:Nat} {m:ModT},MI N m→MI (N+l.length) (runM m l).1
 | [],_,_,h=>h
 | s::r,N,m,h=>by
  have:=MI.run r (h.step s)
  rw[lC,show N+(r.length+1)=N+1+r.length by omega]
  exact this
def sumC {X:Type} (c:X→Nat):List X→Nat
 | []=>0
 | x::r=>c x+sumC c r
def φn {X:Type} (mk:Int→X→X) (c:X→Nat):List X→Int→List X
 | [],_=>[]
 | x::r,k=>mk k x::φn mk c r (k+(c x:Int))
theorem φ2a {X:Type} (mk:Int→X→X) (c:X→Nat):∀(l:List X) (k:Int),(φn mk c l k).length=l.length
 | [],_=>rfl
 | x::r,k=>by simp[φn,φ2a mk c r]
theorem φ2z {X:Type} (c:X→Nat):∀(l:List X) (n:Nat) (h:n<l.length),sumC c (l.take (n+1))=sumC c (l.take n)+c l[n]
 | [],n,h=>by simp at h
 | x::r,0,h=>by simp[sumC]
 | x::r,n+1,h=>by
  have:=φ2z c r n (by simpa using h)
  simp only[List.take_succ_cons,sumC,List.getElem_cons_succ,this]
  omega
theorem φ4N {X:Type} (c:X→Nat):∀(l:List X) (n:Nat),sumC c (l.take n)≤sumC c l
 | [],n=>by simp
 | x::r,0=>by simp[sumC]
 | x::r,n+1=>by
  have:=φ4N c r n
  simp only[List.take_succ_cons,sumC]
  omega
theorem φ45 {X:Type} (mk:Int→X→X) (c:X→Nat):∀(l:List X) (k:Int) (n:Nat) (h:n<l.length),(φn mk c l k)[n]'(by rw[φ2a];exact h)=mk (k+(sumC c (l.take n):Nat)) l[n]
 | [],k,n,h=>by simp at h
 | x::r,k,0,h=>by simp[φn,sumC]
 | x::r,k,n+1,h=>by
  have:=φ45 mk c r (k+(c x:Int)) n (by simpa using h)
  simp only[φn,List.getElem_cons_succ,this,List.take_succ_cons,sumC]
  congr 1
  omega
theorem φ5l {X:Type} {step:(List X×Int×Int→Option (List X×Int))→List X×Int×Int→Option (List X×Int)} (mk:Int→X→X) (c:X→Nat) (P:X→Prop) (l:List X) (hl:l.length<2 ^ 62) (hP:∀x∈l,P x)
  (hs:∀rec (r:List X) (k:Int) (n:Nat),r.length=l.length→(h:n<r.length)→P r[n]→0<k→k+(c r[n]:Int)<1000000000000→step rec (r,k,(n:Int))=rec (r.set n (mk k r[n]),k+(c r[n]:Int),((n+1:Nat):Int)))
  (he:∀rec (r:List X) (k:Int),r.length=l.length→step rec (r,k,(l.length:Int))=some (r,k)) (k:Int) (h0:0<k) (h1:k+(sumC c l:Nat)<1000000000000) :
  lp step (l,k,0)=some (φn mk c l k,k+(sumC c l:Nat)):=by
 have key:=φu (step:=step) (fun n (s:List X×Int)=>(s.1,s.2,(n:Int))) l.length (fun n s=>(φn mk c l k,k+(sumC c l:Nat)))
  (fun n s=>s.1.length=l.length∧s.2=k+(sumC c (l.take n):Nat)∧s.1.take n=(φn mk c l k).take n∧s.1.drop n=l.drop n)
  (fun rec n s hn hi ih=>by
   obtain ⟨i1,i2,i3,i4⟩:=hi
   rcases κ4 n l.length with h | h
   ·have hg:s.1[n]'(by omega)=l[n]:=by
     have:=i4
     rw[dG (by omega),dG h,List.cons.injEq] at this
     exact this.1
    have hb:=φ4N c l (n+1)
    rw[φ2z c l n h] at hb
    rw[hs rec s.1 s.2 n i1 (by omega) (by rw[hg];exact hP _ (gM h)) (by omega) (by rw[hg];omega)]
    refine ih (s.1.set n (mk s.2 (s.1[n]'(by omega))),s.2+(c (s.1[n]'(by omega)):Int)) h ⟨by simp[i1],?_,?_,?_⟩
    ·show s.2+_=_;rw[hg,i2,φ2z c l n h];omega
    ·show (s.1.set n _).take (n+1)=_
     rw[κ0 (by simp;omega),κ0 (by rw[φ2a];omega),List.take_set_of_le (κD _),i3,φ45 mk c l k n h]
     simp[i2,hg]
    ·show (s.1.set n _).drop (n+1)=_
     rw[List.drop_set_of_lt (by omega)]
     have:=i4
     rw[dG (by omega),dG h,List.cons.injEq] at this
     exact this.2
   ·have:n=l.length:=by omega
    subst this
    rw[he rec s.1 s.2 i1,i2,κB]
    rw[←i1,κB,i1,←φ2a mk c l k,κB] at i3
    rw[i3])
  hl 0 (l,k) (κL _) ⟨rfl,by simp[sumC],by simp,by simp⟩
 simpa using key
theorem φ5y {X:Type} {step:(List X×Int×Int→Option (Int ⊕ Int))→List X×Int×Int→Option (Int ⊕ Int)} (mk:Int→X→X) (c:X→Nat) (P:X→Prop) (l:List X) (hl:l.length<2 ^ 62) (hP:∀x∈l,P x)
  (hs:∀rec (r:List X) (k:Int) (n:Nat) (x:X),(h:n<r.length)→n<4611686018427387904→r[n]=mk k x→P x→0<k→k+(c x:Int)<1000000000000→step rec (r,k,(n:Int))=rec (r,k+(c x:Int),((n+1:Nat):Int)))
  (he:∀rec (r:List X) (k:Int),step rec (r,k,(r.length:Int))=some (.inl k)) (k:Int) (h0:0<k) (h1:k+(sumC c l:Nat)<1000000000000) :
  lp step (φn mk c l k,k,0)=some (.inl (k+(sumC c l:Nat))):=by
 have key:=φu (step:=step) (fun n (s:Int)=>(φn mk c l k,s,(n:Int))) l.length (fun n s=>.inl (k+(sumC c l:Nat)))
  (fun n s=>s=k+(sumC c (l.take n):Nat))
  (fun rec n s hn hi ih=>by
   rcases κ4 n l.length with h | h
   ·have hb:=φ4N c l (n+1)
    rw[φ2z c l n h] at hb
    rw[hs rec _ s n l[n] (by rw[φ2a];exact h) (by omega) (by rw[φ45 mk c l k n h,hi]) (hP _ (gM h)) (by omega) (by omega)]
    exact ih _ h (by rw[hi,φ2z c l n h];omega)
   ·have:n=l.length:=by omega
    subst this
    have:=he rec (φn mk c l k) s
    rw[φ2a] at this
    rw[this,hi,κB])
  hl 0 k (κL _) (by simp[sumC])
 simpa using key
noncomputable def φ2S (k:Int) (x:List UInt8):List UInt8:=mt k
theorem φ8L (l:List (List UInt8)) (k:Int) (hl:l.length<2 ^ 62) (h0:0<k) (h1:k+1 * l.length<1000000000000):ψu.f l k=some (k+1 * l.length,φR φ2S 1 l k):=by
 unfold ψu.f
 rw[φ2t φ2S 1 l hl (fun rec r k n hr h h0 h1=>?_) (fun rec r k hr=>?_) k h0 h1]
 ·rfl
 ·have hn:n<4611686018427387904:=by omega
  have e1:w64 (k+1)=k+1:=by rw[φH (by omega) (by omega)]
  simp only[ψu.l0,oL,h,dT,cT,φ6,List.length_set,tN,φ1y h,φ7,φ3 h,List.set_set,φ8 (show n+1<9223372036854775808 by omega),e1,φt k (by omega) (by omega),bS]
  rfl
 ·simp[ψu.l0,hr]
theorem φ9h (l:List (List UInt8)) (k:Int) (hl:l.length<2 ^ 62) (h0:0<k) (h1:k+1 * l.length<1000000000000):ψm.f (φR φ2S 1 l k) k=some (k+1 * l.length):=by
 unfold ψm.f
 rw[φ3l φ2S 1 l hl (fun rec r k n x h hn0 hx h0 h1=>?_) (fun rec r k=>?_) k h0 h1]
 ·rfl
 ·have hn:n+1<9223372036854775808:=by omega
  have e1:w64 (k+1)=k+1:=by rw[φH (by omega) (by omega)]
  simp only[ψm.l0,oL,h,dT,cT,φ6,φ7,φ3 h,hx,φ2S,φ8 hn,e1,φt k (by omega) (by omega),bS,beq_self_eq_true,nZ,bne_self_eq_false,cF]
  rfl
 ·simp[ψm.l0]
theorem φ8j (x:Int×Int×List UInt8×List UInt8×Int) (left:Int) (h0:0≤left) (h1:left≤1048576) (hx:φ2e x):ψx.f x left=some (szr (φ20 x) left):=by
 unfold φ2e at hx
 have l0:=φ2q hx.1
 have l1:=φ2q hx.2
 unfold ψx.f szr φ20
 simp only[Bool.cond_decide]
 rw[φH (by omega) (by omega)]
 by_cases c0:left - (x.2.2.1.length:Int)<0
 ·simp only[c0,if_true];rw[if_neg (by omega)]
 simp only[c0,if_false]
 rw[φH (by omega) (by omega)]
 repeat' split
 all_goals first | rfl | (congr 1;omega) | omega
theorem φ79 (l:List (Int×Int×List UInt8×List UInt8×Int)) (left:Int) (h0:0≤left) (h1:left≤1048576) (hx:okL φ2e l):ψy.f l left=some (szr (φ36 φ20 l) left):=by
 have hl:=φ2q hx.1
 unfold ψy.f
 simp only[Bool.cond_decide]
 rw[φH (by omega) (by omega)]
 by_cases c:left - (l.length:Int)<0
 ·rw[if_pos c];unfold szr φ36;rw[if_neg (by omega)]
 rw[if_neg c,φ89 φ20 l (by omega) (fun rec n s hn i0 i1=>?_) (fun rec s=>?_) _ (by omega) (by omega)]
 ·rw[bS];unfold szr φ36
  by_cases d:(sumN φ20 l:Int)≤left - l.length
  ·rw[if_pos d,if_pos (by omega)];show some _=some _;congr 1;omega
  ·rw[if_neg d,if_neg (by omega)];rfl
 ·have hb:=hx.2 l[n] (gM hn)
  simp only[ψy.l0,oL,hn,dT,cT,φ6,φ7,φ3 hn,φ8 (show n+1<9223372036854775808 by omega),φP,φ8j _ s i0 i1 hb,bS,φ6Z]
  by_cases d:(φ20 l[n]:Int)≤s
  ·simp only[d,dT,nZ,cF,if_true,φ9k d]
  ·simp only[d,dF,nF,cT,if_false]
 ·simp[ψy.l0]
theorem φ8q (x:Int×Int×List UInt8×List UInt8×Int):ψz.f x=some x:=rfl
theorem φ9q (l:List (Int×Int×List UInt8×List UInt8×Int)) (hx:okL φ2e l) (hs:l.length≤1048576):ψ10.f l=some l:=by
 have hl:=φ2q hx.1
 unfold ψ10.f
 rw[φ7F,φ9I (by omega) (by omega)]
 simp only[]
 rw[φ7I l (by omega) (fun rec r n h1 h2=>?_) (fun rec r=>?_) _ (by simp)]
 ·rfl
 ·have h3:n<r.length:=by omega
  simp only[ψ10.l0,oL,h1,h3,dT,cT,φ6,φ7,φ3 h1,φ8 (show n+1<9223372036854775808 by omega),tN,φP,φ8q,bS]
 ·simp[ψ10.l0]
theorem φ7i (x y:Int×Int×List UInt8×List UInt8×Int):ψc.f x y=some (decide (x=y)):=by
 obtain ⟨a0,a1,a2,a3,a4⟩:=x
 obtain ⟨b0,b1,b2,b3,b4⟩:=y
 unfold ψc.f
 by_cases e0:a0=b0
 rotate_left
 ·have d2:(a0==b0)=false:=by simpa using e0
  have d3:(a0 != b0)=true:=by simpa using e0
  simp[e0,d2,d3]
 by_cases e1:a1=b1
 rotate_left
 ·have d2:(a1==b1)=false:=by simpa using e1
  have d3:(a1 != b1)=true:=by simpa using e1
  simp[e1,d2,d3]
 by_cases e2:a2=b2
 rotate_left
 ·have d2:(a2==b2)=false:=by simpa using e2
  have d3:(a2 != b2)=true:=by simpa using e2
  simp[e2,d2,d3]
 by_cases e3:a3=b3
 rotate_left
 ·have d2:(a3==b3)=false:=by simpa using e3
  have d3:(a3 != b3)=true:=by simpa using e3
  simp[e3,d2,d3]
 by_cases e4:a4=b4
 rotate_left
 ·have d2:(a4==b4)=false:=by simpa using e4
  have d3:(a4 != b4)=true:=by simpa using e4
  simp[e4,d2,d3]
 simp[e0,e1,e2,e3,e4]
theorem φ8M (a b:List (Int×Int×List UInt8×List UInt8×Int)) (ha:a.length<2 ^ 62):ψd.f a b=some (decide (a=b)):=by
 unfold ψd.f
 by_cases hl:a.length=b.length
 rotate_left
 ·have:a≠b:=fun h=>hl (by rw[h])
  have h2:((a.length:Int) != (b.length:Int))=true:=by simp;omega
  rw[h2];simp[this]
 have h2:((a.length:Int) != (b.length:Int))=false:=by simp;omega
 rw[h2,cF,φ2A a b hl ha (fun rec n h1 h2=>?_) (fun rec=>?_)]
 ·by_cases e:a=b<;>simp[e,φD]
 ·simp only[ψd.l0,oL,h1,h2,dT,cT,φ6,φ7,φ3 h1,φ3 h2,φ8 (show n+1<9223372036854775808 by omega),φP,φ7i _ _,bS]
  by_cases e:a[n]=b[n]
  ·simp[e]
  ·have e2:(a[n]==b[n])=false:=by simpa using e
   have e3:(a[n] != b[n])=true:=by simpa using e
   simp[e,e2,e3]
 ·simp[ψd.l0]
noncomputable def φ5c (k:Int) (x:Int×Int×List UInt8×List UInt8×Int):Int×Int×List UInt8×List UInt8×Int:=(k,k+1,mt (k+2),mt (k+3),k+4)
theorem φ8Y (l:List (Int×Int×List UInt8×List UInt8×Int)) (k:Int) (hl:l.length<2 ^ 62) (h0:0<k) (h1:k+5 * l.length<1000000000000):ψt.f l k=some (k+5 * l.length,φR φ5c 5 l k):=by
 unfold ψt.f
 rw[φ2t φ5c 5 l hl (fun rec r k n hr h h0 h1=>?_) (fun rec r k hr=>?_) k h0 h1]
 ·rfl
 ·have hn:n<4611686018427387904:=by omega
  have e1:w64 (k+1)=k+1:=by rw[φH (by omega) (by omega)]
  have e2:w64 (k+1+1)=k+2:=by rw[φH (by omega) (by omega)];omega
  have e3:w64 (k+2+1)=k+3:=by rw[φH (by omega) (by omega)];omega
  have e4:w64 (k+3+1)=k+4:=by rw[φH (by omega) (by omega)];omega
  have e5:w64 (k+4+1)=k+5:=by rw[φH (by omega) (by omega)];omega
  simp only[ψt.l0,oL,h,dT,cT,φ6,List.length_set,tN,φ1y h,φ7,φ3 h,List.set_set,φ8 (show n+1<9223372036854775808 by omega),e1,e2,e3,e4,e5,φt (k+2) (by omega) (by omega),φt (k+3) (by omega) (by omega),bS]
  rfl
 ·simp[ψt.l0,hr]
noncomputable def φ2E (k:Int) (x:TxnT):TxnT:=(Int.tmod k 3==0,φR φ2O 2 x.2.1 (k+1),φR φ2W 3 x.2.2 (k+1+2 * (x.2.1.length:Int)))
def φ14 (x:TxnT):Nat:=1+2 * x.2.1.length+3 * x.2.2.length
theorem φ9z (l:List TxnT) (k:Int) (hl:l.length<2 ^ 62) (hP:∀x∈l,φ2M x) (h0:0<k) (h1:k+(sumC φ14 l:Nat)<1000000000000):ψw.f l k=some (k+(sumC φ14 l:Nat),φn φ2E φ14 l k):=by
 unfold ψw.f
 rw[φ5l φ2E φ14 φ2M l hl hP (fun rec r k n hr h hp h0 h1=>?_) (fun rec r k hr=>?_) k h0 h1]
 ·rfl
 ·have hn:n<4611686018427387904:=by omega
  have h1':k+((1+2 * r[n].2.1.length+3 * r[n].2.2.length:Nat):Int)<1000000000000:=h1
  have e1:w64 (k+1)=k+1:=by rw[φH (by omega) (by omega)]
  have e2:k+((1+2 * r[n].2.1.length+3 * r[n].2.2.length:Nat):Int)=k+1+2 * (r[n].2.1.length:Int)+3 * (r[n].2.2.length:Int):=by omega
  have m1:=φ9d r[n].2.1 (k+1) hp.1 (by omega) (by omega)
  have m2:=φ8J r[n].2.2 (k+1+2 * (r[n].2.1.length:Int)) hp.2 (by omega) (by omega)
  show _=rec (_,k+((1+2 * r[n].2.1.length+3 * r[n].2.2.length:Nat):Int),_)
  rw[e2]
  simp only[ψw.l0,oL,h,dT,cT,φ6,List.length_set,tN,φ1y h,φ7,φ3 h,List.set_set,φ8 (show n+1<9223372036854775808 by omega),e1,m1,m2,bS,φ2E]
 ·simp[ψw.l0,hr]
theorem φ9D (l:List TxnT) (k:Int) (hl:l.length<2 ^ 62) (hP:∀x∈l,φ2M x) (h0:0<k) (h1:k+(sumC φ14 l:Nat)<1000000000000):ψn.f (φn φ2E φ14 l k) k=some (k+(sumC φ14 l:Nat)):=by
 unfold ψn.f
 rw[φ5y φ2E φ14 φ2M l hl hP (fun rec r k n x h hn0 hx hp h0 h1=>?_) (fun rec r k=>?_) k h0 h1]
 ·rfl
 ·have hn:n+1<9223372036854775808:=by omega
  have h1':k+((1+2 * x.2.1.length+3 * x.2.2.length:Nat):Int)<1000000000000:=h1
  have e1:w64 (k+1)=k+1:=by rw[φH (by omega) (by omega)]
  have e2:k+((1+2 * x.2.1.length+3 * x.2.2.length:Nat):Int)=k+1+2 * (x.2.1.length:Int)+3 * (x.2.2.length:Int):=by omega
  have m1:=φ9e x.2.1 (k+1) hp.1 (by omega) (by omega)
  have m2:=φ85 x.2.2 (k+1+2 * (x.2.1.length:Int)) hp.2 (by omega) (by omega)
  show _=rec (_,k+((1+2 * x.2.1.length+3 * x.2.2.length:Nat):Int),_)
  rw[e2]
  simp only[ψn.l0,oL,h,dT,cT,φ6,φ7,φ3 h,hx,φ2E,φ8 hn,e1,m1,m2,bS,beq_self_eq_true,nZ,bne_self_eq_false,cF,dnn (show (0:Int)≤k+1+2 * (x.2.1.length:Int) by omega),dnn (show (0:Int)≤k+1+2 * (x.2.1.length:Int)+3 * (x.2.2.length:Int) by omega)]
 ·simp[ψn.l0]
def φ30 (x:AnsT):Prop:=x.2.2.length<2 ^ 62
noncomputable def φ2n (k:Int) (x:AnsT):AnsT:=(k,mt (k+1),φR φ2S 1 x.2.2 (k+2))
def φ1D (x:AnsT):Nat:=2+1 * x.2.2.length
theorem φ8y (l:List AnsT) (k:Int) (hl:l.length<2 ^ 62) (hP:∀x∈l,φ30 x) (h0:0<k) (h1:k+(sumC φ1D l:Nat)<1000000000000):ψo.f l k=some (k+(sumC φ1D l:Nat),φn φ2n φ1D l k):=by
 unfold ψo.f
 rw[φ5l φ2n φ1D φ30 l hl hP (fun rec r k n hr h hp h0 h1=>?_) (fun rec r k hr=>?_) k h0 h1]
 ·rfl
 ·have hn:n<4611686018427387904:=by omega
  have h1':k+((2+1 * r[n].2.2.length:Nat):Int)<1000000000000:=h1
  have e1:w64 (k+1)=k+1:=by rw[φH (by omega) (by omega)]
  have e3:w64 (k+1+1)=k+2:=by rw[φH (by omega) (by omega)];omega
  have e2:k+((2+1 * r[n].2.2.length:Nat):Int)=k+2+1 * (r[n].2.2.length:Int):=by omega
  have m2:=φ8L r[n].2.2 (k+2) hp (by omega) (by omega)
  show _=rec (_,k+((2+1 * r[n].2.2.length:Nat):Int),_)
  rw[e2]
  simp only[ψo.l0,oL,h,dT,cT,φ6,List.length_set,tN,φ1y h,φ7,φ3 h,List.set_set,φ8 (show n+1<9223372036854775808 by omega),e1,e3,φt (k+1) (by omega) (by omega),m2,bS,φ2n]
 ·simp[ψo.l0,hr]
theorem φ9B (l:List AnsT) (k:Int) (hl:l.length<2 ^ 62) (hP:∀x∈l,φ30 x) (h0:0<k) (h1:k+(sumC φ1D l:Nat)<1000000000000):ψh.f (φn φ2n φ1D l k) k=some (k+(sumC φ1D l:Nat)):=by
 unfold ψh.f
 rw[φ5y φ2n φ1D φ30 l hl hP (fun rec r k n x h hn0 hx hp h0 h1=>?_) (fun rec r k=>?_) k h0 h1]
 ·rfl
 ·have hn:n+1<9223372036854775808:=by omega
  have h1':k+((2+1 * x.2.2.length:Nat):Int)<1000000000000:=h1
  have e1:w64 (k+1)=k+1:=by rw[φH (by omega) (by omega)]
  have e3:w64 (k+1+1)=k+2:=by rw[φH (by omega) (by omega)];omega
  have e2:k+((2+1 * x.2.2.length:Nat):Int)=k+2+1 * (x.2.2.length:Int):=by omega
  have m2:=φ9h x.2.2 (k+2) hp (by omega) (by omega)
  show _=rec (_,k+((2+1 * x.2.2.length:Nat):Int),_)
  rw[e2]
  simp only[ψh.l0,oL,h,dT,cT,φ6,φ7,φ3 h,hx,φ2n,φ8 hn,e1,e3,φt (k+1) (by omega) (by omega),m2,bS,beq_self_eq_true,nZ,bne_self_eq_false,cF,dnn (show (0:Int)≤k+2+1 * (x.2.2.length:Int) by omega)]
 ·simp[ψh.l0]
noncomputable def φ2I (k:Int) (x:ModT):ModT:=(x.1,φR φ2l 3 x.2.1 k,x.2.2.1,φn φ2E φ14 x.2.2.2 (k+3 * (x.2.1.length:Int)))
def φ1I (x:ModT):Nat:=3 * x.2.1.length+sumC φ14 x.2.2.2
def φ4E (x:ModT):Prop:=x.2.1.length<2 ^ 62∧x.2.2.2.length<2 ^ 62∧∀t∈x.2.2.2,φ2M t
theorem φ9K (x:ModT) (k:Int) (hx:φ4E x) (h0:0<k) (h1:k+(φ1I x:Nat)<1000000000000):ψp.f x k=some (k+(φ1I x:Nat),φ2I k x):=by
 obtain ⟨l1,l2,l3⟩:=hx
 unfold φ1I at h1 ⊢
 unfold ψp.f φ2I
 rw[φ8W x.2.1 k l1 h0 (by omega),bS]
 simp only
 rw[φ9z x.2.2.2 _ l2 l3 (by omega) (by omega),bS]
 simp only[Option.some.injEq,Prod.mk.injEq,and_true]
 omega
theorem φ7d (x:ModT) (k:Int) (hx:φ4E x) (h0:0<k) (h1:k+(φ1I x:Nat)<1000000000000):ψi.f (φ2I k x) k=some (k+(φ1I x:Nat)):=by
 obtain ⟨l1,l2,l3⟩:=hx
 unfold φ1I at h1 ⊢
 unfold ψi.f φ2I
 simp only[φ8X x.2.1 k l1 h0 (show k+3 * (x.2.1.length:Int)<1000000000000 by omega),bS,dnn (show (0:Int)≤k+3 * (x.2.1.length:Int) by omega),cF,φ9D x.2.2.2 (k+3 * (x.2.1.length:Int)) l2 l3 (by omega) (by omega),dnn (show (0:Int)≤k+3 * (x.2.1.length:Int)+((sumC φ14 x.2.2.2:Nat):Int) by omega)]
 simp only[Option.some.injEq]
 omega
theorem φ7x (l:List φC) (key:List UInt8) (hl:l.length<2 ^ 62):ψM.f l key=some ((φN l key).1,(φN l key).2==0):=by
 have hk:=φ38 (step:=ψM.l0) l (fun e=>e.1==key) (fun e=>(e,true)) (fun n=>(key,([],[],0),l,(l.length:Int),(n:Int))) ([],[],0) hl
  (fun rec n h=>by
   simp only[ψM.l0,oL,h,dT,cT,φ6,φ7,φ3 h,φP,φ8 (show n+1<9223372036854775808 by omega)]
   cases l[n].1==key<;>simp)
  (fun rec=>by simp[ψM.l0])
 have hk:lp ψM.l0 (key,([],[],0),l,(l.length:Int),0)=_:=hk
 unfold ψM.f φN
 rw[hk,bS]
 cases List.find? (fun e=>e.1==key) l<;>rfl
theorem φ6f (l:List φC) (hl:l.length<1000000000):ψI.f l=some (l.map entM):=by
 have key:=φ2N (step:=ψI.l0) (fun n (a:List φ15)=>(a,l,(l.length:Int),(n:Int))) l.length (fun n a=>a=(l.take n).map entM) (fun b=>b=l.map entM)
  (fun rec a hi=>⟨_,by simp[ψI.l0];rfl,by rw[hi,κB]⟩)
  (fun rec n a hn hi=>by
   have e0:(n:Int)<(l.length:Int):=by omega
   have hw:=φ8 (show n+1<9223372036854775808 by omega)
   have hal:a.length=n:=by rw[hi,lM,lT];omega
   have q:decide ((a.length+(0+1)) * 48≤140737488355328)=true:=by simp;omega
   refine ⟨a++[entM l[n]],by rw[hi,κ0 hn,mp];rfl,?_⟩
   simp only[ψI.l0,e0,dT,cT,φ6,hn,φ7,φ3 hn,lC,lN,q,hw]
   rfl)
  [] (by simp) (by omega)
 obtain ⟨b,k,kb⟩:=key
 unfold ψI.f
 have k:lp ψI.l0 ([],l,(l.length:Int),0)=some b:=k
 rw[k,kb];rfl
theorem φ7s {m:ModT} (hm:m.2.1.length≤20) (hl:TK m.2.2.2) {s:φJ} (hf:φq m.2.2.2 s=true) :
  ψ7.f m s=some ((getG (φN m.2.1) m.2.2.2 s).2,(m.1,m.2.1,m.2.2.1,(getG (φN m.2.1) m.2.2.2 s).1)):=by
 obtain ⟨n,hn,h1,hin,hrd,hto,_,_,_⟩:=φ3J hl.1 hf
 have htn:=hl.2 _ (gM hn)
 have b1:=htn.reads
 have b2:=htn.writes
 unfold ψ7.f getG
 simp only[hin,cT,φ3q,bS,hrd,φP]
 cases φx s.2.2.1
 ·rfl
 simp only[nZ,cF,φ7y m.2.2.2[n] s.2.2.1 (by omega),bS]
 cases (ownW m.2.2.2[n].2.2 s.2.2.1).2
 rotate_left
 ·rfl
 have hlk:((φN m.2.1 s.2.2.1).2=0∧((φN m.2.1 s.2.2.1).2==0)=true)∨((φN m.2.1 s.2.2.1).2=8∧((φN m.2.1 s.2.2.1).2==0)=false):=by
  unfold φN
  cases List.find? (fun p=>p.1==s.2.2.1) m.2.1
  ·exact .inr ⟨rfl,rfl⟩
  ·exact .inl ⟨rfl,rfl⟩
 simp only[cF,φ7x m.2.1 s.2.2.1 (by omega),bS]
 rcases hlk with ⟨k1,k2⟩ | ⟨k1,k2⟩
 all_goals
  simp only[k1,k2,nZ,nF,cT,cF]
  unfold ψO.f
  simp only[φ9n m.2.2.2[n] s.2.2.1 _ (show _<1000000000 by omega) (show _<1000000000 by omega),bS]
  generalize φ1H m.2.2.2[n] s.2.2.1 (φN m.2.1 s.2.2.1).1.2.2=r
  obtain ⟨r1,r2⟩:=r
  simp only
  cases (r2 != 0)<;>rfl
theorem φ7W {m:ModT} (hm:m.2.1.length≤20) (hb:m.2.2.1<2 ^ 60∧0≤m.2.2.1) {t:TxnT} (ht:TxR t) (a:AnsT) :
  ψ6.f m t=some ((comM m (m.2.2.2,(7,[],[]),bif valM m.2.1 t then some (netW t.2.2) else none)).2,(comM m (m.2.2.2,(7,[],[]),bif valM m.2.1 t then some (netW t.2.2) else none)).1):=by
 have b1:=ht.reads
 have b2:=ht.writes
 have hnl:=φ4Y t.2.2
 unfold ψ6.f
 simp only[φ6f m.2.1 (by omega),φ69 t (by omega),bS,φ9C t (m.2.1.map entM) (by omega) (by rw[lM];omega),φ5r]
 cases valM m.2.1 t
 ·rfl
 simp only[nZ,cF,cT,comM]
 by_cases c0:(netW t.2.2).length=0
 ·rw[if_pos c0,c0];rfl
 have c0':(((netW t.2.2).length:Int)==0)=false:=by simp only[beq_eq_false_iff_ne,ne_eq];omega
 rw[if_neg c0]
 simp only[c0',cF,φ7n m.2.1 (netW t.2.2) m.2.2.1 (by omega),bS]
 by_cases c1:20<(φ1N m.2.1 (netW t.2.2) m.2.2.1).length
 ·have:((φ1N m.2.1 (netW t.2.2) m.2.2.1).length:Int) > 20:=by omega
  rw[if_pos (.inl c1)]
  simp only[this,dT,cT]
 ·have:¬((φ1N m.2.1 (netW t.2.2) m.2.2.1).length:Int) > 20:=by omega
  simp only[this,dF,cF]
  by_cases c2:m.2.2.1 > 1000000
  ·rw[if_pos (.inr c2)]
   simp only[c2,dT,cT]
  ·rw[if_neg (by omega)]
   have hw:w64 (m.2.2.1+1)=m.2.2.1+1:=φH (by omega) (by omega)
   simp only[c2,dF,cF,hw]
theorem φ9j {m:ModT} (hm:m.2.1.length≤20) (hb:m.2.2.1<2 ^ 60∧0≤m.2.2.1) (hl:TK m.2.2.2) (s:φJ) :
  ψ8.f m s=some ((comM m (sesG (φN m.2.1) (valM m.2.1) m.2.2.2 s)).2,(comM m (sesG (φN m.2.1) (valM m.2.1) m.2.2.2 s)).1):=by
 unfold ψ8.f sesG
 rw[φ8A hl.1 s,bS]
 cases hf:φq m.2.2.2 s
 ·rfl
 obtain ⟨n,hn,h1,hin,hrd,hto,_,k1,k6⟩:=φ3J hl.1 hf
 have htn:=hl.2 _ (gM hn)
 have hrd2:rdA (false,[],[]) m.2.2.2 s.2.1=m.2.2.2[n]:=hrd
 simp only[nZ,cF,hin,cT]
 cases c1:(s.1==1)
 rotate_left
 ·rfl
 cases c6:(s.1==6)
 rotate_left
 ·rfl
 cases c2:(s.1==2)
 rotate_left
 ·simp only[cT,cF,φ7s hm hl hf,bS,comM]
 have com:((ψ6.f (m.1,m.2.1,m.2.2.1,m.2.2.2.set s.2.1.toNat (false,[],[])) ((rdA (false,[],[]) m.2.2.2 s.2.1).1,(rdA (false,[],[]) m.2.2.2 s.2.1).2)).bind fun x=>some (x.1,x.2)) =
   some ((comM m (m.2.2.2.set s.2.1.toNat zT,(7,[],[]),bif valM m.2.1 (rdA zT m.2.2.2 s.2.1) then some (netW (rdA zT m.2.2.2 s.2.1).2.2) else none)).2,(comM m (m.2.2.2.set s.2.1.toNat zT,(7,[],[]),bif valM m.2.1 (rdA zT m.2.2.2 s.2.1) then some (netW (rdA zT m.2.2.2 s.2.1).2.2) else none)).1):=by
  have hz:=φ7W (m:=(m.1,m.2.1,m.2.2.1,m.2.2.2.set s.2.1.toNat zT)) hm hb htn (7,[],[])
  rw[φP,hrd2,show ((m.1,m.2.1,m.2.2.1,m.2.2.2.set s.2.1.toNat (false,[],[])):ModT)=(m.1,m.2.1,m.2.2.1,m.2.2.2.set s.2.1.toNat zT) from rfl,hz,bS]
  rfl
 have put:((ψR.f ((rdA (false,[],[]) m.2.2.2 s.2.1).1,(rdA (false,[],[]) m.2.2.2 s.2.1).2) s).bind fun x=>some ((x.2:AnsT),((m.1,m.2.1,m.2.2.1,m.2.2.2.set s.2.1.toNat x.1):ModT))) =
   some ((putG m.2.2.2 s).2,(m.1,m.2.1,m.2.2.1,(putG m.2.2.2 s).1)):=by
  unfold putG
  rw[φP,show rdA (false,[],[]) m.2.2.2 s.2.1=m.2.2.2[n] from hrd,φ7Q ⟨htn.reads,htn.writes⟩ s,bS]
 simp only[cF]
 cases c3:(s.1==3)
 ·cases c4:(s.1==4)
  ·cases c5:(s.1==5)
   ·exfalso
    simp at c1 c2 c3 c4 c5 c6
    omega
   ·exact com
  ·have c5:(s.1==5)=false:=by simp at c4 ⊢;omega
   simp only[cT,cF,c5]
   exact put
 ·have c5:(s.1==5)=false:=by simp at c3 ⊢;omega
  simp only[cT,cF,c5]
  exact put
theorem φ9s {m:ModT} (hm:m.2.1.length≤20) (hb:m.2.2.1<2 ^ 60∧0≤m.2.2.1) (hl:TK m.2.2.2) (s:φJ):ψ9.f m s=some ((stM m s).2,(stM m s).1):=by
 unfold ψ9.f stM
 cases c10:(s.1==10)
 rotate_left
 ·simp only[cT]
  cases m.1<;>rfl
 simp only[cF]
 cases c11:(s.1==11)
 rotate_left
 ·rfl
 simp only[cF]
 cases hup:m.1
 ·rfl
 simp only[nZ,cF]
 cases c7:(s.1==7)
 rotate_left
 ·rfl
 simp only[cF]
 cases c8:(s.1==8)
 rotate_left
 ·simp only[cT,φ6f m.2.1 (by omega),φ8c (m.2.1.map entM) (by rw[lM];omega),bS,List.map_map]
  rfl
 simp only[cF]
 cases c9:(s.1==9)
 rotate_left
 ·rfl
 simp only[cF,φ9j hm hb hl s,bS]
theorem mRun {l:List φJ} {n:Nat} (hn:n≤300):(runM newM (l.take n)).1.2.1.length≤20∧((runM newM (l.take n)).1.2.2.1<2 ^ 60∧0≤(runM newM (l.take n)).1.2.2.1)∧TK (runM newM (l.take n)).1.2.2.2:=by
 have hI:=MI.run (l.take n) MI.new
 have hlo:=hI.lo
 have hhi:=hI.hi
 have htl:(l.take n).length≤300:=by rw[lT];omega
 exact ⟨hI.map,⟨by omega,by omega⟩,hI.tk⟩
theorem φ8Q (l:List φJ) (hl:l.length<2 ^ 62):ψ16.f l=some (runM newM (l.take 300)):=by
 have key:=φ2N (step:=ψ16.l0) (fun n (x:ModT×List AnsT)=>((l,(false,[],0,[]),x.1,x.2,(n:Int)):List φJ×ModT×ModT×List AnsT×Int)) (min l.length 300) (fun n x=>x=runM newM (l.take n)) (fun b=>b=((false,[],0,[]),(runM newM (l.take 300)).1,(runM newM (l.take 300)).2))
  (fun rec x hi=>by
   by_cases c:l.length≤300
   ·have e1:min l.length 300=l.length:=by omega
    rw[e1] at hi ⊢
    refine ⟨_,by simp[ψ16.l0];rfl,?_⟩
    rw[hi,κB,List.take_of_length_le c]
   ·have e1:min l.length 300=300:=by omega
    rw[e1] at hi ⊢
    have e0:(((300:Nat):Int)<(l.length:Int)):=by omega
    have e2:¬(((300:Nat):Int)<300):=by decide
    refine ⟨_,by simp only[ψ16.l0,e0,e2,dT,dF,cT,cF];rfl,?_⟩
    rw[hi])
  (fun rec n x hn hi=>by
   have hnl:n<l.length:=by omega
   have e0:(n:Int)<(l.length:Int):=by omega
   have e3:(n:Int)<300:=by omega
   have hw:=φ8 (show n+1<9223372036854775808 by omega)
   obtain ⟨i1,i2,i3⟩:=mRun (l:=l) (n:=n) (by omega)
   rw[←hi] at i1 i2 i3
   have hal:x.2.length=n:=by rw[hi,φ3d,lT];omega
   have q:decide ((x.2.length+(0+1)) * 48≤140737488355328)=true:=by simp;omega
   refine ⟨((stM x.1 l[n]).1,x.2++[(stM x.1 l[n]).2]),?_,?_⟩
   ·rw[κ0 hnl,φ4m,←hi];rfl
   ·simp only[ψ16.l0,e0,e3,dT,cT,φ6,hnl,φ7,φ3 hnl,φP,φ8Z i1 i2 i3 l[n],bS,lC,lN,q,hw])
  (newM,[]) (by rw[List.take_zero];rfl) (by omega)
 obtain ⟨b,k,hb⟩:=key
 unfold ψ16.f ψ15.f
 have k:lp ψ16.l0 ((l,(false,[],0,[]),newM,[],0):List φJ×ModT×ModT×List AnsT×Int)=some b:=k
 simp only[bS]
 rw[show ((true,[],1,κA 3 (false,[],[])):ModT)=newM from rfl,k,hb]
 rfl
theorem φ8t (l:List φJ) (hl:l.length<2 ^ 62):ψ5.f l=some (runM newM (l.take 300)):=by
 have key:=φ2N (step:=ψ5.l0) (fun n (x:ModT×List AnsT)=>(((false,[],0,[]),x.1,x.2,l,(l.length:Int),(n:Int)):ModT×ModT×List AnsT×List φJ×Int×Int)) l.length (fun n x=>x=runM newM (l.take (min n 300))) (fun b=>b=((false,[],0,[]),(runM newM (l.take 300)).1,(runM newM (l.take 300)).2))
  (fun rec x hi=>by
   refine ⟨_,by simp[ψ5.l0];rfl,?_⟩
   have e:l.take (min l.length 300)=l.take 300:=by
    by_cases c:l.length≤300
    ·rw[Nat.min_eq_left c,κB,List.take_of_length_le c]
    ·rw[Nat.min_eq_right (by omega)]
   rw[hi,e])
  (fun rec n x hn hi=>by
   have e0:(n:Int)<(l.length:Int):=by omega
   have hw:=φ8 (show n+1<9223372036854775808 by omega)
   by_cases c:n<300
   ·have e3:(n:Int)<300:=by omega
    have em:min n 300=n:=by omega
    have em1:min (n+1) 300=n+1:=by omega
    rw[em] at hi
    rw[em1]
    obtain ⟨i1,i2,i3⟩:=mRun (l:=l) (n:=n) (by omega)
    rw[←hi] at i1 i2 i3
    have hal:x.2.length=n:=by rw[hi,φ3d,lT];omega
    have q:decide ((x.2.length+(0+1)) * 48≤140737488355328)=true:=by simp;omega
    refine ⟨((stM x.1 l[n]).1,x.2++[(stM x.1 l[n]).2]),?_,?_⟩
    ·rw[κ0 hn,φ4m,←hi];rfl
    ·simp only[ψ5.l0,e0,e3,dT,cT,φ6,hn,φ7,φ3 hn,φP,φ9s i1 i2 i3 l[n],bS,lC,lN,q,hw]
   ·have e3:¬(n:Int)<300:=by omega
    have em:min n 300=300:=by omega
    have em1:min (n+1) 300=300:=by omega
    rw[em] at hi
    rw[em1]
    refine ⟨x,hi,?_⟩
    simp only[ψ5.l0,e0,e3,dT,dF,cT,cF,φ6,hn,bS,hw])
  (newM,[]) (by rw[Nat.zero_min,List.take_zero];rfl) (by omega)
 obtain ⟨b,k,hb⟩:=key
 unfold ψ5.f
 have k:lp ψ5.l0 (((false,[],0,[]),newM,[],l,(l.length:Int),0):ModT×ModT×List AnsT×List φJ×Int×Int)=some b:=k
 rw[show ψ4.f=some newM from rfl,bS,k,hb]
 rfl
theorem φ4Q {X:Type} (c:X→Nat) (B:Nat):∀(l:List X),(∀x∈l,c x≤B)→sumC c l≤B * l.length
 | [],_=>κL _
 | x::r,h=>by
  have h1:=h x (by simp)
  have h2:=φ4Q c B r fun y hy=>h y (by simp[hy])
  show c x+sumC c r≤B * (r.length+1)
  rw[Nat.mul_add]
  omega
theorem φ9L (x0:List φJ) (w0:wfD (.sl false (.pair (.int .i64) (.pair (.int .i64) (.pair .str (.pair .str (.int .i64)))))) x0):ψS.f x0=some true:=by
 have k0:=φ9f _ w0
 have b0:=φ2q k0.1
 unfold ψS.f
 rw[φ79 x0 1048576 (by omega) (by omega) k0,bS,φ6Z]
 by_cases c0:((φ36 φ20 x0:Nat):Int)≤1048576
 rotate_left
 ·simp[c0]
 simp only[c0,dT,nZ,cF]
 have l0:x0.length≤1048576:=by unfold φ36 at c0;omega
 have e1:=φ8Q x0 (by omega)
 have e2:=φ8t x0 (by omega)
 obtain ⟨i1,i2,i3⟩:=mRun (l:=x0) (n:=300) (κD _)
 have hk:=(φ6P (x0.take 300) (m:=newM) (by simp)).2
 have hal:(runM newM (x0.take 300)).2.length≤300:=by rw[φ3d,lT];omega
 generalize runM newM (x0.take 300)=R at *
 obtain ⟨M,A⟩:=R
 simp only at i1 i2 i3 hk hal
 have ht:∀t∈M.2.2.2,φ2M t:=fun t h=>by
  have h1:=(i3.2 t h).reads
  have h2:=(i3.2 t h).writes
  exact ⟨by omega,by omega⟩
 have hM:φ4E M:=⟨by omega,by rw[i3.1];omega,ht⟩
 have hL:φ6O M:=⟨hM.1,hM.2.1,ht⟩
 have hA:∀a∈A,φ30 a:=fun a h=>by have:=hk a h;show a.2.2.length<_;omega
 have hc1:φ1I M≤1000:=by
  have:=φ4Q φ14 191 M.2.2.2 fun t h=>by
   have h1:=(i3.2 t h).reads
   have h2:=(i3.2 t h).writes
   unfold φ14;omega
  rw[i3.1] at this
  unfold φ1I;omega
 have hc2:sumC φ1D A≤22 * A.length:=φ4Q φ1D 22 A fun a h=>by
  have:=hk a h
  unfold φ1D;omega
 have m1:=φ9K M 1 hM (by omega) (by omega)
 have m2:=φ8y A (1+((φ1I M:Nat):Int)) (by omega) hA (by omega) (by omega)
 have h1:=φ7d M 1 hM (by omega) (by omega)
 have h2:=φ9B A (1+((φ1I M:Nat):Int)) (by omega) hA (by omega) (by omega)
 have hkk:((M.1,(φ2I 1 M).2.1,M.2.2.1,(φ2I 1 M).2.2.2):ModT)=φ2I 1 M:=rfl
 simp only[φ9q _ k0 l0,e1,e2,φ87 M M hL,φ94 A A (by omega) hA,φ8M x0 x0 (by omega),φ8Y x0 1 (by omega) (by omega) (by omega),m1,m2,bS,dT,nZ,cF]
 simp only[dnn (show (0:Int)≤1+5 * (x0.length:Int) by omega),cF]
 simp only[hkk,h1,bS,dnn (show (0:Int)≤1+((φ1I M:Nat):Int) by omega),cF]
 simp only[h2,bS,dnn (show (0:Int)≤1+((φ1I M:Nat):Int)+((sumC φ1D A:Nat):Int) by omega),cF,bne_self_eq_false]
end Go.Rf.G
