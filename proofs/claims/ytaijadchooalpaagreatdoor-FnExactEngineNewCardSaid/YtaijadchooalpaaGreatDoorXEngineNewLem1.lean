import Derived.Test.YtaijadchooalpaaGreatDoorRf5
import Derived.Test.YtaijadchooalpaaGreatDoorXEngineNewFns
open Option renaming bind_some→bS
open List renaming length_append→lA,append_assoc→aA,mem_cons_of_mem→mC,mem_append→mA,mem_append_right→mR,mem_append_left→mL,mem_cons→mc,drop_eq_getElem_cons→dG,length_take→lT,length_drop→lD,mem_map→mM,length_map→lM,length_cons→lC,length_nil→lN,getElem_mem→gM,map_append→mp,mem_singleton→mZ,take_succ_eq_append_getElem→κ2,length_singleton→κ3,append_nil→κ4,mem_cons_self→κ6,take_append_drop→κ9,map_cons→κC,nodup_append→κD,drop_zero→κE,nil_append→κG,flatMap_append→κH,nodup_cons→κJ,foldl_cons→κK,cons_append→κM,take_length→κN,range'→κO,drop_left→κP,replicate→κU,flatten_cons→κY
open Bool renaming and_eq_true→bA,eq_false_or_eq_true→bE,not_true→nZ,not_false→nF,true_and→tA,not_not→nn,false_eq_true→κ1,true_eq_false→κ8,or_eq_false_iff→κF,false_and→κL,and_true→κV,not_eq_true'→κX
open Int renaming toNat_natCast→tN,ofNat_lt→oL
open Nat renaming lt_or_ge→κ0,zero_le→κ5,le_refl→κ7,lt_of_lt_of_le→κA,eq_of_beq_eq_true→κB,le_of_ble_eq_true→κI,zero_add→κQ,pow_succ→κS,pow_le_pow_right→κT,mod_eq_of_lt→κW
open Array renaming length_toList→κR
set_option linter.unusedVariables false
set_option linter.unusedSimpArgs false
namespace Go.Rf.G
open Go Go.Rf
set_option synthInstance.maxSize 4000
theorem φD1 {A B:Type} {step:(A→Option B)→A→Option B} {F:A→B} {P:A→Prop} {m:A→Nat}
  (h:∀rec a,P a→(∀a',P a'→m a'<m a→rec a'=some (F a'))→step rec a=some (F a)):∀n a,P a→m a<n→φ28 step n a=some (F a)
 | 0,_,_,hn=>by omega
 | n+1,a,hp,hn=>h (φ28 step n) a hp fun a' hp' hlt=>φD1 h n a' hp' (by omega)
theorem φ4e {A B:Type} {step:(A→Option B)→A→Option B} (F:A→B) (P:A→Prop) (m:A→Nat)
  (h:∀rec a,P a→(∀a',P a'→m a'<m a→rec a'=some (F a'))→step rec a=some (F a)) {a:A} (hp:P a) (hm:m a<2 ^ 62):lp step a=some (F a):=
 φD1 h FUEL a hp (κA hm φ5u)
theorem φO {A B σ:Type} {step:(A→Option B)→A→Option B} (st:Nat→σ→A) (N:Nat) (F:Nat→σ→B) (Inv:Nat→σ→Prop)
  (h:∀rec n s,n≤N→Inv n s→(∀s',n<N→Inv (n+1) s'→rec (st (n+1) s')=some (F (n+1) s'))→step rec (st n s)=some (F n s))
  (hN:N<2 ^ 62):∀n s,n≤N→Inv n s→lp step (st n s)=some (F n s):=by
 have key:∀k f n s,n≤N→Inv n s→N - n=k→k<f→φ28 step f (st n s)=some (F n s):=by
  intro k
  induction k with
  | zero=>
   intro f n s hn hi hk hf
   obtain ⟨f,rfl⟩:∃g,f=g+1:=⟨f - 1,by omega⟩
   exact h _ n s hn hi fun s' hlt=>by omega
  | succ k ih=>
   intro f n s hn hi hk hf
   obtain ⟨f,rfl⟩:∃g,f=g+1:=⟨f - 1,by omega⟩
   exact h _ n s hn hi fun s' hlt hi'=>ih f (n+1) s' hlt hi' (by omega) (by omega)
 intro n s hn hi
 exact key (N - n) FUEL n s hn hi rfl (κA (by omega) φ5u)
@[simp] theorem φ8 (n m:Nat):inB (n:Int) m=decide (n<m):=by
 unfold inB
 by_cases h:n<m<;>simp[h,Int.natCast_nonneg]
@[simp] theorem φA {α:Type} (z:α) (xs:List α) (n:Nat):rdA z xs (n:Int)=xs.getD n z:=rfl
theorem φ9 {n:Int} (h1:-9223372036854775808≤n) (h2:n<9223372036854775808):w64 n=n:=by
 unfold w64 IntKind.wrap
 simp only[IntKind.bits,IntKind.signed]
 by_cases h:n % 2 ^ 64≥2 ^ 63<;>simp[h]<;>omega
theorem φ2L {n:Nat} (h:n<9223372036854775808):w64 (n:Int)=n:=φ9 (by omega) (by omega)
theorem φB {n:Nat} (h:n+1<9223372036854775808):w64 ((n:Int)+1)=((n+1:Nat):Int):=by
 rw[φ9 (by omega) (by omega)];omega
theorem φ6E {l:Nat} (h:l≤reachBytes):l<140737488355328:=by unfold reachBytes at h;omega
theorem φ5 {α:Type} {xs:List α} {z:α} {n:Nat} (h:n<xs.length):xs.getD n z=xs[n]:=by simp[List.getD,h]
theorem φCK {α:Type} {a b:List α} {n:Nat} (h1:n<a.length) (h2:n<b.length):a.drop n=b.drop n↔a[n]=b[n]∧a.drop (n+1)=b.drop (n+1):=by
 rw[dG h1,dG h2,List.cons.injEq]
def szr (b:Nat) (left:Int):Int:=if (b:Int)≤left then left - b else -1
theorem φ91 {b:Nat} {left:Int}:decide (szr b left<0)=!decide ((b:Int)≤left):=by
 unfold szr
 by_cases h:(b:Int)≤left
 ·rw[if_pos h];simp[h]
 ·rw[if_neg h];simp[h]
theorem φAy {b:Nat} {left:Int} (h:(b:Int)≤left):szr b left=left - b:=if_pos h
def sumN {α:Type} (f:α→Nat):List α→Nat
 | []=>0
 | x::r=>f x+sumN f r
theorem φ6e {α:Type} (f:α→Nat) {l:List α} {n:Nat} (h:n<l.length):sumN f (l.drop n)=f l[n]+sumN f (l.drop (n+1)):=by
 rw[dG h];rfl
theorem φ9b {α:Type} (f:α→Nat):∀{l:List α} {x:α},x∈l→f x≤sumN f l
 | y::l,x,h=>by
  rcases mc.1 h with k | k
  ·subst k;exact Nat.le_add_right _ _
  ·exact Nat.le_trans (φ9b f k) (Nat.le_add_left _ _)
def φ3Z {α:Type} (f:α→Nat) (l:List α):Nat:=l.length+sumN f l
theorem φHN {X:Type} {step:(List X×Int×Int→Option (Int ⊕ Int))→List X×Int×Int→Option (Int ⊕ Int)} (bulk:X→Nat) (l:List X) (hl:l.length<2 ^ 62)
  (hs:∀rec (n:Nat) (left:Int),(hn:n<l.length)→0≤left→left≤1048576→step rec (l,left,(n:Int))=if (bulk l[n]:Int)≤left then rec (l,left - bulk l[n],((n+1:Nat):Int)) else some (.inr (-1)))
  (he:∀rec (left:Int),step rec (l,left,(l.length:Int))=some (.inl left)) (left:Int) (h0:0≤left) (h1:left≤1048576) :
  lp step (l,left,0)=some (if (sumN bulk l:Int)≤left then .inl (left - sumN bulk l) else .inr (-1)):=by
 have:=φO (step:=step) (fun n (s:Int)=>(l,s,(n:Int))) l.length (fun n s=>if (sumN bulk (l.drop n):Int)≤s then .inl (s - sumN bulk (l.drop n)) else .inr (-1)) (fun _ s=>0≤s∧s≤1048576)
  (fun rec n s hn hi ih=>by
   rcases κ0 n l.length with h | h
   ·rw[hs rec n s h hi.1 hi.2,φ6e bulk h]
    by_cases hb:(bulk l[n]:Int)≤s
    ·rw[if_pos hb,ih _ h ⟨by omega,by omega⟩]
     congr 1
     by_cases hc:(sumN bulk (l.drop (n+1)):Int)≤s - bulk l[n]
     ·rw[if_pos hc,if_pos (by omega)];congr 1;omega
     ·rw[if_neg hc,if_neg (by omega)]
    ·rw[if_neg hb,if_neg (by omega)]
   ·have:n=l.length:=by omega
    subst this
    rw[he]
    simp[sumN,hi.1])
  hl 0 left (κ5 _) ⟨h0,h1⟩
 simpa using this
theorem φ4o {X:Type} [DecidableEq X] {step:(List X×List X×Int→Option (Unit ⊕ Bool))→List X×List X×Int→Option (Unit ⊕ Bool)} (a b:List X) (hl:a.length=b.length) (ha:a.length<2 ^ 62)
  (hs:∀rec (n:Nat),(h1:n<a.length)→(h2:n<b.length)→step rec (a,b,(n:Int))=if a[n]=b[n] then rec (a,b,((n+1:Nat):Int)) else some (.inr false))
  (he:∀rec,step rec (a,b,(a.length:Int))=some (.inl ())):lp step (a,b,0)=some (if a=b then .inl () else .inr false):=by
 have:=φO (step:=step) (fun n (_:Unit)=>(a,b,(n:Int))) a.length (fun n _=>if a.drop n=b.drop n then .inl () else .inr false) (fun _ _=>True)
  (fun rec n s hn _ ih=>by
   rcases κ0 n a.length with h | h
   ·rw[hs rec n h (by omega),ih () h trivial]
    by_cases hc:a[n]=b[n]
    ·rw[if_pos hc];simp only[φCK h (by omega:n<b.length),hc,true_and]
    ·rw[if_neg hc,if_neg fun k=>hc ((φCK h (by omega)).1 k).1]
   ·have:n=a.length:=by omega
    subst this
    rw[he]
    simp[hl])
  ha 0 () (κ5 _) trivial
 simpa using this
theorem φF2 {X:Type} {step:(List X×List X×Int→Option (List X))→List X×List X×Int→Option (List X)} (l:List X) (hl:l.length<2 ^ 62)
  (hs:∀rec (r:List X) (n:Nat),(h1:n<l.length)→r.length=l.length→step rec (l,r,(n:Int))=rec (l,r.set n l[n],((n+1:Nat):Int)))
  (he:∀rec r,step rec (l,r,(l.length:Int))=some r) (r:List X) (hr:r.length=l.length):lp step (l,r,0)=some l:=by
 have:=φO (step:=step) (fun n (r:List X)=>(l,r,(n:Int))) l.length (fun n r=>l) (fun n r=>r.length=l.length∧r.take n=l.take n)
  (fun rec n r hn hi ih=>by
   obtain ⟨hi1,hi2⟩:=hi
   rcases κ0 n l.length with h | h
   ·rw[hs rec r n h hi1]
    refine ih _ h ⟨by simp[hi1],?_⟩
    rw[κ2 (by simp[hi1,h]),κ2 h,List.take_set_of_le (κ7 _),hi2]
    simp
   ·have:n=l.length:=by omega
    subst this
    rw[he]
    rw[κN,←hi1,κN] at hi2
    rw[hi2])
  hl 0 r (κ5 _) ⟨hr,by simp⟩
 simpa using this
def φx {X:Type} (mk:Int→X→X) (c:Nat):List X→Int→List X
 | [],_=>[]
 | x::r,k=>mk k x::φx mk c r (k+c)
@[simp] theorem φ9f {X:Type} (mk:Int→X→X) (c:Nat):∀(l:List X) (k:Int),(φx mk c l k).length=l.length
 | [],_=>rfl
 | x::r,k=>by simp[φx,φ9f mk c r]
theorem φ8C {X:Type} (mk:Int→X→X) (c:Nat):∀(l:List X) (k:Int) (n:Nat) (h:n<l.length) (h':n<(φx mk c l k).length),(φx mk c l k)[n]=mk (k+c * n) l[n]
 | x::r,k,0,_,_=>by simp[φx]
 | x::r,k,n+1,h,h'=>by
  simp only[φx,List.getElem_cons_succ]
  rw[φ8C mk c r (k+c) n (by simpa using h) _]
  congr 1
  rw[Int.natCast_add,Int.mul_add];omega
theorem φ5J {X:Type} {step:(List X×Int×Int→Option (List X×Int))→List X×Int×Int→Option (List X×Int)} (mk:Int→X→X) (c:Nat) (l:List X) (hl:l.length<2 ^ 62)
  (hs:∀rec (r:List X) (k:Int) (n:Nat),r.length=l.length→(h:n<r.length)→0<k→k<1000000000000→step rec (r,k,(n:Int))=rec (r.set n (mk k r[n]),k+c,((n+1:Nat):Int)))
  (he:∀rec (r:List X) (k:Int),r.length=l.length→step rec (r,k,(l.length:Int))=some (r,k)) (k:Int) (h0:0<k) (h1:k+c * l.length<1000000000000) :
  lp step (l,k,0)=some (φx mk c l k,k+c * l.length):=by
 have key:=φO (step:=step) (fun n (s:List X×Int)=>(s.1,s.2,(n:Int))) l.length (fun n s=>(φx mk c l k,k+c * l.length))
  (fun n s=>s.1.length=l.length∧s.2=k+c * n∧s.1.take n=(φx mk c l k).take n∧s.1.drop n=l.drop n)
  (fun rec n s hn hi ih=>by
   obtain ⟨i1,i2,i3,i4⟩:=hi
   rcases κ0 n l.length with h | h
   ·have hb:(c:Int) * n≤c * l.length:=Int.mul_le_mul_of_nonneg_left (by omega) (by omega)
    have hb0:0≤(c:Int) * n:=Int.mul_nonneg (by omega) (by omega)
    rw[hs rec s.1 s.2 n i1 (by omega) (by omega) (by omega)]
    refine ih (s.1.set n (mk s.2 (s.1[n]'(by omega))),s.2+c) h ⟨by simp[i1],?_,?_,?_⟩
    ·show s.2+c=_;rw[i2,Int.natCast_add,Int.mul_add];omega
    ·show (s.1.set n _).take (n+1)=_
     have hg:s.1[n]'(by omega)=l[n]:=by
      have:=i4
      rw[dG (by omega),dG h,List.cons.injEq] at this
      exact this.1
     rw[κ2 (by simp;omega),κ2 (by simp;omega),List.take_set_of_le (κ7 _),i3,φ8C mk c l k n h]
     simp[i2,hg]
    ·show (s.1.set n _).drop (n+1)=_
     rw[List.drop_set_of_lt (by omega)]
     have:=i4
     rw[dG (by omega),dG h,List.cons.injEq] at this
     exact this.2
   ·have:n=l.length:=by omega
    subst this
    rw[he rec s.1 s.2 i1,i2]
    rw[←i1,κN,i1,←φ9f mk c l k,κN] at i3
    rw[i3])
  hl 0 (l,k) (κ5 _) ⟨rfl,by simp,by simp,by simp⟩
 simpa using key
theorem φ5d {X:Type} {step:(List X×Int×Int→Option (Int ⊕ Int))→List X×Int×Int→Option (Int ⊕ Int)} (mk:Int→X→X) (c:Nat) (l:List X) (hl:l.length<2 ^ 62)
  (hs:∀rec (r:List X) (k:Int) (n:Nat) (x:X),(h:n<r.length)→n<4611686018427387904→r[n]=mk k x→0<k→k<1000000000000→step rec (r,k,(n:Int))=rec (r,k+c,((n+1:Nat):Int)))
  (he:∀rec (r:List X) (k:Int),step rec (r,k,(r.length:Int))=some (.inl k)) (k:Int) (h0:0<k) (h1:k+c * l.length<1000000000000) :
  lp step (φx mk c l k,k,0)=some (.inl (k+c * l.length)):=by
 have key:=φO (step:=step) (fun n (s:Int)=>(φx mk c l k,s,(n:Int))) l.length (fun n s=>.inl (k+c * l.length))
  (fun n s=>s=k+c * n)
  (fun rec n s hn hi ih=>by
   rcases κ0 n l.length with h | h
   ·have hb:(c:Int) * n≤c * l.length:=Int.mul_le_mul_of_nonneg_left (by omega) (by omega)
    have hb0:0≤(c:Int) * n:=Int.mul_nonneg (by omega) (by omega)
    rw[hs rec _ s n l[n] (by simpa using h) (by omega) (by rw[φ8C mk c l k n h,hi]) (by omega) (by omega)]
    exact ih _ h (by rw[hi,Int.natCast_add,Int.mul_add];omega)
   ·have:n=l.length:=by omega
    subst this
    have:=he rec (φx mk c l k) s
    rw[φ9f] at this
    rw[this,hi])
  hl 0 k (κ5 _) (by simp)
 simpa using key
theorem φ58 {X A B:Type} {step:(A→Option (B ⊕ Bool))→A→Option (B ⊕ Bool)} (l:List X) (f:X→Bool) (st:Nat→A) (b:B) (hl:l.length<2 ^ 62)
  (hs:∀rec n,(h:n<l.length)→step rec (st n)=if f l[n]=true then rec (st (n+1)) else some (.inr false))
  (he:∀rec,step rec (st l.length)=some (.inl b)):lp step (st 0)=some (if l.all f=true then .inl b else .inr false):=by
 have:=φO (step:=step) (fun n (_:Unit)=>st n) l.length (fun n _=>if (l.drop n).all f=true then .inl b else .inr false) (fun _ _=>True)
  (fun rec n s hn _ ih=>by
   rcases κ0 n l.length with h | h
   ·rw[hs rec n h,ih () h trivial,dG h,List.all_cons]
    cases f l[n]<;>simp
   ·have:n=l.length:=by omega
    subst this
    rw[he];simp) hl 0 () (κ5 _) trivial
 simpa using this
theorem φ1z {X A B S:Type} {step:(A→Option B)→A→Option B} (l:List X) (g:S→X→S) (st:Nat→S→A) (out:S→B) (Inv:Nat→S→Prop) (hl:l.length<2 ^ 62)
  (hs:∀rec n s,(h:n<l.length)→Inv n s→step rec (st n s)=rec (st (n+1) (g s l[n])))
  (hi:∀n s,(h:n<l.length)→Inv n s→Inv (n+1) (g s l[n]))
  (he:∀rec s,Inv l.length s→step rec (st l.length s)=some (out s)) (s:S) (h0:Inv 0 s):lp step (st 0 s)=some (out (l.foldl g s)):=by
 have:=φO (step:=step) st l.length (fun n s=>out ((l.drop n).foldl g s)) Inv
  (fun rec n s hn hv ih=>by
   rcases κ0 n l.length with h | h
   ·rw[hs rec n s h hv,ih _ h (hi n s h hv),dG h];rfl
   ·have:n=l.length:=by omega
    subst this
    rw[he rec s hv];simp) hl 0 s (κ5 _) h0
 simpa using this
theorem φI9 {A B σ:Type} {step:(A→Option B)→A→Option B} (st:Nat→σ→A) (F:Nat→σ→B) (Inv:Nat→σ→Prop)
  (h:∀rec n s,Inv n s→(∀m s',n=m+1→Inv m s'→rec (st m s')=some (F m s'))→step rec (st n s)=some (F n s)):∀n s,n<2 ^ 62→Inv n s→lp step (st n s)=some (F n s):=by
 have key:∀n f s,n<f→Inv n s→φ28 step f (st n s)=some (F n s):=by
  intro n
  induction n with
  | zero=>
   intro f s hf hi
   obtain ⟨f,rfl⟩:∃g,f=g+1:=⟨f - 1,by omega⟩
   exact h _ 0 s hi fun m s' he=>by omega
  | succ n ih=>
   intro f s hf hi
   obtain ⟨f,rfl⟩:∃g,f=g+1:=⟨f - 1,by omega⟩
   exact h _ (n+1) s hi fun m s' he hi'=>by
    have:m=n:=by omega
    subst this
    exact ih f s' (by omega) hi'
 intro n s hn hi
 exact key n FUEL s (κA hn φ5u) hi
def okL {α:Type} (f:α→Prop) (l:List α):Prop:=l.length≤reachBytes∧∀x∈l,f x
@[simp] theorem φL {A B C:Type} (a:A) (f:A→C) (g:B→C):φF (.inl a) f g=f a:=rfl
@[simp] theorem φS {A B C:Type} (b:B) (f:A→C) (g:B→C):φF (.inr b) f g=g b:=rfl
theorem φ2V {A B:Type} (p:A×B):(p.1,p.2)=p:=rfl
theorem φDo {β:Type} (n:Int) (a b:β):(bif (n==n) then a else b)=a:=by simp
theorem φHz {β:Type} {c n:Int} (h1:0≤n) (h2:c * n≤140737488355328) (a b:β):(bif (decide (0≤n) && decide (c * n≤140737488355328)) then a else b)=a:=by simp[h1,h2]
theorem φ6W {β:Type} {n:Int} (h:0≤n) (a b:β):(bif decide (n<0) then a else b)=b:=by
 have:¬n<0:=by omega
 simp[this]
theorem φ3j {α:Type} {z:α} {r:List α} {n:Nat} {v:α} (h:n<r.length):rdA z (r.set n v) (n:Int)=v:=by simp[List.getD,h]
noncomputable def mt (k:Int):List UInt8:=(ψ1z.f k).getD []
theorem φ2e (k:Int) (h0:0<k) (h1:k<2000000000000):ψ1z.f k=some (mt k):=by
 have:∃b,ψ1z.f k=some b:=by
  unfold ψ1z.f
  have hk:¬k≤0:=by omega
  simp only[hk,dF,cF]
  have key:∀(n:Nat) (k:Int) (acc:List UInt8),0≤k→k<n→(n:Int)≤2000000000000→acc.length+k.toNat<4000000000000→∀f,n<f→∃b,φ28 ψ1z.l0 f (k,acc)=some b∧b.length<4000000000000:=by
   intro n
   induction n with
   | zero=>intro k acc h0 h1;omega
   | succ n ih=>
    intro k acc h0 h1 h2 h3 f hf
    obtain ⟨f,rfl⟩:∃g,f=g+1:=⟨f - 1,by omega⟩
    show ∃b,ψ1z.l0 (φ28 ψ1z.l0 f) (k,acc)=some b∧_
    simp only[ψ1z.l0]
    by_cases hk:k > 0
    ·have hd:Int.tdiv k 10=k / 10:=Int.tdiv_eq_ediv_of_nonneg (by omega)
     have hw:w64 (Int.tdiv k 10)=k / 10:=by rw[hd];exact φ9 (by omega) (by omega)
     have hlen:((φm [IntKind.wrap .u8 (w64 (48+(Int.tmod k 10)))]).length+acc.length≤9223372036854775807):=by simp[φm];omega
     simp only[hk,dT,cT,hlen,hw]
     exact ih (k / 10) _ (by omega) (by omega) (by omega) (by simp[φm];omega) f (by omega)
    ·simp only[hk,dF,cF]
     exact ⟨acc,rfl,by omega⟩
  obtain ⟨b,hb,hl⟩:=key (k.toNat+1) k [] (by omega) (by omega) (by omega) (by simp;omega) FUEL (κA (by omega) φ5u)
  have hb:lp ψ1z.l0 (k,[])=some b:=hb
  rw[hb,bS]
  have hle:([109]:List UInt8).length+b.length≤9223372036854775807:=by simp;omega
  simp only[hle,dT,cT]
  exact ⟨_,rfl⟩
 obtain ⟨b,hb⟩:=this
 unfold mt
 rw[hb];rfl
theorem φGP (a b:List (Int)) (ha:a.length<2 ^ 62):ψ1X.f a b=some (decide (a=b)):=by
 unfold ψ1X.f
 by_cases hl:a.length=b.length
 rotate_left
 ·have:a≠b:=fun h=>hl (by rw[h])
  have h2:((a.length:Int) != (b.length:Int))=true:=by simp;omega
  rw[h2];simp[this]
 have h2:((a.length:Int) != (b.length:Int))=false:=by simp;omega
 rw[h2,cF,φ4o a b hl ha (fun rec n h1 h2=>?_) (fun rec=>?_)]
 ·by_cases e:a=b<;>simp[e,φF]
 ·simp only[ψ1X.l0,oL,h1,h2,dT,cT,φ8,φA,φ5 h1,φ5 h2,φB (show n+1<9223372036854775808 by omega)]
  by_cases e:a[n]=b[n]
  ·simp[e]
  ·have e2:(a[n]==b[n])=false:=by simpa using e
   have e3:(a[n] != b[n])=true:=by simpa using e
   simp[e,e2,e3]
 ·simp[ψ1X.l0]
noncomputable def φ4j (k:Int) (x:Int):Int:=k
theorem φF9 (l:List (Int)) (k:Int) (hl:l.length<2 ^ 62) (h0:0<k) (h1:k+1 * l.length<1000000000000):ψ1u.f l k=some (k+1 * l.length,φx φ4j 1 l k):=by
 unfold ψ1u.f
 rw[φ5J φ4j 1 l hl (fun rec r k n hr h h0 h1=>?_) (fun rec r k hr=>?_) k h0 h1]
 ·rfl
 ·have hn:n<4611686018427387904:=by omega
  have e1:w64 (k+1)=k+1:=by rw[φ9 (by omega) (by omega)]
  simp only[ψ1u.l0,oL,h,dT,cT,φ8,List.length_set,tN,φ3j h,φA,φ5 h,List.set_set,φB (show n+1<9223372036854775808 by omega),e1,bS]
  rfl
 ·simp[ψ1u.l0,hr]
theorem φFq (l:List (Int)) (k:Int) (hl:l.length<2 ^ 62) (h0:0<k) (h1:k+1 * l.length<1000000000000):ψ1k.f (φx φ4j 1 l k) k=some (k+1 * l.length):=by
 unfold ψ1k.f
 rw[φ5d φ4j 1 l hl (fun rec r k n x h hn0 hx h0 h1=>?_) (fun rec r k=>?_) k h0 h1]
 ·rfl
 ·have hn:n+1<9223372036854775808:=by omega
  have e1:w64 (k+1)=k+1:=by rw[φ9 (by omega) (by omega)]
  simp only[ψ1k.l0,oL,h,dT,cT,φ8,φA,φ5 h,hx,φ4j,φB hn,e1,bS,beq_self_eq_true,nZ,bne_self_eq_false,cF]
  rfl
 ·simp[ψ1k.l0]
def φ2M (x:List UInt8×List UInt8×Int):Nat:=x.1.length+x.2.1.length
def φ4v (x:List UInt8×List UInt8×Int):Prop:=x.1.length≤reachBytes∧x.2.1.length≤reachBytes
theorem φGV (x:List UInt8×List UInt8×Int) (h:wfD (.pair .str (.pair .str (.int .i64))) x):φ4v x:=⟨h.1,h.2.1⟩
theorem φFb (x:List UInt8×List UInt8×Int) (left:Int) (h0:0≤left) (h1:left≤1048576) (hx:φ4v x):ψ22.f x left=some (szr (φ2M x) left):=by
 unfold φ4v at hx
 have l0:=φ6E hx.1
 have l1:=φ6E hx.2
 unfold ψ22.f szr φ2M
 simp only[Bool.cond_decide]
 rw[φ9 (by omega) (by omega)]
 by_cases c0:left - (x.1.length:Int)<0
 ·simp only[c0,if_true];rw[if_neg (by omega)]
 simp only[c0,if_false]
 rw[φ9 (by omega) (by omega)]
 repeat' split
 all_goals first | rfl | (congr 1;omega) | omega
theorem φDw (l:List (List UInt8×List UInt8×Int)) (left:Int) (h0:0≤left) (h1:left≤1048576) (hx:okL φ4v l):ψ23.f l left=some (szr (φ3Z φ2M l) left):=by
 have hl:=φ6E hx.1
 unfold ψ23.f
 simp only[Bool.cond_decide]
 rw[φ9 (by omega) (by omega)]
 by_cases c:left - (l.length:Int)<0
 ·rw[if_pos c];unfold szr φ3Z;rw[if_neg (by omega)]
 rw[if_neg c,φHN φ2M l (by omega) (fun rec n s hn i0 i1=>?_) (fun rec s=>?_) _ (by omega) (by omega)]
 ·rw[bS];unfold szr φ3Z
  by_cases d:(sumN φ2M l:Int)≤left - l.length
  ·rw[if_pos d,if_pos (by omega)];show some _=some _;congr 1;omega
  ·rw[if_neg d,if_neg (by omega)];rfl
 ·have hb:=hx.2 l[n] (gM hn)
  simp only[ψ23.l0,oL,hn,dT,cT,φ8,φA,φ5 hn,φB (show n+1<9223372036854775808 by omega),φ2V,φFb _ s i0 i1 hb,bS,φ91]
  by_cases d:(φ2M l[n]:Int)≤s
  ·simp only[d,dT,nZ,cF,if_true,φAy d]
  ·simp only[d,dF,nF,cT,if_false]
 ·simp[ψ23.l0]
theorem φGW (x:List UInt8×List UInt8×Int):ψ25.f x=some x:=rfl
theorem φId (l:List (List UInt8×List UInt8×Int)) (hx:okL φ4v l) (hs:l.length≤1048576):ψ26.f l=some l:=by
 have hl:=φ6E hx.1
 unfold ψ26.f
 rw[φDo,φHz (by omega) (by omega)]
 simp only[]
 rw[φF2 l (by omega) (fun rec r n h1 h2=>?_) (fun rec r=>?_) _ (by simp)]
 ·rfl
 ·have h3:n<r.length:=by omega
  simp only[ψ26.l0,oL,h1,h3,dT,cT,φ8,φA,φ5 h1,φB (show n+1<9223372036854775808 by omega),tN,φ2V,φGW,bS]
 ·simp[ψ26.l0]
theorem φDs (x y:List UInt8×List UInt8×Int):ψ1V.f x y=some (decide (x=y)):=by
 obtain ⟨a0,a1,a2⟩:=x
 obtain ⟨b0,b1,b2⟩:=y
 unfold ψ1V.f
 by_cases e0:a0=b0
 rotate_left
 ·have d2:(a0==b0)=false:=by simpa using e0
  have d3:(a0 != b0)=true:=by simpa using e0
  simp[e0,d2,d3]
 by_cases e1:a1=b1
 rotate_left
 ·have d2:(a1==b1)=false:=by simpa using e1
  have d3:(a1 != b1)=true:=by simpa using e1
  simp[e1,d2,d3]
 by_cases e2:a2=b2
 rotate_left
 ·have d2:(a2==b2)=false:=by simpa using e2
  have d3:(a2 != b2)=true:=by simpa using e2
  simp[e2,d2,d3]
 simp[e0,e1,e2]
theorem φDj (a b:List (List UInt8×List UInt8×Int)) (ha:a.length<2 ^ 62):ψ1W.f a b=some (decide (a=b)):=by
 unfold ψ1W.f
 by_cases hl:a.length=b.length
 rotate_left
 ·have:a≠b:=fun h=>hl (by rw[h])
  have h2:((a.length:Int) != (b.length:Int))=true:=by simp;omega
  rw[h2];simp[this]
 have h2:((a.length:Int) != (b.length:Int))=false:=by simp;omega
 rw[h2,cF,φ4o a b hl ha (fun rec n h1 h2=>?_) (fun rec=>?_)]
 ·by_cases e:a=b<;>simp[e,φF]
 ·simp only[ψ1W.l0,oL,h1,h2,dT,cT,φ8,φA,φ5 h1,φ5 h2,φB (show n+1<9223372036854775808 by omega),φ2V,φDs _ _,bS]
  by_cases e:a[n]=b[n]
  ·simp[e]
  ·have e2:(a[n]==b[n])=false:=by simpa using e
   have e3:(a[n] != b[n])=true:=by simpa using e
   simp[e,e2,e3]
 ·simp[ψ1W.l0]
noncomputable def φ5D (k:Int) (x:List UInt8×List UInt8×Int):List UInt8×List UInt8×Int:=(mt k,mt (k+1),k+2)
theorem φEi (l:List (List UInt8×List UInt8×Int)) (k:Int) (hl:l.length<2 ^ 62) (h0:0<k) (h1:k+3 * l.length<1000000000000):ψ1t.f l k=some (k+3 * l.length,φx φ5D 3 l k):=by
 unfold ψ1t.f
 rw[φ5J φ5D 3 l hl (fun rec r k n hr h h0 h1=>?_) (fun rec r k hr=>?_) k h0 h1]
 ·rfl
 ·have hn:n<4611686018427387904:=by omega
  have e1:w64 (k+1)=k+1:=by rw[φ9 (by omega) (by omega)]
  have e2:w64 (k+1+1)=k+2:=by rw[φ9 (by omega) (by omega)];omega
  have e3:w64 (k+2+1)=k+3:=by rw[φ9 (by omega) (by omega)];omega
  simp only[ψ1t.l0,oL,h,dT,cT,φ8,List.length_set,tN,φ3j h,φA,φ5 h,List.set_set,φB (show n+1<9223372036854775808 by omega),e1,e2,e3,φ2e k (by omega) (by omega),φ2e (k+1) (by omega) (by omega),bS]
  rfl
 ·simp[ψ1t.l0,hr]
theorem φFE (l:List (List UInt8×List UInt8×Int)) (k:Int) (hl:l.length<2 ^ 62) (h0:0<k) (h1:k+3 * l.length<1000000000000):ψ1j.f (φx φ5D 3 l k) k=some (k+3 * l.length):=by
 unfold ψ1j.f
 rw[φ5d φ5D 3 l hl (fun rec r k n x h hn0 hx h0 h1=>?_) (fun rec r k=>?_) k h0 h1]
 ·rfl
 ·have hn:n+1<9223372036854775808:=by omega
  have e1:w64 (k+1)=k+1:=by rw[φ9 (by omega) (by omega)]
  have e2:w64 (k+1+1)=k+2:=by rw[φ9 (by omega) (by omega)];omega
  have e3:w64 (k+2+1)=k+3:=by rw[φ9 (by omega) (by omega)];omega
  simp only[ψ1j.l0,oL,h,dT,cT,φ8,φA,φ5 h,hx,φ5D,φB hn,e1,e2,e3,φ2e k (by omega) (by omega),φ2e (k+1) (by omega) (by omega),bS,beq_self_eq_true,nZ,bne_self_eq_false,cF]
  rfl
 ·simp[ψ1j.l0]
theorem φHu (x y:List UInt8×Bool×List UInt8):ψ1Z.f x y=some (decide (x=y)):=by
 obtain ⟨a0,a1,a2⟩:=x
 obtain ⟨b0,b1,b2⟩:=y
 unfold ψ1Z.f
 by_cases e0:a0=b0
 rotate_left
 ·have d2:(a0==b0)=false:=by simpa using e0
  have d3:(a0 != b0)=true:=by simpa using e0
  simp[e0,d2,d3]
 by_cases e1:a1=b1
 rotate_left
 ·have d2:(a1==b1)=false:=by simpa using e1
  have d3:(a1 != b1)=true:=by simpa using e1
  simp[e1,d2,d3]
 by_cases e2:a2=b2
 rotate_left
 ·have d2:(a2==b2)=false:=by simpa using e2
  have d3:(a2 != b2)=true:=by simpa using e2
  simp[e2,d2,d3]
 simp[e0,e1,e2]
theorem φEc (a b:List (List UInt8×Bool×List UInt8)) (ha:a.length<2 ^ 62):ψ1a.f a b=some (decide (a=b)):=by
 unfold ψ1a.f
 by_cases hl:a.length=b.length
 rotate_left
 ·have:a≠b:=fun h=>hl (by rw[h])
  have h2:((a.length:Int) != (b.length:Int))=true:=by simp;omega
  rw[h2];simp[this]
 have h2:((a.length:Int) != (b.length:Int))=false:=by simp;omega
 rw[h2,cF,φ4o a b hl ha (fun rec n h1 h2=>?_) (fun rec=>?_)]
 ·by_cases e:a=b<;>simp[e,φF]
 ·simp only[ψ1a.l0,oL,h1,h2,dT,cT,φ8,φA,φ5 h1,φ5 h2,φB (show n+1<9223372036854775808 by omega),φ2V,φHu _ _,bS]
  by_cases e:a[n]=b[n]
  ·simp[e]
  ·have e2:(a[n]==b[n])=false:=by simpa using e
   have e3:(a[n] != b[n])=true:=by simpa using e
   simp[e,e2,e3]
 ·simp[ψ1a.l0]
noncomputable def φ4Z (k:Int) (x:List UInt8×Bool×List UInt8):List UInt8×Bool×List UInt8:=(mt k,Int.tmod (k+1) 3==0,mt (k+2))
theorem φGl (l:List (List UInt8×Bool×List UInt8)) (k:Int) (hl:l.length<2 ^ 62) (h0:0<k) (h1:k+3 * l.length<1000000000000):ψ1w.f l k=some (k+3 * l.length,φx φ4Z 3 l k):=by
 unfold ψ1w.f
 rw[φ5J φ4Z 3 l hl (fun rec r k n hr h h0 h1=>?_) (fun rec r k hr=>?_) k h0 h1]
 ·rfl
 ·have hn:n<4611686018427387904:=by omega
  have e1:w64 (k+1)=k+1:=by rw[φ9 (by omega) (by omega)]
  have e2:w64 (k+1+1)=k+2:=by rw[φ9 (by omega) (by omega)];omega
  have e3:w64 (k+2+1)=k+3:=by rw[φ9 (by omega) (by omega)];omega
  simp only[ψ1w.l0,oL,h,dT,cT,φ8,List.length_set,tN,φ3j h,φA,φ5 h,List.set_set,φB (show n+1<9223372036854775808 by omega),e1,e2,e3,φ2e k (by omega) (by omega),φ2e (k+2) (by omega) (by omega),bS]
  rfl
 ·simp[ψ1w.l0,hr]
theorem φHy (l:List (List UInt8×Bool×List UInt8)) (k:Int) (hl:l.length<2 ^ 62) (h0:0<k) (h1:k+3 * l.length<1000000000000):ψ1m.f (φx φ4Z 3 l k) k=some (k+3 * l.length):=by
 unfold ψ1m.f
 rw[φ5d φ4Z 3 l hl (fun rec r k n x h hn0 hx h0 h1=>?_) (fun rec r k=>?_) k h0 h1]
 ·rfl
 ·have hn:n+1<9223372036854775808:=by omega
  have e1:w64 (k+1)=k+1:=by rw[φ9 (by omega) (by omega)]
  have e2:w64 (k+1+1)=k+2:=by rw[φ9 (by omega) (by omega)];omega
  have e3:w64 (k+2+1)=k+3:=by rw[φ9 (by omega) (by omega)];omega
  simp only[ψ1m.l0,oL,h,dT,cT,φ8,φA,φ5 h,hx,φ4Z,φB hn,e1,e2,e3,φ2e k (by omega) (by omega),φ2e (k+2) (by omega) (by omega),bS,beq_self_eq_true,nZ,bne_self_eq_false,cF]
  rfl
 ·simp[ψ1m.l0]
theorem φDd (x y:List UInt8×Int):ψ1b.f x y=some (decide (x=y)):=by
 obtain ⟨a0,a1⟩:=x
 obtain ⟨b0,b1⟩:=y
 unfold ψ1b.f
 by_cases e0:a0=b0
 rotate_left
 ·have d2:(a0==b0)=false:=by simpa using e0
  have d3:(a0 != b0)=true:=by simpa using e0
  simp[e0,d2,d3]
 by_cases e1:a1=b1
 rotate_left
 ·have d2:(a1==b1)=false:=by simpa using e1
  have d3:(a1 != b1)=true:=by simpa using e1
  simp[e1,d2,d3]
 simp[e0,e1]
theorem φFo (a b:List (List UInt8×Int)) (ha:a.length<2 ^ 62):ψ1c.f a b=some (decide (a=b)):=by
 unfold ψ1c.f
 by_cases hl:a.length=b.length
 rotate_left
 ·have:a≠b:=fun h=>hl (by rw[h])
  have h2:((a.length:Int) != (b.length:Int))=true:=by simp;omega
  rw[h2];simp[this]
 have h2:((a.length:Int) != (b.length:Int))=false:=by simp;omega
 rw[h2,cF,φ4o a b hl ha (fun rec n h1 h2=>?_) (fun rec=>?_)]
 ·by_cases e:a=b<;>simp[e,φF]
 ·simp only[ψ1c.l0,oL,h1,h2,dT,cT,φ8,φA,φ5 h1,φ5 h2,φB (show n+1<9223372036854775808 by omega),φ2V,φDd _ _,bS]
  by_cases e:a[n]=b[n]
  ·simp[e]
  ·have e2:(a[n]==b[n])=false:=by simpa using e
   have e3:(a[n] != b[n])=true:=by simpa using e
   simp[e,e2,e3]
 ·simp[ψ1c.l0]
noncomputable def φ5B (k:Int) (x:List UInt8×Int):List UInt8×Int:=(mt k,k+1)
theorem φDf (l:List (List UInt8×Int)) (k:Int) (hl:l.length<2 ^ 62) (h0:0<k) (h1:k+2 * l.length<1000000000000):ψ1x.f l k=some (k+2 * l.length,φx φ5B 2 l k):=by
 unfold ψ1x.f
 rw[φ5J φ5B 2 l hl (fun rec r k n hr h h0 h1=>?_) (fun rec r k hr=>?_) k h0 h1]
 ·rfl
 ·have hn:n<4611686018427387904:=by omega
  have e1:w64 (k+1)=k+1:=by rw[φ9 (by omega) (by omega)]
  have e2:w64 (k+1+1)=k+2:=by rw[φ9 (by omega) (by omega)];omega
  simp only[ψ1x.l0,oL,h,dT,cT,φ8,List.length_set,tN,φ3j h,φA,φ5 h,List.set_set,φB (show n+1<9223372036854775808 by omega),e1,e2,φ2e k (by omega) (by omega),bS]
  rfl
 ·simp[ψ1x.l0,hr]
theorem φFR (l:List (List UInt8×Int)) (k:Int) (hl:l.length<2 ^ 62) (h0:0<k) (h1:k+2 * l.length<1000000000000):ψ1n.f (φx φ5B 2 l k) k=some (k+2 * l.length):=by
 unfold ψ1n.f
 rw[φ5d φ5B 2 l hl (fun rec r k n x h hn0 hx h0 h1=>?_) (fun rec r k=>?_) k h0 h1]
 ·rfl
 ·have hn:n+1<9223372036854775808:=by omega
  have e1:w64 (k+1)=k+1:=by rw[φ9 (by omega) (by omega)]
  have e2:w64 (k+1+1)=k+2:=by rw[φ9 (by omega) (by omega)];omega
  simp only[ψ1n.l0,oL,h,dT,cT,φ8,φA,φ5 h,hx,φ5B,φB hn,e1,e2,φ2e k (by omega) (by omega),bS,beq_self_eq_true,nZ,bne_self_eq_false,cF]
  rfl
 ·simp[ψ1n.l0]
theorem φHv (x y:List UInt8×Int×Int×Int×Int):ψ1T.f x y=some (decide (x=y)):=by
 obtain ⟨a0,a1,a2,a3,a4⟩:=x
 obtain ⟨b0,b1,b2,b3,b4⟩:=y
 unfold ψ1T.f
 by_cases e0:a0=b0
 rotate_left
 ·have d2:(a0==b0)=false:=by simpa using e0
  have d3:(a0 != b0)=true:=by simpa using e0
  simp[e0,d2,d3]
 by_cases e1:a1=b1
 rotate_left
 ·have d2:(a1==b1)=false:=by simpa using e1
  have d3:(a1 != b1)=true:=by simpa using e1
  simp[e1,d2,d3]
 by_cases e2:a2=b2
 rotate_left
 ·have d2:(a2==b2)=false:=by simpa using e2
  have d3:(a2 != b2)=true:=by simpa using e2
  simp[e2,d2,d3]
 by_cases e3:a3=b3
 rotate_left
 ·have d2:(a3==b3)=false:=by simpa using e3
  have d3:(a3 != b3)=true:=by simpa using e3
  simp[e3,d2,d3]
 by_cases e4:a4=b4
 rotate_left
 ·have d2:(a4==b4)=false:=by simpa using e4
  have d3:(a4 != b4)=true:=by simpa using e4
  simp[e4,d2,d3]
 simp[e0,e1,e2,e3,e4]
theorem φEk (a b:List (List UInt8×Int×Int×Int×Int)) (ha:a.length<2 ^ 62):ψ1U.f a b=some (decide (a=b)):=by
 unfold ψ1U.f
 by_cases hl:a.length=b.length
 rotate_left
 ·have:a≠b:=fun h=>hl (by rw[h])
  have h2:((a.length:Int) != (b.length:Int))=true:=by simp;omega
  rw[h2];simp[this]
 have h2:((a.length:Int) != (b.length:Int))=false:=by simp;omega
 rw[h2,cF,φ4o a b hl ha (fun rec n h1 h2=>?_) (fun rec=>?_)]
 ·by_cases e:a=b<;>simp[e,φF]
 ·simp only[ψ1U.l0,oL,h1,h2,dT,cT,φ8,φA,φ5 h1,φ5 h2,φB (show n+1<9223372036854775808 by omega),φ2V,φHv _ _,bS]
  by_cases e:a[n]=b[n]
  ·simp[e]
  ·have e2:(a[n]==b[n])=false:=by simpa using e
   have e3:(a[n] != b[n])=true:=by simpa using e
   simp[e,e2,e3]
 ·simp[ψ1U.l0]
noncomputable def φ53 (k:Int) (x:List UInt8×Int×Int×Int×Int):List UInt8×Int×Int×Int×Int:=(mt k,k+1,k+2,k+3,k+4)
theorem φFi (l:List (List UInt8×Int×Int×Int×Int)) (k:Int) (hl:l.length<2 ^ 62) (h0:0<k) (h1:k+5 * l.length<1000000000000):ψ1s.f l k=some (k+5 * l.length,φx φ53 5 l k):=by
 unfold ψ1s.f
 rw[φ5J φ53 5 l hl (fun rec r k n hr h h0 h1=>?_) (fun rec r k hr=>?_) k h0 h1]
 ·rfl
 ·have hn:n<4611686018427387904:=by omega
  have e1:w64 (k+1)=k+1:=by rw[φ9 (by omega) (by omega)]
  have e2:w64 (k+1+1)=k+2:=by rw[φ9 (by omega) (by omega)];omega
  have e3:w64 (k+2+1)=k+3:=by rw[φ9 (by omega) (by omega)];omega
  have e4:w64 (k+3+1)=k+4:=by rw[φ9 (by omega) (by omega)];omega
  have e5:w64 (k+4+1)=k+5:=by rw[φ9 (by omega) (by omega)];omega
  simp only[ψ1s.l0,oL,h,dT,cT,φ8,List.length_set,tN,φ3j h,φA,φ5 h,List.set_set,φB (show n+1<9223372036854775808 by omega),e1,e2,e3,e4,e5,φ2e k (by omega) (by omega),bS]
  rfl
 ·simp[ψ1s.l0,hr]
theorem φDp (l:List (List UInt8×Int×Int×Int×Int)) (k:Int) (hl:l.length<2 ^ 62) (h0:0<k) (h1:k+5 * l.length<1000000000000):ψ1i.f (φx φ53 5 l k) k=some (k+5 * l.length):=by
 unfold ψ1i.f
 rw[φ5d φ53 5 l hl (fun rec r k n x h hn0 hx h0 h1=>?_) (fun rec r k=>?_) k h0 h1]
 ·rfl
 ·have hn:n+1<9223372036854775808:=by omega
  have e1:w64 (k+1)=k+1:=by rw[φ9 (by omega) (by omega)]
  have e2:w64 (k+1+1)=k+2:=by rw[φ9 (by omega) (by omega)];omega
  have e3:w64 (k+2+1)=k+3:=by rw[φ9 (by omega) (by omega)];omega
  have e4:w64 (k+3+1)=k+4:=by rw[φ9 (by omega) (by omega)];omega
  have e5:w64 (k+4+1)=k+5:=by rw[φ9 (by omega) (by omega)];omega
  simp only[ψ1i.l0,oL,h,dT,cT,φ8,φA,φ5 h,hx,φ53,φB hn,e1,e2,e3,e4,e5,φ2e k (by omega) (by omega),bS,beq_self_eq_true,nZ,bne_self_eq_false,cF]
  rfl
 ·simp[ψ1i.l0]
def φ3X (x:List (List UInt8×List UInt8×Int)×Int×Int×Bool):Nat:=φ3Z φ2M x.1
def φ5w (x:List (List UInt8×List UInt8×Int)×Int×Int×Bool):Prop:=okL φ4v x.1
theorem φG0 (x:List (List UInt8×List UInt8×Int)×Int×Int×Bool) (h:wfD (.pair (.sl false (.pair .str (.pair .str (.int .i64)))) (.pair (.int .i64) (.pair (.int .i64) .bool))) x):φ5w x:=⟨h.1.1,fun y hy=>φGV y (h.1.2 y hy)⟩
theorem φGJ (x:List (List UInt8×List UInt8×Int)×Int×Int×Bool) (left:Int) (h0:0≤left) (h1:left≤1048576) (hx:φ5w x):ψ21.f x left=some (szr (φ3X x) left):=by
 unfold φ5w at hx
 unfold ψ21.f φ3X
 rw[φDw (x.1) left (by omega) (by omega) hx,bS,φ91]
 by_cases c0:((φ3Z φ2M x.1:Nat):Int)≤left
 rotate_left
 ·simp only[c0,dF,nF,cT]
  all_goals (unfold szr;rw[if_neg (by omega)])
 simp only[c0,dT,nZ,cF]
 all_goals (rw[φAy c0])
 all_goals (unfold szr;rw[if_pos (by omega)])
 all_goals first | done | (congr 1;omega)
theorem φET (x:List (List UInt8×List UInt8×Int)×Int×Int×Bool) (hx:φ5w x) (hs:φ3X x≤1048576):ψ24.f x=some x:=by
 unfold φ5w at hx
 unfold φ3X at hs
 unfold ψ24.f
 simp only[φId (x.1) hx (by first | omega | (unfold φ3Z at hs;omega)),bS]
def φ6d (x:List (List UInt8×List UInt8×Int)×Int×Int×Bool):Prop:=x.1.length<2 ^ 62
theorem φCv (x y:List (List UInt8×List UInt8×Int)×Int×Int×Bool) (hx:φ6d x):ψ1R.f x y=some (decide (x=y)):=by
 have h0:=hx
 obtain ⟨a0,a1,a2,a3⟩:=x
 obtain ⟨b0,b1,b2,b3⟩:=y
 unfold ψ1R.f
 simp only[φDj a0 b0 h0,bS]
 by_cases e0:a0=b0
 rotate_left
 ·simp[e0]
 by_cases e1:a1=b1
 rotate_left
 ·have d2:(a1==b1)=false:=by simpa using e1
  have d3:(a1 != b1)=true:=by simpa using e1
  simp[e1,d2,d3]
 by_cases e2:a2=b2
 rotate_left
 ·have d2:(a2==b2)=false:=by simpa using e2
  have d3:(a2 != b2)=true:=by simpa using e2
  simp[e2,d2,d3]
 by_cases e3:a3=b3
 rotate_left
 ·have d2:(a3==b3)=false:=by simpa using e3
  have d3:(a3 != b3)=true:=by simpa using e3
  simp[e3,d2,d3]
 simp[e0,e1,e2,e3]
def φ1f (x:List (List UInt8×List UInt8×Int)×Int×Int×Bool):Nat:=3 * x.1.length
noncomputable def φ5X (k:Int) (x:List (List UInt8×List UInt8×Int)×Int×Int×Bool):List (List UInt8×List UInt8×Int)×Int×Int×Bool:=(φx φ5D 3 (x.1) k,x.2.1,x.2.2.1,x.2.2.2)
def φ44 (x:List (List UInt8×List UInt8×Int)×Int×Int×Bool):Prop:=x.1.length<2 ^ 62
theorem φBh (x:List (List UInt8×List UInt8×Int)×Int×Int×Bool) (k:Int) (hx:φ44 x) (h0:0<k) (h1:k+(φ1f x:Nat)<1000000000000):ψ1q.f x k=some (k+(φ1f x:Nat),φ5X k x):=by
 unfold φ44 at hx
 unfold φ1f at h1 ⊢
 unfold ψ1q.f φ5X
 rw[φEi (x.1) k hx (by omega) (by push_cast at h1 ⊢;omega)]
 simp only[bS]
 push_cast
 simp only[Int.add_assoc]
 try rfl
theorem φH5 (x:List (List UInt8×List UInt8×Int)×Int×Int×Bool) (k:Int) (hx:φ44 x) (h0:0<k) (h1:k+(φ1f x:Nat)<1000000000000):ψ1g.f (φ5X k x) k=some (k+(φ1f x:Nat)):=by
 unfold φ44 at hx
 unfold φ1f at h1 ⊢
 unfold ψ1g.f φ5X
 rw[φFE (x.1) k hx (by omega) (by push_cast at h1 ⊢;omega),bS,φ6W (by omega)]
 push_cast
 simp only[Int.add_assoc]
def φ80 (x:Bool×List (List UInt8×Int)×List (List UInt8×Bool×List UInt8)):Prop:=x.2.1.length<2 ^ 62∧x.2.2.length<2 ^ 62
theorem φH7 (x y:Bool×List (List UInt8×Int)×List (List UInt8×Bool×List UInt8)) (hx:φ80 x):ψ1e.f x y=some (decide (x=y)):=by
 obtain ⟨h1,h2⟩:=hx
 obtain ⟨a0,a1,a2⟩:=x
 obtain ⟨b0,b1,b2⟩:=y
 unfold ψ1e.f
 simp only[φFo a1 b1 h1,φEc a2 b2 h2,bS]
 by_cases e0:a0=b0
 rotate_left
 ·have d2:(a0==b0)=false:=by simpa using e0
  have d3:(a0 != b0)=true:=by simpa using e0
  simp[e0,d2,d3]
 by_cases e1:a1=b1
 rotate_left
 ·simp[e1]
 by_cases e2:a2=b2
 rotate_left
 ·simp[e2]
 simp[e0,e1,e2]
theorem φGR (a b:List (Bool×List (List UInt8×Int)×List (List UInt8×Bool×List UInt8))) (ha:a.length<2 ^ 62) (hx:∀x∈a,φ80 x):ψ1f.f a b=some (decide (a=b)):=by
 unfold ψ1f.f
 by_cases hl:a.length=b.length
 rotate_left
 ·have:a≠b:=fun h=>hl (by rw[h])
  have h2:((a.length:Int) != (b.length:Int))=true:=by simp;omega
  rw[h2];simp[this]
 have h2:((a.length:Int) != (b.length:Int))=false:=by simp;omega
 rw[h2,cF,φ4o a b hl ha (fun rec n h1 h2=>?_) (fun rec=>?_)]
 ·by_cases e:a=b<;>simp[e,φF]
 ·simp only[ψ1f.l0,oL,h1,h2,dT,cT,φ8,φA,φ5 h1,φ5 h2,φB (show n+1<9223372036854775808 by omega),φ2V,φH7 _ _ (hx a[n] (gM h1)),bS]
  by_cases e:a[n]=b[n]
  ·simp[e]
  ·have e2:(a[n]==b[n])=false:=by simpa using e
   have e3:(a[n] != b[n])=true:=by simpa using e
   simp[e,e2,e3]
 ·simp[ψ1f.l0]
def φ49 (x:Bool×List (List UInt8×Int)×List (List UInt8×Bool×List UInt8)):Prop:=x.2.1.length<2 ^ 62∧x.2.2.length<2 ^ 62
def φBU (x:Int×List (Int)):Prop:=x.2.length<2 ^ 62
theorem φGF (x y:Int×List (Int)) (hx:φBU x):ψ1Y.f x y=some (decide (x=y)):=by
 have h1:=hx
 obtain ⟨a0,a1⟩:=x
 obtain ⟨b0,b1⟩:=y
 unfold ψ1Y.f
 simp only[φGP a1 b1 h1,bS]
 by_cases e0:a0=b0
 rotate_left
 ·have d2:(a0==b0)=false:=by simpa using e0
  have d3:(a0 != b0)=true:=by simpa using e0
  simp[e0,d2,d3]
 by_cases e1:a1=b1
 rotate_left
 ·simp[e1]
 simp[e0,e1]
def φ2G (x:Int×List (Int)):Nat:=1 * x.2.length
noncomputable def φ5Z (k:Int) (x:Int×List (Int)):Int×List (Int):=(x.1,φx φ4j 1 (x.2) k)
def φ5P (x:Int×List (Int)):Prop:=x.2.length<2 ^ 62
theorem φHS (x:Int×List (Int)) (k:Int) (hx:φ5P x) (h0:0<k) (h1:k+(φ2G x:Nat)<1000000000000):ψ1v.f x k=some (k+(φ2G x:Nat),φ5Z k x):=by
 unfold φ5P at hx
 unfold φ2G at h1 ⊢
 unfold ψ1v.f φ5Z
 rw[φF9 (x.2) k hx (by omega) (by push_cast at h1 ⊢;omega)]
 simp only[bS]
 push_cast
 simp only[Int.add_assoc]
 try rfl
theorem φE3 (x:Int×List (Int)) (k:Int) (hx:φ5P x) (h0:0<k) (h1:k+(φ2G x:Nat)<1000000000000):ψ1l.f (φ5Z k x) k=some (k+(φ2G x:Nat)):=by
 unfold φ5P at hx
 unfold φ2G at h1 ⊢
 unfold ψ1l.f φ5Z
 rw[φFq (x.2) k hx (by omega) (by push_cast at h1 ⊢;omega),bS,φ6W (by omega)]
 push_cast
 simp only[Int.add_assoc]
def φ9a (x:(Int×List (Int))×List (List UInt8×Int×Int×Int×Int)×Int×Int×Int):Prop:=φBU (x.1)∧x.2.1.length<2 ^ 62
theorem φH2 (x y:(Int×List (Int))×List (List UInt8×Int×Int×Int×Int)×Int×Int×Int) (hx:φ9a x):ψ1d.f x y=some (decide (x=y)):=by
 obtain ⟨h0,h1⟩:=hx
 obtain ⟨a0,a1,a2,a3,a4⟩:=x
 obtain ⟨b0,b1,b2,b3,b4⟩:=y
 unfold ψ1d.f
 simp only[φGF a0 b0 h0,φEk a1 b1 h1,bS]
 by_cases e0:a0=b0
 rotate_left
 ·simp[e0]
 by_cases e1:a1=b1
 rotate_left
 ·simp[e1]
 by_cases e2:a2=b2
 rotate_left
 ·have d2:(a2==b2)=false:=by simpa using e2
  have d3:(a2 != b2)=true:=by simpa using e2
  simp[e2,d2,d3]
 by_cases e3:a3=b3
 rotate_left
 ·have d2:(a3==b3)=false:=by simpa using e3
  have d3:(a3 != b3)=true:=by simpa using e3
  simp[e3,d2,d3]
 by_cases e4:a4=b4
 rotate_left
 ·have d2:(a4==b4)=false:=by simpa using e4
  have d3:(a4 != b4)=true:=by simpa using e4
  simp[e4,d2,d3]
 simp[e0,e1,e2,e3,e4]
def φ1J (x:(Int×List (Int))×List (List UInt8×Int×Int×Int×Int)×Int×Int×Int):Nat:=φ2G (x.1)+5 * x.2.1.length
noncomputable def φ5L (k:Int) (x:(Int×List (Int))×List (List UInt8×Int×Int×Int×Int)×Int×Int×Int):(Int×List (Int))×List (List UInt8×Int×Int×Int×Int)×Int×Int×Int:=(φ5Z k (x.1),φx φ53 5 (x.2.1) (k+((φ2G (x.1):Nat):Int)),x.2.2.1,x.2.2.2.1,x.2.2.2.2)
def φ4L (x:(Int×List (Int))×List (List UInt8×Int×Int×Int×Int)×Int×Int×Int):Prop:=φ5P (x.1)∧x.2.1.length<2 ^ 62
theorem φEL (x:(Int×List (Int))×List (List UInt8×Int×Int×Int×Int)×Int×Int×Int) (k:Int) (hx:φ4L x) (h0:0<k) (h1:k+(φ1J x:Nat)<1000000000000):ψ1y.f x k=some (k+(φ1J x:Nat),φ5L k x):=by
 unfold φ4L at hx
 unfold φ1J at h1 ⊢
 unfold ψ1y.f φ5L
 rw[φHS (x.1) k hx.1 (by omega) (by push_cast at h1 ⊢;omega)]
 simp only[bS]
 rw[φFi (x.2.1) (k+((φ2G (x.1):Nat):Int)) hx.2 (by omega) (by push_cast at h1 ⊢;omega)]
 simp only[bS]
 push_cast
 simp only[Int.add_assoc]
 try rfl
theorem φDx (x:(Int×List (Int))×List (List UInt8×Int×Int×Int×Int)×Int×Int×Int) (k:Int) (hx:φ4L x) (h0:0<k) (h1:k+(φ1J x:Nat)<1000000000000):ψ1o.f (φ5L k x) k=some (k+(φ1J x:Nat)):=by
 unfold φ4L at hx
 unfold φ1J at h1 ⊢
 unfold ψ1o.f φ5L
 rw[φE3 (x.1) k hx.1 (by omega) (by push_cast at h1 ⊢;omega),bS,φ6W (by omega)]
 rw[φDp (x.2.1) (k+((φ2G (x.1):Nat):Int)) hx.2 (by omega) (by push_cast at h1 ⊢;omega),bS,φ6W (by omega)]
 push_cast
 simp only[Int.add_assoc]
theorem φ79 {a b:Nat} (h:a≠b):((a:Int) != (b:Int))=true:=by
 have:(a:Int)≠(b:Int):=by omega
 simpa using this
theorem φ6P {a b:Nat} (h:a=b):((a:Int) != (b:Int))=false:=by simp[h]
theorem φ1b (n a b:Int):ψv.f n a b=some (decide (a≤n∧n≤b)):=by
 unfold ψv.f
 by_cases h:a≤n
 ·have h2:n≥a:=h
  simp[h,h2]
 ·have h2:¬n≥a:=h
  simp[h,h2]
theorem φ1n (n a b:Int):ψ2w.f n a b=some (decide (a≤n∧n≤b)):=φ1b n a b
def φ1X (s:List UInt8):Bool:=decide (1≤s.length∧s.length≤8)
theorem φ9C (s:List UInt8):ψL.f s=some (φ1X s):=by
 unfold ψL.f φ1X
 rw[φ1b,bS]
 congr 1
 apply decide_eq_decide.2
 omega
theorem φAt (s:List UInt8):ψ2N.f s=some (φ1X s):=φ9C s
abbrev φG:=List UInt8×Int×Int×Int×Int
abbrev TxnT:=Bool×List (List UInt8×Int)×List (List UInt8×Bool×List UInt8)
theorem φBA {α:Type} {P:List α→Prop} (h0:P []) (hs:∀l x,P l→P (l++[x])):∀l,P l:=by
 have key:∀n (l:List α),l.length=n→P l:=by
  intro n
  induction n with
  | zero=>intro l h;rw[List.eq_nil_of_length_eq_zero h];exact h0
  | succ n ih=>
   intro l h
   have hlt:n<l.length:=by omega
   have e:l.take n++[l[n]]=l:=by
    rw[←κ2 hlt,List.take_of_length_le (by omega)]
   rw[←e]
   exact hs _ _ (ih _ (by simp;omega))
 exact fun l=>key l.length l rfl
theorem φ5h {a:Nat} (h:a<1000000000001):(a+1) * 40≤140737488355328:=by omega
def leK (a b:List UInt8):Bool:=Op.bytesLess a b || a==b
def insB {α:Type} (l:List (List UInt8×α)) (p:List UInt8×α):List (List UInt8×α):=
 let k:=(l.takeWhile fun x=>leK x.1 p.1).length
 l.take k++[p]++l.drop k
def φp {α:Type} (l:List (List UInt8×α)) (key:List UInt8):List (List UInt8×α):=l.filter fun x=>!(x.1==key)
theorem φ8D {α:Type} (l:List (List UInt8×α)) (p:List UInt8×α):(insB l p).length=l.length+1:=by
 have:(l.takeWhile fun x=>leK x.1 p.1).length≤l.length:=(List.takeWhile_sublist _).length_le
 simp only[insB,lA,lT,lD,lC,lN];omega
theorem φCA {α:Type} (l:List (List UInt8×α)) (key:List UInt8):(φp l key).length≤l.length:=List.length_filter_le _ _
theorem φ8x {α:Type} (f:α→Bool):∀(l s:List α),l.foldl (fun s x=>if f x=true then s++[x] else s) s=s++l.filter f
 | [],s=>by simp
 | x::l,s=>by
  rw[κK,φ8x f l,List.filter_cons]
  cases f x<;>simp
theorem φCS {α:Type} (f:α→Bool) (l:List α) (n:Nat) (h:n<l.length):((l.drop n).takeWhile f).length=if f l[n]=true then ((l.drop (n+1)).takeWhile f).length+1 else 0:=by
 rw[dG h,List.takeWhile_cons]
 split<;>simp
theorem dnn {k:Int} (h:0≤k):decide (k<0)=false:=by
 have:¬k<0:=by omega
 simp[this]
theorem φ5s:∀a:List UInt8,Op.bytesLess a a=false
 | []=>rfl
 | x::a=>by simp[Op.bytesLess,φ5s a]
theorem φAT {a b:UInt8}:a<b↔a.toNat<b.toNat:=UInt8.lt_iff_toNat_lt
theorem φG9 {a b:UInt8} (h:a.toNat=b.toNat):a=b:=UInt8.toNat.inj h
theorem φ6h:∀a b c:List UInt8,Op.bytesLess a b=true→Op.bytesLess b c=true→Op.bytesLess a c=true
 | _,[],_,h,_=>by simp[Op.bytesLess] at h
 | _,_::_,[],_,h=>by simp[Op.bytesLess] at h
 | [],_::_,_::_,_,_=>rfl
 | x::a,y::b,z::c,h1,h2=>by
  simp only[Op.bytesLess,Bool.or_eq_true,decide_eq_true_eq,bA,beq_iff_eq] at h1 h2 ⊢
  rcases h1 with h1 | ⟨h1,k1⟩
  ·rcases h2 with h2 | ⟨h2,k2⟩
   ·left;rw[φAT] at *;omega
   ·left;rw[←h2];exact h1
  ·rcases h2 with h2 | ⟨h2,k2⟩
   ·left;rw[h1];exact h2
   ·exact .inr ⟨h1.trans h2,φ6h a b c k1 k2⟩
theorem φAs:∀a b:List UInt8,Op.bytesLess a b=false→a≠b→Op.bytesLess b a=true
 | [],[],_,h=>absurd rfl h
 | [],_::_,h,_=>by simp[Op.bytesLess] at h
 | _::_,[],_,_=>rfl
 | x::a,y::b,h1,h2=>by
  simp only[Op.bytesLess,κF,decide_eq_false_iff_not,Bool.and_eq_false_iff] at h1
  simp only[Op.bytesLess,Bool.or_eq_true,decide_eq_true_eq,bA,beq_iff_eq]
  by_cases e:x=y
  ·subst e
   right
   refine ⟨rfl,φAs a b ?_ fun e=>h2 (by rw[e])⟩
   rcases h1.2 with k | k
   ·simp at k
   ·exact k
  ·left
   rw[φAT] at *
   have:=h1.1
   have hne:x.toNat≠y.toNat:=fun k=>e (φG9 k)
   omega
theorem φCi (a b:List UInt8) (h:Op.bytesLess a b=true):Op.bytesLess b a=false:=by
 cases hb:Op.bytesLess b a with
 | false=>rfl
 | true=>have:=φ6h a b a h hb;rw[φ5s] at this;simp at this
theorem φ9G {a b:List UInt8} (h:Op.bytesLess a b=true):a≠b:=fun e=>by rw[e,φ5s] at h;simp at h
theorem φ6T (a b:List UInt8):leK a b=!Op.bytesLess b a:=by
 unfold leK
 cases h:Op.bytesLess a b with
 | true=>rw[φCi a b h];rfl
 | false=>
  by_cases e:a=b
  ·subst e;simp[h]
  ·rw[φAs a b h e]
   have:(a==b)=false:=by simpa using e
   simp[this]
def φ33 (b:UInt8):Bool:=(decide (97≤b.toNat) && decide (b.toNat≤122)) || (decide (48≤b.toNat) && decide (b.toNat≤57))
def φ22 (s:List UInt8):Bool:=s.all φ33 && decide (1≤s.length∧s.length≤12)
theorem φ3R (s:List UInt8) (n:Nat) (h:n<s.length):bAt s (n:Int)=(s[n].toNat:Int):=by
 unfold bAt
 rw[tN,φ5 h]
theorem φ6J {a:Nat} {k:Nat}:decide ((a:Int)≥(k:Int))=decide (k≤a):=decide_eq_decide.2 (by omega)
theorem φ6o {a:Nat} {k:Nat}:decide ((a:Int)≤(k:Int))=decide (a≤k):=decide_eq_decide.2 (by omega)
theorem φ8y (s:List UInt8) (hl:s.length<2 ^ 62):ψN.f s=some (φ22 s):=by
 have key:=φ58 (step:=ψN.l0) s φ33 (fun n=>(s,(n:Int))) s hl
  (fun rec n h=>by
   have hw:w64 ((n:Int)+1)=((n+1:Nat):Int):=φB (by omega)
   have e1:decide ((s[n].toNat:Int)≥97)=decide (97≤s[n].toNat):=φ6J (k:=97)
   have e2:decide ((s[n].toNat:Int)≤122)=decide (s[n].toNat≤122):=φ6o (k:=122)
   have e3:decide ((s[n].toNat:Int)≥48)=decide (48≤s[n].toNat):=φ6J (k:=48)
   have e4:decide ((s[n].toNat:Int)≤57)=decide (s[n].toNat≤57):=φ6o (k:=57)
   simp only[ψN.l0,oL,h,dT,cT,φ8,φ3R s n h,e1,e2,e3,e4]
   unfold φ33
   cases decide (97≤s[n].toNat)<;>cases decide (s[n].toNat≤122)<;>cases decide (48≤s[n].toNat)<;>cases decide (s[n].toNat≤57)<;>simp[hw])
  (fun rec=>by simp[ψN.l0])
 have key:lp ψN.l0 (s,0)=_:=key
 unfold ψN.f φ22
 rw[key,bS]
 have e:decide ((1:Int)≤(s.length:Int)∧(s.length:Int)≤12)=decide (1≤s.length∧s.length≤12):=decide_eq_decide.2 (by omega)
 cases h:s.all φ33
 ·simp
 ·simp only[if_true,φL,φ1b,bS,e,tA]
theorem φ8w (s:List UInt8) (hl:s.length<2 ^ 62):ψ2P.f s=some (φ22 s):=by
 have key:=φ58 (step:=ψ2P.l0) s φ33 (fun n=>(s,(n:Int))) s hl
  (fun rec n h=>by
   have hw:w64 ((n:Int)+1)=((n+1:Nat):Int):=φB (by omega)
   have e1:decide ((s[n].toNat:Int)≥97)=decide (97≤s[n].toNat):=φ6J (k:=97)
   have e2:decide ((s[n].toNat:Int)≤122)=decide (s[n].toNat≤122):=φ6o (k:=122)
   have e3:decide ((s[n].toNat:Int)≥48)=decide (48≤s[n].toNat):=φ6J (k:=48)
   have e4:decide ((s[n].toNat:Int)≤57)=decide (s[n].toNat≤57):=φ6o (k:=57)
   simp only[ψ2P.l0,oL,h,dT,cT,φ8,φ3R s n h,e1,e2,e3,e4]
   unfold φ33
   cases decide (97≤s[n].toNat)<;>cases decide (s[n].toNat≤122)<;>cases decide (48≤s[n].toNat)<;>cases decide (s[n].toNat≤57)<;>simp[hw])
  (fun rec=>by simp[ψ2P.l0])
 have key:lp ψ2P.l0 (s,0)=_:=key
 unfold ψ2P.f φ22
 rw[key,bS]
 have e:decide ((1:Int)≤(s.length:Int)∧(s.length:Int)≤12)=decide (1≤s.length∧s.length≤12):=decide_eq_decide.2 (by omega)
 cases h:s.all φ33
 ·simp
 ·simp only[if_true,φL,φ1n,bS,e,tA]
abbrev φ4:=List UInt8×List UInt8×Int
abbrev φ2:=List φ4×Int×Int×Bool
def φK (l:List φ4):Nat:=sumN (fun f=>f.2.1.length) l
def φ23 (f:φ4):Bool:=φ22 f.1 && decide (0≤f.2.2∧f.2.2≤(f.2.1.length:Int))
def φ2E:Option (List UInt8)→List φ4→Bool
 | _,[]=>true
 | none,f::r=>φ2E (some f.1) r
 | some p,f::r=>Op.bytesLess p f.1 && φ2E (some f.1) r
def φ4V (l:List φ4):Bool:=l.all φ23 && φ2E none l
def φ6 (d:φ2):Bool:=decide (d.1.length≤130) && (decide (0≤d.2.1∧d.2.1≤100000) && (decide (-1≤d.2.2.1∧d.2.2.1≤100000) && (decide ((φK d.1:Int)≤d.2.1) && φ4V d.1)))
def φ39 (l:List φ4):Nat→Option (List UInt8)
 | 0=>none
 | n+1=>some (l.getD n ([],[],0)).1
def φ4E (p:Option (List UInt8)) (l:List φ4):Bool:=l.all φ23 && φ2E p l
def follows (p:Option (List UInt8)) (f:φ4):Bool:=match p with | none=>true | some q=>Op.bytesLess q f.1
theorem φBs (p:Option (List UInt8)) (f:φ4) (l:List φ4):φ4E p (f::l)=(φ23 f && follows p f && φ4E (some f.1) l):=by
 unfold φ4E follows
 cases p<;>simp only[List.all_cons,φ2E]<;>cases φ23 f<;>simp[Bool.and_comm,Bool.and_assoc,Bool.and_left_comm]
theorem φCe (d:φ2) (hl:d.1.length<2 ^ 62) (hu:φK d.1<2 ^ 62):ψ31.f d=some (φK d.1:Int):=by
 have key:=φO (step:=ψ31.l0) (fun n (s:Int)=>(d,s,(n:Int))) d.1.length (fun n s=>s+(φK (d.1.drop n):Int)) (fun n s=>0≤s∧s+(φK (d.1.drop n):Int)<2 ^ 62)
  (fun rec n s hn hi ih=>by
   rcases κ0 n d.1.length with h | h
   ·have e:φK (d.1.drop n)=d.1[n].2.1.length+φK (d.1.drop (n+1)):=φ6e _ h
    have h2:=hi.2
    have h1:=hi.1
    rw[e] at h2
    simp only[ψ31.l0,oL,h,dT,cT,φ8,φA,φ5 h,φB (show n+1<9223372036854775808 by omega)]
    rw[φ9 (by omega) (by omega),ih _ h ⟨by omega,by omega⟩,e]
    congr 1;omega
   ·have:n=d.1.length:=by omega
    subst this
    simp[ψ31.l0,φK,sumN])
  hl 0 0 (κ5 _) ⟨by omega,by simp only[κE];omega⟩
 have key:lp ψ31.l0 (d,0,0)=_:=key
 unfold ψ31.f
 rw[key];simp
theorem φHA (d:φ2) (hl:d.1.length<2 ^ 62) (hu:φK d.1<2 ^ 62):ψ1A.f d=some (φK d.1:Int):=by
 have key:=φO (step:=ψ1A.l0) (fun n (s:Int)=>(s,d.1,(d.1.length:Int),(n:Int))) d.1.length (fun n s=>s+(φK (d.1.drop n):Int)) (fun n s=>0≤s∧s+(φK (d.1.drop n):Int)<2 ^ 62)
  (fun rec n s hn hi ih=>by
   rcases κ0 n d.1.length with h | h
   ·have e:φK (d.1.drop n)=d.1[n].2.1.length+φK (d.1.drop (n+1)):=φ6e _ h
    have h2:=hi.2
    have h1:=hi.1
    rw[e] at h2
    simp only[ψ1A.l0,oL,h,dT,cT,φ8,φA,φ5 h,φB (show n+1<9223372036854775808 by omega)]
    rw[φ9 (by omega) (by omega),ih _ h ⟨by omega,by omega⟩,e]
    congr 1;omega
   ·have:n=d.1.length:=by omega
    subst this
    simp[ψ1A.l0,φK,sumN])
  hl 0 0 (κ5 _) ⟨by omega,by simp only[κE];omega⟩
 have key:lp ψ1A.l0 (0,d.1,(d.1.length:Int),0)=_:=key
 unfold ψ1A.f
 rw[key];simp
theorem φ6r (l:List φ4) (n:Nat) (h:n<l.length):φ39 l (n+1)=some l[n].1:=by
 show some (l.getD n ([],[],0)).1=_
 rw[φ5 h]
theorem φIF {f:List UInt8} (h:φ22 f=true):f.length≤12:=by
 unfold φ22 at h
 simp only[bA,decide_eq_true_eq] at h
 exact h.2.2
theorem φFc (d:φ2) (hl:d.1.length<2 ^ 62) (hu:φK d.1<2 ^ 62) (hn:∀f∈d.1,f.1.length<2 ^ 62):lp ψ9.l0 (d,0,d.1,(d.1.length:Int),0)=some (if φ4V d.1=true then .inl (d,(φK d.1:Int)) else .inr false):=by
 have key:=φO (step:=ψ9.l0) (fun n (s:Int)=>(d,s,d.1,(d.1.length:Int),(n:Int))) d.1.length (fun n s=>if φ4E (φ39 d.1 n) (d.1.drop n)=true then .inl (d,s+(φK (d.1.drop n):Int)) else .inr false) (fun n s=>0≤s∧s+(φK (d.1.drop n):Int)<2 ^ 62)
  (fun rec n s hn' hi ih=>by
   rcases κ0 n d.1.length with h | h
   ·have e:φK (d.1.drop n)=d.1[n].2.1.length+φK (d.1.drop (n+1)):=φ6e _ h
    have h2:=hi.2
    have h1:=hi.1
    rw[e] at h2
    have hw:w64 ((n:Int)+1)=((n+1:Nat):Int):=φB (by omega)
    have hw2:w64 (s+(d.1[n].2.1.length:Int))=s+(d.1[n].2.1.length:Int):=φ9 (by omega) (by omega)
    have ih2:=ih (s+(d.1[n].2.1.length:Int)) h ⟨by omega,by omega⟩
    have ea:s+(d.1[n].2.1.length:Int)+(φK (d.1.drop (n+1)):Int)=s+((d.1[n].2.1.length+φK (d.1.drop (n+1)):Nat):Int):=by omega
    rw[φ6r d.1 n h,ea] at ih2
    have hnm:=hn d.1[n] (gM h)
    rw[dG h,φBs,←dG h,e]
    simp only[ψ9.l0,oL,h,dT,cT,φ8,φA,φ5 h,φ8y _ hnm,bS,φ1b]
    unfold φ23
    rcases bE (φ22 d.1[n].1) with k1 | k1
    rotate_left
    ·simp[k1]
    rcases bE (decide (0≤d.1[n].2.2∧d.1[n].2.2≤(d.1[n].2.1.length:Int))) with k2 | k2
    rotate_left
    ·simp only[k1,k2,nZ,nF,cF,cT,bS,φS];simp
    simp only[k1,k2,nZ,cF,tA]
    cases n with
    | zero=>
     have z:¬((0:Nat):Int) > 0:=by omega
     simp only[z,dF,cF,bS,φL,hw2,hw,ih2,φ39,follows,tA]
    | succ m=>
     have z:((m+1:Nat):Int) > 0:=by omega
     have hm:m<d.1.length:=by omega
     have z2:w64 (((m+1:Nat):Int) - 1)=(m:Int):=by rw[φ9 (by omega) (by omega)];omega
     rw[φ6r d.1 m hm]
     simp only[z,dT,cT,z2,φ8,hm,φA,φ5 hm,follows]
     rcases bE (Op.bytesLess d.1[m].1 d.1[m+1].1) with k3 | k3
     ·simp only[k3,nZ,cF,bS,φL,hw2,hw,ih2,tA]
     ·simp[k3]
   ·have:n=d.1.length:=by omega
    subst this
    simp[ψ9.l0,φ4E,φ2E,φK,sumN])
  hl 0 0 (κ5 _) ⟨by omega,by simp only[κE];omega⟩
 have key:lp ψ9.l0 (d,0,d.1,(d.1.length:Int),0)=_:=key
 rw[key,κE,Int.zero_add];rfl
theorem φHk (d:φ2) (hl:d.1.length<2 ^ 62) (hn:∀f∈d.1,f.1.length<2 ^ 62):lp ψ2E.l0 (d,0)=some (if φ4V d.1=true then .inl () else .inr false):=by
 have key:=φO (step:=ψ2E.l0) (fun n (_:Unit)=>(d,(n:Int))) d.1.length (fun n _=>if φ4E (φ39 d.1 n) (d.1.drop n)=true then .inl () else .inr false) (fun _ _=>True)
  (fun rec n s hn' _ ih=>by
   rcases κ0 n d.1.length with h | h
   ·have hw:w64 ((n:Int)+1)=((n+1:Nat):Int):=φB (by omega)
    have ih2:=ih () h trivial
    rw[φ6r d.1 n h] at ih2
    have hnm:=hn d.1[n] (gM h)
    rw[dG h,φBs]
    simp only[ψ2E.l0,oL,h,dT,cT,φ8,φA,φ5 h,φ8w _ hnm,bS,φ1n]
    unfold φ23
    rcases bE (φ22 d.1[n].1) with k1 | k1
    rotate_left
    ·simp[k1]
    rcases bE (decide (0≤d.1[n].2.2∧d.1[n].2.2≤(d.1[n].2.1.length:Int))) with k2 | k2
    rotate_left
    ·simp only[k1,k2,nZ,nF,cF,cT,bS,φS];simp
    simp only[k1,k2,nZ,cF,tA]
    cases n with
    | zero=>
     have z:¬((0:Nat):Int) > 0:=by omega
     simp only[z,dF,cF,bS,φL,hw,ih2,φ39,follows,tA]
    | succ m=>
     have z:((m+1:Nat):Int) > 0:=by omega
     have hm:m<d.1.length:=by omega
     have z2:w64 (((m+1:Nat):Int) - 1)=(m:Int):=by rw[φ9 (by omega) (by omega)];omega
     have z3:(Op.bytesLess d.1[m+1].1 d.1[m].1 || d.1[m+1].1==d.1[m].1)=!Op.bytesLess d.1[m].1 d.1[m+1].1:=φ6T _ _
     rw[φ6r d.1 m hm]
     simp only[z,dT,cT,z2,φ8,hm,φA,φ5 hm,follows,z3]
     rcases bE (Op.bytesLess d.1[m].1 d.1[m+1].1) with k3 | k3
     ·simp only[k3,nZ,cF,bS,φL,hw,ih2,tA]
     ·simp[k3]
   ·have:n=d.1.length:=by omega
    subst this
    simp[ψ2E.l0,φ4E,φ2E])
  hl 0 () (κ5 _) trivial
 have key:lp ψ2E.l0 (d,0)=_:=key
 rw[key,κE];rfl
def dlim (d:φ2):Prop:=d.1.length<1000000000∧φK d.1<1000000000000∧∀f∈d.1,f.1.length<1000000000000
theorem φ7J (d:φ2) (h:dlim d):ψ9.f d=some (φ6 d):=by
 obtain ⟨h1,h2,h3⟩:=h
 unfold ψ9.f φ6
 have e1:decide ((d.1.length:Int) > 130)=!decide (d.1.length≤130):=by
  by_cases c:d.1.length≤130
  ·have:¬(d.1.length:Int) > 130:=by omega
   simp[c,this]
  ·have:(d.1.length:Int) > 130:=by omega
   simp[c,this]
 rw[e1,φ1b,φ1b,φFc d (by omega) (by omega) fun f hf=>by have:=h3 f hf;omega]
 cases decide (d.1.length≤130)
 ·rfl
 ·simp only[nZ,cF,bS,tA]
  cases decide (0≤d.2.1∧d.2.1≤100000)
  ·rfl
  ·simp only[nZ,cF,bS,tA]
   cases decide (-1≤d.2.2.1∧d.2.2.1≤100000)
   ·rfl
   ·cases φ4V d.1<;>simp
theorem φ5H (d:φ2) (h:dlim d):ψ2E.f d=some (φ6 d):=by
 obtain ⟨h1,h2,h3⟩:=h
 unfold ψ2E.f φ6
 have e1:decide ((d.1.length:Int) > 130)=!decide (d.1.length≤130):=by
  by_cases c:d.1.length≤130
  ·have:¬(d.1.length:Int) > 130:=by omega
   simp[c,this]
  ·have:(d.1.length:Int) > 130:=by omega
   simp[c,this]
 have e2:decide ((φK d.1:Int) > d.2.1)=!decide ((φK d.1:Int)≤d.2.1):=by
  by_cases c:(φK d.1:Int)≤d.2.1
  ·have:¬(φK d.1:Int) > d.2.1:=by omega
   simp[c,this]
  ·have:(φK d.1:Int) > d.2.1:=by omega
   simp[c,this]
 rw[e1,φ1n,φ1n,φCe d (by omega) (by omega),φHk d (by omega) fun f hf=>by have:=h3 f hf;omega]
 cases decide (d.1.length≤130)
 ·rfl
 ·simp only[nZ,cF,bS,tA]
  cases decide (0≤d.2.1∧d.2.1≤100000)
  ·rfl
  ·simp only[nZ,cF,bS,tA]
   cases decide (-1≤d.2.2.1∧d.2.2.1≤100000)
   ·rfl
   ·simp only[nZ,cF,bS,tA,e2]
    cases decide ((φK d.1:Int)≤d.2.1)
    ·rfl
    ·cases φ4V d.1<;>simp
theorem φ8r (d:φ2) (h:d.1.length<1000000000000):ψq.f d=some d:=by
 unfold ψq.f
 have:(([]:List φ4).length+d.1.length) * 40≤140737488355328:=by simp;omega
 simp only[this,dT,cT,κG]
theorem φ5S (d:φ2) (h:d.1.length<1000000000000):ψ2y.f d=some d:=φ8r d h
def φ1P (l:List φ4) (name:List UInt8):Int:=match l.findIdx? (fun f=>f.1==name) with | some i=>(i:Int) | none=>-1
theorem φDQ {A B:Type} {step:(A→Option (B ⊕ Int))→A→Option (B ⊕ Int)} (l:List φ4) (name:List UInt8) (st:Nat→A) (b:B) (hl:l.length<2 ^ 62)
  (hs:∀rec n,(h:n<l.length)→step rec (st n)=if (l[n].1==name)=true then some (.inr (n:Int)) else rec (st (n+1)))
  (he:∀rec,step rec (st l.length)=some (.inl b)):lp step (st 0)=some (match l.findIdx? (fun f=>f.1==name) with | some i=>.inr (i:Int) | none=>.inl b):=by
 have:=φO (step:=step) (fun n (_:Unit)=>st n) l.length (fun n _=>match (l.drop n).findIdx? (fun f=>f.1==name) with | some i=>.inr ((n+i:Nat):Int) | none=>.inl b) (fun _ _=>True)
  (fun rec n s hn _ ih=>by
   rcases κ0 n l.length with h | h
   ·rw[hs rec n h,ih () h trivial,dG h,List.findIdx?_cons]
    cases hf:l[n].1==name
    ·simp only[κ1,if_false]
     cases List.findIdx? (fun f=>f.1==name) (l.drop (n+1)) with
     | none=>rfl
     | some i=>simp only[Option.map_some];congr 2;omega
    ·simp
   ·have:n=l.length:=by omega
    subst this
    rw[he];simp) hl 0 () (κ5 _) trivial
 simpa using this
theorem φ3Q (d:φ2) (name:List UInt8) (hl:d.1.length<2 ^ 62):ψr.f d name=some (φ1P d.1 name):=by
 have hk:=φDQ (step:=ψr.l0) d.1 name (fun n=>(name,d.1,(d.1.length:Int),(n:Int))) () hl
  (fun rec n h=>by
   simp only[ψr.l0,oL,h,dT,cT,φ8,φA,φ5 h,φB (show n+1<9223372036854775808 by omega)]
   cases d.1[n].1==name<;>simp)
  (fun rec=>by simp[ψr.l0])
 have hk:lp ψr.l0 (name,d.1,(d.1.length:Int),0)=_:=hk
 unfold ψr.f φ1P
 rw[hk,bS]
 cases List.findIdx? (fun f=>f.1==name) d.1<;>rfl
theorem φ3A (d:φ2) (name:List UInt8) (hl:d.1.length<2 ^ 62):ψ2z.f d name=some (φ1P d.1 name):=by
 have hk:=φDQ (step:=ψ2z.l0) d.1 name (fun n=>(name,d,(n:Int))) () hl
  (fun rec n h=>by
   simp only[ψ2z.l0,oL,h,dT,cT,φ8,φA,φ5 h,φB (show n+1<9223372036854775808 by omega)]
   cases d.1[n].1==name<;>simp)
  (fun rec=>by simp[ψ2z.l0])
 have hk:lp ψ2z.l0 (name,d,0)=_:=hk
 unfold ψ2z.f φ1P
 rw[hk,bS]
 cases List.findIdx? (fun f=>f.1==name) d.1<;>rfl
theorem φt (l:List φ4) (name:List UInt8):(φ1P l name=-1∧∀f∈l,f.1≠name)∨∃i:Nat,∃h:i<l.length,φ1P l name=(i:Int)∧l[i].1=name:=by
 unfold φ1P
 cases hf:List.findIdx? (fun f=>f.1==name) l with
 | none=>
  left
  refine ⟨rfl,fun f hm=>?_⟩
  have:=List.findIdx?_eq_none_iff.1 hf f hm
  simpa using this
 | some i=>
  right
  obtain ⟨h,h1,_⟩:=List.findIdx?_eq_some_iff_getElem.1 hf
  exact ⟨i,h,rfl,by simpa using h1⟩
def tick (d:φ2):φ2:=if d.2.2.1 > 0 then (d.1,d.2.1,d.2.2.1 - 1,d.2.2.2) else d
def φZ (d:φ2) (act:List φ4→Int×List φ4):φ2×Int:=
 if φ6 d=false then (d,5) else if d.2.2.2=true∨d.2.2.1=0 then ((d.1,d.2.1,d.2.2.1,true),1)
 else (((act d.1).2,(tick d).2),(act d.1).1)
theorem φ69 {d:φ2} (h:φ6 d=true):-1≤d.2.2.1∧d.2.2.1≤100000∧d.1.length≤130:=by
 unfold φ6 at h
 simp only[bA,decide_eq_true_eq] at h
 omega
theorem φr (d:φ2):(tick d).1=d.1:=by unfold tick;split<;>rfl
theorem φI1 (d:φ2) (h:dlim d):ψ2x.f d=some (if φ6 d=false then (d,5) else if d.2.2.2=true∨d.2.2.1=0 then ((d.1,d.2.1,d.2.2.1,true),1) else (tick d,0)):=by
 unfold ψ2x.f
 rw[φ5S d (by have:=h.1;omega),φ5H d h]
 simp only[bS]
 rcases bE (φ6 d) with k | k
 ·have hf:=φ69 k
  rcases bE d.2.2.2 with k2 | k2
  ·simp[k,k2]
  ·by_cases k3:d.2.2.1=0
   ·simp[k,k2,k3]
   ·have k4:(d.2.2.1==0)=false:=by simpa using k3
    unfold tick
    by_cases k5:d.2.2.1 > 0
    ·simp[k,k2,k3,k4,k5,φ9 (show -9223372036854775808≤d.2.2.1 - 1 by omega) (by omega)]
    ·simp[k,k2,k3,k4,k5]
 ·simp[k]
theorem φ4h {C:Type} (d:φ2) (h:dlim d) (c:C) (does:C→φ2→Option (Int×φ2)) (act:List φ4→Int×List φ4) (hd:φ6 d=true→does c (tick d)=some ((act d.1).1,(act d.1).2,(tick d).2)) :
  ((ψq.f d).bind fun t1=>(ψ9.f d).bind fun t2=>
   bif !t2 then some (t1,5) else
   bif d.2.2.2 then some ((t1.1,t1.2.1,t1.2.2.1,true),1) else
   bif d.2.2.1==0 then some ((t1.1,t1.2.1,t1.2.2.1,true),1) else
   (bif decide (d.2.2.1 > 0) then let y3:=w64 (t1.2.2.1 - 1);some (c,(([],0,0,false):φ2),(t1.1,t1.2.1,y3,t1.2.2.2)) else some (c,([],0,0,false),t1):Option (C×φ2×φ2)).bind fun (x1,x4,x6)=>
   (does x1 x6).bind fun (t4_0,t4_1)=>some (t4_1,t4_0))=some (φZ d act):=by
 rw[φ8r d (by have:=h.1;omega),φ7J d h]
 simp only[bS]
 unfold φZ
 rcases bE (φ6 d) with k | k
 ·have hf:=φ69 k
  have hd:=hd k
  rcases bE d.2.2.2 with k2 | k2
  ·simp[k,k2]
  ·by_cases k3:d.2.2.1=0
   ·simp[k,k2,k3]
   ·have k4:(d.2.2.1==0)=false:=by simpa using k3
    have e:(bif decide (d.2.2.1 > 0) then some (c,(([],0,0,false):φ2),((d.1,d.2.1,w64 (d.2.2.1 - 1),d.2.2.2):φ2)) else some (c,([],0,0,false),d))=some (c,([],0,0,false),tick d):=by
     unfold tick
     by_cases k5:d.2.2.1 > 0
     ·simp[k5,φ9 (show -9223372036854775808≤d.2.2.1 - 1 by omega) (by omega)]
     ·simp[k5]
    simp only[k,k4,nZ,cF,e,bS,hd]
    simp[k2,k3]
 ·simp[k]
theorem φ2B {l:List φ4} {i:Nat} (h:i<l.length):inB (i:Int) l.length=true:=by simp[h]
theorem φ2O {l:List φ4} {i:Nat} (h:i<l.length):rdA ([],[],0) l (i:Int)=l[i]:=by rw[φA,φ5 h]
theorem φFA {d:φ2} (h:dlim d):dlim (tick d):=by unfold dlim;rw[φr];exact h
def φ2k (name:List UInt8) (l:List φ4):Int×List φ4:=
 match l.findIdx? (fun f=>f.1==name) with
 | some i=>(0,l.set i ((l.getD i ([],[],0)).1,(l.getD i ([],[],0)).2.1,((l.getD i ([],[],0)).2.1.length:Int)))
 | none=>(3,l)
theorem φy {l:List φ4} {name:List UInt8} (h:φ1P l name=-1):l.findIdx? (fun f=>f.1==name)=none:=by
 unfold φ1P at h
 cases e:l.findIdx? (fun f=>f.1==name) with
 | none=>rfl
 | some i=>rw[e] at h;simp only at h;omega
theorem φv {l:List φ4} {name:List UInt8} {i:Nat} (h:φ1P l name=(i:Int)):l.findIdx? (fun f=>f.1==name)=some i:=by
 unfold φ1P at h
 cases e:l.findIdx? (fun f=>f.1==name) with
 | none=>rw[e] at h;simp only at h;omega
 | some j=>rw[e] at h;simp only at h;congr 1;omega
theorem φHx (d:φ2) (name:List UInt8) (h:d.1.length<2 ^ 62):ψk.f d name=some ((φ2k name d.1).1,(φ2k name d.1).2,d.2):=by
 unfold ψk.f φ2k
 rw[φ3Q d name h,bS]
 rcases φt d.1 name with ⟨e,_⟩ | ⟨i,hi,e,_⟩
 ·rw[e,φy e];rfl
 ·rw[e,φv e]
  simp only[dnn (show (0:Int)≤(i:Int) by omega),cF,φ2B hi,cT,φ2O hi,tN,φ5 hi]
theorem φF0 (d:φ2) (name:List UInt8) (h:dlim d):ψj.f d name=some (φZ d (φ2k name)):=by
 have hs:ψ16.f d name=some (φZ d (φ2k name)):=φ4h d h name (fun n x=>ψk.f x n) (φ2k name) fun _=>by
  show ψk.f (tick d) name=_
  rw[φHx (tick d) name (by rw[φr];have:=h.1;omega),φr]
 unfold ψj.f
 rw[hs];rfl
theorem φ4q (d:φ2) (h:dlim d):(∃(x:φ2) (c:Int),ψ2x.f d=some (x,c)∧(c != 0)=true∧∀act,φZ d act=(x,c)) ∨
  (φ6 d=true∧ψ2x.f d=some (tick d,0)∧∀act,φZ d act=(((act d.1).2,(tick d).2),(act d.1).1)):=by
 rw[φI1 d h]
 unfold φZ
 rcases bE (φ6 d) with k | k
 ·by_cases k2:d.2.2.2=true∨d.2.2.1=0
  ·left
   refine ⟨(d.1,d.2.1,d.2.2.1,true),1,?_,?_,fun act=>?_⟩
   ·rw[if_neg (by simp[k]),if_pos k2]
   ·rfl
   ·rw[if_neg (by simp[k]),if_pos k2]
  ·right
   refine ⟨k,?_,fun act=>?_⟩
   ·rw[if_neg (by simp[k]),if_neg k2]
   ·rw[if_neg (by simp[k]),if_neg k2]
 ·left
  refine ⟨d,5,?_,?_,fun act=>?_⟩
  ·rw[if_pos k]
  ·rfl
  ·rw[if_pos k]
theorem φBr (d:φ2) (name:List UInt8) (h:dlim d):ψ2k.f d name=some (φZ d (φ2k name)):=by
 have hl:d.1.length<2 ^ 62:=by have:=h.1;omega
 unfold ψ2k.f
 rcases φ4q d h with ⟨x,c,e1,e2,e3⟩ | ⟨k,e1,e3⟩
 ·rw[e1,e3,bS];simp only[e2,cT]
 rw[e1,e3,bS]
 simp only[bne_self_eq_false,cF,φ3A d name hl,bS]
 unfold φ2k
 rcases φt d.1 name with ⟨e,_⟩ | ⟨i,hi,e,_⟩
 ·rw[e,φy e]
  show some (tick d,3)=some ((d.1,(tick d).2),3)
  rw[←φr d]
 ·rw[e,φv e]
  have ht:i<(tick d).1.length:=by rw[φr];exact hi
  simp only[dnn (show (0:Int)≤(i:Int) by omega),cF,φ2B hi,φ2B ht,cT,φ2O hi,φ2O ht,tN,φ5 hi]
  simp only[φr]
def φW (l:List φ4) (i:Nat):List φ4:=l.take i++l.drop (i+1)
theorem φ7Z {l:List φ4} {i:Nat} (h:i<l.length):(φW l i).length=l.length - 1:=by
 unfold φW
 rw[lA,lT,lD];omega
def φ1H (l:List φ4) (name:List UInt8):List φ4:=
 match l.findIdx? (fun f=>f.1==name) with
 | some i=>φW l i
 | none=>l
theorem φ9M (l:List φ4) (name:List UInt8):(φ1H l name).length≤l.length:=by
 unfold φ1H
 cases e:l.findIdx? (fun f=>f.1==name) with
 | none=>exact κ7 _
 | some i=>
  obtain ⟨h,_⟩:=List.findIdx?_eq_some_iff_getElem.1 e
  have:=φ7Z h
  simp only;omega
theorem φCr (l:List φ4) (i:Nat) (h:i<l.length) (hl:l.length<1000000000000) {β:Type} (K:List φ4→Option β) :
  (bif (decide (0≤(i:Int)) && decide ((i:Int)≤(l.length:Int))) then
   bif decide ((([]:List φ4).length+(l.take (i:Int).toNat).length) * 40≤140737488355328) then
   bif (decide (0≤w64 ((i:Int)+1)) && decide (w64 ((i:Int)+1)≤(l.length:Int))) then
   bif decide (((([]:List φ4)++(l.take (i:Int).toNat)).length+(l.drop ((w64 ((i:Int)+1)).toNat)).length) * 40≤140737488355328) then
   K ((([]:List φ4)++(l.take (i:Int).toNat))++(l.drop ((w64 ((i:Int)+1)).toNat))) else none else none else none else none)=K (φW l i):=by
 have hw:w64 ((i:Int)+1)=((i+1:Nat):Int):=φB (by omega)
 rw[hw]
 have c1:(decide (0≤(i:Int)) && decide ((i:Int)≤(l.length:Int)))=true:=by simp;omega
 have c2:(decide (0≤((i+1:Nat):Int)) && decide (((i+1:Nat):Int)≤(l.length:Int)))=true:=by simp;omega
 have c3:(l.take i).length * 40≤140737488355328:=by rw[lT];omega
 have c4:((l.take i).length+(l.drop (i+1)).length) * 40≤140737488355328:=by rw[lT,lD];omega
 simp only[tN,κG,lN,κQ,c1,c2]
 simp only[c3,c4,dT,cT];rfl
theorem φ8i (d:φ2) (name:List UInt8) (h:d.1.length<1000000000):ψA.f d name=some (φ1H d.1 name,d.2):=by
 unfold ψA.f φ1H
 rw[φ3Q d name (by omega),bS]
 rcases φt d.1 name with ⟨e,_⟩ | ⟨i,hi,e,_⟩
 ·rw[e,φy e];rfl
 ·rw[e,φv e]
  have c:(i:Int)≥0:=by omega
  simp only[c,dT,cT]
  exact φCr d.1 i hi (by omega) fun l=>some (l,d.2)
theorem φ9R (l:List φ4) (i:Nat) (hi:i<l.length) (h:l.length<1000000000):ψ32.f l (i:Int)=some (φW l i):=by
 unfold ψ32.f
 exact φCr l i hi (by omega) fun l=>some l
def φ2h (name:List UInt8) (l:List φ4):Int×List φ4:=
 match l.findIdx? (fun f=>f.1==name) with
 | some i=>(0,φW l i)
 | none=>(3,l)
theorem φF5 (d:φ2) (name:List UInt8) (h:d.1.length<1000000000):ψZ.f d name=some ((φ2h name d.1).1,(φ2h name d.1).2,d.2):=by
 unfold ψZ.f φ2h
 rw[φ3Q d name (by omega),bS,φ8i d name h]
 unfold φ1H
 rcases φt d.1 name with ⟨e,_⟩ | ⟨i,hi,e,_⟩
 ·rw[e,φy e];rfl
 ·rw[e,φv e]
  simp only[dnn (show (0:Int)≤(i:Int) by omega),cF,bS]
theorem φIZ (d:φ2) (name:List UInt8) (h:dlim d):ψY.f d name=some (φZ d (φ2h name)):=by
 have hs:ψ14.f d name=some (φZ d (φ2h name)):=φ4h d h name (fun n x=>ψZ.f x n) (φ2h name) fun _=>by
  show ψZ.f (tick d) name=_
  rw[φF5 (tick d) name (by rw[φr];exact h.1),φr]
 unfold ψY.f
 rw[hs];rfl
theorem φBo (d:φ2) (name:List UInt8) (h:dlim d):ψ2b.f d name=some (φZ d (φ2h name)):=by
 have hl:=h.1
 unfold ψ2b.f
 rcases φ4q d h with ⟨x,c,e1,e2,e3⟩ | ⟨k,e1,e3⟩
 ·rw[e1,e3,bS];simp only[e2,cT]
 rw[e1,e3,bS]
 simp only[bne_self_eq_false,cF,φ3A d name (show d.1.length<2 ^ 62 by omega),bS]
 unfold φ2h
 rcases φt d.1 name with ⟨e,_⟩ | ⟨i,hi,e,_⟩
 ·rw[e,φy e]
  show some (tick d,3)=some ((d.1,(tick d).2),3)
  rw[←φr d]
 ·rw[e,φv e]
  simp only[dnn (show (0:Int)≤(i:Int) by omega),cF,φr,φ9R d.1 i hi hl,bS]
def φ2X (name:List UInt8) (n:Int) (l:List φ4):Int×List φ4:=
 match l.findIdx? (fun f=>f.1==name) with
 | some i=>if 0≤n∧n≤((l.getD i ([],[],0)).2.1.length:Int) then
   (0,l.set i ((l.getD i ([],[],0)).1,(l.getD i ([],[],0)).2.1.take n.toNat,if n<(l.getD i ([],[],0)).2.2 then n else (l.getD i ([],[],0)).2.2))
  else (5,l)
 | none=>(3,l)
theorem φGL (d:φ2) (name:List UInt8) (n:Int) (h:d.1.length<1000000000):ψm.f d name n=some ((φ2X name n d.1).1,(φ2X name n d.1).2,d.2):=by
 unfold ψm.f φ2X
 rw[φ3Q d name (by omega),bS]
 rcases φt d.1 name with ⟨e,_⟩ | ⟨i,hi,e,_⟩
 ·rw[e,φy e];rfl
 ·rw[e,φv e]
  simp only[dnn (show (0:Int)≤(i:Int) by omega),cF,φ2B hi,cT,φ2O hi,φ1b,bS,φ5 hi]
  by_cases c:0≤n∧n≤(d.1[i].2.1.length:Int)
  ·have c2:(decide (0≤n) && decide (n≤(d.1[i].2.1.length:Int)))=true:=by simp[c.1,c.2]
   simp only[c,c2,dT,nZ,cF,cT,tN,φ3j hi,List.set_set,if_true,and_self,Bool.and_self]
  ·simp[c]
theorem φDc (d:φ2) (name:List UInt8) (n:Int) (h:dlim d):ψl.f d name n=some (φZ d (φ2X name n)):=by
 have hs:ψ17.f d (name,n)=some (φZ d (φ2X name n)):=φ4h d h (name,n) (fun c x=>ψm.f x c.1 c.2) (φ2X name n) fun _=>by
  show ψm.f (tick d) name n=_
  rw[φGL (tick d) name n (by rw[φr];exact h.1),φr]
 unfold ψl.f
 rw[hs];rfl
theorem φF4 (d:φ2) (name:List UInt8) (n:Int) (h:dlim d):ψ2l.f d name n=some (φZ d (φ2X name n)):=by
 have hl:=h.1
 unfold ψ2l.f
 rcases φ4q d h with ⟨x,c,e1,e2,e3⟩ | ⟨k,e1,e3⟩
 ·rw[e1,e3,bS];simp only[e2,cT]
 rw[e1,e3,bS]
 simp only[bne_self_eq_false,cF,φ3A d name (show d.1.length<2 ^ 62 by omega),bS]
 unfold φ2X
 rcases φt d.1 name with ⟨e,_⟩ | ⟨i,hi,e,_⟩
 ·rw[e,φy e]
  show some (tick d,3)=some ((d.1,(tick d).2),3)
  rw[←φr d]
 ·rw[e,φv e]
  have ht:i<(tick d).1.length:=by rw[φr];exact hi
  simp only[dnn (show (0:Int)≤(i:Int) by omega),cF,φ2B hi,φ2B ht,cT,φ2O hi,φ2O ht,φ1n,bS,φ5 hi]
  simp only[φr]
  by_cases c:0≤n∧n≤(d.1[i].2.1.length:Int)
  ·have c2:(decide (0≤n) && decide (n≤(d.1[i].2.1.length:Int)))=true:=by simp[c.1,c.2]
   have hs:∀v:φ4,inB (i:Int) (d.1.set i v).length=true:=fun v=>by rw[List.length_set];exact φ2B hi
   simp only[c,c2,dT,nZ,cF,cT,tN,hs,φ3j hi,List.set_set,if_true,and_self,Bool.and_self]
  ·have e5:(5:Int)=5:=rfl
   simp only[c,dF,nF,cT,if_false]
   rw[←φr d]
def φ2z (cap:Int) (name text:List UInt8) (l:List φ4):Int×List φ4:=
 match l.findIdx? (fun f=>f.1==name) with
 | some i=>if (text.length:Int) > cap - (φK l:Int) then (2,l) else
   (0,l.set i ((l.getD i ([],[],0)).1,(l.getD i ([],[],0)).2.1++text,(l.getD i ([],[],0)).2.2))
 | none=>(3,l)
theorem φ9q {l:List φ4} {f:φ4} (h:f∈l):f.2.1.length≤φK l:=φ9b (fun f=>f.2.1.length) h
theorem φ8G {d:φ2} (h:φ6 d=true):0≤d.2.1∧d.2.1≤100000∧(φK d.1:Int)≤d.2.1:=by
 unfold φ6 at h
 simp only[bA,decide_eq_true_eq] at h
 omega
theorem φ7X (d:φ2):(tick d).2.1=d.2.1:=by unfold tick;split<;>rfl
theorem φIY (d:φ2) (name text:List UInt8) (h:dlim d) (hc:0≤d.2.1∧d.2.1≤100000) (ht:text.length<1000000000000):ψ1.f d name text=some ((φ2z d.2.1 name text d.1).1,(φ2z d.2.1 name text d.1).2,d.2):=by
 obtain ⟨h1,h2,h3⟩:=h
 unfold ψ1.f φ2z
 rw[φ3Q d name (by omega),bS,φHA d (by omega) (by omega)]
 rcases φt d.1 name with ⟨e,_⟩ | ⟨i,hi,e,_⟩
 ·rw[e,φy e];rfl
 ·rw[e,φv e]
  have hm:=φ9q (gM hi)
  have c1:d.1[i].2.1.length+text.length≤9223372036854775807:=by omega
  simp only[dnn (show (0:Int)≤(i:Int) by omega),cF,bS,φ2B hi,cT,φ2O hi,φ5 hi,c1,dT,tN]
  rw[φ9 (by omega) (by omega)]
  by_cases c:(text.length:Int) > d.2.1 - (φK d.1:Int)
  ·simp[c]
  ·simp[c]
theorem φEo (d:φ2) (name text:List UInt8) (h:dlim d) (ht:text.length<1000000000000):ψ0.f d name text=some (φZ d (φ2z d.2.1 name text)):=by
 have hs:ψ12.f d (name,text)=some (φZ d (φ2z d.2.1 name text)):=φ4h d h (name,text) (fun c x=>ψ1.f x c.1 c.2) (φ2z d.2.1 name text) fun k=>by
  have hc:=φ8G k
  show ψ1.f (tick d) name text=_
  rw[φIY (tick d) name text (φFA h) (by rw[φ7X];omega) ht,φr,φ7X]
 unfold ψ0.f
 rw[hs];rfl
theorem φGe (d:φ2) (name text:List UInt8) (h:dlim d) (htx:text.length<1000000000000):ψ27.f d name text=some (φZ d (φ2z d.2.1 name text)):=by
 have h1:=h.1
 have h2:=h.2.1
 unfold ψ27.f
 rcases φ4q d h with ⟨x,c,e1,e2,e3⟩ | ⟨k,e1,e3⟩
 ·rw[e1,e3,bS];simp only[e2,cT]
 rw[e1,e3,bS]
 have hc:=φ8G k
 simp only[bne_self_eq_false,cF,φ3A d name (show d.1.length<2 ^ 62 by omega),bS,φCe d (show d.1.length<2 ^ 62 by omega) (show φK d.1<2 ^ 62 by omega)]
 unfold φ2z
 rcases φt d.1 name with ⟨e,_⟩ | ⟨i,hi,e,_⟩
 ·rw[e,φy e]
  show some (tick d,3)=some ((d.1,(tick d).2),3)
  rw[←φr d]
 ·rw[e,φv e]
  have ht:i<(tick d).1.length:=by rw[φr];exact hi
  have hm:=φ9q (gM hi)
  have c1:d.1[i].2.1.length+text.length≤9223372036854775807:=by omega
  simp only[dnn (show (0:Int)≤(i:Int) by omega),cF,φ2B hi,φ2B ht,cT,φ2O hi,φ2O ht,φ5 hi,c1,dT,tN]
  rw[φ9 (by omega) (by omega)]
  simp only[φr]
  by_cases c:(text.length:Int) > d.2.1 - (φK d.1:Int)
  ·simp only[c,dT,cT,if_true]
   rw[←φr d]
  ·simp only[c,dF,cF,if_false]
def putF (l:List φ4) (f:φ4):List φ4:=
 let k:=(l.takeWhile fun x=>Op.bytesLess x.1 f.1).length
 l.take k++[f]++l.drop k
theorem φBY (d:φ2) (f:φ4) (h:d.1.length<1000000000):ψB.f d f=some (putF d.1 f,d.2):=by
 have key:=φO (step:=ψB.l0) (fun n (_:Unit)=>(d,f,(n:Int))) d.1.length (fun n _=>(d,f,((n+((d.1.drop n).takeWhile fun x=>Op.bytesLess x.1 f.1).length:Nat):Int))) (fun _ _=>True)
  (fun rec n s hn _ ih=>by
   rcases κ0 n d.1.length with h2 | h2
   ·rw[φCS _ _ _ h2]
    simp only[ψB.l0,oL,h2,dT,cT,φ8,φA,φ5 h2,φB (show n+1<9223372036854775808 by omega)]
    cases Op.bytesLess d.1[n].1 f.1
    ·simp
    ·simp only[cT,if_true]
     rw[ih () h2 trivial]
     congr 3;congr 1;omega
   ·have:n=d.1.length:=by omega
    subst this
    simp[ψB.l0])
  (by omega) 0 () (κ5 _) trivial
 have key:lp ψB.l0 (d,f,0)=_:=key
 unfold ψB.f putF
 rw[key,bS]
 simp only[κE,κQ]
 have htw:(d.1.takeWhile fun x=>Op.bytesLess x.1 f.1).length≤d.1.length:=(List.takeWhile_sublist _).length_le
 generalize (d.1.takeWhile fun x=>Op.bytesLess x.1 f.1).length=k at *
 have c1:(decide (0≤(k:Int)) && decide ((k:Int)≤(d.1.length:Int)))=true:=by simp;omega
 have c2:(d.1.take k).length * 40≤140737488355328:=by rw[lT];omega
 have c3:((d.1.take k).length+[f].length) * 40≤140737488355328:=by rw[lT];exact φ5h (by omega)
 have c4:((d.1.take k++[f]).length+(d.1.drop k).length) * 40≤140737488355328:=by
  rw[lA,lT,lD]
  show (min k d.1.length+1+(d.1.length - k)) * 40≤_
  omega
 simp only[tN,κG,lN,κQ,c1]
 simp only[c2,c3,c4,dT,cT]
def φ1x (f:φ4) (s:List φ4×Bool) (x:φ4):List φ4×Bool:=
 if s.2=false∧leK x.1 f.1=false then (s.1++[f]++[x],true) else (s.1++[x],s.2)
theorem φCn (f:φ4) (s:List φ4×Bool) (x:φ4):(φ1x f s x).1.length≤s.1.length+2:=by
 unfold φ1x;split<;>simp<;>omega
theorem φCc (f:φ4):∀(l out:List φ4),l.foldl (φ1x f) (out,true)=(out++l,true)
 | [],out=>by simp
 | x::l,out=>by
  have e1:φ1x f (out,true) x=(out++[x],true):=by unfold φ1x;rw[if_neg (by simp)]
  rw[κK,e1,φCc f l];simp
theorem φBN (f:φ4):∀(l out:List φ4),(let s:=l.foldl (φ1x f) (out,false);if s.2=true then s.1 else s.1++[f])=out++insB l f
 | [],out=>by simp[insB]
 | x::l,out=>by
  rw[κK]
  cases hk:leK x.1 f.1
  ·have e1:φ1x f (out,false) x=(out++[f]++[x],true):=by unfold φ1x;rw[if_pos ⟨rfl,hk⟩]
   rw[e1,φCc]
   simp[insB,hk]
  ·have e1:φ1x f (out,false) x=(out++[x],false):=by unfold φ1x;rw[if_neg (by simp[hk])]
   rw[e1,φBN f l (out++[x])]
   simp[insB,hk]
theorem φ9L (l:List φ4) (f:φ4) (hl:l.length<1000000000):ψ30.f l f=some (insB l f):=by
 have hk:=φ1z (step:=ψ30.l0) l (φ1x f) (fun n (s:List φ4×Bool)=>(l,f,s.1,s.2,(n:Int))) (fun s=>(f,s.1,s.2)) (fun n s=>s.1.length≤2 * n) (by omega)
  (fun rec n s h hi=>by
   have hi:s.1.length≤2 * n:=hi
   have hq:s.1.length<1000000000000:=by omega
   have hb1:(s.1.length+[f].length) * 40≤140737488355328:=φ5h (Nat.lt_succ_of_lt hq)
   have hb2:(s.1.length+([l[n]]:List φ4).length) * 40≤140737488355328:=φ5h (Nat.lt_succ_of_lt hq)
   have hb3:((s.1++[f]).length+([l[n]]:List φ4).length) * 40≤140737488355328:=by rw[lA];exact φ5h (Nat.succ_lt_succ hq)
   have hw:w64 ((n:Int)+1)=(n:Int)+1:=φ9 (by omega) (by omega)
   have hle:(Op.bytesLess l[n].1 f.1 || l[n].1==f.1)=leK l[n].1 f.1:=rfl
   simp only[ψ30.l0,oL,h,dT,cT,φ8,φA,φ5 h,φ2V,hle]
   unfold φ1x
   rcases bE s.2 with h2 | h2
   ·simp only[h2,cF,nZ,bS,φ8,φA,φ5 h,φ2V,h,dT,cT,hb2]
    simp[hw]
   ·rcases bE (leK l[n].1 f.1) with h3 | h3
    ·simp only[h2,h3,cF,nZ,nF,bS,φ8,φA,φ5 h,φ2V,h,dT,cT,hb2]
     simp[hw]
    ·simp only[h2,h3,cF,nZ,nF,bS,φ8,φA,φ5 h,φ2V,h,dT,cT,hb1,hb3]
     simp[hw])
  (fun n s h hi=>by have:=φCn f s l[n];have hi:s.1.length≤2 * n:=hi;show _≤2 * (n+1);omega)
  (fun rec s hi=>by simp[ψ30.l0]) ([],false) (by simp)
 have hk:lp ψ30.l0 (l,f,[],false,0)=_:=hk
 have hlen:∀(m:List φ4) (s:List φ4×Bool),(m.foldl (φ1x f) s).1.length≤s.1.length+2 * m.length:=by
  intro m
  induction m with
  | nil=>intro s;simp
  | cons x m ih=>intro s;rw[κK];have:=ih (φ1x f s x);have:=φCn f s x;simp only[lC];omega
 unfold ψ30.f
 rw[hk,bS]
 have hf:=φBN f l []
 have hb:=hlen l ([],false)
 generalize l.foldl (φ1x f) ([],false)=s at *
 obtain ⟨s1,s2⟩:=s
 simp only[lN,κQ] at hb
 have hb1:(s1.length+[f].length) * 40≤140737488355328:=φ5h (by omega)
 cases s2
 ·simp only[κ1,if_false,κG] at hf
  simp only[nF,cT,hb1,dT,hf]
 ·simp only[if_true,κG] at hf
  simp[hf]
theorem φBI {α:Type} {f g:α→Bool}:∀{l:List α},(∀x∈l,f x=g x)→l.takeWhile f=l.takeWhile g
 | [],_=>rfl
 | x::l,h=>by
  rw[List.takeWhile_cons,List.takeWhile_cons,h x (by simp),φBI fun y hy=>h y (mC _ hy)]
theorem φCj {l:List φ4} {f:φ4} (h:∀x∈l,x.1≠f.1):putF l f=insB l f:=by
 unfold putF insB
 have:(l.takeWhile fun x=>Op.bytesLess x.1 f.1)=l.takeWhile fun x=>leK x.1 f.1:=φBI fun x hx=>by
  unfold leK
  have:(x.1==f.1)=false:=by simpa using h x hx
  rw[this,Bool.or_false]
 rw[this]
def φ2q (name:List UInt8) (l:List φ4):Int×List φ4:=
 if φ22 name=false then (5,l) else if φ1P l name≥0 then (4,l) else if 130≤l.length then (2,l) else (0,insB l (name,[],0))
theorem φEV (d:φ2) (name:List UInt8) (h:d.1.length<1000000000) (hn:name.length<2 ^ 62):ψ4.f d name=some ((φ2q name d.1).1,(φ2q name d.1).2,d.2):=by
 unfold ψ4.f φ2q
 rw[φ8y name hn,bS,φ3Q d name (by omega)]
 rcases bE (φ22 name) with k | k
 rotate_left
 ·simp[k]
 simp only[k,nZ,cF,bS,κ8,if_false]
 rcases φt d.1 name with ⟨e,hno⟩ | ⟨i,hi,e,_⟩
 ·have c:¬φ1P d.1 name≥0:=by omega
  simp only[c,dF,cF,if_false]
  by_cases c2:130≤d.1.length
  ·have c3:(d.1.length:Int)≥130:=by omega
   simp[c2,c3]
  ·have c3:¬(d.1.length:Int)≥130:=by omega
   simp only[c2,c3,dF,cF,if_false,φBY d _ h,bS,φCj (l:=d.1) (f:=(name,[],0)) hno]
 ·have c:φ1P d.1 name≥0:=by omega
  simp[c]
theorem φHD (d:φ2) (name:List UInt8) (h:dlim d) (hn:name.length<2 ^ 62):ψ3.f d name=some (φZ d (φ2q name)):=by
 have hs:ψ13.f d name=some (φZ d (φ2q name)):=φ4h d h name (fun n x=>ψ4.f x n) (φ2q name) fun _=>by
  show ψ4.f (tick d) name=_
  rw[φEV (tick d) name (by rw[φr];exact h.1) hn,φr]
 unfold ψ3.f
 rw[hs];rfl
theorem φ8O (d:φ2) (name:List UInt8) (h:dlim d) (hn:name.length<2 ^ 62):ψ29.f d name=some (φZ d (φ2q name)):=by
 have hl:=h.1
 unfold ψ29.f
 rcases φ4q d h with ⟨x,c,e1,e2,e3⟩ | ⟨k,e1,e3⟩
 ·rw[e1,e3,bS];simp only[e2,cT]
 rw[e1,e3,bS]
 simp only[bne_self_eq_false,cF,φ8w name hn,φ3A d name (show d.1.length<2 ^ 62 by omega),bS]
 unfold φ2q
 have ht:(d.1,(tick d).2)=tick d:=by rw[←φr d]
 rcases bE (φ22 name) with k | k
 rotate_left
 ·simp[k,ht]
 simp only[k,nZ,cF,κ8,if_false]
 by_cases c:φ1P d.1 name≥0
 ·simp[c,ht]
 simp only[c,dF,cF,if_false]
 by_cases c2:130≤d.1.length
 ·have c3:(d.1.length:Int)≥130:=by omega
  simp[c2,c3,ht]
 ·have c3:¬(d.1.length:Int)≥130:=by omega
  simp only[c2,c3,dF,cF,if_false,φr,φ9L d.1 _ hl,bS]
theorem φBg:∀(l:List φ4) (p:List UInt8),φ2E (some p) l=true→(∀x∈l,Op.bytesLess p x.1=true)∧l.Pairwise (fun a b=>Op.bytesLess a.1 b.1=true)
 | [],p,_=>⟨by simp,List.Pairwise.nil⟩
 | f::l,p,h=>by
  simp only[φ2E,bA] at h
  obtain ⟨h1,h2⟩:=φBg l f.1 h.2
  refine ⟨fun x hx=>?_,List.Pairwise.cons h1 h2⟩
  rcases mc.1 hx with e | hx
  ·rw[e];exact h.1
  ·exact φ6h _ _ _ h.1 (h1 x hx)
theorem φAE (l:List φ4) (h:φ2E none l=true):l.Pairwise (fun a b=>Op.bytesLess a.1 b.1=true):=by
 cases l with
 | nil=>exact List.Pairwise.nil
 | cons f l=>
  obtain ⟨h1,h2⟩:=φBg l f.1 h
  exact List.Pairwise.cons h1 h2
theorem φ8M {d:φ2} (h:φ6 d=true):d.1.Pairwise (fun a b=>Op.bytesLess a.1 b.1=true):=by
 unfold φ6 φ4V at h
 simp only[bA] at h
 exact φAE _ h.2.2.2.2.2
theorem φ7Y {l:List φ4} {i:Nat} (h:i<l.length):l=l.take i++l[i]::l.drop (i+1):=by
 rw[←dG h,κ9]
theorem φ4D (l:List φ4) (i:Nat):(φW l i).Sublist l:=by
 unfold φW
 have:(l.take i++l.drop (i+1)).Sublist (l.take i++l.drop i):=List.Sublist.append (List.Sublist.refl _) (List.drop_sublist_drop_left l (by omega))
 rw[κ9] at this
 exact this
theorem φDL {l:List φ4} {i:Nat} (h:i<l.length) (hp:l.Pairwise (fun a b=>Op.bytesLess a.1 b.1=true)):∀x∈φW l i,x.1≠l[i].1:=by
 rw[φ7Y h,List.pairwise_append] at hp
 obtain ⟨_,h2,h3⟩:=hp
 intro x hx
 rcases mA.1 hx with hx | hx
 ·exact φ9G (h3 x hx _ κ6)
 ·exact (φ9G ((List.pairwise_cons.1 h2).1 x hx)).symm
theorem φAO {l:List φ4} {name:List UInt8} (hp:l.Pairwise (fun a b=>Op.bytesLess a.1 b.1=true)):∀x∈φ1H l name,x.1≠name:=by
 unfold φ1H
 rcases φt l name with ⟨e,hno⟩ | ⟨i,hi,e,hn⟩
 ·rw[φy e];exact hno
 ·rw[φv e,←hn];exact φDL hi hp
theorem φD6 {l:List φ4} {name:List UInt8} (h:∀x∈l,x.1≠name):φ1H l name=l:=by
 unfold φ1H
 have:l.findIdx? (fun f=>f.1==name)=none:=by
  rw[List.findIdx?_eq_none_iff]
  intro x hx
  simpa using h x hx
 rw[this]
theorem φDm {l:List φ4} {i:Nat} (h:i<l.length) (hp:l.Pairwise (fun a b=>Op.bytesLess a.1 b.1=true)):putF (φW l i) l[i]=l:=by
 have hs:=hp
 rw[φ7Y h,List.pairwise_append] at hs
 obtain ⟨_,h2,h3⟩:=hs
 have e1:((φW l i).takeWhile fun x=>Op.bytesLess x.1 l[i].1)=l.take i:=by
  unfold φW
  rw[List.takeWhile_append_of_pos (fun x hx=>h3 x hx _ κ6)]
  have:(l.drop (i+1)).takeWhile (fun x=>Op.bytesLess x.1 l[i].1)=[]:=by
   cases e:l.drop (i+1) with
   | nil=>rfl
   | cons y r=>
    rw[List.takeWhile_cons,φCi _ _ ((List.pairwise_cons.1 h2).1 y (by rw[e];simp))];rfl
  rw[this,κ4]
 unfold putF
 rw[e1]
 have hk:(l.take i).length=i:=by rw[lT];omega
 simp only[hk]
 unfold φW
 rw[List.take_append_of_le_length (by omega),List.take_take,Nat.min_self,List.drop_append_of_le_length (by omega),List.drop_take,Nat.sub_self,List.take_zero,κG,aA,List.singleton_append]
 exact (φ7Y h).symm
def φ34 (src dst:List UInt8) (l:List φ4):Int×List φ4:=
 if φ22 dst=false then (5,l) else
 match l.findIdx? (fun f=>f.1==src) with
 | some i=>(0,if src=dst then l else insB (φ1H (φW l i) dst) (dst,(l.getD i ([],[],0)).2))
 | none=>(3,l)
theorem φG1 (d:φ2) (src dst:List UInt8) (h:d.1.length<1000000000) (hn:dst.length<2 ^ 62) (hp:d.1.Pairwise (fun a b=>Op.bytesLess a.1 b.1=true)):ψb.f d src dst=some ((φ34 src dst d.1).1,(φ34 src dst d.1).2,d.2):=by
 unfold ψb.f φ34
 rw[φ3Q d src (by omega),bS,φ8y dst hn,bS,φ8i d src h]
 rcases bE (φ22 dst) with k | k
 rotate_left
 ·simp[k]
 simp only[k,nZ,cF,κ8,if_false]
 rcases φt d.1 src with ⟨e,_⟩ | ⟨i,hi,e,hsrc⟩
 ·rw[e,φy e];rfl
 ·have e0:φ1H d.1 src=φW d.1 i:=by unfold φ1H;rw[φv e]
  rw[e,φv e,e0]
  have hl:=φ7Z hi
  have hl2:=φ9M (φW d.1 i) dst
  simp only[dnn (show (0:Int)≤(i:Int) by omega),cF,φ2B hi,cT,φ2O hi,bS,φ5 hi,φ8i (φW d.1 i,d.2) dst (show (φW d.1 i).length<1000000000 by omega),φBY (φ1H (φW d.1 i) dst,d.2) (dst,d.1[i].2.1,d.1[i].2.2) (show (φ1H (φW d.1 i) dst).length<1000000000 by omega)]
  by_cases c:src=dst
  ·simp only[c,if_true]
   have hd:d.1[i].1=dst:=by rw[hsrc,c]
   have e2:φ1H (φW d.1 i) dst=φW d.1 i:=φD6 (by rw[←hd];exact φDL hi hp)
   have e3:putF (φW d.1 i) (dst,d.1[i].2.1,d.1[i].2.2)=d.1:=by
    have:=φDm hi hp
    rw[←hd];exact this
   rw[e2,e3]
  ·simp only[c,if_false]
   rw[φCj (l:=φ1H (φW d.1 i) dst) (f:=(dst,d.1[i].2.1,d.1[i].2.2)) (φAO (hp.sublist (φ4D d.1 i)))]
theorem φE6 (d:φ2) (src dst:List UInt8) (h:dlim d) (hn:dst.length<2 ^ 62):ψa.f d src dst=some (φZ d (φ34 src dst)):=by
 have hs:ψ15.f d (src,dst)=some (φZ d (φ34 src dst)):=φ4h d h (src,dst) (fun c x=>ψb.f x c.1 c.2) (φ34 src dst) fun k=>by
  show ψb.f (tick d) src dst=_
  rw[φG1 (tick d) src dst (by rw[φr];exact h.1) hn (by rw[φr];exact φ8M k),φr]
 unfold ψa.f
 rw[hs];rfl
theorem φIC (d:φ2) (src dst:List UInt8) (h:dlim d) (hn:dst.length<2 ^ 62):ψ2c.f d src dst=some (φZ d (φ34 src dst)):=by
 have hl:=h.1
 unfold ψ2c.f
 rcases φ4q d h with ⟨x,c,e1,e2,e3⟩ | ⟨k,e1,e3⟩
 ·rw[e1,e3,bS];simp only[e2,cT]
 rw[e1,e3,bS]
 have hp:=φ8M k
 simp only[bne_self_eq_false,cF,φ8w dst hn,φ3A d src (show d.1.length<2 ^ 62 by omega),bS]
 unfold φ34
 have ht:(d.1,(tick d).2)=tick d:=by rw[←φr d]
 rcases bE (φ22 dst) with k2 | k2
 rotate_left
 ·simp[k2,ht]
 simp only[k2,nZ,cF,κ8,if_false]
 rcases φt d.1 src with ⟨e,_⟩ | ⟨i,hi,e,hsrc⟩
 ·rw[e,φy e]
  show some (tick d,3)=some ((d.1,(tick d).2),3)
  rw[←φr d]
 ·rw[e,φv e]
  have hlr:=φ7Z hi
  have hl2:=φ9M (φW d.1 i) dst
  simp only[dnn (show (0:Int)≤(i:Int) by omega),cF]
  by_cases c:src=dst
  ·simp[c,ht]
  have c1:(src==dst)=false:=by simpa using c
  simp only[c,c1,cF,if_false,φ2B hi,cT,φ2O hi,φ5 hi,φr,φ9R d.1 i hi hl,bS,φ3A (φW d.1 i,(tick d).2) dst (show (φW d.1 i).length<2 ^ 62 by omega)]
  rcases φt (φW d.1 i) dst with ⟨e',hno⟩ | ⟨j,hj,e',hdst⟩
  ·have c2:¬φ1P (φW d.1 i) dst≥0:=by omega
   simp only[c2,dF,cF,bS,φ9L (φW d.1 i) _ (show (φW d.1 i).length<1000000000 by omega),φD6 hno]
  ·have c2:φ1P (φW d.1 i) dst≥0:=by omega
   have e4:φ1H (φW d.1 i) dst=φW (φW d.1 i) j:=by unfold φ1H;rw[φv e']
   rw[e4] at hl2
   simp only[c2,dT,cT]
   simp only[e',φ9R (φW d.1 i) j hj (by omega),bS,φ9L (φW (φW d.1 i) j) _ (show (φW (φW d.1 i) j).length<1000000000 by omega),e4]
theorem φAX {α:Type} {f g:α→Nat} (h:∀x,f x≤g x):∀l:List α,sumN f l≤sumN g l
 | []=>κ7 _
 | x::l=>Nat.add_le_add (h x) (φAX h l)
theorem φCF {n:Nat} (h:n<9223372036854775808):IntKind.wrap .i64 (n:Int)=n:=φ2L h
theorem φ9U {n:Nat} (h:n<4294967296):IntKind.wrap .u32 (n:Int)=n:=by
 unfold IntKind.wrap
 simp only[IntKind.bits,IntKind.signed]
 simp;omega
theorem φAF (a b:Nat) (ha:a<2 ^ 63) (hb:b<2 ^ 63):bits (fun _ a b=>a ^^^ b) .i64 (a:Int) (b:Int)=((a ^^^ b:Nat):Int):=by
 unfold bits
 have h:a ^^^ b<2 ^ 63:=Nat.xor_lt_two_pow ha hb
 have e:(BitVec.ofInt 64 (a:Int) ^^^ BitVec.ofInt 64 (b:Int)).toNat=a ^^^ b:=by
  rw[BitVec.ofInt_natCast,BitVec.ofInt_natCast,BitVec.toNat_xor,BitVec.toNat_ofNat,BitVec.toNat_ofNat,κW (by omega),κW (by omega)]
 show IntKind.wrap .i64 ((BitVec.ofInt 64 (a:Int) ^^^ BitVec.ofInt 64 (b:Int)).toNat:Int)=_
 rw[e]
 exact φCF (by omega)
theorem φ89 (a b:Nat) (ha:a<2 ^ 32) (hb:b<2 ^ 32):bits (fun _ a b=>a ^^^ b) .u32 (a:Int) (b:Int)=((a ^^^ b:Nat):Int):=by
 unfold bits
 have h:a ^^^ b<2 ^ 32:=Nat.xor_lt_two_pow ha hb
 have e:(BitVec.ofInt 32 (a:Int) ^^^ BitVec.ofInt 32 (b:Int)).toNat=a ^^^ b:=by
  rw[BitVec.ofInt_natCast,BitVec.ofInt_natCast,BitVec.toNat_xor,BitVec.toNat_ofNat,BitVec.toNat_ofNat,κW (by omega),κW (by omega)]
 show IntKind.wrap .u32 ((BitVec.ofInt 32 (a:Int) ^^^ BitVec.ofInt 32 (b:Int)).toNat:Int)=_
 rw[e]
 exact φ9U (by omega)
theorem φEu (a:Nat) (ha:a<2 ^ 32):bits (fun _ a b=>a &&& b) .u32 (a:Int) 1=((a % 2:Nat):Int):=by
 unfold bits
 have e:(BitVec.ofInt 32 (a:Int) &&& BitVec.ofInt 32 ((1:Nat):Int)).toNat=a % 2:=by
  rw[BitVec.ofInt_natCast,BitVec.ofInt_natCast,BitVec.toNat_and,BitVec.toNat_ofNat,BitVec.toNat_ofNat,κW (by omega)]
  exact Nat.and_one_is_mod a
 show IntKind.wrap .u32 ((BitVec.ofInt 32 (a:Int) &&& BitVec.ofInt 32 ((1:Nat):Int)).toNat:Int)=_
 rw[e]
 exact φ9U (by omega)
def crc1 (c:Nat):Nat:=if c % 2=1 then (c / 2) ^^^ 2197175160 else c / 2
def crcK:Nat→Nat→Nat
 | 0,c=>c
 | k+1,c=>crcK k (crc1 c)
def crcB (c:Nat) (b:UInt8):Nat:=crcK 8 (c ^^^ b.toNat)
def crcN (s:List UInt8):Nat:=s.foldl crcB 4294967295
def crcT (s:List UInt8):Int:=((4294967295 - crcN s:Nat):Int)
theorem φ8u {c:Nat} (h:c<2 ^ 32):crc1 c<2 ^ 32:=by
 unfold crc1
 split
 ·exact Nat.xor_lt_two_pow (by omega) (by decide)
 ·omega
theorem φDS:∀(k:Nat) {c:Nat},c<2 ^ 32→crcK k c<2 ^ 32
 | 0,_,h=>h
 | k+1,_,h=>φDS k (φ8u h)
theorem φ9B {c:Nat} (h:c<2 ^ 32) (b:UInt8):crcB c b<2 ^ 32:=
 φDS 8 (Nat.xor_lt_two_pow h (by have:=b.toNat_lt;omega))
theorem φ8I:∀(s:List UInt8) {c:Nat},c<2 ^ 32→s.foldl crcB c<2 ^ 32
 | [],_,h=>h
 | b::s,_,h=>φ8I s (φ9B h b)
theorem φ5a (s:List UInt8):0≤crcT s∧crcT s≤4294967295:=by unfold crcT;omega
theorem φIR (s:List UInt8) (c:Nat) (i:Int) (hc:c<2 ^ 32):lp ψ28.l2 (s,(c:Int),i,0)=some (s,((crcK 8 c:Nat):Int),i):=by
 have:=φO (step:=ψ28.l2) (fun n (c:Nat)=>(s,(c:Int),i,(n:Int))) 8 (fun n c=>(s,((crcK (8 - n) c:Nat):Int),i)) (fun _ c=>c<2 ^ 32)
  (fun rec n c hn hc ih=>by
   rcases κ0 n 8 with h | h
   ·have h8:(n:Int)<8:=by omega
    have hw:w64 ((n:Int)+1)=((n+1:Nat):Int):=φB (by omega)
    have e1:w64 (Int.tdiv (c:Int) 2)=((c / 2:Nat):Int):=by
     rw[show Int.tdiv (c:Int) 2=((c / 2:Nat):Int) from rfl];exact φ2L (by omega)
    have e2:Int.tmod (c:Int) 2=((c % 2:Nat):Int):=rfl
    have e3:bits (fun _ a b=>a ^^^ b) .i64 ((c / 2:Nat):Int) 2197175160=(((c / 2) ^^^ 2197175160:Nat):Int):=φAF (c / 2) 2197175160 (by omega) (by decide)
    have e4:crcK (8 - n) c=crcK (8 - (n+1)) (crc1 c):=by
     rw[show 8 - n=(8 - (n+1))+1 by omega];rfl
    have ih:=ih (crc1 c) h (φ8u hc)
    rw[e4,←ih]
    simp only[ψ28.l2,h8,dT,cT,e1,e2]
    unfold crc1
    by_cases k:c % 2=1
    ·have k2:(((c % 2:Nat):Int)==1)=true:=by rw[k];rfl
     simp only[k2,cT,e3,bS,hw]
     rw[if_pos k]
    ·have k2:(((c % 2:Nat):Int)==1)=false:=by simp;omega
     simp only[k2,cF,bS,hw]
     rw[if_neg k]
   ·have:n=8:=by omega
    subst this
    simp[ψ28.l2,crcK])
  (by omega) 0 c (κ5 _) hc
 exact this
theorem φFf (s:List UInt8) (c:Nat) (i:Int) (hc:c<2 ^ 32):lp ψ2.l2 (s,(c:Int),i,0)=some (s,((crcK 8 c:Nat):Int),i):=by
 have:=φO (step:=ψ2.l2) (fun n (c:Nat)=>(s,(c:Int),i,(n:Int))) 8 (fun n c=>(s,((crcK (8 - n) c:Nat):Int),i)) (fun _ c=>c<2 ^ 32)
  (fun rec n c hn hc ih=>by
   rcases κ0 n 8 with h | h
   ·have h8:(n:Int)<8:=by omega
    have hw:w64 ((n:Int)+1)=((n+1:Nat):Int):=φB (by omega)
    have e1:Int.fdiv (c:Int) (2 ^ (min 1 32))=((c / 2:Nat):Int):=by
     show Int.fdiv (c:Int) 2=_
     rw[Int.fdiv_eq_ediv_of_nonneg _ (by omega)];rfl
    have e3:bits (fun _ a b=>a ^^^ b) .u32 ((c / 2:Nat):Int) 2197175160=(((c / 2) ^^^ 2197175160:Nat):Int):=φ89 (c / 2) 2197175160 (by omega) (by decide)
    have e4:crcK (8 - n) c=crcK (8 - (n+1)) (crc1 c):=by
     rw[show 8 - n=(8 - (n+1))+1 by omega];rfl
    have ih:=ih (crc1 c) h (φ8u hc)
    rw[e4,←ih]
    simp only[ψ2.l2,h8,dT,cT,e1,φEu c hc]
    unfold crc1
    by_cases k:c % 2=1
    ·have k2:(((c % 2:Nat):Int)==1)=true:=by rw[k];rfl
     simp only[k2,cT,e3,bS,hw]
     rw[if_pos k]
    ·have k2:(((c % 2:Nat):Int)==1)=false:=by simp;omega
     simp only[k2,cF,bS,hw]
     rw[if_neg k]
   ·have:n=8:=by omega
    subst this
    simp[ψ2.l2,crcK])
  (by omega) 0 c (κ5 _) hc
 exact this
theorem φ8v (s:List UInt8) (hl:s.length<2 ^ 62):ψ28.f s=some (crcT s):=by
 have hk:=φ1z (step:=ψ28.l0) s crcB (fun n (c:Nat)=>(s,(c:Int),(n:Int))) (fun c=>(c:Int)) (fun _ c=>c<2 ^ 32) hl
  (fun rec n c h hc=>by
   have hc:c<2 ^ 32:=hc
   have hw:w64 ((n:Int)+1)=((n+1:Nat):Int):=φB (by omega)
   have hb:=s[n].toNat_lt
   have e1:w64 (bAt s (n:Int))=((s[n].toNat:Nat):Int):=by rw[φ3R s n h];exact φ2L (by omega)
   have e2:=φAF c s[n].toNat (by omega) (by omega)
   simp only[ψ28.l0,oL,h,dT,cT,φ8,e1,e2]
   rw[φIR s _ _ (Nat.xor_lt_two_pow hc (by omega))]
   simp only[bS,hw];rfl)
  (fun n c h hc=>φ9B hc _)
  (fun rec c hc=>by simp[ψ28.l0]) 4294967295 (by decide)
 have hk:lp ψ28.l0 (s,4294967295,0)=_:=hk
 unfold ψ28.f crcT crcN
 rw[hk,bS]
 have:=φ8I s (c:=4294967295) (by decide)
 generalize s.foldl crcB 4294967295=c at *
 simp only
 rw[φ9 (by omega) (by omega)]
 congr 1;omega
theorem φGc (c:Nat) (h:c<2 ^ 32):4294967295 ^^^ c=4294967295 - c:=by
 have e:(BitVec.allOnes 32 ^^^ BitVec.ofNat 32 c).toNat=(~~~ BitVec.ofNat 32 c).toNat:=by rw[BitVec.allOnes_xor]
 rw[BitVec.toNat_xor,BitVec.toNat_not,BitVec.toNat_allOnes,BitVec.toNat_ofNat,κW h] at e
 have e:4294967295 ^^^ c=4294967296 - 1 - c:=e
 omega
theorem φ8F (s:List UInt8) (hl:s.length<2 ^ 62):ψ2.f s=some (crcT s):=by
 have hk:=φ1z (step:=ψ2.l0) s crcB (fun n (c:Nat)=>(s,(c:Int),(n:Int))) (fun c=>(c:Int)) (fun _ c=>c<2 ^ 32) hl
  (fun rec n c h hc=>by
   have hc:c<2 ^ 32:=hc
   have hw:w64 ((n:Int)+1)=((n+1:Nat):Int):=φB (by omega)
   have hb:=s[n].toNat_lt
   have e1:IntKind.wrap .u32 (bAt s (n:Int))=((s[n].toNat:Nat):Int):=by rw[φ3R s n h];exact φ9U (by omega)
   have e2:=φ89 c s[n].toNat (by omega) (by omega)
   simp only[ψ2.l0,oL,h,dT,cT,φ8,e1,e2]
   rw[φFf s _ _ (Nat.xor_lt_two_pow hc (by omega))]
   simp only[bS,hw];rfl)
  (fun n c h hc=>φ9B hc _)
  (fun rec c hc=>by simp[ψ2.l0]) 4294967295 (by decide)
 have hk:lp ψ2.l0 (s,4294967295,0)=_:=hk
 unfold ψ2.f crcT crcN
 rw[hk,bS]
 have:=φ8I s (c:=4294967295) (by decide)
 generalize s.foldl crcB 4294967295=c at *
 have e:bits (fun _ a b=>a ^^^ b) .u32 4294967295 (c:Int)=((4294967295 ^^^ c:Nat):Int):=φ89 4294967295 c (by decide) this
 simp only[e,φGc c this]
 rw[φ2L (by omega)]
def vLow (n:Nat):List UInt8:=if h:n<128 then [] else UInt8.ofNat (128+n % 128)::vLow (n / 128)
termination_by n
decreasing_by omega
def vTop (n:Nat):Nat:=if h:n<128 then n else vTop (n / 128)
termination_by n
decreasing_by omega
theorem φ6u:∀(k n:Nat),n<128 ^ (k+1)→(vLow n).length≤k
 | 0,n,h=>by unfold vLow;rw[dif_pos (by simpa using h)];simp
 | k+1,n,h=>by
  unfold vLow
  split
  ·simp
  ·have:=φ6u k (n / 128) (by rw[Nat.div_lt_iff_lt_mul (by omega)];rw[κS] at h;exact h)
   simp only[lC];omega
def varT (n:Int):List UInt8:=if 0≤n∧n≤562949953421311 then vLow n.toNat++[UInt8.ofNat (vTop n.toNat)] else []
theorem φR (n:Int):(varT n).length≤7:=by
 unfold varT
 split
 ·rename_i h
  have:=φ6u 6 n.toNat (by show _<562949953421312;omega)
  rw[lA,κ3];omega
 ·simp
theorem φ4b (n:Nat):UInt8.ofNat (IntKind.wrap .u8 (n:Int)).toNat=UInt8.ofNat n:=by
 have e:IntKind.wrap .u8 (n:Int)=((n % 256:Nat):Int):=by
  unfold IntKind.wrap
  simp only[IntKind.bits,IntKind.signed]
  simp
 rw[e,tN]
 exact UInt8.ofNat_mod_size
theorem φFs:ψo.l0=ψ2n.l0:=by
 funext rec x
 obtain ⟨x0,x3⟩:=x
 have e1:decide (x0 > 127)=decide (x0≥128):=decide_eq_decide.2 (by omega)
 simp only[ψo.l0,ψ2n.l0,e1,Int.add_comm 128]
theorem φEt:ψo.f=ψ2n.f:=by
 funext n
 unfold ψo.f ψ2n.f
 rw[φ1b,φ1n,φFs]
theorem φGt (a b:List Int):φm (a++b)=φm a++φm b:=mp
def φ29 (n:Nat):List Int:=if h:n<128 then [] else IntKind.wrap .u8 (w64 (128+(n % 128:Nat)))::φ29 (n / 128)
termination_by n
decreasing_by omega
theorem φ9A (n:Nat):φm (φ29 n)=vLow n:=by
 unfold φ29 vLow
 split
 ·rfl
 ·rw[show φm (IntKind.wrap .u8 (w64 (128+(n % 128:Nat)))::φ29 (n / 128))=UInt8.ofNat (IntKind.wrap .u8 (w64 (128+(n % 128:Nat)))).toNat::φm (φ29 (n / 128)) from rfl,φ9A (n / 128)]
  have e:w64 (128+((n % 128:Nat):Int))=((128+n % 128:Nat):Int):=by rw[φ9 (by omega) (by omega)];omega
  rw[e,φ4b]
termination_by n
decreasing_by omega
theorem φI0 (n:Nat):(φ29 n).length=(vLow n).length:=by rw[←φ9A];unfold φm;rw[lM]
theorem φHh (m:Nat) (hm:m<128 ^ 7):lp ψ2n.l0 ((m:Int),[])=some (((vTop m:Nat):Int),φ29 m):=by
 have:=φ4e (step:=ψ2n.l0) (a:=((m:Int),([]:List Int)))
  (fun a=>(((vTop a.1.toNat:Nat):Int),a.2++φ29 a.1.toNat)) (fun a=>0≤a.1∧a.2.length≤7∧a.1.toNat<128 ^ (7 - a.2.length)) (fun a=>a.1.toNat)
  (fun rec a ha ih=>by
   obtain ⟨x,l⟩:=a
   obtain ⟨n,rfl⟩:∃n:Nat,x=(n:Int):=⟨x.toNat,by have:=ha.1;simp only at this;omega⟩
   obtain ⟨_,h2,h3⟩:=ha
   simp only[tN] at h2 h3 ih ⊢
   have hn:n<128 ^ 7:=κA h3 (κT (by omega) (by omega))
   have hn:n<562949953421312:=hn
   by_cases c:n<128
   ·have c1:¬(n:Int)≥128:=by omega
    simp only[ψ2n.l0,c1,dF,cF]
    rw[show vTop n=n by unfold vTop;rw[dif_pos c],show φ29 n=[] by unfold φ29;rw[dif_pos c],κ4]
   ·have c1:(n:Int)≥128:=by omega
    have h4:l.length<7:=by
     rcases κ0 l.length 7 with h | h
     ·exact h
     ·rw[show 7 - l.length=0 by omega] at h3;simp at h3;omega
    have e1:Int.tmod (n:Int) 128=((n % 128:Nat):Int):=rfl
    have e2:w64 (Int.tdiv (n:Int) 128)=((n / 128:Nat):Int):=by
     rw[show Int.tdiv (n:Int) 128=((n / 128:Nat):Int) from rfl];exact φ2L (by omega)
    have hb:(l.length+[IntKind.wrap .u8 (w64 (128+((n % 128:Nat):Int)))].length) * 1≤140737488355328:=by
     show (l.length+1) * 1≤_;omega
    have ih:=ih (((n / 128:Nat):Int),l++[IntKind.wrap .u8 (w64 (128+((n % 128:Nat):Int)))]) ⟨by simp only;omega,by rw[lA];show _+1≤_;omega,by
     rw[lA,tN]
     show _<128 ^ (7 - (l.length+1))
     rw[Nat.div_lt_iff_lt_mul (by omega),←κS,show (7 - (l.length+1)).succ=7 - l.length by omega];exact h3⟩ (by simp only[tN];omega)
    simp only[tN] at ih
    simp only[ψ2n.l0,c1,dT,cT,e1,e2,hb,ih]
    rw[show vTop n=vTop (n / 128) by rw[vTop,dif_neg c],show φ29 n=IntKind.wrap .u8 (w64 (128+(n % 128:Nat)))::φ29 (n / 128) by rw[φ29,dif_neg c],aA];rfl)
  ⟨by simp only;omega,by simp,by simpa using hm⟩ (by simp only[tN];have:m<562949953421312:=hm;omega)
 simpa using this
theorem φ3q (n:Int):ψ2n.f n=some (varT n):=by
 unfold ψ2n.f varT
 rw[φ1n,bS]
 by_cases h:0≤n∧n≤562949953421311
 rotate_left
 ·simp[h]
 obtain ⟨m,rfl⟩:∃m:Nat,n=(m:Int):=⟨n.toNat,by omega⟩
 have hm:m<128 ^ 7:=by show m<562949953421312;omega
 have key:∃L:List Int,φm L=vLow m∧L.length≤7∧lp ψ2n.l0 ((m:Int),[])=some (((vTop m:Nat):Int),L):=
  ⟨φ29 m,φ9A m,by rw[φI0];have:=φ6u 6 m hm;omega,φHh m hm⟩
 obtain ⟨L,e1,e2,e3⟩:=key
 have hb:(L.length+[IntKind.wrap .u8 ((vTop m:Nat):Int)].length) * 1≤140737488355328:=by
  show (L.length+1) * 1≤_;omega
 simp only[h,and_self,dT,nZ,cF,e3,bS,hb,cT,if_true,φGt,e1,tN]
 unfold φm
 simp only[κC,List.map_nil,φ4b]
theorem φ8J (n:Int):ψo.f n=some (varT n):=by rw[φEt,φ3q]
def fixL (n:Nat):Nat→List UInt8
 | 0=>[]
 | k+1=>UInt8.ofNat (n / 256 ^ k)::fixL n k
theorem φ97 (n:Nat):∀k,(fixL n k).length=k
 | 0=>rfl
 | k+1=>by simp[fixL,φ97 n k]
theorem φ6Q (n:Nat):∀k,fixL n (k+1)=fixL (n / 256) k++[UInt8.ofNat n]
 | 0=>by simp[fixL]
 | k+1=>by
  rw[fixL,φ6Q n k]
  show _=UInt8.ofNat (n / 256 / 256 ^ k)::fixL (n / 256) k++[UInt8.ofNat n]
  rw[Nat.div_div_eq_div_mul,κS,Nat.mul_comm (256 ^ k) 256];rfl
def fix4 (n:Int):List UInt8:=if 0≤n∧n≤4294967295 then fixL n.toNat 4 else []
theorem φ9O (n:Int) (hn:n<9223372036854775808):ψ2H.f n 4=some (fix4 n):=by
 unfold ψ2H.f fix4
 rw[φ1n,bS]
 by_cases h:0≤n
 rotate_left
 ·have h1:n<0:=by omega
  simp[h,h1]
 obtain ⟨m,rfl⟩:∃m:Nat,n=(m:Int):=⟨n.toNat,by omega⟩
 have key:=φO (step:=ψ2H.l0) (fun i (s:Nat×List UInt8)=>((s.1:Int),4,s.2,(i:Int))) 4 (fun i s=>(((s.1 / 256 ^ (4 - i):Nat):Int),fixL s.1 (4 - i)++s.2)) (fun i s=>s.1<9223372036854775808∧s.2.length≤i)
  (fun rec i s hi hv ih=>by
   obtain ⟨a,l⟩:=s
   obtain ⟨hv1,hv2⟩:=hv
   simp only at hv1 hv2 ih ⊢
   rcases κ0 i 4 with h4 | h4
   ·have e0:(i:Int)<4:=by omega
    have e1:Int.tmod (a:Int) 256=((a % 256:Nat):Int):=rfl
    have e2:w64 (Int.tdiv (a:Int) 256)=((a / 256:Nat):Int):=by
     rw[show Int.tdiv (a:Int) 256=((a / 256:Nat):Int) from rfl];exact φ2L (by omega)
    have e3:φm [IntKind.wrap .u8 ((a % 256:Nat):Int)]=[UInt8.ofNat a]:=by
     unfold φm
     simp only[κC,List.map_nil,φ4b]
     congr 1;exact UInt8.ofNat_mod_size
    have hw:w64 ((i:Int)+1)=((i+1:Nat):Int):=φB (by omega)
    have hb:([UInt8.ofNat a]:List UInt8).length+l.length≤9223372036854775807:=by show 1+_≤_;omega
    have ih:=ih (a / 256,[UInt8.ofNat a]++l) h4 ⟨by simp only;omega,by simp;omega⟩
    simp only at ih
    simp only[ψ2H.l0,e0,dT,cT,e1,e2,e3,hb,hw,ih]
    rw[show 4 - i=(4 - (i+1))+1 by omega,φ6Q,κS,Nat.mul_comm,←Nat.div_div_eq_div_mul,aA]
   ·have:i=4:=by omega
    subst this
    simp[ψ2H.l0,fixL])
  (by omega) 0 (m,[]) (κ5 _) ⟨by simp only;omega,by simp⟩
 have key:lp ψ2H.l0 ((m:Int),4,[],0)=some (((m / 256 ^ 4:Nat):Int),fixL m 4++[]):=key
 have h1:¬(m:Int)<0:=by omega
 have h0:decide ((1:Int)≤4∧(4:Int)≤7)=true:=by decide
 have h2:(decide ((((m / 256 ^ 4:Nat):Int)) > 0))=!decide (0≤(m:Int)∧(m:Int)≤4294967295):=by
  have:m / 256 ^ 4=m / 4294967296:=rfl
  by_cases c:m≤4294967295
  ·have:m / 256 ^ 4=0:=by rw[this];omega
   rw[this];simp;omega
  ·have:0<m / 256 ^ 4:=by rw[this];omega
   have c2:¬(0≤(m:Int)∧(m:Int)≤4294967295):=by omega
   simp only[c2,dF,nF,decide_eq_true_eq];omega
 simp only[h0,h1,dF,nZ,cF,key,bS,h2,κ4,tN]
 by_cases c:0≤(m:Int)∧(m:Int)≤4294967295
 ·simp[c]
 ·rw[if_neg c,decide_eq_false c];rfl
def fixI (n:Nat):Nat→List Int
 | 0=>[]
 | k+1=>IntKind.wrap .u8 ((n / 256 ^ k:Nat):Int)::fixI n k
theorem φAh (n:Nat):∀k,φm (fixI n k)=fixL n k
 | 0=>rfl
 | k+1=>by
  rw[fixI,fixL,←φAh n k,←φ4b];rfl
theorem φ9Z (n:Int):ψE.f n 4=some (fix4 n):=by
 unfold ψE.f fix4
 have h0:decide ((1:Int)≤4∧(4:Int)≤7)=true:=by decide
 have h1:decide (0≤w64 (8 * 4))=true:=by decide
 have h2:w64 (w64 (1 * 2 ^ (min (w64 (8 * 4)).toNat 64)) - 1)=4294967295:=by decide
 simp only[φ1b,bS,h0,h1,h2,nZ,cF,cT]
 by_cases h:0≤n∧n≤4294967295
 rotate_left
 ·simp[h]
 obtain ⟨m,rfl⟩:∃m:Nat,n=(m:Int):=⟨n.toNat,by omega⟩
 have key:=φ4e (step:=ψE.l0) (a:=((m:Int),([]:List Int),(3:Int)))
  (fun a=>a.2.1++(fixI m (a.2.2+1).toNat)) (fun a=>a.1=(m:Int)∧-1≤a.2.2∧a.2.2≤3∧(a.2.1.length:Int)≤3 - a.2.2) (fun a=>(a.2.2+1).toNat)
  (fun rec a ha ih=>by
   obtain ⟨x,l,k⟩:=a
   obtain ⟨hx,ha1,ha2,ha3⟩:=ha
   simp only at hx ha1 ha2 ha3 ih ⊢
   subst hx
   by_cases c:k≥0
   ·obtain ⟨j,rfl⟩:∃j:Nat,k=(j:Int):=⟨k.toNat,by omega⟩
    have e1:w64 (8 * (j:Int))=((8 * j:Nat):Int):=by rw[φ9 (by omega) (by omega)];omega
    have e2:Int.fdiv (m:Int) (2 ^ (min ((8 * j:Nat):Int).toNat 64))=((m / 256 ^ j:Nat):Int):=by
     have e:(2:Int) ^ (8 * j)=((256 ^ j:Nat):Int):=by
      rw[show (256:Nat)=2 ^ 8 from rfl,←Nat.pow_mul,Int.natCast_pow];rfl
     rw[tN,Nat.min_eq_left (by omega),e,Int.fdiv_eq_ediv_of_nonneg _ (Int.natCast_nonneg _)]
     rfl
    have e3:w64 ((j:Int) - 1)=(j:Int) - 1:=φ9 (by omega) (by omega)
    have hb:(l.length+[IntKind.wrap .u8 ((m / 256 ^ j:Nat):Int)].length) * 1≤140737488355328:=by show (l.length+1) * 1≤_;omega
    have ih:=ih ((m:Int),l++[IntKind.wrap .u8 ((m / 256 ^ j:Nat):Int)],(j:Int) - 1) ⟨rfl,by simp only;omega,by simp only;omega,by simp only[lA,κ3];omega⟩ (by simp only;omega)
    simp only at ih
    have h0:(0:Int)≤((8 * j:Nat):Int):=by omega
    simp only[ψE.l0,c,dT,cT,e1,h0,e2,hb,e3,ih]
    rw[show ((j:Int) - 1+1).toNat=j by omega,show ((j:Int)+1).toNat=j+1 by omega,fixI,aA];rfl
   ·have:k=-1:=by omega
    subst this
    simp[ψE.l0,fixI])
  ⟨rfl,by simp only;omega,by simp only;omega,by simp⟩ (by show (4:Nat)<2 ^ 62;decide)
 have e9:w64 (4 - 1)=3:=by decide
 have key:lp ψE.l0 ((m:Int),[],3)=some (fixI m 4):=key
 simp only[h,and_self,dT,nZ,cF,e9,key,bS,if_true,tN,φAh]
abbrev RecT:=Int×Int×List UInt8×List UInt8×Int×Int
def φ12 (r:RecT):Bool:=
 decide (0≤r.2.1∧r.2.1≤1000000) && (!(r.2.1==0) || r.1==5) &&
 (if r.1=1∨r.1=4 then φ1X r.2.2.1 && (decide (r.2.2.2.1.length≤24) && (r.2.2.2.2.1==0 && r.2.2.2.2.2==0))
 else if r.1=2 then φ1X r.2.2.1 && (r.2.2.2.1==[] && (r.2.2.2.2.1==0 && r.2.2.2.2.2==0))
 else if r.1=3 then r.2.2.1==[] && (r.2.2.2.1==[] && (decide (0≤r.2.2.2.2.1∧r.2.2.2.2.1≤8) && decide (0≤r.2.2.2.2.2∧r.2.2.2.2.2≤4294967295)))
 else if r.1=5 then r.2.2.1==[] && (r.2.2.2.1==[] && (decide (0≤r.2.2.2.2.1∧r.2.2.2.2.1≤20) && decide (0≤r.2.2.2.2.2∧r.2.2.2.2.2≤4294967295)))
 else false)
theorem φFk (r:RecT):ψ2Z.f r=some (φ12 r):=by
 obtain ⟨k,b,ky,v,c,s⟩:=r
 have e24:decide ((v.length:Int)≤24)=decide (v.length≤24):=decide_eq_decide.2 (by omega)
 unfold ψ2Z.f φ12
 simp only[φ1n,bS,φAt,e24]
 by_cases hb:0≤b∧b≤1000000
 rotate_left
 ·simp only[hb,dF,nF,cT,bS,φS,κL]
 simp only[hb,and_self,dT,nZ,cF,tA]
 rcases bE (b==0 && k != 5) with h | h
 ·simp only[bA] at h
  have h2:(k==5)=false:=by have:=h.2;simpa [bne] using this
  simp only[h.1,h.2,h2,cT,bS,φS,nZ,Bool.false_or,κL]
 have e1:(!(b==0) || k==5)=true:=by
  cases h3:(b==0)<;>cases h4:(k==5)<;>simp_all [bne]
 have e2:(bif b==0 then (bif k != 5 then some (Sum.inr false) else some (Sum.inl ((k,b,ky,v,c,s):RecT))) else some (Sum.inl (k,b,ky,v,c,s)):Option (RecT ⊕ Bool))=some (Sum.inl (k,b,ky,v,c,s)):=by
  cases h3:(b==0)
  ·rfl
  ·rw[h3] at h
   have h4:(k != 5)=false:=by simpa using h
   rw[h4];rfl
 simp only[e2,bS,φL,e1,tA]
 by_cases k1:k=1
 ·subst k1
  simp only[cT,cF,bS,e24,beq_self_eq_true,tA,κV,show ((1:Int)==1)=true from rfl,show ((4:Int)==1)=false from rfl,show ((4:Int)==4)=true from rfl,show ((2:Int)==2)=true from rfl,show ((3:Int)==2)=false from rfl,show ((3:Int)==3)=true from rfl,show ((5:Int)==5)=true from rfl,show ((5:Int)==3)=false from rfl,show ((5:Int)==2)=false from rfl,show ((4:Int)==5)=false from rfl,show ((3:Int)==5)=false from rfl,show ((2:Int)==5)=false from rfl,show ((1:Int)==5)=false from rfl]
  cases φ1X ky<;>cases decide (v.length≤24)<;>cases (c==0)<;>simp
 by_cases k4:k=4
 ·subst k4
  simp only[cT,cF,bS,e24,beq_self_eq_true,tA,κV,show ((1:Int)==1)=true from rfl,show ((4:Int)==1)=false from rfl,show ((4:Int)==4)=true from rfl,show ((2:Int)==2)=true from rfl,show ((3:Int)==2)=false from rfl,show ((3:Int)==3)=true from rfl,show ((5:Int)==5)=true from rfl,show ((5:Int)==3)=false from rfl,show ((5:Int)==2)=false from rfl,show ((4:Int)==5)=false from rfl,show ((3:Int)==5)=false from rfl,show ((2:Int)==5)=false from rfl,show ((1:Int)==5)=false from rfl]
  cases φ1X ky<;>cases decide (v.length≤24)<;>cases (c==0)<;>simp
 have b1:(k==1)=false:=by simpa using k1
 have b4:(k==4)=false:=by simpa using k4
 simp only[b1,b4,cF,bS,k1,k4,or_self,if_false]
 by_cases k2:k=2
 ·subst k2
  simp only[cT,cF,bS,e24,beq_self_eq_true,tA,κV,show ((1:Int)==1)=true from rfl,show ((4:Int)==1)=false from rfl,show ((4:Int)==4)=true from rfl,show ((2:Int)==2)=true from rfl,show ((3:Int)==2)=false from rfl,show ((3:Int)==3)=true from rfl,show ((5:Int)==5)=true from rfl,show ((5:Int)==3)=false from rfl,show ((5:Int)==2)=false from rfl,show ((4:Int)==5)=false from rfl,show ((3:Int)==5)=false from rfl,show ((2:Int)==5)=false from rfl,show ((1:Int)==5)=false from rfl]
  cases φ1X ky<;>cases (v==[])<;>cases (c==0)<;>simp
 have b2:(k==2)=false:=by simpa using k2
 simp only[b2,cF,k2,if_false]
 by_cases k3:k=3
 ·subst k3
  simp only[cT,cF,bS,e24,beq_self_eq_true,tA,κV,show ((1:Int)==1)=true from rfl,show ((4:Int)==1)=false from rfl,show ((4:Int)==4)=true from rfl,show ((2:Int)==2)=true from rfl,show ((3:Int)==2)=false from rfl,show ((3:Int)==3)=true from rfl,show ((5:Int)==5)=true from rfl,show ((5:Int)==3)=false from rfl,show ((5:Int)==2)=false from rfl,show ((4:Int)==5)=false from rfl,show ((3:Int)==5)=false from rfl,show ((2:Int)==5)=false from rfl,show ((1:Int)==5)=false from rfl]
  cases (ky==[])<;>cases (v==[])<;>cases decide (0≤c∧c≤8)<;>simp
 have b3:(k==3)=false:=by simpa using k3
 simp only[b3,cF,k3,if_false]
 by_cases k5:k=5
 ·subst k5
  simp only[cT,cF,bS,e24,beq_self_eq_true,tA,κV,show ((1:Int)==1)=true from rfl,show ((4:Int)==1)=false from rfl,show ((4:Int)==4)=true from rfl,show ((2:Int)==2)=true from rfl,show ((3:Int)==2)=false from rfl,show ((3:Int)==3)=true from rfl,show ((5:Int)==5)=true from rfl,show ((5:Int)==3)=false from rfl,show ((5:Int)==2)=false from rfl,show ((4:Int)==5)=false from rfl,show ((3:Int)==5)=false from rfl,show ((2:Int)==5)=false from rfl,show ((1:Int)==5)=false from rfl]
  cases (ky==[])<;>cases (v==[])<;>cases decide (0≤c∧c≤20)<;>simp
 have b5:(k==5)=false:=by simpa using k5
 simp only[b5,cF,k5,if_false]
theorem φ5z (r:RecT):ψW.f r=some (φ12 r):=by
 obtain ⟨k,b,ky,v,c,s⟩:=r
 have e24:decide ((v.length:Int)≤24)=decide (v.length≤24):=decide_eq_decide.2 (by omega)
 have hb0:decide (1≤b∧b≤1000000)=(decide (0≤b∧b≤1000000) && !(b==0)):=by
  by_cases h:b=0
  ·subst h;rfl
  ·have:(b==0)=false:=by simpa using h
   rw[this,nF,κV]
   exact decide_eq_decide.2 (by omega)
 unfold ψW.f φ12
 simp only[φ1b,bS,φ9C,e24,hb0,beq_self_eq_true,tA,κV]
 by_cases k1:k=1
 ·subst k1
  simp only[cT,cF,bS,e24,hb0,beq_self_eq_true,tA,κV,show ((1:Int)==1)=true from rfl,show ((4:Int)==1)=false from rfl,show ((4:Int)==4)=true from rfl,show ((2:Int)==2)=true from rfl,show ((3:Int)==2)=false from rfl,show ((3:Int)==3)=true from rfl,show ((5:Int)==5)=true from rfl,show ((5:Int)==3)=false from rfl,show ((5:Int)==2)=false from rfl,show ((4:Int)==5)=false from rfl,show ((3:Int)==5)=false from rfl,show ((2:Int)==5)=false from rfl,show ((1:Int)==5)=false from rfl]
  cases φ1X ky<;>cases decide (v.length≤24)<;>cases decide (0≤b∧b≤1000000)<;>cases (b==0)<;>simp
 by_cases k4:k=4
 ·subst k4
  simp only[cT,cF,bS,e24,hb0,beq_self_eq_true,tA,κV,show ((1:Int)==1)=true from rfl,show ((4:Int)==1)=false from rfl,show ((4:Int)==4)=true from rfl,show ((2:Int)==2)=true from rfl,show ((3:Int)==2)=false from rfl,show ((3:Int)==3)=true from rfl,show ((5:Int)==5)=true from rfl,show ((5:Int)==3)=false from rfl,show ((5:Int)==2)=false from rfl,show ((4:Int)==5)=false from rfl,show ((3:Int)==5)=false from rfl,show ((2:Int)==5)=false from rfl,show ((1:Int)==5)=false from rfl]
  cases φ1X ky<;>cases decide (v.length≤24)<;>cases decide (0≤b∧b≤1000000)<;>cases (b==0)<;>simp
 have b1:(k==1)=false:=by simpa using k1
 have b4:(k==4)=false:=by simpa using k4
 simp only[b1,b4,cF,bS,k1,k4,or_self,if_false]
 by_cases k2:k=2
 ·subst k2
  simp only[cT,cF,bS,e24,hb0,beq_self_eq_true,tA,κV,show ((1:Int)==1)=true from rfl,show ((4:Int)==1)=false from rfl,show ((4:Int)==4)=true from rfl,show ((2:Int)==2)=true from rfl,show ((3:Int)==2)=false from rfl,show ((3:Int)==3)=true from rfl,show ((5:Int)==5)=true from rfl,show ((5:Int)==3)=false from rfl,show ((5:Int)==2)=false from rfl,show ((4:Int)==5)=false from rfl,show ((3:Int)==5)=false from rfl,show ((2:Int)==5)=false from rfl,show ((1:Int)==5)=false from rfl]
  cases φ1X ky<;>cases decide (0≤b∧b≤1000000)<;>cases (b==0)<;>simp
 have b2:(k==2)=false:=by simpa using k2
 simp only[b2,cF,k2,if_false]
 by_cases k3:k=3
 ·subst k3
  simp only[cT,cF,bS,e24,hb0,beq_self_eq_true,tA,κV,show ((1:Int)==1)=true from rfl,show ((4:Int)==1)=false from rfl,show ((4:Int)==4)=true from rfl,show ((2:Int)==2)=true from rfl,show ((3:Int)==2)=false from rfl,show ((3:Int)==3)=true from rfl,show ((5:Int)==5)=true from rfl,show ((5:Int)==3)=false from rfl,show ((5:Int)==2)=false from rfl,show ((4:Int)==5)=false from rfl,show ((3:Int)==5)=false from rfl,show ((2:Int)==5)=false from rfl,show ((1:Int)==5)=false from rfl]
  cases decide (0≤c∧c≤8)<;>cases decide (0≤s∧s≤4294967295)<;>cases decide (0≤b∧b≤1000000)<;>cases (b==0)<;>simp
 have b3:(k==3)=false:=by simpa using k3
 simp only[b3,cF,k3,if_false]
 by_cases k5:k=5
 ·subst k5
  simp only[cT,cF,bS,e24,hb0,beq_self_eq_true,tA,κV,show ((1:Int)==1)=true from rfl,show ((4:Int)==1)=false from rfl,show ((4:Int)==4)=true from rfl,show ((2:Int)==2)=true from rfl,show ((3:Int)==2)=false from rfl,show ((3:Int)==3)=true from rfl,show ((5:Int)==5)=true from rfl,show ((5:Int)==3)=false from rfl,show ((5:Int)==2)=false from rfl,show ((4:Int)==5)=false from rfl,show ((3:Int)==5)=false from rfl,show ((2:Int)==5)=false from rfl,show ((1:Int)==5)=false from rfl]
  cases decide (0≤c∧c≤20)<;>cases decide (0≤s∧s≤4294967295)<;>cases decide (0≤b∧b≤1000000)<;>simp
 have b5:(k==5)=false:=by simpa using k5
 simp only[b5,cF,k5,if_false,Bool.and_false]
def φc (r:RecT):List UInt8:=
 if φ12 r=false then [] else
 if r.1=1∨r.1=4 then varT r.1++varT r.2.1++varT (r.2.2.1.length:Int)++r.2.2.1++varT (r.2.2.2.1.length:Int)++r.2.2.2.1
 else if r.1=2 then varT r.1++varT r.2.1++varT (r.2.2.1.length:Int)++r.2.2.1
 else varT r.1++varT r.2.1++varT r.2.2.2.2.1++fix4 r.2.2.2.2.2
theorem φ3y (n:Int):(fix4 n).length≤4:=by
 unfold fix4;split
 ·rw[φ97];omega
 ·simp
theorem φ4F (r:RecT):(φc r).length≤60:=by
 obtain ⟨k,b,ky,v,c,s⟩:=r
 unfold φc
 split
 ·simp
 rename_i h
 have h:φ12 (k,b,ky,v,c,s)=true:=by simpa using h
 have l1:=φR k
 have l2:=φR b
 have l3:=φR (ky.length:Int)
 have l4:=φR (v.length:Int)
 have l5:=φR c
 have l6:=φ3y s
 unfold φ12 φ1X at h
 simp only[bA] at h
 have h:=h.2
 split
 ·rename_i c1
  simp only at c1
  simp only[c1,if_true,bA,decide_eq_true_eq] at h
  simp only[lA];omega
 ·rename_i c1
  simp only at c1
  split
  ·rename_i c2
   simp only at c2
   rw[if_neg c1,if_pos c2] at h
   simp only[bA,decide_eq_true_eq] at h
   simp only[lA];omega
  ·simp only[lA];omega
theorem φl {a b:Nat} (h:a+b≤1000000000000000):decide (a+b≤9223372036854775807)=true:=by
 rw[decide_eq_true_eq];omega
theorem φ8S (r:RecT):ψ2i.f r=some (φc r):=by
 obtain ⟨k,b,ky,v,c,s⟩:=r
 unfold ψ2i.f φc
 rw[φFk,bS]
 rcases bE (φ12 (k,b,ky,v,c,s)) with h | h
 rotate_left
 ·simp[h]
 have hs:s<9223372036854775808∨k=1∨k=4∨k=2:=by
  unfold φ12 at h
  simp only[bA] at h
  have h:=h.2
  by_cases c1:k=1∨k=4
  ·omega
  by_cases c2:k=2
  ·omega
  rw[if_neg c1,if_neg c2] at h
  left
  split at h
  ·simp only[bA,decide_eq_true_eq] at h;omega
  ·split at h
   ·simp only[bA,decide_eq_true_eq] at h;omega
   ·simp at h
 have hlen:k=1∨k=4∨k=2→ky.length≤8∧v.length≤24:=by
  intro hk
  unfold φ12 φ1X at h
  simp only[bA] at h
  have h:=h.2
  by_cases c1:k=1∨k=4
  ·rw[if_pos c1] at h
   simp only[bA,decide_eq_true_eq] at h;omega
  by_cases c2:k=2
  ·rw[if_neg c1,if_pos c2] at h
   simp only[bA,decide_eq_true_eq,beq_iff_eq] at h
   rw[h.2.1];simp;omega
  ·omega
 have l1:=φR k
 have l2:=φR b
 have l3:=φR (ky.length:Int)
 have l4:=φR (v.length:Int)
 have l5:=φR c
 have l6:=φ3y s
 simp only[h,nZ,cF,φ3q,bS,φl (show (varT k).length+(varT b).length≤1000000000000000 by omega),cT,κ8,if_false]
 have kk:(bif k==1 then some (((k,b,ky,v,c,s):RecT),varT k++varT b,k,k==1) else some ((k,b,ky,v,c,s),varT k++varT b,k,k==4))=some ((k,b,ky,v,c,s),varT k++varT b,k,decide (k=1∨k=4)):=by
  by_cases c1:k=1
  ·subst c1;rfl
  ·have b1:(k==1)=false:=by simpa using c1
   rw[b1,cF]
   by_cases c4:k=4
   ·subst c4;rfl
   ·have b4:(k==4)=false:=by simpa using c4
    rw[b4,decide_eq_false (by omega)]
 simp only[kk,bS]
 by_cases c1:k=1∨k=4
 ·have hl:=hlen (by omega)
  simp only[c1,dT,cT,if_true,
   φl (show (varT k++varT b).length+(varT (ky.length:Int)).length≤1000000000000000 by simp only[lA];omega),
   φl (show (varT k++varT b++varT (ky.length:Int)).length+ky.length≤1000000000000000 by simp only[lA];omega),
   φl (show (varT k++varT b++varT (ky.length:Int)++ky).length+(varT (v.length:Int)).length≤1000000000000000 by simp only[lA];omega),
   φl (show (varT k++varT b++varT (ky.length:Int)++ky++varT (v.length:Int)).length+v.length≤1000000000000000 by simp only[lA];omega)]
 by_cases c2:k=2
 ·have hl:=hlen (by omega)
  have b2:(k==2)=true:=by simpa using c2
  simp only[c1,b2,dF,cF,cT,if_false,
   φl (show (varT k++varT b).length+(varT (ky.length:Int)).length≤1000000000000000 by simp only[lA];omega),
   φl (show (varT k++varT b++varT (ky.length:Int)).length+ky.length≤1000000000000000 by simp only[lA];omega)]
  rw[if_pos c2]
 ·have b2:(k==2)=false:=by simpa using c2
  simp only[c1,c2,b2,dF,cF,if_false,
   φl (show (varT k++varT b).length+(varT c).length≤1000000000000000 by simp only[lA];omega),cT,
   φ9O s (by omega),bS,
   φl (show (varT k++varT b++varT c).length+(fix4 s).length≤1000000000000000 by simp only[lA];omega)]
theorem φ5F (s:List UInt8) (h:s.length<2 ^ 62):ψ18.f s=some (varT (s.length:Int)++s):=by
 have l:=φR (s.length:Int)
 unfold ψ18.f
 have c:(varT (s.length:Int)).length+s.length≤9223372036854775807:=by omega
 simp only[φ8J,bS,c,dT,cT]
theorem φFy (l:List Int):∀n (acc:List UInt8),n≤l.length→acc.length≤7 * n→l.length<1000000000000→lp ψ1B.l0 (acc,l,(l.length:Int),(n:Int))=some (acc++((l.drop n).map varT).flatten):=by
 intro n acc hn ha hl
 have:=φO (step:=ψ1B.l0) (fun n (acc:List UInt8)=>(acc,l,(l.length:Int),(n:Int))) l.length (fun n acc=>acc++((l.drop n).map varT).flatten) (fun n acc=>acc.length≤7 * n)
  (fun rec n acc hn ha ih=>by
   rcases κ0 n l.length with h | h
   ·have hv:=φR l[n]
    have hb:acc.length+(varT l[n]).length≤9223372036854775807:=by omega
    have ih:=ih (acc++varT l[n]) h (by rw[lA];omega)
    simp only[ψ1B.l0,oL,h,dT,cT,φ8,φA,φ5 h,φ8J,bS,hb,φB (show n+1<9223372036854775808 by omega),ih]
    rw[dG h,κC,κY,aA]
   ·have:n=l.length:=by omega
    subst this
    simp[ψ1B.l0])
  (by omega) n acc hn ha
 exact this
theorem φ61 (l:List Int) (hl:l.length<1000000000000):ψ1B.f l=some (l.map varT).flatten:=by
 unfold ψ1B.f
 have:=φFy l 0 [] (κ5 _) (by simp) hl
 have this:lp ψ1B.l0 ([],l,(l.length:Int),0)=_:=this
 rw[this];simp
theorem φFW (r:RecT):ψh.f r=some (φc r):=by
 obtain ⟨k,b,ky,v,c,s⟩:=r
 unfold ψh.f φc
 rw[φ5z,bS]
 rcases bE (φ12 (k,b,ky,v,c,s)) with h | h
 rotate_left
 ·simp[h]
 have hlen:k=1∨k=4∨k=2→ky.length≤8∧v.length≤24:=by
  intro hk
  unfold φ12 φ1X at h
  simp only[bA] at h
  have h:=h.2
  by_cases c1:k=1∨k=4
  ·rw[if_pos c1] at h
   simp only[bA,decide_eq_true_eq] at h;omega
  by_cases c2:k=2
  ·rw[if_neg c1,if_pos c2] at h
   simp only[bA,decide_eq_true_eq,beq_iff_eq] at h
   rw[h.2.1];simp;omega
  ·omega
 have l1:=φR k
 have l2:=φR b
 have l3:=φR (ky.length:Int)
 have l4:=φR (v.length:Int)
 have l5:=φR c
 have l6:=φ3y s
 have hv:ψ1B.f [k,b]=some (varT k++varT b):=by rw[φ61 [k,b] (by show 2<1000000000000;decide)];simp
 simp only[h,nZ,cF,hv,bS,κ8,if_false]
 have kk:(bif k==1 then some (((k,b,ky,v,c,s):RecT),varT k++varT b,k,k==1) else some ((k,b,ky,v,c,s),varT k++varT b,k,k==4))=some ((k,b,ky,v,c,s),varT k++varT b,k,decide (k=1∨k=4)):=by
  by_cases c1:k=1
  ·subst c1;rfl
  ·have b1:(k==1)=false:=by simpa using c1
   rw[b1,cF]
   by_cases c4:k=4
   ·subst c4;rfl
   ·have b4:(k==4)=false:=by simpa using c4
    rw[b4,decide_eq_false (by omega)]
 simp only[kk,bS]
 by_cases c1:k=1∨k=4
 ·have hl:=hlen (by omega)
  simp only[c1,dT,cT,if_true,φ5F ky (by omega),φ5F v (by omega),bS,
   φl (show (varT k++varT b).length+(varT (ky.length:Int)++ky).length≤1000000000000000 by simp only[lA];omega),
   φl (show (varT k++varT b++(varT (ky.length:Int)++ky)).length+(varT (v.length:Int)++v).length≤1000000000000000 by simp only[lA];omega)]
  simp only[aA]
 by_cases c2:k=2
 ·have hl:=hlen (by omega)
  have b2:(k==2)=true:=by simpa using c2
  simp only[c1,b2,dF,cF,cT,if_false,φ5F ky (by omega),bS,
   φl (show (varT k++varT b).length+(varT (ky.length:Int)++ky).length≤1000000000000000 by simp only[lA];omega)]
  rw[if_pos c2]
  simp only[aA]
 ·have b2:(k==2)=false:=by simpa using c2
  simp only[c1,c2,b2,dF,cF,if_false,φ8J,bS,
   φl (show (varT k++varT b).length+(varT c).length≤1000000000000000 by simp only[lA];omega),cT,
   φ9Z s,bS,
   φl (show (varT k++varT b++varT c).length+(fix4 s).length≤1000000000000000 by simp only[lA];omega)]
def frame (s:List UInt8):List UInt8:=
 if 200<s.length then [] else fix4 (crcT (varT (s.length:Int)++s))++(varT (s.length:Int)++s)
theorem φ8K (s:List UInt8):(frame s).length≤211:=by
 unfold frame
 split
 ·simp
 ·have l1:=φR (s.length:Int)
  have l2:=φ3y (crcT (varT (s.length:Int)++s))
  simp only[lA];omega
theorem φDH (s:List UInt8) (h:s.length<2 ^ 62):ψ2I.f s=some (frame s):=by
 unfold ψ2I.f frame
 by_cases c:200<s.length
 ·have c1:(s.length:Int) > 200:=by omega
  simp[c,c1]
 have c1:¬(s.length:Int) > 200:=by omega
 have l1:=φR (s.length:Int)
 have l2:=φ3y (crcT (varT (s.length:Int)++s))
 have r:=φ5a (varT (s.length:Int)++s)
 simp only[c,c1,dF,cF,if_false,φ3q,bS,φl (show (varT (s.length:Int)).length+s.length≤1000000000000000 by omega),cT,
  φ8v (varT (s.length:Int)++s) (by rw[lA];omega),φ9O _ (show crcT (varT (s.length:Int)++s)<9223372036854775808 by omega),
  φl (show (fix4 (crcT (varT (s.length:Int)++s))).length+(varT (s.length:Int)++s).length≤1000000000000000 by simp only[lA];omega)]
theorem φAp (s:List UInt8) (h:s.length<2 ^ 62):ψF.f s=some (frame s):=by
 unfold ψF.f frame
 by_cases c:200<s.length
 ·have c1:(s.length:Int) > 200:=by omega
  simp[c,c1]
 have c1:¬(s.length:Int) > 200:=by omega
 have l1:=φR (s.length:Int)
 have l2:=φ3y (crcT (varT (s.length:Int)++s))
 have r:=φ5a (varT (s.length:Int)++s)
 simp only[c,c1,dF,cF,if_false,φ5F s (by omega),bS,cT,
  φ8F (varT (s.length:Int)++s) (by rw[lA];omega),φ9Z,
  φl (show (fix4 (crcT (varT (s.length:Int)++s))).length+(varT (s.length:Int)++s).length≤1000000000000000 by simp only[lA];omega)]
def φ2T (l:List RecT):List UInt8:=(l.map φc).flatten
def φ52 (l:List RecT):Int:=crcT (φ2T l)
theorem φ64:∀(l:List RecT),(φ2T l).length≤60 * l.length
 | []=>by simp[φ2T]
 | r::l=>by
  have h1:=φ64 l
  have h2:=φ4F r
  unfold φ2T at *
  rw[κC,κY,lA,lC];omega
theorem φDX (l:List RecT) (r:RecT):φ2T (l++[r])=φ2T l++φc r:=by
 unfold φ2T;simp
theorem φBS (l:List RecT) (hl:l.length<1000000000000):ψ2j.f l=some (φ52 l):=by
 have hk:=φO (step:=ψ2j.l0) (fun n (_:Unit)=>(l,φ2T (l.take n),(n:Int))) l.length (fun _ _=>φ2T l) (fun _ _=>True)
  (fun rec n s hn _ ih=>by
   rcases κ0 n l.length with h | h
   ·have h1:=φ64 (l.take n)
    have h2:=φ4F l[n]
    rw[lT] at h1
    have ih:=ih () h trivial
    rw[κ2 h,φDX] at ih
    simp only[ψ2j.l0,oL,h,dT,cT,φ8,φA,φ5 h,φ2V,φ8S,bS,φl (show (φ2T (l.take n)).length+(φc l[n]).length≤1000000000000000 by omega),φB (show n+1<9223372036854775808 by omega),ih]
   ·have:n=l.length:=by omega
    subst this
    simp[ψ2j.l0])
  (by omega) 0 () (κ5 _) trivial
 have hk:lp ψ2j.l0 (l,[],0)=_:=hk
 have hl2:=φ64 l
 unfold ψ2j.f φ52
 rw[hk,bS,φ8v _ (by omega),bS]
theorem φFT (l:List RecT) (hl:l.length<1000000000000):ψi.f l=some (φ52 l):=by
 have hk:=φO (step:=ψi.l0) (fun n (_:Unit)=>(φ2T (l.take n),l,(l.length:Int),(n:Int))) l.length (fun _ _=>φ2T l) (fun _ _=>True)
  (fun rec n s hn _ ih=>by
   rcases κ0 n l.length with h | h
   ·have h1:=φ64 (l.take n)
    have h2:=φ4F l[n]
    rw[lT] at h1
    have ih:=ih () h trivial
    rw[κ2 h,φDX] at ih
    simp only[ψi.l0,oL,h,dT,cT,φ8,φA,φ5 h,φ2V,φFW,bS,φl (show (φ2T (l.take n)).length+(φc l[n]).length≤1000000000000000 by omega),φB (show n+1<9223372036854775808 by omega),ih]
   ·have:n=l.length:=by omega
    subst this
    simp[ψi.l0])
  (by omega) 0 () (κ5 _) trivial
 have hk:lp ψi.l0 ([],l,(l.length:Int),0)=_:=hk
 have hl2:=φ64 l
 unfold ψi.f φ52
 rw[hk,bS,φ8F _ (by omega),bS]
theorem φ4s {A B:Type} {step:(A→Option B)→A→Option B} (P:A→Prop) (m:A→Nat) (Post:B→Prop)
  (h:∀rec a,P a→(∃b,step rec a=some b∧Post b)∨∃a',P a'∧m a'<m a∧step rec a=rec a') {a:A} (hp:P a) (hm:m a<2 ^ 62):∃b,lp step a=some b∧Post b:=by
 have key:∀f a,P a→m a<f→∃b,φ28 step f a=some b∧Post b:=by
  intro f
  induction f with
  | zero=>intro a _ hf;omega
  | succ f ih=>
   intro a hp hf
   rcases h (φ28 step f) a hp with hx | ⟨a',hp',hlt,e⟩
   ·exact hx
   ·show ∃b,step (φ28 step f) a=some b∧Post b
    rw[e]
    exact ih a' hp' (by omega)
 exact key FUEL a hp (κA hm φ5u)
theorem φEE {a:Nat} (h:a<1000000000001):(a+1) * 24≤140737488355328:=by omega
def srt {α:Type} (l:List (List UInt8×α)):Prop:=l.Pairwise (fun a b=>Op.bytesLess a.1 b.1=true)
theorem φ7R {α:Type} (x:List UInt8×α) (l:List (List UInt8×α)) (p:List UInt8×α):insB (x::l) p=if leK x.1 p.1=true then x::insB l p else p::x::l:=by
 cases h:leK x.1 p.1<;>simp[insB,h]
theorem φ7H {α:Type} (y p:List UInt8×α):∀l:List (List UInt8×α),y∈insB l p↔y=p∨y∈l
 | []=>by simp[insB]
 | x::l=>by
  rw[φ7R]
  split
  ·rw[mc,φ7H y p l,mc]
   constructor
   ·rintro (h | h | h)
    ·exact .inr (.inl h)
    ·exact .inl h
    ·exact .inr (.inr h)
   ·rintro (h | h | h)
    ·exact .inr (.inl h)
    ·exact .inl h
    ·exact .inr (.inr h)
  ·rw[mc]
theorem φ9t {α:Type} (p:List UInt8×α):∀l:List (List UInt8×α),srt l→(∀x∈l,x.1≠p.1)→srt (insB l p)
 | [],_,_=>by simp[insB,srt]
 | x::l,h,hn=>by
  have h:=List.pairwise_cons.1 h
  rw[φ7R]
  split
  ·rename_i c
   refine List.Pairwise.cons (fun y hy=>?_) (φ9t p l h.2 fun y hy=>hn y (mC _ hy))
   rcases (φ7H y p l).1 hy with e | hy
   ·rw[e]
    unfold leK at c
    rcases Bool.or_eq_true _ _ ▸ c with c | c
    ·exact c
    ·exact absurd (by simpa using c) (hn x κ6)
   ·exact h.1 y hy
  ·rename_i c
   have c2:Op.bytesLess p.1 x.1=true:=by
    rw[φ6T] at c
    simpa using c
   refine List.Pairwise.cons (fun y hy=>?_) (List.Pairwise.cons h.1 h.2)
   rcases mc.1 hy with e | hy
   ·rw[e];exact c2
   ·exact φ6h _ _ _ c2 (h.1 y hy)
abbrev φE:=Int×List Int
def φ1h (hi:Int):Option Int→List Int→Bool
 | _,[]=>true
 | p,x::r=>decide (1≤x∧x≤hi) && ((match p with | none=>true | some q=>decide (q<x)) && φ1h hi (some x) r)
def φ5I (l:List Int):Nat→Option Int
 | 0=>none
 | n+1=>some (l.getD n 0)
theorem φ7M (l:List Int) (n:Nat) (h:n<l.length):φ5I l (n+1)=some l[n]:=by
 show some (l.getD n 0)=_
 rw[φ5 h]
def φ1C (v:φE):Bool:=φ1h (w64 (v.1 - 1)) none v.2 && (decide (1≤v.1∧v.1≤100000) && decide (1≤(v.2.length:Int)∧(v.2.length:Int)≤60))
theorem φHW (v:φE) (hl:v.2.length<2 ^ 62):lp ψM.l0 (v,v.2,(v.2.length:Int),0)=some (if φ1h (w64 (v.1 - 1)) none v.2=true then .inl v else .inr false):=by
 have key:=φO (step:=ψM.l0) (fun n (_:Unit)=>(v,v.2,(v.2.length:Int),(n:Int))) v.2.length (fun n _=>if φ1h (w64 (v.1 - 1)) (φ5I v.2 n) (v.2.drop n)=true then .inl v else .inr false) (fun _ _=>True)
  (fun rec n s hn' _ ih=>by
   rcases κ0 n v.2.length with h | h
   ·have hw:w64 ((n:Int)+1)=((n+1:Nat):Int):=φB (by omega)
    have ih2:=ih () h trivial
    rw[φ7M v.2 n h] at ih2
    rw[dG h]
    simp only[φ1h,ψM.l0,oL,h,dT,cT,φ8,φA,φ5 h,bS,φ1b]
    rcases bE (decide (1≤v.2[n]∧v.2[n]≤w64 (v.1 - 1))) with k2 | k2
    rotate_left
    ·simp only[k2,nF,cT,bS,φS];simp
    simp only[k2,nZ,cF,tA]
    cases n with
    | zero=>
     have z:¬((0:Nat):Int) > 0:=by omega
     simp only[z,dF,cF,bS,φL,hw,ih2,φ5I,tA]
    | succ m=>
     have z:((m+1:Nat):Int) > 0:=by omega
     have hm:m<v.2.length:=by omega
     have z2:w64 (((m+1:Nat):Int) - 1)=(m:Int):=by rw[φ9 (by omega) (by omega)];omega
     rw[φ7M v.2 m hm]
     simp only[z,dT,cT,z2,φ8,hm,φA,φ5 hm]
     by_cases k3:v.2[m]<v.2[m+1]
     ·have k4:¬v.2[m]≥v.2[m+1]:=by omega
      simp only[k3,k4,dT,dF,cF,bS,φL,hw,ih2,tA]
     ·have k4:v.2[m]≥v.2[m+1]:=by omega
      simp[k3,k4]
   ·have:n=v.2.length:=by omega
    subst this
    simp[ψM.l0,φ1h])
  hl 0 () (κ5 _) trivial
 have key:lp ψM.l0 (v,v.2,(v.2.length:Int),0)=_:=key
 rw[key,κE];rfl
theorem φG8 (v:φE) (hl:v.2.length<2 ^ 62):lp ψ2O.l0 (v,0)=some (if φ1h (w64 (v.1 - 1)) none v.2=true then .inl () else .inr false):=by
 have key:=φO (step:=ψ2O.l0) (fun n (_:Unit)=>(v,(n:Int))) v.2.length (fun n _=>if φ1h (w64 (v.1 - 1)) (φ5I v.2 n) (v.2.drop n)=true then .inl () else .inr false) (fun _ _=>True)
  (fun rec n s hn' _ ih=>by
   rcases κ0 n v.2.length with h | h
   ·have hw:w64 ((n:Int)+1)=((n+1:Nat):Int):=φB (by omega)
    have ih2:=ih () h trivial
    rw[φ7M v.2 n h] at ih2
    rw[dG h]
    simp only[φ1h,ψ2O.l0,oL,h,dT,cT,φ8,φA,φ5 h,bS,φ1n]
    rcases bE (decide (1≤v.2[n]∧v.2[n]≤w64 (v.1 - 1))) with k2 | k2
    rotate_left
    ·simp only[k2,nF,cT,bS,φS];simp
    simp only[k2,nZ,cF,tA]
    cases n with
    | zero=>
     have z:¬((0:Nat):Int) > 0:=by omega
     simp only[z,dF,cF,bS,φL,hw,ih2,φ5I,tA]
    | succ m=>
     have z:((m+1:Nat):Int) > 0:=by omega
     have hm:m<v.2.length:=by omega
     have z2:w64 (((m+1:Nat):Int) - 1)=(m:Int):=by rw[φ9 (by omega) (by omega)];omega
     rw[φ7M v.2 m hm]
     simp only[z,dT,cT,z2,φ8,hm,φA,φ5 hm]
     by_cases k3:v.2[m]<v.2[m+1]
     ·have k4:¬v.2[m+1]≤v.2[m]:=by omega
      simp only[k3,k4,dT,dF,cF,bS,φL,hw,ih2,tA]
     ·have k4:v.2[m+1]≤v.2[m]:=by omega
      simp[k3,k4]
   ·have:n=v.2.length:=by omega
    subst this
    simp[ψ2O.l0,φ1h])
  hl 0 () (κ5 _) trivial
 have key:lp ψ2O.l0 (v,0)=_:=key
 rw[key,κE];rfl
theorem φ7v (v:φE) (hl:v.2.length<2 ^ 62):ψM.f v=some (φ1C v):=by
 unfold ψM.f φ1C
 rw[φHW v hl,bS]
 rcases bE (φ1h (w64 (v.1 - 1)) none v.2) with k | k
 rotate_left
 ·simp[k]
 simp only[k,if_true,φL,φ1b,bS,tA]
 cases decide (1≤v.1∧v.1≤100000)<;>rfl
theorem φ8k (v:φE) (hl:v.2.length<2 ^ 62):ψ2O.f v=some (φ1C v):=by
 unfold ψ2O.f φ1C
 rw[φG8 v hl]
 simp only[φ1n,bS]
 rcases bE (decide (1≤v.1∧v.1≤100000)) with k | k
 rotate_left
 ·simp only[k,nF,cT,κL,Bool.and_false]
 rcases bE (decide (1≤(v.2.length:Int)∧(v.2.length:Int)≤60)) with k2 | k2
 rotate_left
 ·simp only[k,k2,nF,nZ,cF,cT,Bool.and_false]
 simp only[k,k2,nZ,cF,κV]
 cases φ1h (w64 (v.1 - 1)) none v.2<;>simp
theorem φ4A {v:φE} (h:φ1C v=true):v.2.length≤60:=by
 unfold φ1C at h
 simp only[bA,decide_eq_true_eq] at h
 omega
theorem φ87:∀l:List Int,((l.map varT).flatten).length≤7 * l.length
 | []=>by simp
 | x::l=>by
  have h1:=φ87 l
  have h2:=φR x
  rw[κC,κY,lA,lC];omega
def φ1E (v:φE):List UInt8:=if φ1C v=false then [] else frame (varT v.1++varT (v.2.length:Int)++(v.2.map varT).flatten)
theorem φCw (v:φE):(φ1E v).length≤211:=by
 unfold φ1E;split
 ·simp
 ·exact φ8K _
theorem φEb (v:φE) (hl:v.2.length<2 ^ 62):ψg.f v=some (φ1E v):=by
 unfold ψg.f φ1E
 rw[φ7v v hl,bS]
 rcases bE (φ1C v) with k | k
 rotate_left
 ·simp[k]
 have h60:=φ4A k
 have h1:=φ87 v.2
 have h2:=φR v.1
 have h3:=φR (v.2.length:Int)
 have hv:ψ1B.f [v.1,(v.2.length:Int)]=some (varT v.1++varT (v.2.length:Int)):=by rw[φ61 [v.1,(v.2.length:Int)] (by show 2<1000000000000;decide)];simp
 simp only[k,nZ,cF,hv,bS,φ61 v.2 (by omega),φl (show (varT v.1++varT (v.2.length:Int)).length+((v.2.map varT).flatten).length≤1000000000000000 by rw[lA];omega),cT,φAp _ (show (varT v.1++varT (v.2.length:Int)++(v.2.map varT).flatten).length<2 ^ 62 by rw[lA,lA];omega),κ8,if_false]
theorem φ8t (v:φE) (hl:v.2.length<2 ^ 62):ψ2h.f v=some (φ1E v):=by
 unfold ψ2h.f φ1E
 rw[φ8k v hl,bS]
 rcases bE (φ1C v) with k | k
 rotate_left
 ·simp[k]
 have h60:=φ4A k
 have h1:=φ87 v.2
 have h2:=φR v.1
 have h3:=φR (v.2.length:Int)
 have key:=φO (step:=ψ2h.l0) (fun n (acc:List UInt8)=>(v,acc,(n:Int))) v.2.length (fun n acc=>acc++((v.2.drop n).map varT).flatten) (fun n acc=>acc.length≤14+7 * n)
  (fun rec n acc hn ha ih=>by
   rcases κ0 n v.2.length with h | h
   ·have hv:=φR v.2[n]
    have hb:acc.length+(varT v.2[n]).length≤9223372036854775807:=by omega
    have ih:=ih (acc++varT v.2[n]) h (by rw[lA];omega)
    simp only[ψ2h.l0,oL,h,dT,cT,φ8,φA,φ5 h,φ3q,bS,hb,φB (show n+1<9223372036854775808 by omega),ih]
    rw[dG h,κC,κY,aA]
   ·have:n=v.2.length:=by omega
    subst this
    simp[ψ2h.l0])
  (by omega) 0 (varT v.1++varT (v.2.length:Int)) (κ5 _) (by rw[lA];omega)
 have key:lp ψ2h.l0 (v,varT v.1++varT (v.2.length:Int),0)=_:=key
 simp only[k,nZ,cF,φ3q,bS,φl (show (varT v.1).length+(varT (v.2.length:Int)).length≤1000000000000000 by omega),cT,key,κE,φDH _ (show (varT v.1++varT (v.2.length:Int)++(v.2.map varT).flatten).length<2 ^ 62 by rw[lA,lA];omega),κ8,if_false]
def dl (k:Nat) (d:φ2):Prop:=d.1.length<k∧φK d.1<k∧∀f∈d.1,f.1.length<k
theorem φ1A {k:Nat} {d:φ2} (h:dl k d) (hk:k≤1000000000):dlim d:=⟨by have:=h.1;omega,by have:=h.2.1;omega,fun f hf=>by have:=h.2.2 f hf;omega⟩
theorem φ3V {k m:Nat} {d:φ2} (h:dl k d) (hk:k≤m):dl m d:=⟨by have:=h.1;omega,by have:=h.2.1;omega,fun f hf=>by have:=h.2.2 f hf;omega⟩
theorem φ7i {k m:Nat} {d:φ2} {act:List φ4→Int×List φ4} (h:dl k d) (hm:k≤m) (ha:dl m ((act d.1).2,d.2)):dl m (φZ d act).1:=by
 unfold φZ
 split
 ·exact φ3V h hm
 ·split
  ·exact φ3V h hm
  ·exact ha
theorem φ7w {α:Type} (f:α→Nat) {a b:List α} (h:a.Sublist b):sumN f a≤sumN f b:=by
 induction h with
 | slnil=>exact κ7 _
 | cons x _ ih=>simp only[sumN];omega
 | cons_cons x _ ih=>simp only[sumN];omega
theorem φGj {k:Nat} {d:φ2} {l:List φ4} (h:dl k d) (hs:l.Sublist d.1):dl k (l,d.2):=
 ⟨Nat.lt_of_le_of_lt hs.length_le h.1,Nat.lt_of_le_of_lt (φ7w _ hs) h.2.1,fun f hf=>h.2.2 f (hs.subset hf)⟩
def φ2U (n:List UInt8) (d:φ2):φ2×Int:=φZ d (φ2h n)
def φ16 (n:List UInt8) (d:φ2):φ2×Int:=φZ d (φ2q n)
def φ2I (n t:List UInt8) (d:φ2):φ2×Int:=φZ d (φ2z d.2.1 n t)
def φ2J (n:List UInt8) (d:φ2):φ2×Int:=φZ d (φ2k n)
def φ5Y (a b:List UInt8) (d:φ2):φ2×Int:=φZ d (φ34 a b)
theorem φC3 {k:Nat} {d:φ2} (h:dl k d) (n:List UInt8):dl k (φ2U n d).1:=
 φ7i h (κ7 _) (by
  unfold φ2h
  split
  ·exact φGj h (φ4D _ _)
  ·exact h)
theorem φE8 {k m:Nat} {d:φ2} (h:dl k d) (f:φ4) (h1:k+1≤m) (h2:k+f.2.1.length≤m) (h3:f.1.length<m):dl m (insB d.1 f,d.2):=by
 refine ⟨?_,?_,fun g hg=>?_⟩
 ·show (insB d.1 f).length<m
  rw[φ8D];have:=h.1;omega
 ·show φK (insB d.1 f)<m
  have e:φK (insB d.1 f)=φK d.1+f.2.1.length:=by
   unfold φK
   generalize d.1=l
   induction l with
   | nil=>simp[insB,sumN]
   | cons x l ih=>
    rw[φ7R]
    split
    ·simp only[sumN,ih];omega
    ·simp only[sumN];omega
  rw[e];have:=h.2.1;omega
 ·rcases (φ7H g f d.1).1 hg with e | hg
  ·rw[e];exact h3
  ·have:=h.2.2 g hg;omega
theorem φ6O {k m:Nat} {d:φ2} (h:dl k d) (n:List UInt8) (h1:k+1≤m) (h3:n.length<m):dl m (φ16 n d).1:=
 φ7i h (by omega) (by
  unfold φ2q
  split
  ·exact φ3V h (by omega)
  split
  ·exact φ3V h (by omega)
  split
  ·exact φ3V h (by omega)
  ·exact φE8 h _ h1 (by simp;omega) h3)
theorem φGz (l:List φ4) (i:Nat) (f:φ4) (k:Nat) (hi:i<l.length) (hf:f.2.1.length≤l[i].2.1.length+k):φK (l.set i f)≤φK l+k:=by
 unfold φK
 induction l generalizing i with
 | nil=>simp at hi
 | cons x l ih=>
  cases i with
  | zero=>
   simp only[List.set_cons_zero,sumN]
   simp only[List.getElem_cons_zero] at hf
   omega
  | succ i=>
   simp only[List.set_cons_succ,sumN]
   have:=ih i (by simpa using hi) (by simpa using hf)
   omega
theorem φAk {k m c:Nat} {d:φ2} (h:dl k d) (i:Nat) (f:φ4) (hi:i<d.1.length) (hn:f.1=(d.1[i]).1) (hf:f.2.1.length≤d.1[i].2.1.length+c) (hm:k+c≤m):dl m (d.1.set i f,d.2):=by
 refine ⟨?_,?_,fun g hg=>?_⟩
 ·show (d.1.set i f).length<m
  rw[List.length_set];have:=h.1;omega
 ·show φK (d.1.set i f)<m
  have:=φGz d.1 i f c hi hf
  have:=h.2.1;omega
 ·rcases List.mem_or_eq_of_mem_set hg with hg | e
  ·have:=h.2.2 g hg;omega
  ·rw[e,hn];have:=h.2.2 _ (gM hi);omega
theorem φ7T {k m:Nat} {d:φ2} (h:dl k d) (n t:List UInt8) (h1:k+t.length≤m):dl m (φ2I n t d).1:=
 φ7i h (by omega) (by
  unfold φ2z
  rcases φt d.1 n with ⟨e,_⟩ | ⟨i,hi,e,_⟩
  ·rw[φy e];exact φ3V h (by omega)
  ·rw[φv e]
   simp only
   split
   ·exact φ3V h (by omega)
   ·rw[φ5 hi]
    exact φAk h i _ hi rfl (by simp) h1)
theorem φCY {k:Nat} {d:φ2} (h:dl k d) (n:List UInt8):dl k (φ2J n d).1:=
 φ7i h (κ7 _) (by
  unfold φ2k
  rcases φt d.1 n with ⟨e,_⟩ | ⟨i,hi,e,_⟩
  ·rw[φy e];exact h
  ·rw[φv e]
   simp only
   rw[φ5 hi]
   exact φAk (c:=0) h i _ hi rfl (by simp) (κ7 _))
theorem φAj (l:List φ4) (n:List UInt8):(φ1H l n).Sublist l:=by
 unfold φ1H;split
 ·exact φ4D _ _
 ·exact List.Sublist.refl _
abbrev φN:=φ2×Int
def told (c:Int):Int:=if c=0 then 0 else if c=1 then 1 else if c=2 then 2 else 3
theorem φ5q (c:Int):told c=0↔c=0:=by
 unfold told;split
 ·simp[*]
 ·split
  ·simp[*]
  ·split
   ·simp[*]
   ·simp[*]
theorem φDW (c:Int):ψ19.f c=some (told c):=by
 unfold ψ19.f told
 by_cases h0:c=0
 ·simp[h0]
 ·by_cases h1:c=1
  ·simp[h1]
  ·by_cases h2:c=2
   ·simp[h2]
   ·have b0:(c==0)=false:=by simpa using h0
    have b1:(c==1)=false:=by simpa using h1
    have b2:(c==2)=false:=by simpa using h2
    rw[b0,b1,b2];simp[h0,h1,h2]
theorem φ4f (c:Int):ψ2q.f c=some (told c):=φDW c
def φe (op:φ2→φ2×Int) (w:φN):φN:=if w.2=0 then op w.1 else w
def φ13 (op:φ2→φ2×Int) (w:φN):φN:=if w.2=0 then ((op w.1).1,told (op w.1).2) else w
def φg (w:φN):φN:=(w.1,told w.2)
theorem φ3z (op:φ2→φ2×Int) (w:φN):φ13 op (φg w)=φg (φe op w):=by
 unfold φ13 φe φg
 by_cases h:w.2=0
 ·have h2:told w.2=0:=(φ5q _).2 h
  simp only[h2,if_true]
  rw[if_pos h]
 ·have h2:¬told w.2=0:=fun e=>h ((φ5q _).1 e)
  simp[h,h2]
def φu (n:List UInt8) (d:φ2):φ2×Int:=if φ1P d.1 n≥0 then φ2U n d else (d,0)
theorem φ7Q {k:Nat} {d:φ2} (h:dl k d) (n:List UInt8):dl k (φu n d).1:=by
 unfold φu;split
 ·exact φC3 h n
 ·exact h
theorem φ4n {k m:Nat} {w:φN} {op:φ2→φ2×Int} (h:dl k w.1) (hm:k≤m) (ho:dl m (op w.1).1):dl m (φe op w).1:=by
 unfold φe;split
 ·exact ho
 ·exact φ3V h hm
theorem φ4B {k m:Nat} {w:φN} {op:φ2→φ2×Int} (h:dl k w.1) (hm:k≤m) (ho:dl m (op w.1).1):dl m (φ13 op w).1:=by
 unfold φ13;split
 ·exact ho
 ·exact φ3V h hm
theorem φ4l (w:φN) (d:φ2) (c:Int):ψ1P.f w d c=some (d,told c):=by
 unfold ψ1P.f;rw[φDW];rfl
theorem φB8 (w:φN) (n:List UInt8) {k:Nat} (h:dl k w.1) (hk:k≤1000000000):ψ1H.f w n=some (φ13 (φu n) w):=by
 have hd:=φ1A h hk
 unfold ψ1H.f φ13 φu
 by_cases c:w.2=0
 ·have c1:(w.2==0)=true:=by simpa using c
  simp only[c1,cT,φ3Q w.1 n (by have:=hd.1;omega),bS,φIZ w.1 n hd,φ4l]
  by_cases c2:φ1P w.1.1 n≥0
  ·simp only[c2,dT,cT,c,if_true];rfl
  ·simp only[c2,dF,cF,c,if_true,if_false]
   congr 1
   show w=(w.1,told 0)
   rw[show told 0=w.2 by rw[c];rfl]
 ·have c1:(w.2==0)=false:=by simpa using c
  simp[c,c1]
theorem φBt (w:φN) (n:List UInt8) {k:Nat} (h:dl k w.1) (hk:k≤1000000000) (hn:n.length<2 ^ 62):ψ1D.f w n=some (φ13 (φ16 n) w):=by
 have hd:=φ1A h hk
 unfold ψ1D.f φ13
 by_cases c:w.2=0
 ·have c1:(w.2==0)=true:=by simpa using c
  simp only[c1,cT,φHD w.1 n hd hn,bS,φ4l,c,if_true];rfl
 ·have c1:(w.2==0)=false:=by simpa using c
  simp[c,c1]
theorem φGi (w:φN) (n t:List UInt8) {k:Nat} (h:dl k w.1) (hk:k≤1000000000) (ht:t.length<1000000000000):ψ1K.f w n t=some (φ13 (φ2I n t) w):=by
 have hd:=φ1A h hk
 unfold ψ1K.f φ13
 by_cases c:w.2=0
 ·have c1:(w.2==0)=true:=by simpa using c
  simp only[c1,cT,φEo w.1 n t hd ht,bS,φ4l,c,if_true];rfl
 ·have c1:(w.2==0)=false:=by simpa using c
  simp[c,c1]
theorem φDI (w:φN) (n:List UInt8) {k:Nat} (h:dl k w.1) (hk:k≤1000000000):ψ1O.f w n=some (φ13 (φ2J n) w):=by
 have hd:=φ1A h hk
 unfold ψ1O.f φ13
 by_cases c:w.2=0
 ·have c1:(w.2==0)=true:=by simpa using c
  simp only[c1,cT,φF0 w.1 n hd,bS,φ4l,c,if_true];rfl
 ·have c1:(w.2==0)=false:=by simpa using c
  simp[c,c1]
theorem φGE (w:φN) (a b:List UInt8) {k:Nat} (h:dl k w.1) (hk:k≤1000000000) (hb:b.length<2 ^ 62):ψ1M.f w a b=some (φ13 (φ5Y a b) w):=by
 have hd:=φ1A h hk
 unfold ψ1M.f φ13
 by_cases c:w.2=0
 ·have c1:(w.2==0)=true:=by simpa using c
  simp only[c1,cT,φE6 w.1 a b hd hb,bS,φ4l,c,if_true];rfl
 ·have c1:(w.2==0)=false:=by simpa using c
  simp[c,c1]
def φ3I (n t:List UInt8) (w:φN):φN:=φe (φ2J n) (φe (φ2I n t) (φe (φ16 n) (φe (φu n) w)))
def φ4z (n t:List UInt8) (w:φN):φN:=φ13 (φ2J n) (φ13 (φ2I n t) (φ13 (φ16 n) (φ13 (φu n) w)))
theorem φHJ (n t:List UInt8) (w:φN):φ4z n t (φg w)=φg (φ3I n t w):=by
 unfold φ4z φ3I
 rw[φ3z,φ3z,φ3z,φ3z]
theorem φFZ {k m:Nat} {w:φN} (h:dl k w.1) (n t:List UInt8) (h1:k+1+n.length+t.length≤m):dl m (φ4z n t w).1:=by
 have g1:=φ4B (op:=φu n) h (κ7 _) (φ7Q h n)
 have g2:=φ4B (op:=φ16 n) (m:=k+1+n.length) g1 (by omega) (φ6O g1 n (by omega) (by omega))
 have g3:=φ4B (op:=φ2I n t) (m:=m) g2 (by omega) (φ7T g2 n t (by omega))
 exact φ4B (op:=φ2J n) g3 (κ7 _) (φCY g3 n)
theorem φFz {k m:Nat} {w:φN} (h:dl k w.1) (n t:List UInt8) (h1:k+1+n.length+t.length≤m):dl m (φ3I n t w).1:=by
 have g1:=φ4n (op:=φu n) h (κ7 _) (φ7Q h n)
 have g2:=φ4n (op:=φ16 n) (m:=k+1+n.length) g1 (by omega) (φ6O g1 n (by omega) (by omega))
 have g3:=φ4n (op:=φ2I n t) (m:=m) g2 (by omega) (φ7T g2 n t (by omega))
 exact φ4n (op:=φ2J n) g3 (κ7 _) (φCY g3 n)
theorem φIA (w:φN) (n t:List UInt8) {k:Nat} (h:dl k w.1) (hk:k+1+n.length+t.length≤1000000000):ψ1E.f w n t=some (φ4z n t w):=by
 have g1:=φ4B (op:=φu n) h (κ7 _) (φ7Q h n)
 have g2:=φ4B (op:=φ16 n) (m:=k+1+n.length) g1 (by omega) (φ6O g1 n (by omega) (by omega))
 have g3:=φ4B (op:=φ2I n t) (m:=k+1+n.length+t.length) g2 (by omega) (φ7T g2 n t (by omega))
 unfold ψ1E.f ψ1C.f φ4z
 simp only[φB8 w n h (by omega),bS,φBt _ n g1 (by omega) (by omega),φGi _ n t g2 (by omega) (by omega),φDI _ n g3 (by omega)]
theorem φ3a {op:φ2→φ2×Int} {d:φ2} {c:Int} (h:c≠0):φe op (d,c)=(d,c):=by
 unfold φe;simp[h]
theorem φ3O {op:φ2→φ2×Int} {d:φ2}:φe op (d,0)=op d:=by
 unfold φe;simp
theorem φIb (d:φ2) (n:List UInt8) {k:Nat} (h:dl k d) (hk:k≤1000000000) (hn:n.length<2 ^ 62):ψ2t.f d n=some (φe (φ16 n) (φu n d)):=by
 have hd:=φ1A h hk
 unfold ψ2t.f
 rw[φ3A d n (by have:=hd.1;omega),bS]
 by_cases c2:φ1P d.1 n≥0
 ·have e:φu n d=φ2U n d:=by unfold φu;simp[c2]
  have g:=φC3 h n
  rw[e]
  have er:ψ2b.f d n=some (φ2U n d):=φBo d n hd
  simp only[c2,dT,cT,er,bS]
  generalize φ2U n d=r at *
  obtain ⟨x,c⟩:=r
  by_cases c3:c=0
  ·have c4:(c != 0)=false:=by simpa using c3
   subst c3
   rw[φ3O]
   simp only[c4,cF,bS,φL,φ8O x n (φ1A g hk) hn];rfl
  ·have c4:(c != 0)=true:=by simpa using c3
   rw[φ3a c3]
   simp only[c4,cT,bS,φS]
 ·have e:φu n d=(d,0):=by unfold φu;simp[c2]
  rw[e,φ3O]
  simp only[c2,dF,cF,bS,φL,φ8O d n hd hn];rfl
theorem φDh (d:φ2) (n t:List UInt8) {k:Nat} (h:dl k d) (hk:k+1+n.length+t.length≤1000000000):ψ2r.f d n t=some (φ3I n t (d,0)):=by
 have g1:=φ7Q h n
 have g2:dl (k+1+n.length) (φe (φ16 n) (φu n d)).1:=φ4n (op:=φ16 n) g1 (by omega) (φ6O g1 n (by omega) (by omega))
 have g3:=φ4n (op:=φ2I n t) (m:=k+1+n.length+t.length) g2 (by omega) (φ7T g2 n t (by omega))
 unfold ψ2r.f φ3I
 rw[φIb d n h (by omega) (by omega),bS,φ3O]
 generalize φe (φ16 n) (φu n d)=r at *
 obtain ⟨x,c⟩:=r
 have e2:(bif c==0 then (ψ27.f x n t).bind fun (t2_0,t2_1)=>some (n,(([],0,0,false):φ2),t2_0,t2_1) else some (n,([],0,0,false),x,c))=some (n,([],0,0,false),(φe (φ2I n t) (x,c)).1,(φe (φ2I n t) (x,c)).2):=by
  by_cases c0:c=0
  ·subst c0
   rw[φ3O]
   simp only[show ((0:Int)==0)=true from rfl,cT,φGe x n t (φ1A g2 (by omega)) (by omega),bS];rfl
  ·have c1:(c==0)=false:=by simpa using c0
   rw[φ3a c0,c1];rfl
 simp only[e2,bS]
 generalize φe (φ2I n t) (x,c)=r at *
 obtain ⟨x,c⟩:=r
 by_cases c0:c=0
 ·subst c0
  rw[φ3O]
  simp only[show ((0:Int)==0)=true from rfl,cT,φBr x n (φ1A g3 (by omega)),bS];rfl
 ·have c1:(c==0)=false:=by simpa using c0
  rw[φ3a c0]
  simp only[c1,cF]
def sPut (v:φE) (w:φN):φN:=φe (φ5Y [116,101,109,112] [108,105,118,101]) (φ3I [116,101,109,112] (φ1E v) w)
def wPut (v:φE) (w:φN):φN:=φ13 (φ5Y [116,101,109,112] [108,105,118,101]) (φ4z [116,101,109,112] (φ1E v) w)
theorem φG5 (v:φE) (w:φN):wPut v (φg w)=φg (sPut v w):=by
 unfold wPut sPut
 rw[φHJ,φ3z]
theorem φFO (w:φN) (v:φE) {k:Nat} (h:dl k w.1) (hk:k+1000≤1000000000) (hl:v.2.length<2 ^ 62):ψ1L.f w v=some (wPut v w):=by
 have h1:=φCw v
 have g:=φFZ h [116,101,109,112] (φ1E v) (m:=k+1000) (by show k+1+4+_≤_;omega)
 unfold ψ1L.f wPut
 simp only[φEb v hl,bS,φIA w [116,101,109,112] (φ1E v) h (show k+1+4+(φ1E v).length≤1000000000 by omega),φGE _ [116,101,109,112] [108,105,118,101] g hk (by show 4<2 ^ 62;decide)]
def φ9k (d:φ2) (v:φE):φ2×Int:=if φ6 d=false∨φ1C v=false then (d,4) else φg (sPut v (d,0))
theorem φIg (d:φ2) (v:φE) {k:Nat} (h:dl k d) (hk:k+1000≤1000000000) (hl:v.2.length<2 ^ 62):ψ2S.f d v=some (φ9k d v):=by
 have hd:=φ1A h (by omega)
 have h1:=φCw v
 unfold ψ2S.f φ9k
 rw[φ5H d hd,bS]
 rcases bE (φ6 d) with k1 | k1
 rotate_left
 ·simp[k1,φ5S d (by have:=hd.1;omega)]
 rcases bE (φ1C v) with k2 | k2
 rotate_left
 ·simp[k1,k2,φ8k v hl,φ5S d (by have:=hd.1;omega)]
 have g:=φFz (w:=(d,0)) h [116,101,109,112] (φ1E v) (m:=k+1000) (by show k+1+4+_≤_;omega)
 simp only[k1,k2,nZ,cF,φ8k v hl,φ8t v hl,bS,φDh d [116,101,109,112] (φ1E v) h (show k+1+4+(φ1E v).length≤1000000000 by omega),κ8,or_self,if_false]
 unfold sPut
 generalize φ3I [116,101,109,112] (φ1E v) (d,0)=r at *
 obtain ⟨x,c⟩:=r
 by_cases c0:c=0
 ·subst c0
  rw[φ3O]
  simp only[show ((0:Int)==0)=true from rfl,cT,φIC x [116,101,109,112] [108,105,118,101] (φ1A g hk) (show 4<2 ^ 62 by decide),bS,φ4f];rfl
 ·have c1:(c==0)=false:=by simpa using c0
  rw[φ3a c0]
  simp only[c1,cF,bS,φ4f];rfl
theorem φFC {x0:φ2} (hb:φ3X x0≤1048576):dl 1048577 x0:=by
 have h1:φK x0.1≤sumN φ2M x0.1:=φAX (fun f=>by unfold φ2M;omega) _
 unfold φ3X φ3Z at hb
 refine ⟨by omega,by omega,fun f hf=>?_⟩
 have h2:=φ9b φ2M hf
 have h3:f.1.length≤φ2M f:=by unfold φ2M;omega
 omega
abbrev φ2b:=φE×List φG×Int×Int×Int
theorem φ5O (n:Nat):Lib.itoa (n:Int)=Lib.decDigits n:=by
 unfold Lib.itoa
 rw[if_neg (by omega),tN]
theorem φ46:∀(k n:Nat),n<10 ^ (k+1)→(Lib.decDigits n).length≤k+1
 | 0,n,h=>by rw[Lib.decDigits,dif_pos (by simpa using h)];simp
 | k+1,n,h=>by
  rw[Lib.decDigits]
  split
  ·simp
  ·have:=φ46 k (n / 10) (by rw[Nat.div_lt_iff_lt_mul (by omega)];rw[κS] at h;exact h)
   simp only[lA,κ3];omega
def digs (n:Nat):List UInt8:=if n=0 then [] else Lib.decDigits n
theorem φ2x {n:Nat} (h:n≠0):digs n=digs (n / 10)++[UInt8.ofNat (48+n % 10)]:=by
 unfold digs
 rw[if_neg h,Lib.decDigits]
 split
 ·rename_i h2
  rw[if_pos (by omega),κW h2];rfl
 ·rename_i h2
  rw[if_neg (by omega)]
theorem φ9i (n:Nat) (hn:n<1000000000000000000):ψ2A.f (n:Int)=some (Lib.decDigits n):=by
 unfold ψ2A.f
 by_cases c:n=0
 ·subst c
  rw[Lib.decDigits];rfl
 have c1:((n:Int)==0)=false:=by simpa using c
 have c2:decide ((n:Int)<0)=false:=dnn (by omega)
 have key:=φ4e (step:=ψ2A.l0) (a:=((n:Int),([]:List UInt8),false)) (fun a=>(digs a.1.toNat++a.2.1,false)) (fun a=>0≤a.1∧a.2.2=false∧a.2.1.length+a.1.toNat≤n) (fun a=>a.1.toNat)
  (fun rec a ha ih=>by
   obtain ⟨x,s,f⟩:=a
   obtain ⟨h0,hf,hl⟩:=ha
   simp only at hf hl h0 ih ⊢
   subst hf
   obtain ⟨m,rfl⟩:∃m:Nat,x=(m:Int):=⟨x.toNat,by omega⟩
   simp only[tN] at hl ih ⊢
   by_cases d:m=0
   ·subst d
    simp[ψ2A.l0,digs]
   ·have d1:((m:Int) != 0)=true:=by simpa using d
    have e1:Int.tmod (m:Int) 10=((m % 10:Nat):Int):=rfl
    have e2:w64 (Int.tdiv (m:Int) 10)=((m / 10:Nat):Int):=by
     rw[show Int.tdiv (m:Int) 10=((m / 10:Nat):Int) from rfl];exact φ2L (by omega)
    have e3:decide (((m % 10:Nat):Int)<0)=false:=dnn (by omega)
    have e4:φm [IntKind.wrap .u8 (w64 (48+((m % 10:Nat):Int)))]=[UInt8.ofNat (48+m % 10)]:=by
     have e:w64 (48+((m % 10:Nat):Int))=((48+m % 10:Nat):Int):=by rw[φ9 (by omega) (by omega)];omega
     rw[e]
     unfold φm
     simp only[κC,List.map_nil,φ4b]
    have hb:([UInt8.ofNat (48+m % 10)]:List UInt8).length+s.length≤9223372036854775807:=by show 1+_≤_;omega
    have ih:=ih (((m / 10:Nat):Int),[UInt8.ofNat (48+m % 10)]++s,false) ⟨by simp only;omega,rfl,by simp only[lA,κ3,tN];omega⟩ (by simp only[tN];omega)
    simp only[tN] at ih
    simp only[ψ2A.l0,d1,cT,e1,e2,e3,cF,bS,e4,hb,dT,ih]
    rw[φ2x d,aA])
  ⟨by simp only;omega,rfl,by simp⟩ (by simp only[tN];omega)
 simp only[c1,c2,cF,key,bS,tN]
 unfold digs
 simp[c]
theorem φEF (n:Nat) (hn:n<1000000000000000000):strconv_Itoa.f (n:Int)=some (Lib.decDigits n):=by
 unfold strconv_Itoa.f
 have c:(decide (-9223372036854775808≤(n:Int)) && decide ((n:Int)≤9223372036854775807))=true:=by simp;omega
 rw[c,φ5O];rfl
def φ1o (word:List UInt8) (id:Int):List UInt8:=if 1≤id∧id≤100000 then word++Lib.decDigits id.toNat else []
def φ3 (id:Int):List UInt8:=φ1o [115,101,103] id
def φf (id:Int):List UInt8:=φ1o [104,105,110,116] id
theorem φAi (word:List UInt8) (id:Int) (hw:word.length≤100):ψw.f word id=some (φ1o word id):=by
 unfold ψw.f φ1o ψ5.f
 rw[φ1b,bS]
 by_cases h:1≤id∧id≤100000
 ·obtain ⟨n,rfl⟩:∃n:Nat,id=(n:Int):=⟨id.toNat,by omega⟩
  have hl:=φ46 5 n (by show n<1000000;omega)
  have hb:word.length+(Lib.decDigits n).length≤9223372036854775807:=by omega
  simp only[h,and_self,dT,nZ,cF,φEF n (by omega),bS,hb,cT,if_true,tN]
 ·simp[h]
theorem φ6n (id:Int):ψe.f id=some (φ3 id):=by
 unfold ψe.f φ3
 rw[φAi [115,101,103] id (by show 3≤100;decide),bS]
theorem φ40 (id:Int):ψ2f.f id=some (φ3 id):=by
 unfold ψ2f.f φ3 φ1o
 rw[φ1n,bS]
 by_cases h:1≤id∧id≤100000
 ·obtain ⟨n,rfl⟩:∃n:Nat,id=(n:Int):=⟨id.toNat,by omega⟩
  have hl:=φ46 5 n (by show n<1000000;omega)
  have hb:([115,101,103]:List UInt8).length+(Lib.decDigits n).length≤9223372036854775807:=by show 3+_≤_;omega
  simp only[h,and_self,dT,nZ,cF,φ9i n (by omega),bS,hb,cT,if_true,tN]
 ·simp[h]
theorem φBT (id:Int):(φ3 id).length≤9:=by
 unfold φ3 φ1o
 split
 ·have hl:=φ46 5 id.toNat (by show _<1000000;omega)
  rw[lA];show 3+_≤9;omega
 ·simp
def φ7 (d:φ2) (n:List UInt8):List UInt8×Bool:=
 if φ6 d=false then ([],false) else
 match d.1.findIdx? (fun f=>f.1==n) with
 | some i=>((d.1.getD i ([],[],0)).2.1,true)
 | none=>([],false)
theorem φ5e (d:φ2) (n:List UInt8) (h:dlim d):ψD.f d n=some (φ7 d n):=by
 have hl:=h.1
 unfold ψD.f φ7
 rw[φ3Q d n (by omega),bS,φ7J d h]
 rcases φt d.1 n with ⟨e,_⟩ | ⟨i,hi,e,_⟩
 ·rw[e,φy e];simp
 ·rw[e,φv e]
  rcases bE (φ6 d) with k | k
  ·simp only[dnn (show (0:Int)≤(i:Int) by omega),cF,bS,k,nZ,φ2B hi,cT,φ2O hi,φ5 hi,κ8,if_false]
  ·simp only[dnn (show (0:Int)≤(i:Int) by omega),cF,bS,k,nF,cT,if_true]
theorem φ7j (d:φ2) (n:List UInt8) (h:dlim d):ψ2G.f d n=some (φ7 d n):=by
 have hl:=h.1
 unfold ψ2G.f φ7
 rw[φ5H d h,bS,φ3A d n (by omega)]
 rcases bE (φ6 d) with k | k
 rotate_left
 ·simp[k]
 rcases φt d.1 n with ⟨e,_⟩ | ⟨i,hi,e,_⟩
 ·rw[e,φy e];simp[k]
 ·rw[e,φv e]
  simp only[dnn (show (0:Int)≤(i:Int) by omega),cF,bS,k,nZ,φ2B hi,cT,φ2O hi,φ5 hi,κ8,if_false]
theorem φI7 (d:φ2) (n:List UInt8) (h:dlim d):(φ7 d n).1.length≤φK d.1:=by
 unfold φ7
 split
 ·simp
 ·rcases φt d.1 n with ⟨e,_⟩ | ⟨i,hi,e,_⟩
  ·rw[φy e];simp
  ·rw[φv e]
   simp only[φ5 hi]
   exact φ9q (gM hi)
def varN (n:Nat):List UInt8:=vLow n++[UInt8.ofNat (vTop n)]
theorem φ4k (n:Nat) (h:n≤562949953421311):varT (n:Int)=varN n:=by
 unfold varT varN
 rw[if_pos (by omega),tN]
theorem φ7b {n:Nat} (h:n<128):varN n=[UInt8.ofNat n]:=by
 unfold varN
 rw[vLow,vTop,dif_pos h,dif_pos h];rfl
theorem φ9r {n:Nat} (h:¬n<128):varN n=UInt8.ofNat (128+n % 128)::varN (n / 128):=by
 unfold varN
 rw[vLow,vTop,dif_neg h,dif_neg h];rfl
theorem φ7f (k n:Nat) (h:n<128 ^ (k+1)):1≤(varN n).length∧(varN n).length≤k+1:=by
 have:=φ6u k n h
 unfold varN
 rw[lA,κ3];omega
def rvT:Nat→Bool→List UInt8→Option (Nat×Nat)
 | 0,_,_=>none
 | _+1,_,[]=>none
 | f+1,first,x::r=>if x.toNat<128 then (if x.toNat=0∧first=false then none else some (x.toNat,1)) else (rvT f false r).map fun p=>(x.toNat % 128+128 * p.1,p.2+1)
end Go.Rf.G
