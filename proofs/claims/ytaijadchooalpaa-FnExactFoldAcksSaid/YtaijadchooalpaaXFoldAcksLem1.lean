import Derived.Test.YtaijadchooalpaaRf5
import Derived.Test.YtaijadchooalpaaXFoldAcksFns
open Option renaming bind_some→bS
open List renaming length_append→lA,append_assoc→aA,mem_cons_of_mem→mC,mem_append→mA,mem_append_right→mR,mem_append_left→mL,mem_cons→mc,drop_eq_getElem_cons→dG,length_take→lT,length_drop→lD,mem_map→mM,length_map→lM,length_cons→lC,length_nil→lN,getElem_mem→gM,map_append→mp,mem_singleton→mZ,nodup_append→κ1,mem_cons_self→κ2,append_nil→κ3,flatMap_append→κ6,nodup_cons→κ9,range'→κB,take_append_drop→κC,take_succ_eq_append_getElem→κE,map_cons→κF,cons_append→κG
open Bool renaming and_eq_true→bA,eq_false_or_eq_true→bE,not_true→nZ,not_false→nF,true_and→tA,not_not→nn,or_eq_false_iff→κ4
open Int renaming toNat_natCast→tN,ofNat_lt→oL
open Nat renaming eq_of_beq_eq_true→κ0,lt_or_ge→κ5,le_of_ble_eq_true→κ7,lt_of_lt_of_le→κ8,le_refl→κA
open Array renaming length_toList→κD
set_option linter.unusedVariables false
set_option linter.unusedSimpArgs false
namespace Go.Rf.G
open Go Go.Rf
set_option synthInstance.maxSize 4000
theorem φ1c {A B σ:Type} {step:(A→Option B)→A→Option B} (st:Nat→σ→A) (N:Nat) (F:Nat→σ→B) (Inv:Nat→σ→Prop)
  (h:∀rec n s,n≤N→Inv n s→(∀s',n<N→Inv (n+1) s'→rec (st (n+1) s')=some (F (n+1) s'))→step rec (st n s)=some (F n s))
  (hN:N<2 ^ 62):∀n s,n≤N→Inv n s→lp step (st n s)=some (F n s):=by
 have key:∀k f n s,n≤N→Inv n s→N - n=k→k<f→φ1U step f (st n s)=some (F n s):=by
  intro k
  induction k with
  | zero=>
   intro f n s hn hi hk hf
   obtain ⟨f,rfl⟩:∃g,f=g+1:=⟨f - 1,by omega⟩
   exact h _ n s hn hi fun s' hlt=>by omega
  | succ k ih=>
   intro f n s hn hi hk hf
   obtain ⟨f,rfl⟩:∃g,f=g+1:=⟨f - 1,by omega⟩
   exact h _ n s hn hi fun s' hlt hi'=>ih f (n+1) s' hlt hi' (by omega) (by omega)
 intro n s hn hi
 exact key (N - n) FUEL n s hn hi rfl (κ8 (by omega) φ5N)
@[simp] theorem φO (n m:Nat):inB (n:Int) m=decide (n<m):=by
 unfold inB
 by_cases h:n<m<;>simp[h,Int.natCast_nonneg]
@[simp] theorem φN {α:Type} (z:α) (xs:List α) (n:Nat):rdA z xs (n:Int)=xs.getD n z:=rfl
theorem φZ {n:Int} (h1:-9223372036854775808≤n) (h2:n<9223372036854775808):w64 n=n:=by
 unfold w64 IntKind.wrap
 simp only[IntKind.bits,IntKind.signed]
 by_cases h:n % 2 ^ 64≥2 ^ 63<;>simp[h]<;>omega
theorem φW {n:Nat} (h:n+1<9223372036854775808):w64 ((n:Int)+1)=((n+1:Nat):Int):=by
 rw[φZ (by omega) (by omega)];omega
theorem φ17 {l:Nat} (h:l≤reachBytes):l<140737488355328:=by unfold reachBytes at h;omega
theorem φJ {α:Type} {xs:List α} {z:α} {n:Nat} (h:n<xs.length):xs.getD n z=xs[n]:=by simp[List.getD,h]
theorem φ5D {α:Type} {a b:List α} {n:Nat} (h1:n<a.length) (h2:n<b.length):a.drop n=b.drop n↔a[n]=b[n]∧a.drop (n+1)=b.drop (n+1):=by
 rw[dG h1,dG h2,List.cons.injEq]
def szr (b:Nat) (left:Int):Int:=if (b:Int)≤left then left - b else -1
theorem φ24 {b:Nat} {left:Int}:decide (szr b left<0)=!decide ((b:Int)≤left):=by
 unfold szr
 by_cases h:(b:Int)≤left
 ·rw[if_pos h];simp[h]
 ·rw[if_neg h];simp[h]
theorem φ2Z {b:Nat} {left:Int} (h:(b:Int)≤left):szr b left=left - b:=if_pos h
def sumN {α:Type} (f:α→Nat):List α→Nat
 | []=>0
 | x::r=>f x+sumN f r
theorem φ2b {α:Type} (f:α→Nat) {l:List α} {n:Nat} (h:n<l.length):sumN f (l.drop n)=f l[n]+sumN f (l.drop (n+1)):=by
 rw[dG h];rfl
theorem φ5k {α:Type} (f:α→Nat):∀{l:List α} {x:α},x∈l→f x≤sumN f l
 | y::l,x,h=>by
  rcases mc.1 h with k | k
  ·subst k;exact Nat.le_add_right _ _
  ·exact Nat.le_trans (φ5k f k) (Nat.le_add_left _ _)
def φP {α:Type} (f:α→Nat) (l:List α):Nat:=l.length+sumN f l
theorem φ4L {X:Type} {step:(List X×Int×Int→Option (Int ⊕ Int))→List X×Int×Int→Option (Int ⊕ Int)} (bulk:X→Nat) (l:List X) (hl:l.length<2 ^ 62)
  (hs:∀rec (n:Nat) (left:Int),(hn:n<l.length)→0≤left→left≤1048576→step rec (l,left,(n:Int))=if (bulk l[n]:Int)≤left then rec (l,left - bulk l[n],((n+1:Nat):Int)) else some (.inr (-1)))
  (he:∀rec (left:Int),step rec (l,left,(l.length:Int))=some (.inl left)) (left:Int) (h0:0≤left) (h1:left≤1048576) :
  lp step (l,left,0)=some (if (sumN bulk l:Int)≤left then .inl (left - sumN bulk l) else .inr (-1)):=by
 have:=φ1c (step:=step) (fun n (s:Int)=>(l,s,(n:Int))) l.length (fun n s=>if (sumN bulk (l.drop n):Int)≤s then .inl (s - sumN bulk (l.drop n)) else .inr (-1)) (fun _ s=>0≤s∧s≤1048576)
  (fun rec n s hn hi ih=>by
   rcases κ5 n l.length with h | h
   ·rw[hs rec n s h hi.1 hi.2,φ2b bulk h]
    by_cases hb:(bulk l[n]:Int)≤s
    ·rw[if_pos hb,ih _ h ⟨by omega,by omega⟩]
     congr 1
     by_cases hc:(sumN bulk (l.drop (n+1)):Int)≤s - bulk l[n]
     ·rw[if_pos hc,if_pos (by omega)];congr 1;omega
     ·rw[if_neg hc,if_neg (by omega)]
    ·rw[if_neg hb,if_neg (by omega)]
   ·have:n=l.length:=by omega
    subst this
    rw[he]
    simp[sumN,hi.1])
  hl 0 left (Nat.zero_le _) ⟨h0,h1⟩
 simpa using this
theorem φ4D {X:Type} [DecidableEq X] {step:(List X×List X×Int→Option (Unit ⊕ Bool))→List X×List X×Int→Option (Unit ⊕ Bool)} (a b:List X) (hl:a.length=b.length) (ha:a.length<2 ^ 62)
  (hs:∀rec (n:Nat),(h1:n<a.length)→(h2:n<b.length)→step rec (a,b,(n:Int))=if a[n]=b[n] then rec (a,b,((n+1:Nat):Int)) else some (.inr false))
  (he:∀rec,step rec (a,b,(a.length:Int))=some (.inl ())):lp step (a,b,0)=some (if a=b then .inl () else .inr false):=by
 have:=φ1c (step:=step) (fun n (_:Unit)=>(a,b,(n:Int))) a.length (fun n _=>if a.drop n=b.drop n then .inl () else .inr false) (fun _ _=>True)
  (fun rec n s hn _ ih=>by
   rcases κ5 n a.length with h | h
   ·rw[hs rec n h (by omega),ih () h trivial]
    by_cases hc:a[n]=b[n]
    ·rw[if_pos hc];simp only[φ5D h (by omega:n<b.length),hc,true_and]
    ·rw[if_neg hc,if_neg fun k=>hc ((φ5D h (by omega)).1 k).1]
   ·have:n=a.length:=by omega
    subst this
    rw[he]
    simp[hl])
  ha 0 () (Nat.zero_le _) trivial
 simpa using this
theorem φ3p {X:Type} {step:(List X×List X×Int→Option (List X))→List X×List X×Int→Option (List X)} (l:List X) (hl:l.length<2 ^ 62)
  (hs:∀rec (r:List X) (n:Nat),(h1:n<l.length)→r.length=l.length→step rec (l,r,(n:Int))=rec (l,r.set n l[n],((n+1:Nat):Int)))
  (he:∀rec r,step rec (l,r,(l.length:Int))=some r) (r:List X) (hr:r.length=l.length):lp step (l,r,0)=some l:=by
 have:=φ1c (step:=step) (fun n (r:List X)=>(l,r,(n:Int))) l.length (fun n r=>l) (fun n r=>r.length=l.length∧r.take n=l.take n)
  (fun rec n r hn hi ih=>by
   obtain ⟨hi1,hi2⟩:=hi
   rcases κ5 n l.length with h | h
   ·rw[hs rec r n h hi1]
    refine ih _ h ⟨by simp[hi1],?_⟩
    rw[κE (by simp[hi1,h]),κE h,List.take_set_of_le (κA _),hi2]
    simp
   ·have:n=l.length:=by omega
    subst this
    rw[he]
    rw[List.take_length,←hi1,List.take_length] at hi2
    rw[hi2])
  hl 0 r (Nat.zero_le _) ⟨hr,by simp⟩
 simpa using this
def φi {X:Type} (mk:Int→X→X) (c:Nat):List X→Int→List X
 | [],_=>[]
 | x::r,k=>mk k x::φi mk c r (k+c)
@[simp] theorem φ3t {X:Type} (mk:Int→X→X) (c:Nat):∀(l:List X) (k:Int),(φi mk c l k).length=l.length
 | [],_=>rfl
 | x::r,k=>by simp[φi,φ3t mk c r]
theorem φ3d {X:Type} (mk:Int→X→X) (c:Nat):∀(l:List X) (k:Int) (n:Nat) (h:n<l.length) (h':n<(φi mk c l k).length),(φi mk c l k)[n]=mk (k+c * n) l[n]
 | x::r,k,0,_,_=>by simp[φi]
 | x::r,k,n+1,h,h'=>by
  simp only[φi,List.getElem_cons_succ]
  rw[φ3d mk c r (k+c) n (by simpa using h) _]
  congr 1
  rw[Int.natCast_add,Int.mul_add];omega
theorem φ68 {X:Type} {step:(List X×Int×Int→Option (List X×Int))→List X×Int×Int→Option (List X×Int)} (mk:Int→X→X) (c:Nat) (l:List X) (hl:l.length<2 ^ 62)
  (hs:∀rec (r:List X) (k:Int) (n:Nat),r.length=l.length→(h:n<r.length)→0<k→k<1000000000000→step rec (r,k,(n:Int))=rec (r.set n (mk k r[n]),k+c,((n+1:Nat):Int)))
  (he:∀rec (r:List X) (k:Int),r.length=l.length→step rec (r,k,(l.length:Int))=some (r,k)) (k:Int) (h0:0<k) (h1:k+c * l.length<1000000000000) :
  lp step (l,k,0)=some (φi mk c l k,k+c * l.length):=by
 have key:=φ1c (step:=step) (fun n (s:List X×Int)=>(s.1,s.2,(n:Int))) l.length (fun n s=>(φi mk c l k,k+c * l.length))
  (fun n s=>s.1.length=l.length∧s.2=k+c * n∧s.1.take n=(φi mk c l k).take n∧s.1.drop n=l.drop n)
  (fun rec n s hn hi ih=>by
   obtain ⟨i1,i2,i3,i4⟩:=hi
   rcases κ5 n l.length with h | h
   ·have hb:(c:Int) * n≤c * l.length:=Int.mul_le_mul_of_nonneg_left (by omega) (by omega)
    have hb0:0≤(c:Int) * n:=Int.mul_nonneg (by omega) (by omega)
    rw[hs rec s.1 s.2 n i1 (by omega) (by omega) (by omega)]
    refine ih (s.1.set n (mk s.2 (s.1[n]'(by omega))),s.2+c) h ⟨by simp[i1],?_,?_,?_⟩
    ·show s.2+c=_;rw[i2,Int.natCast_add,Int.mul_add];omega
    ·show (s.1.set n _).take (n+1)=_
     have hg:s.1[n]'(by omega)=l[n]:=by
      have:=i4
      rw[dG (by omega),dG h,List.cons.injEq] at this
      exact this.1
     rw[κE (by simp;omega),κE (by simp;omega),List.take_set_of_le (κA _),i3,φ3d mk c l k n h]
     simp[i2,hg]
    ·show (s.1.set n _).drop (n+1)=_
     rw[List.drop_set_of_lt (by omega)]
     have:=i4
     rw[dG (by omega),dG h,List.cons.injEq] at this
     exact this.2
   ·have:n=l.length:=by omega
    subst this
    rw[he rec s.1 s.2 i1,i2]
    rw[←i1,List.take_length,i1,←φ3t mk c l k,List.take_length] at i3
    rw[i3])
  hl 0 (l,k) (Nat.zero_le _) ⟨rfl,by simp,by simp,by simp⟩
 simpa using key
theorem φ6v {X:Type} {step:(List X×Int×Int→Option (Int ⊕ Int))→List X×Int×Int→Option (Int ⊕ Int)} (mk:Int→X→X) (c:Nat) (l:List X) (hl:l.length<2 ^ 62)
  (hs:∀rec (r:List X) (k:Int) (n:Nat) (x:X),(h:n<r.length)→n<4611686018427387904→r[n]=mk k x→0<k→k<1000000000000→step rec (r,k,(n:Int))=rec (r,k+c,((n+1:Nat):Int)))
  (he:∀rec (r:List X) (k:Int),step rec (r,k,(r.length:Int))=some (.inl k)) (k:Int) (h0:0<k) (h1:k+c * l.length<1000000000000) :
  lp step (φi mk c l k,k,0)=some (.inl (k+c * l.length)):=by
 have key:=φ1c (step:=step) (fun n (s:Int)=>(φi mk c l k,s,(n:Int))) l.length (fun n s=>.inl (k+c * l.length))
  (fun n s=>s=k+c * n)
  (fun rec n s hn hi ih=>by
   rcases κ5 n l.length with h | h
   ·have hb:(c:Int) * n≤c * l.length:=Int.mul_le_mul_of_nonneg_left (by omega) (by omega)
    have hb0:0≤(c:Int) * n:=Int.mul_nonneg (by omega) (by omega)
    rw[hs rec _ s n l[n] (by simpa using h) (by omega) (by rw[φ3d mk c l k n h,hi]) (by omega) (by omega)]
    exact ih _ h (by rw[hi,Int.natCast_add,Int.mul_add];omega)
   ·have:n=l.length:=by omega
    subst this
    have:=he rec (φi mk c l k) s
    rw[φ3t] at this
    rw[this,hi])
  hl 0 k (Nat.zero_le _) (by simp)
 simpa using key
theorem φ2E {X A B S:Type} {step:(A→Option B)→A→Option B} (l:List X) (g:S→X→S) (st:Nat→S→A) (out:S→B) (Inv:Nat→S→Prop) (hl:l.length<2 ^ 62)
  (hs:∀rec n s,(h:n<l.length)→Inv n s→step rec (st n s)=rec (st (n+1) (g s l[n])))
  (hi:∀n s,(h:n<l.length)→Inv n s→Inv (n+1) (g s l[n]))
  (he:∀rec s,Inv l.length s→step rec (st l.length s)=some (out s)) (s:S) (h0:Inv 0 s):lp step (st 0 s)=some (out (l.foldl g s)):=by
 have:=φ1c (step:=step) st l.length (fun n s=>out ((l.drop n).foldl g s)) Inv
  (fun rec n s hn hv ih=>by
   rcases κ5 n l.length with h | h
   ·rw[hs rec n s h hv,ih _ h (hi n s h hv),dG h];rfl
   ·have:n=l.length:=by omega
    subst this
    rw[he rec s hv];simp) hl 0 s (Nat.zero_le _) h0
 simpa using this
def okL {α:Type} (f:α→Prop) (l:List α):Prop:=l.length≤reachBytes∧∀x∈l,f x
@[simp] theorem φ8R {A B C:Type} (a:A) (f:A→C) (g:B→C):φx (.inl a) f g=f a:=rfl
@[simp] theorem φ8P {A B C:Type} (b:B) (f:A→C) (g:B→C):φx (.inr b) f g=g b:=rfl
theorem φl {A B:Type} (p:A×B):(p.1,p.2)=p:=rfl
theorem φ3n {β:Type} (n:Int) (a b:β):(bif (n==n) then a else b)=a:=by simp
theorem φ3o {β:Type} {c n:Int} (h1:0≤n) (h2:c * n≤140737488355328) (a b:β):(bif (decide (0≤n) && decide (c * n≤140737488355328)) then a else b)=a:=by simp[h1,h2]
theorem φ3Y {α:Type} {z:α} {r:List α} {n:Nat} {v:α} (h:n<r.length):rdA z (r.set n v) (n:Int)=v:=by simp[List.getD,h]
noncomputable def mt (k:Int):List UInt8:=(ψF.f k).getD []
theorem φ2J (k:Int) (h0:0<k) (h1:k<2000000000000):ψF.f k=some (mt k):=by
 have:∃b,ψF.f k=some b:=by
  unfold ψF.f
  have hk:¬k≤0:=by omega
  simp only[hk,dF,cF]
  have key:∀(n:Nat) (k:Int) (acc:List UInt8),0≤k→k<n→(n:Int)≤2000000000000→acc.length+k.toNat<4000000000000→∀f,n<f→∃b,φ1U ψF.l0 f (k,acc)=some b∧b.length<4000000000000:=by
   intro n
   induction n with
   | zero=>intro k acc h0 h1;omega
   | succ n ih=>
    intro k acc h0 h1 h2 h3 f hf
    obtain ⟨f,rfl⟩:∃g,f=g+1:=⟨f - 1,by omega⟩
    show ∃b,ψF.l0 (φ1U ψF.l0 f) (k,acc)=some b∧_
    simp only[ψF.l0]
    by_cases hk:k > 0
    ·have hd:Int.tdiv k 10=k / 10:=Int.tdiv_eq_ediv_of_nonneg (by omega)
     have hw:w64 (Int.tdiv k 10)=k / 10:=by rw[hd];exact φZ (by omega) (by omega)
     have hlen:((φ18 [IntKind.wrap .u8 (w64 (48+(Int.tmod k 10)))]).length+acc.length≤9223372036854775807):=by simp[φ18];omega
     simp only[hk,dT,cT,hlen,hw]
     exact ih (k / 10) _ (by omega) (by omega) (by omega) (by simp[φ18];omega) f (by omega)
    ·simp only[hk,dF,cF]
     exact ⟨acc,rfl,by omega⟩
  obtain ⟨b,hb,hl⟩:=key (k.toNat+1) k [] (by omega) (by omega) (by omega) (by simp;omega) FUEL (κ8 (by omega) φ5N)
  have hb:lp ψF.l0 (k,[])=some b:=hb
  rw[hb,bS]
  have hle:([109]:List UInt8).length+b.length≤9223372036854775807:=by simp;omega
  simp only[hle,dT,cT]
  exact ⟨_,rfl⟩
 obtain ⟨b,hb⟩:=this
 unfold mt
 rw[hb];rfl
def φ1T (x:List UInt8×List UInt8×Int):Nat:=x.1.length+x.2.1.length
def φ2G (x:List UInt8×List UInt8×Int):Prop:=x.1.length≤reachBytes∧x.2.1.length≤reachBytes
theorem φ6Q (x:List UInt8×List UInt8×Int) (h:wfD (.pair .str (.pair .str (.int .i64))) x):φ2G x:=⟨h.1,h.2.1⟩
theorem φ6w (l:List (List UInt8×List UInt8×Int)) (h:wfD (.sl false (.pair .str (.pair .str (.int .i64)))) l):okL φ2G l:=⟨h.1,fun y hy=>φ6Q y (h.2 y hy)⟩
theorem φ7S (x:List UInt8×List UInt8×Int) (left:Int) (h0:0≤left) (h1:left≤1048576) (hx:φ2G x):ψI.f x left=some (szr (φ1T x) left):=by
 unfold φ2G at hx
 have l0:=φ17 hx.1
 have l1:=φ17 hx.2
 unfold ψI.f szr φ1T
 simp only[Bool.cond_decide]
 rw[φZ (by omega) (by omega)]
 by_cases c0:left - (x.1.length:Int)<0
 ·simp only[c0,if_true];rw[if_neg (by omega)]
 simp only[c0,if_false]
 rw[φZ (by omega) (by omega)]
 repeat' split
 all_goals first | rfl | (congr 1;omega) | omega
theorem φ6r (l:List (List UInt8×List UInt8×Int)) (left:Int) (h0:0≤left) (h1:left≤1048576) (hx:okL φ2G l):ψJ.f l left=some (szr (φP φ1T l) left):=by
 have hl:=φ17 hx.1
 unfold ψJ.f
 simp only[Bool.cond_decide]
 rw[φZ (by omega) (by omega)]
 by_cases c:left - (l.length:Int)<0
 ·rw[if_pos c];unfold szr φP;rw[if_neg (by omega)]
 rw[if_neg c,φ4L φ1T l (by omega) (fun rec n s hn i0 i1=>?_) (fun rec s=>?_) _ (by omega) (by omega)]
 ·rw[bS];unfold szr φP
  by_cases d:(sumN φ1T l:Int)≤left - l.length
  ·rw[if_pos d,if_pos (by omega)];show some _=some _;congr 1;omega
  ·rw[if_neg d,if_neg (by omega)];rfl
 ·have hb:=hx.2 l[n] (gM hn)
  simp only[ψJ.l0,oL,hn,dT,cT,φO,φN,φJ hn,φW (show n+1<9223372036854775808 by omega),φl,φ7S _ s i0 i1 hb,bS,φ24]
  by_cases d:(φ1T l[n]:Int)≤s
  ·simp only[d,dT,nZ,cF,if_true,φ2Z d]
  ·simp only[d,dF,nF,cT,if_false]
 ·simp[ψJ.l0]
theorem φ6i (x:List UInt8×List UInt8×Int):ψO.f x=some x:=rfl
theorem φ7D (l:List (List UInt8×List UInt8×Int)) (hx:okL φ2G l) (hs:l.length≤1048576):ψP.f l=some l:=by
 have hl:=φ17 hx.1
 unfold ψP.f
 rw[φ3n,φ3o (by omega) (by omega)]
 simp only[]
 rw[φ3p l (by omega) (fun rec r n h1 h2=>?_) (fun rec r=>?_) _ (by simp)]
 ·rfl
 ·have h3:n<r.length:=by omega
  simp only[ψP.l0,oL,h1,h3,dT,cT,φO,φN,φJ h1,φW (show n+1<9223372036854775808 by omega),tN,φl,φ6i,bS]
 ·simp[ψP.l0]
theorem φ6k (x y:List UInt8×List UInt8×Int):ψ7.f x y=some (decide (x=y)):=by
 obtain ⟨a0,a1,a2⟩:=x
 obtain ⟨b0,b1,b2⟩:=y
 unfold ψ7.f
 by_cases e0:a0=b0
 rotate_left
 ·have d2:(a0==b0)=false:=by simpa using e0
  have d3:(a0 != b0)=true:=by simpa using e0
  simp[e0,d2,d3]
 by_cases e1:a1=b1
 rotate_left
 ·have d2:(a1==b1)=false:=by simpa using e1
  have d3:(a1 != b1)=true:=by simpa using e1
  simp[e1,d2,d3]
 by_cases e2:a2=b2
 rotate_left
 ·have d2:(a2==b2)=false:=by simpa using e2
  have d3:(a2 != b2)=true:=by simpa using e2
  simp[e2,d2,d3]
 simp[e0,e1,e2]
theorem φ5K (a b:List (List UInt8×List UInt8×Int)) (ha:a.length<2 ^ 62):ψ8.f a b=some (decide (a=b)):=by
 unfold ψ8.f
 by_cases hl:a.length=b.length
 rotate_left
 ·have:a≠b:=fun h=>hl (by rw[h])
  have h2:((a.length:Int) != (b.length:Int))=true:=by simp;omega
  rw[h2];simp[this]
 have h2:((a.length:Int) != (b.length:Int))=false:=by simp;omega
 rw[h2,cF,φ4D a b hl ha (fun rec n h1 h2=>?_) (fun rec=>?_)]
 ·by_cases e:a=b<;>simp[e,φx]
 ·simp only[ψ8.l0,oL,h1,h2,dT,cT,φO,φN,φJ h1,φJ h2,φW (show n+1<9223372036854775808 by omega),φl,φ6k _ _,bS]
  by_cases e:a[n]=b[n]
  ·simp[e]
  ·have e2:(a[n]==b[n])=false:=by simpa using e
   have e3:(a[n] != b[n])=true:=by simpa using e
   simp[e,e2,e3]
 ·simp[ψ8.l0]
noncomputable def φ2S (k:Int) (x:List UInt8×List UInt8×Int):List UInt8×List UInt8×Int:=(mt k,mt (k+1),k+2)
theorem φ6B (l:List (List UInt8×List UInt8×Int)) (k:Int) (hl:l.length<2 ^ 62) (h0:0<k) (h1:k+3 * l.length<1000000000000):ψD.f l k=some (k+3 * l.length,φi φ2S 3 l k):=by
 unfold ψD.f
 rw[φ68 φ2S 3 l hl (fun rec r k n hr h h0 h1=>?_) (fun rec r k hr=>?_) k h0 h1]
 ·rfl
 ·have hn:n<4611686018427387904:=by omega
  have e1:w64 (k+1)=k+1:=by rw[φZ (by omega) (by omega)]
  have e2:w64 (k+1+1)=k+2:=by rw[φZ (by omega) (by omega)];omega
  have e3:w64 (k+2+1)=k+3:=by rw[φZ (by omega) (by omega)];omega
  simp only[ψD.l0,oL,h,dT,cT,φO,List.length_set,tN,φ3Y h,φN,φJ h,List.set_set,φW (show n+1<9223372036854775808 by omega),e1,e2,e3,φ2J k (by omega) (by omega),φ2J (k+1) (by omega) (by omega),bS]
  rfl
 ·simp[ψD.l0,hr]
theorem φ7I (l:List (List UInt8×List UInt8×Int)) (k:Int) (hl:l.length<2 ^ 62) (h0:0<k) (h1:k+3 * l.length<1000000000000):ψB.f (φi φ2S 3 l k) k=some (k+3 * l.length):=by
 unfold ψB.f
 rw[φ6v φ2S 3 l hl (fun rec r k n x h hn0 hx h0 h1=>?_) (fun rec r k=>?_) k h0 h1]
 ·rfl
 ·have hn:n+1<9223372036854775808:=by omega
  have e1:w64 (k+1)=k+1:=by rw[φZ (by omega) (by omega)]
  have e2:w64 (k+1+1)=k+2:=by rw[φZ (by omega) (by omega)];omega
  have e3:w64 (k+2+1)=k+3:=by rw[φZ (by omega) (by omega)];omega
  simp only[ψB.l0,oL,h,dT,cT,φO,φN,φJ h,hx,φ2S,φW hn,e1,e2,e3,φ2J k (by omega) (by omega),φ2J (k+1) (by omega) (by omega),bS,beq_self_eq_true,nZ,bne_self_eq_false,cF]
  rfl
 ·simp[ψB.l0]
def φ1Z (x:List UInt8×Bool×List UInt8):Nat:=x.1.length+x.2.2.length
def φ2K (x:List UInt8×Bool×List UInt8):Prop:=x.1.length≤reachBytes∧x.2.2.length≤reachBytes
theorem φ7E (x:List UInt8×Bool×List UInt8) (h:wfD (.pair .str (.pair .bool .str)) x):φ2K x:=⟨h.1,h.2.2⟩
theorem φ6l (x:List UInt8×Bool×List UInt8) (left:Int) (h0:0≤left) (h1:left≤1048576) (hx:φ2K x):ψK.f x left=some (szr (φ1Z x) left):=by
 unfold φ2K at hx
 have l0:=φ17 hx.1
 have l1:=φ17 hx.2
 unfold ψK.f szr φ1Z
 simp only[Bool.cond_decide]
 rw[φZ (by omega) (by omega)]
 by_cases c0:left - (x.1.length:Int)<0
 ·simp only[c0,if_true];rw[if_neg (by omega)]
 simp only[c0,if_false]
 rw[φZ (by omega) (by omega)]
 repeat' split
 all_goals first | rfl | (congr 1;omega) | omega
theorem φ6m (l:List (List UInt8×Bool×List UInt8)) (left:Int) (h0:0≤left) (h1:left≤1048576) (hx:okL φ2K l):ψL.f l left=some (szr (φP φ1Z l) left):=by
 have hl:=φ17 hx.1
 unfold ψL.f
 simp only[Bool.cond_decide]
 rw[φZ (by omega) (by omega)]
 by_cases c:left - (l.length:Int)<0
 ·rw[if_pos c];unfold szr φP;rw[if_neg (by omega)]
 rw[if_neg c,φ4L φ1Z l (by omega) (fun rec n s hn i0 i1=>?_) (fun rec s=>?_) _ (by omega) (by omega)]
 ·rw[bS];unfold szr φP
  by_cases d:(sumN φ1Z l:Int)≤left - l.length
  ·rw[if_pos d,if_pos (by omega)];show some _=some _;congr 1;omega
  ·rw[if_neg d,if_neg (by omega)];rfl
 ·have hb:=hx.2 l[n] (gM hn)
  simp only[ψL.l0,oL,hn,dT,cT,φO,φN,φJ hn,φW (show n+1<9223372036854775808 by omega),φl,φ6l _ s i0 i1 hb,bS,φ24]
  by_cases d:(φ1Z l[n]:Int)≤s
  ·simp only[d,dT,nZ,cF,if_true,φ2Z d]
  ·simp only[d,dF,nF,cT,if_false]
 ·simp[ψL.l0]
theorem φ7p (x:List UInt8×Bool×List UInt8):ψQ.f x=some x:=rfl
theorem φ7y (l:List (List UInt8×Bool×List UInt8)) (hx:okL φ2K l) (hs:l.length≤1048576):ψR.f l=some l:=by
 have hl:=φ17 hx.1
 unfold ψR.f
 rw[φ3n,φ3o (by omega) (by omega)]
 simp only[]
 rw[φ3p l (by omega) (fun rec r n h1 h2=>?_) (fun rec r=>?_) _ (by simp)]
 ·rfl
 ·have h3:n<r.length:=by omega
  simp only[ψR.l0,oL,h1,h3,dT,cT,φO,φN,φJ h1,φW (show n+1<9223372036854775808 by omega),tN,φl,φ7p,bS]
 ·simp[ψR.l0]
theorem φ7f (x y:List UInt8×Bool×List UInt8):ψ9.f x y=some (decide (x=y)):=by
 obtain ⟨a0,a1,a2⟩:=x
 obtain ⟨b0,b1,b2⟩:=y
 unfold ψ9.f
 by_cases e0:a0=b0
 rotate_left
 ·have d2:(a0==b0)=false:=by simpa using e0
  have d3:(a0 != b0)=true:=by simpa using e0
  simp[e0,d2,d3]
 by_cases e1:a1=b1
 rotate_left
 ·have d2:(a1==b1)=false:=by simpa using e1
  have d3:(a1 != b1)=true:=by simpa using e1
  simp[e1,d2,d3]
 by_cases e2:a2=b2
 rotate_left
 ·have d2:(a2==b2)=false:=by simpa using e2
  have d3:(a2 != b2)=true:=by simpa using e2
  simp[e2,d2,d3]
 simp[e0,e1,e2]
theorem φ8A (a b:List (List UInt8×Bool×List UInt8)) (ha:a.length<2 ^ 62):ψA.f a b=some (decide (a=b)):=by
 unfold ψA.f
 by_cases hl:a.length=b.length
 rotate_left
 ·have:a≠b:=fun h=>hl (by rw[h])
  have h2:((a.length:Int) != (b.length:Int))=true:=by simp;omega
  rw[h2];simp[this]
 have h2:((a.length:Int) != (b.length:Int))=false:=by simp;omega
 rw[h2,cF,φ4D a b hl ha (fun rec n h1 h2=>?_) (fun rec=>?_)]
 ·by_cases e:a=b<;>simp[e,φx]
 ·simp only[ψA.l0,oL,h1,h2,dT,cT,φO,φN,φJ h1,φJ h2,φW (show n+1<9223372036854775808 by omega),φl,φ7f _ _,bS]
  by_cases e:a[n]=b[n]
  ·simp[e]
  ·have e2:(a[n]==b[n])=false:=by simpa using e
   have e3:(a[n] != b[n])=true:=by simpa using e
   simp[e,e2,e3]
 ·simp[ψA.l0]
noncomputable def φ4J (k:Int) (x:List UInt8×Bool×List UInt8):List UInt8×Bool×List UInt8:=(mt k,Int.tmod (k+1) 3==0,mt (k+2))
theorem φ7B (l:List (List UInt8×Bool×List UInt8)) (k:Int) (hl:l.length<2 ^ 62) (h0:0<k) (h1:k+3 * l.length<1000000000000):ψE.f l k=some (k+3 * l.length,φi φ4J 3 l k):=by
 unfold ψE.f
 rw[φ68 φ4J 3 l hl (fun rec r k n hr h h0 h1=>?_) (fun rec r k hr=>?_) k h0 h1]
 ·rfl
 ·have hn:n<4611686018427387904:=by omega
  have e1:w64 (k+1)=k+1:=by rw[φZ (by omega) (by omega)]
  have e2:w64 (k+1+1)=k+2:=by rw[φZ (by omega) (by omega)];omega
  have e3:w64 (k+2+1)=k+3:=by rw[φZ (by omega) (by omega)];omega
  simp only[ψE.l0,oL,h,dT,cT,φO,List.length_set,tN,φ3Y h,φN,φJ h,List.set_set,φW (show n+1<9223372036854775808 by omega),e1,e2,e3,φ2J k (by omega) (by omega),φ2J (k+2) (by omega) (by omega),bS]
  rfl
 ·simp[ψE.l0,hr]
def φg (x:Int×List (List UInt8×Bool×List UInt8)):Nat:=φP φ1Z x.2
def φ1j (x:Int×List (List UInt8×Bool×List UInt8)):Prop:=okL φ2K x.2
theorem φ6o (x:Int×List (List UInt8×Bool×List UInt8)) (h:wfD (.pair (.int .i64) (.sl false (.pair .str (.pair .bool .str)))) x):φ1j x:=⟨h.2.1,fun y hy=>φ7E y (h.2.2 y hy)⟩
theorem φ6Z (l:List (Int×List (List UInt8×Bool×List UInt8))) (h:wfD (.sl false (.pair (.int .i64) (.sl false (.pair .str (.pair .bool .str))))) l):okL φ1j l:=⟨h.1,fun y hy=>φ6o y (h.2 y hy)⟩
theorem φ70 (x:Int×List (List UInt8×Bool×List UInt8)) (left:Int) (h0:0≤left) (h1:left≤1048576) (hx:φ1j x):ψG.f x left=some (szr (φg x) left):=by
 unfold φ1j at hx
 unfold ψG.f φg
 rw[φ6m (x.2) left (by omega) (by omega) hx,bS,φ24]
 by_cases c0:((φP φ1Z x.2:Nat):Int)≤left
 rotate_left
 ·simp only[c0,dF,nF,cT]
  all_goals (unfold szr;rw[if_neg (by omega)])
 simp only[c0,dT,nZ,cF]
 all_goals (rw[φ2Z c0])
 all_goals (unfold szr;rw[if_pos (by omega)])
 all_goals first | done | (congr 1;omega)
theorem φ7b (l:List (Int×List (List UInt8×Bool×List UInt8))) (left:Int) (h0:0≤left) (h1:left≤1048576) (hx:okL φ1j l):ψH.f l left=some (szr (φP φg l) left):=by
 have hl:=φ17 hx.1
 unfold ψH.f
 simp only[Bool.cond_decide]
 rw[φZ (by omega) (by omega)]
 by_cases c:left - (l.length:Int)<0
 ·rw[if_pos c];unfold szr φP;rw[if_neg (by omega)]
 rw[if_neg c,φ4L φg l (by omega) (fun rec n s hn i0 i1=>?_) (fun rec s=>?_) _ (by omega) (by omega)]
 ·rw[bS];unfold szr φP
  by_cases d:(sumN φg l:Int)≤left - l.length
  ·rw[if_pos d,if_pos (by omega)];show some _=some _;congr 1;omega
  ·rw[if_neg d,if_neg (by omega)];rfl
 ·have hb:=hx.2 l[n] (gM hn)
  simp only[ψH.l0,oL,hn,dT,cT,φO,φN,φJ hn,φW (show n+1<9223372036854775808 by omega),φl,φ70 _ s i0 i1 hb,bS,φ24]
  by_cases d:(φg l[n]:Int)≤s
  ·simp only[d,dT,nZ,cF,if_true,φ2Z d]
  ·simp only[d,dF,nF,cT,if_false]
 ·simp[ψH.l0]
theorem φ7M (x:Int×List (List UInt8×Bool×List UInt8)) (hx:φ1j x) (hs:φg x≤1048576):ψM.f x=some x:=by
 unfold φ1j at hx
 unfold φg at hs
 unfold ψM.f
 simp only[φ7y (x.2) hx (by first | omega | (unfold φP at hs;omega)),bS]
theorem φ6y (l:List (Int×List (List UInt8×Bool×List UInt8))) (hx:okL φ1j l) (hs:φP φg l≤1048576):ψN.f l=some l:=by
 have hl:=φ17 hx.1
 unfold ψN.f
 have hs2:=hs
 unfold φP at hs2
 rw[φ3n,φ3o (by omega) (by omega)]
 simp only[]
 rw[φ3p l (by omega) (fun rec r n h1 h2=>?_) (fun rec r=>?_) _ (by simp)]
 ·rfl
 ·have h3:n<r.length:=by omega
  simp only[ψN.l0,oL,h1,h3,dT,cT,φO,φN,φJ h1,φW (show n+1<9223372036854775808 by omega),tN,φl,φ7M _ (hx.2 l[n] (gM h1)) (Nat.le_trans (φ5k φg (gM h1)) (by omega)),bS]
 ·simp[ψN.l0]
def φ3i (x:Int×List (List UInt8×Bool×List UInt8)):Prop:=x.2.length<2 ^ 62
theorem φ83 (x y:Int×List (List UInt8×Bool×List UInt8)) (hx:φ3i x):ψ5.f x y=some (decide (x=y)):=by
 have h1:=hx
 obtain ⟨a0,a1⟩:=x
 obtain ⟨b0,b1⟩:=y
 unfold ψ5.f
 simp only[φ8A a1 b1 h1,bS]
 by_cases e0:a0=b0
 rotate_left
 ·have d2:(a0==b0)=false:=by simpa using e0
  have d3:(a0 != b0)=true:=by simpa using e0
  simp[e0,d2,d3]
 by_cases e1:a1=b1
 rotate_left
 ·simp[e1]
 simp[e0,e1]
theorem φ73 (a b:List (Int×List (List UInt8×Bool×List UInt8))) (ha:a.length<2 ^ 62) (hx:∀x∈a,φ3i x):ψ6.f a b=some (decide (a=b)):=by
 unfold ψ6.f
 by_cases hl:a.length=b.length
 rotate_left
 ·have:a≠b:=fun h=>hl (by rw[h])
  have h2:((a.length:Int) != (b.length:Int))=true:=by simp;omega
  rw[h2];simp[this]
 have h2:((a.length:Int) != (b.length:Int))=false:=by simp;omega
 rw[h2,cF,φ4D a b hl ha (fun rec n h1 h2=>?_) (fun rec=>?_)]
 ·by_cases e:a=b<;>simp[e,φx]
 ·simp only[ψ6.l0,oL,h1,h2,dT,cT,φO,φN,φJ h1,φJ h2,φW (show n+1<9223372036854775808 by omega),φl,φ83 _ _ (hx a[n] (gM h1)),bS]
  by_cases e:a[n]=b[n]
  ·simp[e]
  ·have e2:(a[n]==b[n])=false:=by simpa using e
   have e3:(a[n] != b[n])=true:=by simpa using e
   simp[e,e2,e3]
 ·simp[ψ6.l0]
abbrev PutT:=List UInt8×Bool×List UInt8
abbrev φ9:=List UInt8×List UInt8×Int
theorem φ3l {a:Nat} (h:a<1000000000001):(a+1) * 40≤140737488355328:=by omega
def leK (a b:List UInt8):Bool:=Op.bytesLess a b || a==b
def insB {α:Type} (l:List (List UInt8×α)) (p:List UInt8×α):List (List UInt8×α):=
 let k:=(l.takeWhile fun x=>leK x.1 p.1).length
 l.take k++[p]++l.drop k
def φF {α:Type} (l:List (List UInt8×α)) (key:List UInt8):List (List UInt8×α):=l.filter fun x=>!(x.1==key)
theorem φ82 {α:Type} (l:List (List UInt8×α)) (p:List UInt8×α):(insB l p).length=l.length+1:=by
 have:(l.takeWhile fun x=>leK x.1 p.1).length≤l.length:=(List.takeWhile_sublist _).length_le
 simp only[insB,lA,lT,lD,lC,lN];omega
theorem φ58 {α:Type} (l:List (List UInt8×α)) (key:List UInt8):(φF l key).length≤l.length:=List.length_filter_le _ _
theorem φ5M {α:Type} (f:α→Bool):∀(l s:List α),l.foldl (fun s x=>if f x=true then s++[x] else s) s=s++l.filter f
 | [],s=>by simp
 | x::l,s=>by
  rw[List.foldl_cons,φ5M f l,List.filter_cons]
  cases f x<;>simp
def φ1Y (b:Int) (l:List φ9) (p:PutT):List φ9:=if p.2.1=true then φF l p.1 else insB (φF l p.1) (p.1,p.2.2,b)
def φ14 (l:List φ9) (puts:List PutT) (b:Int):List φ9:=puts.foldl (φ1Y b) l
theorem φ4K (b:Int) (l:List φ9) (p:PutT):(φ1Y b l p).length≤l.length+1:=by
 have:=φ58 l p.1
 unfold φ1Y;split
 ·omega
 ·rw[φ82];omega
theorem φ3O (b:Int):∀(puts:List PutT) (l:List φ9),(φ14 l puts b).length≤l.length+puts.length
 | [],l=>by simp[φ14]
 | p::puts,l=>by
  have h1:=φ3O b puts (φ1Y b l p)
  have h2:=φ4K b l p
  show (φ14 (φ1Y b l p) puts b).length≤_
  simp only[lC];omega
theorem φ49 (l:List φ9) (hl:l.length<2 ^ 40):ψ2.f l=some l:=by
 unfold ψ2.f
 have:(([]:List φ9).length+l.length) * 40≤140737488355328:=by simp;omega
 simp only[this,dT,cT,List.nil_append]
theorem φ7V (l:List φ9) (key:List UInt8) (hl:l.length<2 ^ 40):ψ3.f l key=some (φF l key):=by
 have hk:=φ2E (step:=ψ3.l0) l (fun s x=>if (!(x.1==key))=true then s++[x] else s) (fun n (s:List φ9)=>(key,s,l,(l.length:Int),(n:Int))) id (fun n s=>s.length≤n) (by omega)
  (fun rec n s h hi=>by
   have hb:(s.length+[l[n]].length) * 40≤140737488355328:=by simp;omega
   have hw:w64 ((n:Int)+1)=((n+1:Nat):Int):=φW (show n+1<9223372036854775808 by omega)
   simp only[ψ3.l0,oL,h,dT,cT,φO,φN,φJ h,φl,hb,φW (show n+1<9223372036854775808 by omega)]
   cases l[n].1==key<;>simp[hw])
  (fun n s h hi=>by
   have:∀b:Bool,(if b=true then s++[l[n]] else s).length≤n+1:=fun b=>by cases b<;>simp<;>omega
   exact this _)
  (fun rec s hi=>by simp[ψ3.l0]) [] (by simp)
 have hk:lp ψ3.l0 (key,[],l,(l.length:Int),0)=_:=hk
 unfold ψ3.f
 rw[hk,φ5M];rfl
theorem φ81 {α:Type} (f:α→Bool) (l:List α) (n:Nat) (h:n<l.length):((l.drop n).takeWhile f).length=if f l[n]=true then ((l.drop (n+1)).takeWhile f).length+1 else 0:=by
 rw[dG h,List.takeWhile_cons]
 split<;>simp
theorem φ6J (x2:Int) (rest:List φ9) (p:PutT) (x13:List PutT) (x14 x15:Int) (hl:rest.length<2 ^ 62) :
  lp ψ0.l2 (x2,rest,p,0,x13,x14,x15)=some (x2,rest,p,((rest.takeWhile fun x=>leK x.1 p.1).length:Int),x13,x14,x15):=by
 have key:=φ1c (step:=ψ0.l2) (fun n (_:Unit)=>(x2,rest,p,(n:Int),x13,x14,x15)) rest.length (fun n _=>(x2,rest,p,((n+((rest.drop n).takeWhile fun x=>leK x.1 p.1).length:Nat):Int),x13,x14,x15)) (fun _ _=>True)
  (fun rec n s hn _ ih=>by
   rcases κ5 n rest.length with h | h
   ·rw[φ81 _ _ _ h]
    simp only[ψ0.l2,oL,h,dT,cT,φO,φN,φJ h,φW (show n+1<9223372036854775808 by omega)]
    show (bif leK rest[n].1 p.1 then _ else _)=_
    cases leK rest[n].1 p.1
    ·simp
    ·simp only[cT,if_true]
     rw[ih () h trivial]
     congr 4;congr 1;omega
   ·have:n=rest.length:=by omega
    subst this
    simp[ψ0.l2])
  hl 0 () (Nat.zero_le _) trivial
 simpa using key
theorem φ6f (l:List φ9) (puts:List PutT) (b:Int) (hl:l.length+puts.length<2 ^ 40):ψ0.f l puts b=some (φ14 l puts b):=by
 have hk:=φ2E (step:=ψ0.l0) puts (φ1Y b) (fun n (s:List φ9)=>(b,s,puts,(puts.length:Int),(n:Int))) id (fun n s=>s.length≤l.length+n) (by omega)
  (fun rec n s h hi=>by
   have hd:=φ58 s puts[n].1
   have hw:w64 ((n:Int)+1)=((n+1:Nat):Int):=φW (show n+1<9223372036854775808 by omega)
   have htw:((φF s puts[n].1).takeWhile fun x=>leK x.1 puts[n].1).length≤(φF s puts[n].1).length:=(List.takeWhile_sublist _).length_le
   simp only[ψ0.l0,oL,h,dT,cT,φO,φN,φJ h,φ7V s _ (show s.length<2 ^ 40 by omega),bS,φl,φ6J b (φF s puts[n].1) puts[n] puts _ _ (by omega),φW (show n+1<9223372036854775808 by omega)]
   unfold φ1Y
   cases hdel:puts[n].2.1
   ·generalize hk:((φF s puts[n].1).takeWhile fun x=>leK x.1 puts[n].1).length=k at *
    have c1:(0:Int)≤(k:Int):=by omega
    have c2:(k:Int)≤((φF s puts[n].1).length:Int):=by omega
    have c3:(List.take k (φF s puts[n].1)).length<2 ^ 40:=by simp;omega
    simp only[cF,c1,c2,dT,Bool.and_self,cT,tN,φ49 _ c3,bS]
    have c4:((List.take k (φF s puts[n].1)).length+[(puts[n].1,puts[n].2.2,b)].length) * 40≤140737488355328:=by simp;omega
    simp only[c4,dT,cT]
    have c5:((List.take k (φF s puts[n].1)++[(puts[n].1,puts[n].2.2,b)]).length+(List.drop k (φF s puts[n].1)).length) * 40≤140737488355328:=by simp;omega
    simp only[c5,dT,cT,bS]
    have hins:insB (φF s puts[n].1) (puts[n].1,puts[n].2.2,b)=List.take k (φF s puts[n].1)++[(puts[n].1,puts[n].2.2,b)]++List.drop k (φF s puts[n].1):=by
     unfold insB;simp only[hk]
    simp[hins,hw]
   ·simp[hw])
  (fun n s h hi=>by have:=φ4K b s puts[n];omega)
  (fun rec s hi=>by simp[ψ0.l0]) l (by simp)
 have hk:lp ψ0.l0 (b,l,puts,(puts.length:Int),0)=_:=hk
 unfold ψ0.f
 rw[φ49 l (by omega),bS,hk];rfl
def φc (p:φ9) (s:List φ9×Bool) (x:φ9):List φ9×Bool:=
 if (x.1==p.1)=true then s else if s.2=false∧leK x.1 p.1=false then (s.1++[p]++[x],true) else (s.1++[x],s.2)
theorem φ6I (p:φ9) (s:List φ9×Bool) (x:φ9):(φc p s x).1.length≤s.1.length+2:=by
 unfold φc;split
 ·omega
 ·split<;>simp<;>omega
theorem φ39 (p:φ9):∀(l out:List φ9),l.foldl (φc p) (out,true)=(out++φF l p.1,true)
 | [],out=>by simp[φF]
 | x::l,out=>by
  rw[List.foldl_cons]
  by_cases h:(x.1==p.1)=true
  ·have e1:φc p (out,true) x=(out,true):=by unfold φc;rw[if_pos h]
   rw[e1,φ39 p l]
   simp[φF,h]
  ·have e1:φc p (out,true) x=(out++[x],true):=by unfold φc;rw[if_neg h,if_neg (by simp)]
   rw[e1,φ39 p l]
   simp[φF,h]
theorem φ3q (p:φ9):∀(l out:List φ9),(let s:=l.foldl (φc p) (out,false);if s.2=true then s.1 else s.1++[p])=out++insB (φF l p.1) p
 | [],out=>by simp[φF,insB]
 | x::l,out=>by
  rw[List.foldl_cons]
  by_cases h:(x.1==p.1)=true
  ·have e1:φc p (out,false) x=(out,false):=by unfold φc;rw[if_pos h]
   have e2:φF (x::l) p.1=φF l p.1:=by simp[φF,h]
   rw[e1,e2];exact φ3q p l out
  ·have e2:φF (x::l) p.1=x::φF l p.1:=by simp[φF,h]
   rw[e2]
   cases hk:leK x.1 p.1
   ·have e1:φc p (out,false) x=(out++[p]++[x],true):=by unfold φc;rw[if_neg h,if_pos ⟨rfl,hk⟩]
    rw[e1,φ39]
    simp[insB,hk]
   ·have e1:φc p (out,false) x=(out++[x],false):=by unfold φc;rw[if_neg h,if_neg (by simp[hk])]
    rw[e1,φ3q p l (out++[x])]
    simp[insB,hk]
theorem φ87 (l:List φ9) (p:φ9) (del:Bool) (hl:l.length<2 ^ 38):ψU.f l p del=some (if del=true then φF l p.1 else insB (φF l p.1) p):=by
 have hk:=φ2E (step:=ψU.l0) l (φc p) (fun n (s:List φ9×Bool)=>(l,p,s.1,s.2,(n:Int))) (fun s=>(p,s.1,s.2)) (fun n s=>s.1.length≤2 * n) (by omega)
  (fun rec n s h hi=>by
   have hi:s.1.length≤2 * n:=hi
   have hq:s.1.length<1000000000000:=by omega
   have hb1:(s.1.length+[p].length) * 40≤140737488355328:=φ3l (Nat.lt_succ_of_lt hq)
   have hb2:(s.1.length+([l[n]]:List φ9).length) * 40≤140737488355328:=φ3l (Nat.lt_succ_of_lt hq)
   have hb3:((s.1++[p]).length+([l[n]]:List φ9).length) * 40≤140737488355328:=by rw[lA];exact φ3l (Nat.succ_lt_succ hq)
   have hw:w64 ((n:Int)+1)=(n:Int)+1:=φZ (by omega) (by omega)
   have hle:(Op.bytesLess l[n].1 p.1 || l[n].1==p.1)=leK l[n].1 p.1:=rfl
   simp only[ψU.l0,oL,h,dT,cT,φO,φN,φJ h,φl,hle]
   unfold φc
   rcases bE (l[n].1==p.1) with h1 | h1
   ·simp[h1,hw]
   ·rcases bE s.2 with h2 | h2
    ·simp only[h1,h2,cF,nZ,bS,φO,φN,φJ h,φl,h,dT,cT,hb2]
     simp[hw]
    ·rcases bE (leK l[n].1 p.1) with h3 | h3
     ·simp only[h1,h2,h3,cF,nZ,nF,bS,φO,φN,φJ h,φl,h,dT,cT,hb2]
      simp[hw]
     ·simp only[h1,h2,h3,cF,nZ,nF,bS,φO,φN,φJ h,φl,h,dT,cT,hb1,hb3]
      simp[hw])
  (fun n s h hi=>by have:=φ6I p s l[n];have hi:s.1.length≤2 * n:=hi;show _≤2 * (n+1);omega)
  (fun rec s hi=>by simp[ψU.l0]) ([],del) (by simp)
 have hk:lp ψU.l0 (l,p,[],del,0)=_:=hk
 have hlen:∀(m:List φ9) (s:List φ9×Bool),(m.foldl (φc p) s).1.length≤s.1.length+2 * m.length:=by
  intro m
  induction m with
  | nil=>intro s;simp
  | cons x m ih=>intro s;rw[List.foldl_cons];have:=ih (φc p s x);have:=φ6I p s x;simp only[lC];omega
 unfold ψU.f
 rw[hk,bS]
 cases del with
 | true=>rw[φ39];simp
 | false=>
  have hf:=φ3q p l []
  have hb:=hlen l ([],false)
  generalize l.foldl (φc p) ([],false)=s at *
  obtain ⟨s1,s2⟩:=s
  simp only[lN,Nat.zero_add] at hb
  have hb1:(s1.length+[p].length) * 40≤140737488355328:=by simp;omega
  cases s2
  ·simp only[Bool.false_eq_true,if_false,List.nil_append] at hf ⊢
   simp only[nF,cT,hb1,dT,hf]
  ·simp only[if_true,List.nil_append] at hf
   simp[hf]
theorem φ6d (l:List φ9) (puts:List PutT) (b:Int) (hl:l.length+puts.length<2 ^ 37):ψS.f l puts b=some (φ14 l puts b):=by
 have hk:=φ2E (step:=ψS.l0) puts (φ1Y b) (fun n (s:List φ9)=>(puts,b,s,(n:Int))) id (fun n s=>s.length≤l.length+n) (by omega)
  (fun rec n s h hi=>by
   simp only[ψS.l0,oL,h,dT,cT,φO,φN,φJ h,φ87 s _ _ (show s.length<2 ^ 38 by omega),bS,φW (show n+1<9223372036854775808 by omega)]
   rfl)
  (fun n s h hi=>by have:=φ4K b s puts[n];omega)
  (fun rec s hi=>by simp[ψS.l0]) l (by simp)
 have hk:lp ψS.l0 (puts,b,l,0)=_:=hk
 unfold ψS.f
 have:(([]:List φ9).length+l.length) * 40≤140737488355328:=by simp;omega
 simp only[this,dT,cT,List.nil_append]
 rw[hk];rfl
theorem dnn {k:Int} (h:0≤k):decide (k<0)=false:=by
 have:¬k<0:=by omega
 simp[this]
abbrev AckT:=Int×List PutT
def φ1F (l:List φ9) (a:List AckT):List φ9:=a.foldl (fun l a=>φ14 l a.2 a.1) l
def φQ (a:List AckT):Nat:=sumN (fun a=>a.2.length) a
theorem φ7d (l:List φ9) (a:List AckT) (h:l.length+φQ a<2 ^ 36) (ha:a.length<2 ^ 62):ψ1.f l a=some (φ1F l a):=by
 have hk:=φ2E (step:=ψ1.l0) a (fun l a=>φ14 l a.2 a.1) (fun n (s:List φ9)=>(s,a,(a.length:Int),(n:Int))) (fun s=>s) (fun n s=>s.length+sumN (fun a=>a.2.length) (a.drop n)≤l.length+φQ a) ha
  (fun rec n s h hi=>by
   have hi:s.length+sumN (fun a=>a.2.length) (a.drop n)≤l.length+φQ a:=hi
   rw[φ2b _ h] at hi
   have hi:s.length+(a[n].2.length+sumN (fun a=>a.2.length) (a.drop (n+1)))≤l.length+φQ a:=hi
   simp only[ψ1.l0,oL,h,dT,cT,φO,φN,φJ h,φ6f s a[n].2 a[n].1 (by omega),bS,φW (show n+1<9223372036854775808 by omega)])
  (fun n s h hi=>by
   have hi:s.length+sumN (fun a=>a.2.length) (a.drop n)≤l.length+φQ a:=hi
   rw[φ2b _ h] at hi
   have hi:s.length+(a[n].2.length+sumN (fun a=>a.2.length) (a.drop (n+1)))≤l.length+φQ a:=hi
   have:=φ3O a[n].1 a[n].2 s
   show (φ14 s a[n].2 a[n].1).length+_≤_
   omega)
  (fun rec s hi=>by simp[ψ1.l0]) l (by rw[List.drop_zero];exact κA _)
 have hk:lp ψ1.l0 (l,a,(a.length:Int),0)=_:=hk
 unfold ψ1.f
 rw[φ49 l (by omega),bS,hk,bS];rfl
def sumC {X:Type} (c:X→Nat):List X→Nat
 | []=>0
 | x::r=>c x+sumC c r
def φ1C {X:Type} (mk:Int→X→X) (c:X→Nat):List X→Int→List X
 | [],_=>[]
 | x::r,k=>mk k x::φ1C mk c r (k+(c x:Int))
theorem φ2t {X:Type} (mk:Int→X→X) (c:X→Nat):∀(l:List X) (k:Int),(φ1C mk c l k).length=l.length
 | [],_=>rfl
 | x::r,k=>by simp[φ1C,φ2t mk c r]
theorem φ3w {X:Type} (c:X→Nat):∀(l:List X) (n:Nat) (h:n<l.length),sumC c (l.take (n+1))=sumC c (l.take n)+c l[n]
 | [],n,h=>by simp at h
 | x::r,0,h=>by simp[sumC]
 | x::r,n+1,h=>by
  have:=φ3w c r n (by simpa using h)
  simp only[List.take_succ_cons,sumC,List.getElem_cons_succ,this]
  omega
theorem φ5U {X:Type} (c:X→Nat):∀(l:List X) (n:Nat),sumC c (l.take n)≤sumC c l
 | [],n=>by simp
 | x::r,0=>by simp[sumC]
 | x::r,n+1=>by
  have:=φ5U c r n
  simp only[List.take_succ_cons,sumC]
  omega
theorem φ5z {X:Type} (mk:Int→X→X) (c:X→Nat):∀(l:List X) (k:Int) (n:Nat) (h:n<l.length),(φ1C mk c l k)[n]'(by rw[φ2t];exact h)=mk (k+(sumC c (l.take n):Nat)) l[n]
 | [],k,n,h=>by simp at h
 | x::r,k,0,h=>by simp[φ1C,sumC]
 | x::r,k,n+1,h=>by
  have:=φ5z mk c r (k+(c x:Int)) n (by simpa using h)
  simp only[φ1C,List.getElem_cons_succ,this,List.take_succ_cons,sumC]
  congr 1
  omega
theorem φ7t {X:Type} {step:(List X×Int×Int→Option (List X×Int))→List X×Int×Int→Option (List X×Int)} (mk:Int→X→X) (c:X→Nat) (P:X→Prop) (l:List X) (hl:l.length<2 ^ 62) (hP:∀x∈l,P x)
  (hs:∀rec (r:List X) (k:Int) (n:Nat),r.length=l.length→(h:n<r.length)→P r[n]→0<k→k+(c r[n]:Int)<1000000000000→step rec (r,k,(n:Int))=rec (r.set n (mk k r[n]),k+(c r[n]:Int),((n+1:Nat):Int)))
  (he:∀rec (r:List X) (k:Int),r.length=l.length→step rec (r,k,(l.length:Int))=some (r,k)) (k:Int) (h0:0<k) (h1:k+(sumC c l:Nat)<1000000000000) :
  lp step (l,k,0)=some (φ1C mk c l k,k+(sumC c l:Nat)):=by
 have key:=φ1c (step:=step) (fun n (s:List X×Int)=>(s.1,s.2,(n:Int))) l.length (fun n s=>(φ1C mk c l k,k+(sumC c l:Nat)))
  (fun n s=>s.1.length=l.length∧s.2=k+(sumC c (l.take n):Nat)∧s.1.take n=(φ1C mk c l k).take n∧s.1.drop n=l.drop n)
  (fun rec n s hn hi ih=>by
   obtain ⟨i1,i2,i3,i4⟩:=hi
   rcases κ5 n l.length with h | h
   ·have hg:s.1[n]'(by omega)=l[n]:=by
     have:=i4
     rw[dG (by omega),dG h,List.cons.injEq] at this
     exact this.1
    have hb:=φ5U c l (n+1)
    rw[φ3w c l n h] at hb
    rw[hs rec s.1 s.2 n i1 (by omega) (by rw[hg];exact hP _ (gM h)) (by omega) (by rw[hg];omega)]
    refine ih (s.1.set n (mk s.2 (s.1[n]'(by omega))),s.2+(c (s.1[n]'(by omega)):Int)) h ⟨by simp[i1],?_,?_,?_⟩
    ·show s.2+_=_;rw[hg,i2,φ3w c l n h];omega
    ·show (s.1.set n _).take (n+1)=_
     rw[κE (by simp;omega),κE (by rw[φ2t];omega),List.take_set_of_le (κA _),i3,φ5z mk c l k n h]
     simp[i2,hg]
    ·show (s.1.set n _).drop (n+1)=_
     rw[List.drop_set_of_lt (by omega)]
     have:=i4
     rw[dG (by omega),dG h,List.cons.injEq] at this
     exact this.2
   ·have:n=l.length:=by omega
    subst this
    rw[he rec s.1 s.2 i1,i2,List.take_length]
    rw[←i1,List.take_length,i1,←φ2t mk c l k,List.take_length] at i3
    rw[i3])
  hl 0 (l,k) (Nat.zero_le _) ⟨rfl,by simp[sumC],by simp,by simp⟩
 simpa using key
noncomputable def φ4C (k:Int) (x:AckT):AckT:=(k,φi φ4J 3 x.2 (k+1))
def φ1u (x:AckT):Nat:=1+3 * x.2.length
def φ57 (x:AckT):Prop:=x.2.length<2 ^ 62
theorem φ79 (l:List AckT) (k:Int) (hl:l.length<2 ^ 62) (hP:∀x∈l,φ57 x) (h0:0<k) (h1:k+(sumC φ1u l:Nat)<1000000000000):ψC.f l k=some (k+(sumC φ1u l:Nat),φ1C φ4C φ1u l k):=by
 unfold ψC.f
 rw[φ7t φ4C φ1u φ57 l hl hP (fun rec r k n hr h hp h0 h1=>?_) (fun rec r k hr=>?_) k h0 h1]
 ·rfl
 ·have hn:n<4611686018427387904:=by omega
  have h1':k+((1+3 * r[n].2.length:Nat):Int)<1000000000000:=h1
  have e1:w64 (k+1)=k+1:=by rw[φZ (by omega) (by omega)]
  have e2:k+((1+3 * r[n].2.length:Nat):Int)=k+1+3 * (r[n].2.length:Int):=by omega
  have m2:=φ7B r[n].2 (k+1) hp (by omega) (by omega)
  show _=rec (_,k+((1+3 * r[n].2.length:Nat):Int),_)
  rw[e2]
  simp only[ψC.l0,oL,h,dT,cT,φO,List.length_set,tN,φ3Y h,φN,φJ h,List.set_set,φW (show n+1<9223372036854775808 by omega),e1,m2,bS,φ4C]
 ·simp[ψC.l0,hr]
theorem φ7a (l:List φ9) (a:List AckT) (h:l.length+φQ a<2 ^ 36) (ha:a.length<2 ^ 62):ψT.f l a=some (φ1F l a):=by
 have hk:=φ2E (step:=ψT.l0) a (fun l a=>φ14 l a.2 a.1) (fun n (s:List φ9)=>(a,s,(n:Int))) (fun s=>s) (fun n s=>s.length+sumN (fun a=>a.2.length) (a.drop n)≤l.length+φQ a) ha
  (fun rec n s h hi=>by
   have hi:s.length+sumN (fun a=>a.2.length) (a.drop n)≤l.length+φQ a:=hi
   rw[φ2b _ h] at hi
   have hi:s.length+(a[n].2.length+sumN (fun a=>a.2.length) (a.drop (n+1)))≤l.length+φQ a:=hi
   simp only[ψT.l0,oL,h,dT,cT,φO,φN,φJ h,φ6d s a[n].2 a[n].1 (by omega),bS,φW (show n+1<9223372036854775808 by omega)])
  (fun n s h hi=>by
   have hi:s.length+sumN (fun a=>a.2.length) (a.drop n)≤l.length+φQ a:=hi
   rw[φ2b _ h] at hi
   have hi:s.length+(a[n].2.length+sumN (fun a=>a.2.length) (a.drop (n+1)))≤l.length+φQ a:=hi
   have:=φ3O a[n].1 a[n].2 s
   show (φ14 s a[n].2 a[n].1).length+_≤_
   omega)
  (fun rec s hi=>by simp[ψT.l0]) l (by rw[List.drop_zero];exact κA _)
 have hk:lp ψT.l0 (a,l,0)=_:=hk
 have hb:(([]:List φ9).length+l.length) * 40≤140737488355328:=by rw[lN];omega
 unfold ψT.f
 simp only[hb,dT,cT,List.nil_append]
 rw[hk,bS];rfl
theorem φ5i:∀(a:List AckT) (l:List φ9),(φ1F l a).length≤l.length+φQ a
 | [],l=>by simp[φ1F,φQ,sumN]
 | x::a,l=>by
  have h1:=φ3O x.1 x.2 l
  have h2:=φ5i a (φ14 l x.2 x.1)
  show (φ1F (φ14 l x.2 x.1) a).length≤l.length+(x.2.length+φQ a)
  omega
theorem φ5Y:∀a:List AckT,φQ a≤sumN φg a
 | []=>κA _
 | x::a=>by
  have:=φ5Y a
  have h:x.2.length≤φg x:=by unfold φg φP;omega
  show x.2.length+φQ a≤φg x+sumN φg a
  omega
theorem φ53:∀a:List AckT,sumC φ1u a=a.length+3 * φQ a
 | []=>rfl
 | x::a=>by
  have:=φ53 a
  show (1+3 * x.2.length)+sumC φ1u a=(a.length+1)+3 * (x.2.length+φQ a)
  omega
theorem φ89 {a:List AckT} {x:AckT} (h:x∈a):x.2.length≤φQ a:=by
 induction a with
 | nil=>simp at h
 | cons y a ih=>
  show _≤y.2.length+φQ a
  rcases mc.1 h with k | k
  ·subst k;omega
  ·have:=ih k;omega
theorem φ7g (x0:List φ9) (w0:wfD (.sl false (.pair .str (.pair .str (.int .i64)))) x0) (x1:List AckT) (w1:wfD (.sl false (.pair (.int .i64) (.sl false (.pair .str (.pair .bool .str))))) x1):ψ4.f x0 x1=some true:=by
 have k0:=φ6w _ w0
 have k1:=φ6Z _ w1
 have b0:=φ17 k0.1
 have b1:=φ17 k1.1
 unfold ψ4.f
 rw[φ6r x0 1048576 (by omega) (by omega) k0,bS,φ24]
 by_cases c0:((φP φ1T x0:Nat):Int)≤1048576
 rotate_left
 ·simp[c0]
 simp only[c0,dT,nZ,cF]
 rw[φ2Z c0,φ7b x1 _ (by omega) (by omega) k1,bS,φ24]
 by_cases c1:((φP φg x1:Nat):Int)≤1048576 - (φP φ1T x0:Nat)
 rotate_left
 ·simp[c1]
 simp only[c1,dT,nZ,cF]
 have l0:x0.length≤1048576:=by unfold φP at c0;omega
 have l1:x1.length≤1048576:=by unfold φP at c1;omega
 have l2:φQ x1≤1048576:=by have:=φ5Y x1;unfold φP at c1;omega
 have hf:=φ5i x1 x0
 have hcn:=φ53 x1
 have hx:∀x∈x1,φ3i x:=fun x hx=>by have:=φ89 hx;show x.2.length<2 ^ 62;omega
 simp only[φ7D _ k0 l0,φ6y _ k1 (show φP φg x1≤1048576 by omega),φ7a x0 x1 (by omega) (by omega),φ7d x0 x1 (by omega) (by omega),φ5K (φ1F x0 x1) (φ1F x0 x1) (by omega),φ5K x0 x0 (by omega),φ73 x1 x1 (by omega) hx,φ6B x0 1 (by omega) (by omega) (by omega),φ79 x1 (1+3 * (x0.length:Int)) (by omega) hx (by omega) (by omega),φ6B (φ1F x0 x1) 1 (by omega) (by omega) (by omega),φ7I (φ1F x0 x1) 1 (by omega) (by omega) (by omega),bS,dT,nZ,cF,bne_self_eq_false]
 simp only[dnn (show (0:Int)≤1+3 * (x0.length:Int)+((sumC φ1u x1:Nat):Int) by omega),dnn (show (0:Int)≤1+3 * ((φ1F x0 x1).length:Int) by omega),cF]
end Go.Rf.G
