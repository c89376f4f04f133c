import Derived.Test.YtaijadchooalpaaRf5
import Derived.Test.YtaijadchooalpaaXModelNewFns
open Option renaming bind_some→bS
open List renaming length_append→lA,append_assoc→aA,mem_cons_of_mem→mC,mem_append→mA,mem_append_right→mR,mem_append_left→mL,mem_cons→mc,drop_eq_getElem_cons→dG,length_take→lT,length_drop→lD,mem_map→mM,length_map→lM,length_cons→lC,length_nil→lN,getElem_mem→gM,map_append→mp,mem_singleton→mZ,nodup_append→κ1,mem_cons_self→κ2,append_nil→κ3,flatMap_append→κ5,nodup_cons→κ9,range'→κA,take_append_drop→κB,map_cons→κD,cons_append→κF
open Bool renaming and_eq_true→bA,eq_false_or_eq_true→bE,not_true→nZ,not_false→nF,true_and→tA,not_not→nn,or_eq_false_iff→κ4
open Int renaming toNat_natCast→tN,ofNat_lt→oL
open Nat renaming eq_of_beq_eq_true→κ0,le_of_ble_eq_true→κ6,lt_of_lt_of_le→κ7,lt_or_ge→κ8,le_refl→κE
open Array renaming length_toList→κC
set_option linter.unusedVariables false
set_option linter.unusedSimpArgs false
namespace Go.Rf.G
open Go Go.Rf
set_option synthInstance.maxSize 4000
theorem φ2S {A B σ:Type} {step:(A→Option B)→A→Option B} (st:Nat→σ→A) (N:Nat) (F:Nat→σ→B) (Inv:Nat→σ→Prop)
  (h:∀rec n s,n≤N→Inv n s→(∀s',n<N→Inv (n+1) s'→rec (st (n+1) s')=some (F (n+1) s'))→step rec (st n s)=some (F n s))
  (hN:N<2 ^ 62):∀n s,n≤N→Inv n s→lp step (st n s)=some (F n s):=by
 have key:∀k f n s,n≤N→Inv n s→N - n=k→k<f→φ1W step f (st n s)=some (F n s):=by
  intro k
  induction k with
  | zero=>
   intro f n s hn hi hk hf
   obtain ⟨f,rfl⟩:∃g,f=g+1:=⟨f - 1,by omega⟩
   exact h _ n s hn hi fun s' hlt=>by omega
  | succ k ih=>
   intro f n s hn hi hk hf
   obtain ⟨f,rfl⟩:∃g,f=g+1:=⟨f - 1,by omega⟩
   exact h _ n s hn hi fun s' hlt hi'=>ih f (n+1) s' hlt hi' (by omega) (by omega)
 intro n s hn hi
 exact key (N - n) FUEL n s hn hi rfl (κ7 (by omega) φ4V)
@[simp] theorem φr (n m:Nat):inB (n:Int) m=decide (n<m):=by
 unfold inB
 by_cases h:n<m<;>simp[h,Int.natCast_nonneg]
@[simp] theorem φy {α:Type} (z:α) (xs:List α) (n:Nat):rdA z xs (n:Int)=xs.getD n z:=rfl
theorem φU {n:Int} (h1:-9223372036854775808≤n) (h2:n<9223372036854775808):w64 n=n:=by
 unfold w64 IntKind.wrap
 simp only[IntKind.bits,IntKind.signed]
 by_cases h:n % 2 ^ 64≥2 ^ 63<;>simp[h]<;>omega
theorem φx {n:Nat} (h:n+1<9223372036854775808):w64 ((n:Int)+1)=((n+1:Nat):Int):=by
 rw[φU (by omega) (by omega)];omega
theorem φZ {α:Type} {xs:List α} {z:α} {n:Nat} (h:n<xs.length):xs.getD n z=xs[n]:=by simp[List.getD,h]
theorem φ5Y {α:Type} {a b:List α} {n:Nat} (h1:n<a.length) (h2:n<b.length):a.drop n=b.drop n↔a[n]=b[n]∧a.drop (n+1)=b.drop (n+1):=by
 rw[dG h1,dG h2,List.cons.injEq]
theorem φ2m {X:Type} [DecidableEq X] {step:(List X×List X×Int→Option (Unit ⊕ Bool))→List X×List X×Int→Option (Unit ⊕ Bool)} (a b:List X) (hl:a.length=b.length) (ha:a.length<2 ^ 62)
  (hs:∀rec (n:Nat),(h1:n<a.length)→(h2:n<b.length)→step rec (a,b,(n:Int))=if a[n]=b[n] then rec (a,b,((n+1:Nat):Int)) else some (.inr false))
  (he:∀rec,step rec (a,b,(a.length:Int))=some (.inl ())):lp step (a,b,0)=some (if a=b then .inl () else .inr false):=by
 have:=φ2S (step:=step) (fun n (_:Unit)=>(a,b,(n:Int))) a.length (fun n _=>if a.drop n=b.drop n then .inl () else .inr false) (fun _ _=>True)
  (fun rec n s hn _ ih=>by
   rcases κ8 n a.length with h | h
   ·rw[hs rec n h (by omega),ih () h trivial]
    by_cases hc:a[n]=b[n]
    ·rw[if_pos hc];simp only[φ5Y h (by omega:n<b.length),hc,true_and]
    ·rw[if_neg hc,if_neg fun k=>hc ((φ5Y h (by omega)).1 k).1]
   ·have:n=a.length:=by omega
    subst this
    rw[he]
    simp[hl])
  ha 0 () (Nat.zero_le _) trivial
 simpa using this
def φO {X:Type} (mk:Int→X→X) (c:Nat):List X→Int→List X
 | [],_=>[]
 | x::r,k=>mk k x::φO mk c r (k+c)
@[simp] theorem φ3h {X:Type} (mk:Int→X→X) (c:Nat):∀(l:List X) (k:Int),(φO mk c l k).length=l.length
 | [],_=>rfl
 | x::r,k=>by simp[φO,φ3h mk c r]
theorem φ3r {X:Type} (mk:Int→X→X) (c:Nat):∀(l:List X) (k:Int) (n:Nat) (h:n<l.length) (h':n<(φO mk c l k).length),(φO mk c l k)[n]=mk (k+c * n) l[n]
 | x::r,k,0,_,_=>by simp[φO]
 | x::r,k,n+1,h,h'=>by
  simp only[φO,List.getElem_cons_succ]
  rw[φ3r mk c r (k+c) n (by simpa using h) _]
  congr 1
  rw[Int.natCast_add,Int.mul_add];omega
theorem φ3m {X:Type} {step:(List X×Int×Int→Option (List X×Int))→List X×Int×Int→Option (List X×Int)} (mk:Int→X→X) (c:Nat) (l:List X) (hl:l.length<2 ^ 62)
  (hs:∀rec (r:List X) (k:Int) (n:Nat),r.length=l.length→(h:n<r.length)→0<k→k<1000000000000→step rec (r,k,(n:Int))=rec (r.set n (mk k r[n]),k+c,((n+1:Nat):Int)))
  (he:∀rec (r:List X) (k:Int),r.length=l.length→step rec (r,k,(l.length:Int))=some (r,k)) (k:Int) (h0:0<k) (h1:k+c * l.length<1000000000000) :
  lp step (l,k,0)=some (φO mk c l k,k+c * l.length):=by
 have key:=φ2S (step:=step) (fun n (s:List X×Int)=>(s.1,s.2,(n:Int))) l.length (fun n s=>(φO mk c l k,k+c * l.length))
  (fun n s=>s.1.length=l.length∧s.2=k+c * n∧s.1.take n=(φO mk c l k).take n∧s.1.drop n=l.drop n)
  (fun rec n s hn hi ih=>by
   obtain ⟨i1,i2,i3,i4⟩:=hi
   rcases κ8 n l.length with h | h
   ·have hb:(c:Int) * n≤c * l.length:=Int.mul_le_mul_of_nonneg_left (by omega) (by omega)
    have hb0:0≤(c:Int) * n:=Int.mul_nonneg (by omega) (by omega)
    rw[hs rec s.1 s.2 n i1 (by omega) (by omega) (by omega)]
    refine ih (s.1.set n (mk s.2 (s.1[n]'(by omega))),s.2+c) h ⟨by simp[i1],?_,?_,?_⟩
    ·show s.2+c=_;rw[i2,Int.natCast_add,Int.mul_add];omega
    ·show (s.1.set n _).take (n+1)=_
     have hg:s.1[n]'(by omega)=l[n]:=by
      have:=i4
      rw[dG (by omega),dG h,List.cons.injEq] at this
      exact this.1
     rw[List.take_succ_eq_append_getElem (by simp;omega),List.take_succ_eq_append_getElem (by simp;omega),List.take_set_of_le (κE _),i3,φ3r mk c l k n h]
     simp[i2,hg]
    ·show (s.1.set n _).drop (n+1)=_
     rw[List.drop_set_of_lt (by omega)]
     have:=i4
     rw[dG (by omega),dG h,List.cons.injEq] at this
     exact this.2
   ·have:n=l.length:=by omega
    subst this
    rw[he rec s.1 s.2 i1,i2]
    rw[←i1,List.take_length,i1,←φ3h mk c l k,List.take_length] at i3
    rw[i3])
  hl 0 (l,k) (Nat.zero_le _) ⟨rfl,by simp,by simp,by simp⟩
 simpa using key
theorem φ3P {X:Type} {step:(List X×Int×Int→Option (Int ⊕ Int))→List X×Int×Int→Option (Int ⊕ Int)} (mk:Int→X→X) (c:Nat) (l:List X) (hl:l.length<2 ^ 62)
  (hs:∀rec (r:List X) (k:Int) (n:Nat) (x:X),(h:n<r.length)→n<4611686018427387904→r[n]=mk k x→0<k→k<1000000000000→step rec (r,k,(n:Int))=rec (r,k+c,((n+1:Nat):Int)))
  (he:∀rec (r:List X) (k:Int),step rec (r,k,(r.length:Int))=some (.inl k)) (k:Int) (h0:0<k) (h1:k+c * l.length<1000000000000) :
  lp step (φO mk c l k,k,0)=some (.inl (k+c * l.length)):=by
 have key:=φ2S (step:=step) (fun n (s:Int)=>(φO mk c l k,s,(n:Int))) l.length (fun n s=>.inl (k+c * l.length))
  (fun n s=>s=k+c * n)
  (fun rec n s hn hi ih=>by
   rcases κ8 n l.length with h | h
   ·have hb:(c:Int) * n≤c * l.length:=Int.mul_le_mul_of_nonneg_left (by omega) (by omega)
    have hb0:0≤(c:Int) * n:=Int.mul_nonneg (by omega) (by omega)
    rw[hs rec _ s n l[n] (by simpa using h) (by omega) (by rw[φ3r mk c l k n h,hi]) (by omega) (by omega)]
    exact ih _ h (by rw[hi,Int.natCast_add,Int.mul_add];omega)
   ·have:n=l.length:=by omega
    subst this
    have:=he rec (φO mk c l k) s
    rw[φ3h] at this
    rw[this,hi])
  hl 0 k (Nat.zero_le _) (by simp)
 simpa using key
@[simp] theorem φ7S {A B C:Type} (a:A) (f:A→C) (g:B→C):φi (.inl a) f g=f a:=rfl
@[simp] theorem φ7W {A B C:Type} (b:B) (f:A→C) (g:B→C):φi (.inr b) f g=g b:=rfl
theorem φ2g {A B:Type} (p:A×B):(p.1,p.2)=p:=rfl
theorem φ2h {α:Type} {z:α} {r:List α} {n:Nat} {v:α} (h:n<r.length):rdA z (r.set n v) (n:Int)=v:=by simp[List.getD,h]
noncomputable def mt (k:Int):List UInt8:=(ψK.f k).getD []
theorem φ17 (k:Int) (h0:0<k) (h1:k<2000000000000):ψK.f k=some (mt k):=by
 have:∃b,ψK.f k=some b:=by
  unfold ψK.f
  have hk:¬k≤0:=by omega
  simp only[hk,dF,cF]
  have key:∀(n:Nat) (k:Int) (acc:List UInt8),0≤k→k<n→(n:Int)≤2000000000000→acc.length+k.toNat<4000000000000→∀f,n<f→∃b,φ1W ψK.l0 f (k,acc)=some b∧b.length<4000000000000:=by
   intro n
   induction n with
   | zero=>intro k acc h0 h1;omega
   | succ n ih=>
    intro k acc h0 h1 h2 h3 f hf
    obtain ⟨f,rfl⟩:∃g,f=g+1:=⟨f - 1,by omega⟩
    show ∃b,ψK.l0 (φ1W ψK.l0 f) (k,acc)=some b∧_
    simp only[ψK.l0]
    by_cases hk:k > 0
    ·have hd:Int.tdiv k 10=k / 10:=Int.tdiv_eq_ediv_of_nonneg (by omega)
     have hw:w64 (Int.tdiv k 10)=k / 10:=by rw[hd];exact φU (by omega) (by omega)
     have hlen:((φ12 [IntKind.wrap .u8 (w64 (48+(Int.tmod k 10)))]).length+acc.length≤9223372036854775807):=by simp[φ12];omega
     simp only[hk,dT,cT,hlen,hw]
     exact ih (k / 10) _ (by omega) (by omega) (by omega) (by simp[φ12];omega) f (by omega)
    ·simp only[hk,dF,cF]
     exact ⟨acc,rfl,by omega⟩
  obtain ⟨b,hb,hl⟩:=key (k.toNat+1) k [] (by omega) (by omega) (by omega) (by simp;omega) FUEL (κ7 (by omega) φ4V)
  have hb:lp ψK.l0 (k,[])=some b:=hb
  rw[hb,bS]
  have hle:([109]:List UInt8).length+b.length≤9223372036854775807:=by simp;omega
  simp only[hle,dT,cT]
  exact ⟨_,rfl⟩
 obtain ⟨b,hb⟩:=this
 unfold mt
 rw[hb];rfl
theorem φ6O (x y:List UInt8×List UInt8×Int):ψ3.f x y=some (decide (x=y)):=by
 obtain ⟨a0,a1,a2⟩:=x
 obtain ⟨b0,b1,b2⟩:=y
 unfold ψ3.f
 by_cases e0:a0=b0
 rotate_left
 ·have d2:(a0==b0)=false:=by simpa using e0
  have d3:(a0 != b0)=true:=by simpa using e0
  simp[e0,d2,d3]
 by_cases e1:a1=b1
 rotate_left
 ·have d2:(a1==b1)=false:=by simpa using e1
  have d3:(a1 != b1)=true:=by simpa using e1
  simp[e1,d2,d3]
 by_cases e2:a2=b2
 rotate_left
 ·have d2:(a2==b2)=false:=by simpa using e2
  have d3:(a2 != b2)=true:=by simpa using e2
  simp[e2,d2,d3]
 simp[e0,e1,e2]
theorem φ6y (a b:List (List UInt8×List UInt8×Int)) (ha:a.length<2 ^ 62):ψ4.f a b=some (decide (a=b)):=by
 unfold ψ4.f
 by_cases hl:a.length=b.length
 rotate_left
 ·have:a≠b:=fun h=>hl (by rw[h])
  have h2:((a.length:Int) != (b.length:Int))=true:=by simp;omega
  rw[h2];simp[this]
 have h2:((a.length:Int) != (b.length:Int))=false:=by simp;omega
 rw[h2,cF,φ2m a b hl ha (fun rec n h1 h2=>?_) (fun rec=>?_)]
 ·by_cases e:a=b<;>simp[e,φi]
 ·simp only[ψ4.l0,oL,h1,h2,dT,cT,φr,φy,φZ h1,φZ h2,φx (show n+1<9223372036854775808 by omega),φ2g,φ6O _ _,bS]
  by_cases e:a[n]=b[n]
  ·simp[e]
  ·have e2:(a[n]==b[n])=false:=by simpa using e
   have e3:(a[n] != b[n])=true:=by simpa using e
   simp[e,e2,e3]
 ·simp[ψ4.l0]
noncomputable def φ1z (k:Int) (x:List UInt8×List UInt8×Int):List UInt8×List UInt8×Int:=(mt k,mt (k+1),k+2)
theorem φ6v (l:List (List UInt8×List UInt8×Int)) (k:Int) (hl:l.length<2 ^ 62) (h0:0<k) (h1:k+3 * l.length<1000000000000):ψH.f l k=some (k+3 * l.length,φO φ1z 3 l k):=by
 unfold ψH.f
 rw[φ3m φ1z 3 l hl (fun rec r k n hr h h0 h1=>?_) (fun rec r k hr=>?_) k h0 h1]
 ·rfl
 ·have hn:n<4611686018427387904:=by omega
  have e1:w64 (k+1)=k+1:=by rw[φU (by omega) (by omega)]
  have e2:w64 (k+1+1)=k+2:=by rw[φU (by omega) (by omega)];omega
  have e3:w64 (k+2+1)=k+3:=by rw[φU (by omega) (by omega)];omega
  simp only[ψH.l0,oL,h,dT,cT,φr,List.length_set,tN,φ2h h,φy,φZ h,List.set_set,φx (show n+1<9223372036854775808 by omega),e1,e2,e3,φ17 k (by omega) (by omega),φ17 (k+1) (by omega) (by omega),bS]
  rfl
 ·simp[ψH.l0,hr]
theorem φ5x (l:List (List UInt8×List UInt8×Int)) (k:Int) (hl:l.length<2 ^ 62) (h0:0<k) (h1:k+3 * l.length<1000000000000):ψC.f (φO φ1z 3 l k) k=some (k+3 * l.length):=by
 unfold ψC.f
 rw[φ3P φ1z 3 l hl (fun rec r k n x h hn0 hx h0 h1=>?_) (fun rec r k=>?_) k h0 h1]
 ·rfl
 ·have hn:n+1<9223372036854775808:=by omega
  have e1:w64 (k+1)=k+1:=by rw[φU (by omega) (by omega)]
  have e2:w64 (k+1+1)=k+2:=by rw[φU (by omega) (by omega)];omega
  have e3:w64 (k+2+1)=k+3:=by rw[φU (by omega) (by omega)];omega
  simp only[ψC.l0,oL,h,dT,cT,φr,φy,φZ h,hx,φ1z,φx hn,e1,e2,e3,φ17 k (by omega) (by omega),φ17 (k+1) (by omega) (by omega),bS,beq_self_eq_true,nZ,bne_self_eq_false,cF]
  rfl
 ·simp[ψC.l0]
theorem φ6x (x y:List UInt8×Bool×List UInt8):ψ5.f x y=some (decide (x=y)):=by
 obtain ⟨a0,a1,a2⟩:=x
 obtain ⟨b0,b1,b2⟩:=y
 unfold ψ5.f
 by_cases e0:a0=b0
 rotate_left
 ·have d2:(a0==b0)=false:=by simpa using e0
  have d3:(a0 != b0)=true:=by simpa using e0
  simp[e0,d2,d3]
 by_cases e1:a1=b1
 rotate_left
 ·have d2:(a1==b1)=false:=by simpa using e1
  have d3:(a1 != b1)=true:=by simpa using e1
  simp[e1,d2,d3]
 by_cases e2:a2=b2
 rotate_left
 ·have d2:(a2==b2)=false:=by simpa using e2
  have d3:(a2 != b2)=true:=by simpa using e2
  simp[e2,d2,d3]
 simp[e0,e1,e2]
theorem φ7J (a b:List (List UInt8×Bool×List UInt8)) (ha:a.length<2 ^ 62):ψ6.f a b=some (decide (a=b)):=by
 unfold ψ6.f
 by_cases hl:a.length=b.length
 rotate_left
 ·have:a≠b:=fun h=>hl (by rw[h])
  have h2:((a.length:Int) != (b.length:Int))=true:=by simp;omega
  rw[h2];simp[this]
 have h2:((a.length:Int) != (b.length:Int))=false:=by simp;omega
 rw[h2,cF,φ2m a b hl ha (fun rec n h1 h2=>?_) (fun rec=>?_)]
 ·by_cases e:a=b<;>simp[e,φi]
 ·simp only[ψ6.l0,oL,h1,h2,dT,cT,φr,φy,φZ h1,φZ h2,φx (show n+1<9223372036854775808 by omega),φ2g,φ6x _ _,bS]
  by_cases e:a[n]=b[n]
  ·simp[e]
  ·have e2:(a[n]==b[n])=false:=by simpa using e
   have e3:(a[n] != b[n])=true:=by simpa using e
   simp[e,e2,e3]
 ·simp[ψ6.l0]
noncomputable def φ1w (k:Int) (x:List UInt8×Bool×List UInt8):List UInt8×Bool×List UInt8:=(mt k,Int.tmod (k+1) 3==0,mt (k+2))
theorem φ6Z (l:List (List UInt8×Bool×List UInt8)) (k:Int) (hl:l.length<2 ^ 62) (h0:0<k) (h1:k+3 * l.length<1000000000000):ψI.f l k=some (k+3 * l.length,φO φ1w 3 l k):=by
 unfold ψI.f
 rw[φ3m φ1w 3 l hl (fun rec r k n hr h h0 h1=>?_) (fun rec r k hr=>?_) k h0 h1]
 ·rfl
 ·have hn:n<4611686018427387904:=by omega
  have e1:w64 (k+1)=k+1:=by rw[φU (by omega) (by omega)]
  have e2:w64 (k+1+1)=k+2:=by rw[φU (by omega) (by omega)];omega
  have e3:w64 (k+2+1)=k+3:=by rw[φU (by omega) (by omega)];omega
  simp only[ψI.l0,oL,h,dT,cT,φr,List.length_set,tN,φ2h h,φy,φZ h,List.set_set,φx (show n+1<9223372036854775808 by omega),e1,e2,e3,φ17 k (by omega) (by omega),φ17 (k+2) (by omega) (by omega),bS]
  rfl
 ·simp[ψI.l0,hr]
theorem φ73 (l:List (List UInt8×Bool×List UInt8)) (k:Int) (hl:l.length<2 ^ 62) (h0:0<k) (h1:k+3 * l.length<1000000000000):ψD.f (φO φ1w 3 l k) k=some (k+3 * l.length):=by
 unfold ψD.f
 rw[φ3P φ1w 3 l hl (fun rec r k n x h hn0 hx h0 h1=>?_) (fun rec r k=>?_) k h0 h1]
 ·rfl
 ·have hn:n+1<9223372036854775808:=by omega
  have e1:w64 (k+1)=k+1:=by rw[φU (by omega) (by omega)]
  have e2:w64 (k+1+1)=k+2:=by rw[φU (by omega) (by omega)];omega
  have e3:w64 (k+2+1)=k+3:=by rw[φU (by omega) (by omega)];omega
  simp only[ψD.l0,oL,h,dT,cT,φr,φy,φZ h,hx,φ1w,φx hn,e1,e2,e3,φ17 k (by omega) (by omega),φ17 (k+2) (by omega) (by omega),bS,beq_self_eq_true,nZ,bne_self_eq_false,cF]
  rfl
 ·simp[ψD.l0]
theorem φ5r (x y:List UInt8×Int):ψ7.f x y=some (decide (x=y)):=by
 obtain ⟨a0,a1⟩:=x
 obtain ⟨b0,b1⟩:=y
 unfold ψ7.f
 by_cases e0:a0=b0
 rotate_left
 ·have d2:(a0==b0)=false:=by simpa using e0
  have d3:(a0 != b0)=true:=by simpa using e0
  simp[e0,d2,d3]
 by_cases e1:a1=b1
 rotate_left
 ·have d2:(a1==b1)=false:=by simpa using e1
  have d3:(a1 != b1)=true:=by simpa using e1
  simp[e1,d2,d3]
 simp[e0,e1]
theorem φ5t (a b:List (List UInt8×Int)) (ha:a.length<2 ^ 62):ψ8.f a b=some (decide (a=b)):=by
 unfold ψ8.f
 by_cases hl:a.length=b.length
 rotate_left
 ·have:a≠b:=fun h=>hl (by rw[h])
  have h2:((a.length:Int) != (b.length:Int))=true:=by simp;omega
  rw[h2];simp[this]
 have h2:((a.length:Int) != (b.length:Int))=false:=by simp;omega
 rw[h2,cF,φ2m a b hl ha (fun rec n h1 h2=>?_) (fun rec=>?_)]
 ·by_cases e:a=b<;>simp[e,φi]
 ·simp only[ψ8.l0,oL,h1,h2,dT,cT,φr,φy,φZ h1,φZ h2,φx (show n+1<9223372036854775808 by omega),φ2g,φ5r _ _,bS]
  by_cases e:a[n]=b[n]
  ·simp[e]
  ·have e2:(a[n]==b[n])=false:=by simpa using e
   have e3:(a[n] != b[n])=true:=by simpa using e
   simp[e,e2,e3]
 ·simp[ψ8.l0]
noncomputable def φ2B (k:Int) (x:List UInt8×Int):List UInt8×Int:=(mt k,k+1)
theorem φ5n (l:List (List UInt8×Int)) (k:Int) (hl:l.length<2 ^ 62) (h0:0<k) (h1:k+2 * l.length<1000000000000):ψJ.f l k=some (k+2 * l.length,φO φ2B 2 l k):=by
 unfold ψJ.f
 rw[φ3m φ2B 2 l hl (fun rec r k n hr h h0 h1=>?_) (fun rec r k hr=>?_) k h0 h1]
 ·rfl
 ·have hn:n<4611686018427387904:=by omega
  have e1:w64 (k+1)=k+1:=by rw[φU (by omega) (by omega)]
  have e2:w64 (k+1+1)=k+2:=by rw[φU (by omega) (by omega)];omega
  simp only[ψJ.l0,oL,h,dT,cT,φr,List.length_set,tN,φ2h h,φy,φZ h,List.set_set,φx (show n+1<9223372036854775808 by omega),e1,e2,φ17 k (by omega) (by omega),bS]
  rfl
 ·simp[ψJ.l0,hr]
theorem φ5s (l:List (List UInt8×Int)) (k:Int) (hl:l.length<2 ^ 62) (h0:0<k) (h1:k+2 * l.length<1000000000000):ψE.f (φO φ2B 2 l k) k=some (k+2 * l.length):=by
 unfold ψE.f
 rw[φ3P φ2B 2 l hl (fun rec r k n x h hn0 hx h0 h1=>?_) (fun rec r k=>?_) k h0 h1]
 ·rfl
 ·have hn:n+1<9223372036854775808:=by omega
  have e1:w64 (k+1)=k+1:=by rw[φU (by omega) (by omega)]
  have e2:w64 (k+1+1)=k+2:=by rw[φU (by omega) (by omega)];omega
  simp only[ψE.l0,oL,h,dT,cT,φr,φy,φZ h,hx,φ2B,φx hn,e1,e2,φ17 k (by omega) (by omega),bS,beq_self_eq_true,nZ,bne_self_eq_false,cF]
  rfl
 ·simp[ψE.l0]
def φ3u (x:Bool×List (List UInt8×Int)×List (List UInt8×Bool×List UInt8)):Prop:=x.2.1.length<2 ^ 62∧x.2.2.length<2 ^ 62
theorem φ5z (x y:Bool×List (List UInt8×Int)×List (List UInt8×Bool×List UInt8)) (hx:φ3u x):ψ9.f x y=some (decide (x=y)):=by
 obtain ⟨h1,h2⟩:=hx
 obtain ⟨a0,a1,a2⟩:=x
 obtain ⟨b0,b1,b2⟩:=y
 unfold ψ9.f
 simp only[φ5t a1 b1 h1,φ7J a2 b2 h2,bS]
 by_cases e0:a0=b0
 rotate_left
 ·have d2:(a0==b0)=false:=by simpa using e0
  have d3:(a0 != b0)=true:=by simpa using e0
  simp[e0,d2,d3]
 by_cases e1:a1=b1
 rotate_left
 ·simp[e1]
 by_cases e2:a2=b2
 rotate_left
 ·simp[e2]
 simp[e0,e1,e2]
theorem φ66 (a b:List (Bool×List (List UInt8×Int)×List (List UInt8×Bool×List UInt8))) (ha:a.length<2 ^ 62) (hx:∀x∈a,φ3u x):ψA.f a b=some (decide (a=b)):=by
 unfold ψA.f
 by_cases hl:a.length=b.length
 rotate_left
 ·have:a≠b:=fun h=>hl (by rw[h])
  have h2:((a.length:Int) != (b.length:Int))=true:=by simp;omega
  rw[h2];simp[this]
 have h2:((a.length:Int) != (b.length:Int))=false:=by simp;omega
 rw[h2,cF,φ2m a b hl ha (fun rec n h1 h2=>?_) (fun rec=>?_)]
 ·by_cases e:a=b<;>simp[e,φi]
 ·simp only[ψA.l0,oL,h1,h2,dT,cT,φr,φy,φZ h1,φZ h2,φx (show n+1<9223372036854775808 by omega),φ2g,φ5z _ _ (hx a[n] (gM h1)),bS]
  by_cases e:a[n]=b[n]
  ·simp[e]
  ·have e2:(a[n]==b[n])=false:=by simpa using e
   have e3:(a[n] != b[n])=true:=by simpa using e
   simp[e,e2,e3]
 ·simp[ψA.l0]
def φ2K (x:Bool×List (List UInt8×Int)×List (List UInt8×Bool×List UInt8)):Prop:=x.2.1.length<2 ^ 62∧x.2.2.length<2 ^ 62
def φ57 (x:Bool×List (List UInt8×List UInt8×Int)×Int×List (Bool×List (List UInt8×Int)×List (List UInt8×Bool×List UInt8))):Prop:=x.2.1.length<2 ^ 62∧(x.2.2.2.length<2 ^ 62∧∀y∈x.2.2.2,φ3u y)
theorem φ6G (x y:Bool×List (List UInt8×List UInt8×Int)×Int×List (Bool×List (List UInt8×Int)×List (List UInt8×Bool×List UInt8))) (hx:φ57 x):ψ2.f x y=some (decide (x=y)):=by
 obtain ⟨h1,h3⟩:=hx
 obtain ⟨a0,a1,a2,a3⟩:=x
 obtain ⟨b0,b1,b2,b3⟩:=y
 unfold ψ2.f
 simp only[φ6y a1 b1 h1,φ66 a3 b3 h3.1 h3.2,bS]
 by_cases e0:a0=b0
 rotate_left
 ·have d2:(a0==b0)=false:=by simpa using e0
  have d3:(a0 != b0)=true:=by simpa using e0
  simp[e0,d2,d3]
 by_cases e1:a1=b1
 rotate_left
 ·simp[e1]
 by_cases e2:a2=b2
 rotate_left
 ·have d2:(a2==b2)=false:=by simpa using e2
  have d3:(a2 != b2)=true:=by simpa using e2
  simp[e2,d2,d3]
 by_cases e3:a3=b3
 rotate_left
 ·simp[e3]
 simp[e0,e1,e2,e3]
abbrev φ5p:=List UInt8×List UInt8×Int
abbrev TxnT:=Bool×List (List UInt8×Int)×List (List UInt8×Bool×List UInt8)
theorem dnn {k:Int} (h:0≤k):decide (k<0)=false:=by
 have:¬k<0:=by omega
 simp[this]
abbrev zTx:List TxnT:=List.replicate 3 (false,[],[])
abbrev ModT:=Bool×List φ5p×Int×List TxnT
abbrev newM:ModT:=(true,[],1,zTx)
def sumC {X:Type} (c:X→Nat):List X→Nat
 | []=>0
 | x::r=>c x+sumC c r
def φe {X:Type} (mk:Int→X→X) (c:X→Nat):List X→Int→List X
 | [],_=>[]
 | x::r,k=>mk k x::φe mk c r (k+(c x:Int))
theorem φ1u {X:Type} (mk:Int→X→X) (c:X→Nat):∀(l:List X) (k:Int),(φe mk c l k).length=l.length
 | [],_=>rfl
 | x::r,k=>by simp[φe,φ1u mk c r]
theorem φ2U {X:Type} (c:X→Nat):∀(l:List X) (n:Nat) (h:n<l.length),sumC c (l.take (n+1))=sumC c (l.take n)+c l[n]
 | [],n,h=>by simp at h
 | x::r,0,h=>by simp[sumC]
 | x::r,n+1,h=>by
  have:=φ2U c r n (by simpa using h)
  simp only[List.take_succ_cons,sumC,List.getElem_cons_succ,this]
  omega
theorem φ3v {X:Type} (c:X→Nat):∀(l:List X) (n:Nat),sumC c (l.take n)≤sumC c l
 | [],n=>by simp
 | x::r,0=>by simp[sumC]
 | x::r,n+1=>by
  have:=φ3v c r n
  simp only[List.take_succ_cons,sumC]
  omega
theorem φ45 {X:Type} (mk:Int→X→X) (c:X→Nat):∀(l:List X) (k:Int) (n:Nat) (h:n<l.length),(φe mk c l k)[n]'(by rw[φ1u];exact h)=mk (k+(sumC c (l.take n):Nat)) l[n]
 | [],k,n,h=>by simp at h
 | x::r,k,0,h=>by simp[φe,sumC]
 | x::r,k,n+1,h=>by
  have:=φ45 mk c r (k+(c x:Int)) n (by simpa using h)
  simp only[φe,List.getElem_cons_succ,this,List.take_succ_cons,sumC]
  congr 1
  omega
theorem φ6Q {X:Type} {step:(List X×Int×Int→Option (List X×Int))→List X×Int×Int→Option (List X×Int)} (mk:Int→X→X) (c:X→Nat) (P:X→Prop) (l:List X) (hl:l.length<2 ^ 62) (hP:∀x∈l,P x)
  (hs:∀rec (r:List X) (k:Int) (n:Nat),r.length=l.length→(h:n<r.length)→P r[n]→0<k→k+(c r[n]:Int)<1000000000000→step rec (r,k,(n:Int))=rec (r.set n (mk k r[n]),k+(c r[n]:Int),((n+1:Nat):Int)))
  (he:∀rec (r:List X) (k:Int),r.length=l.length→step rec (r,k,(l.length:Int))=some (r,k)) (k:Int) (h0:0<k) (h1:k+(sumC c l:Nat)<1000000000000) :
  lp step (l,k,0)=some (φe mk c l k,k+(sumC c l:Nat)):=by
 have key:=φ2S (step:=step) (fun n (s:List X×Int)=>(s.1,s.2,(n:Int))) l.length (fun n s=>(φe mk c l k,k+(sumC c l:Nat)))
  (fun n s=>s.1.length=l.length∧s.2=k+(sumC c (l.take n):Nat)∧s.1.take n=(φe mk c l k).take n∧s.1.drop n=l.drop n)
  (fun rec n s hn hi ih=>by
   obtain ⟨i1,i2,i3,i4⟩:=hi
   rcases κ8 n l.length with h | h
   ·have hg:s.1[n]'(by omega)=l[n]:=by
     have:=i4
     rw[dG (by omega),dG h,List.cons.injEq] at this
     exact this.1
    have hb:=φ3v c l (n+1)
    rw[φ2U c l n h] at hb
    rw[hs rec s.1 s.2 n i1 (by omega) (by rw[hg];exact hP _ (gM h)) (by omega) (by rw[hg];omega)]
    refine ih (s.1.set n (mk s.2 (s.1[n]'(by omega))),s.2+(c (s.1[n]'(by omega)):Int)) h ⟨by simp[i1],?_,?_,?_⟩
    ·show s.2+_=_;rw[hg,i2,φ2U c l n h];omega
    ·show (s.1.set n _).take (n+1)=_
     rw[List.take_succ_eq_append_getElem (by simp;omega),List.take_succ_eq_append_getElem (by rw[φ1u];omega),List.take_set_of_le (κE _),i3,φ45 mk c l k n h]
     simp[i2,hg]
    ·show (s.1.set n _).drop (n+1)=_
     rw[List.drop_set_of_lt (by omega)]
     have:=i4
     rw[dG (by omega),dG h,List.cons.injEq] at this
     exact this.2
   ·have:n=l.length:=by omega
    subst this
    rw[he rec s.1 s.2 i1,i2,List.take_length]
    rw[←i1,List.take_length,i1,←φ1u mk c l k,List.take_length] at i3
    rw[i3])
  hl 0 (l,k) (Nat.zero_le _) ⟨rfl,by simp[sumC],by simp,by simp⟩
 simpa using key
theorem φ78 {X:Type} {step:(List X×Int×Int→Option (Int ⊕ Int))→List X×Int×Int→Option (Int ⊕ Int)} (mk:Int→X→X) (c:X→Nat) (P:X→Prop) (l:List X) (hl:l.length<2 ^ 62) (hP:∀x∈l,P x)
  (hs:∀rec (r:List X) (k:Int) (n:Nat) (x:X),(h:n<r.length)→n<4611686018427387904→r[n]=mk k x→P x→0<k→k+(c x:Int)<1000000000000→step rec (r,k,(n:Int))=rec (r,k+(c x:Int),((n+1:Nat):Int)))
  (he:∀rec (r:List X) (k:Int),step rec (r,k,(r.length:Int))=some (.inl k)) (k:Int) (h0:0<k) (h1:k+(sumC c l:Nat)<1000000000000) :
  lp step (φe mk c l k,k,0)=some (.inl (k+(sumC c l:Nat))):=by
 have key:=φ2S (step:=step) (fun n (s:Int)=>(φe mk c l k,s,(n:Int))) l.length (fun n s=>.inl (k+(sumC c l:Nat)))
  (fun n s=>s=k+(sumC c (l.take n):Nat))
  (fun rec n s hn hi ih=>by
   rcases κ8 n l.length with h | h
   ·have hb:=φ3v c l (n+1)
    rw[φ2U c l n h] at hb
    rw[hs rec _ s n l[n] (by rw[φ1u];exact h) (by omega) (by rw[φ45 mk c l k n h,hi]) (hP _ (gM h)) (by omega) (by omega)]
    exact ih _ h (by rw[hi,φ2U c l n h];omega)
   ·have:n=l.length:=by omega
    subst this
    have:=he rec (φe mk c l k) s
    rw[φ1u] at this
    rw[this,hi,List.take_length])
  hl 0 k (Nat.zero_le _) (by simp[sumC])
 simpa using key
noncomputable def φ1c (k:Int) (x:TxnT):TxnT:=(Int.tmod k 3==0,φO φ2B 2 x.2.1 (k+1),φO φ1w 3 x.2.2 (k+1+2 * (x.2.1.length:Int)))
def φ10 (x:TxnT):Nat:=1+2 * x.2.1.length+3 * x.2.2.length
theorem φ5v (l:List TxnT) (k:Int) (hl:l.length<2 ^ 62) (hP:∀x∈l,φ2K x) (h0:0<k) (h1:k+(sumC φ10 l:Nat)<1000000000000):ψL.f l k=some (k+(sumC φ10 l:Nat),φe φ1c φ10 l k):=by
 unfold ψL.f
 rw[φ6Q φ1c φ10 φ2K l hl hP (fun rec r k n hr h hp h0 h1=>?_) (fun rec r k hr=>?_) k h0 h1]
 ·rfl
 ·have hn:n<4611686018427387904:=by omega
  have h1':k+((1+2 * r[n].2.1.length+3 * r[n].2.2.length:Nat):Int)<1000000000000:=h1
  have e1:w64 (k+1)=k+1:=by rw[φU (by omega) (by omega)]
  have e2:k+((1+2 * r[n].2.1.length+3 * r[n].2.2.length:Nat):Int)=k+1+2 * (r[n].2.1.length:Int)+3 * (r[n].2.2.length:Int):=by omega
  have m1:=φ5n r[n].2.1 (k+1) hp.1 (by omega) (by omega)
  have m2:=φ6Z r[n].2.2 (k+1+2 * (r[n].2.1.length:Int)) hp.2 (by omega) (by omega)
  show _=rec (_,k+((1+2 * r[n].2.1.length+3 * r[n].2.2.length:Nat):Int),_)
  rw[e2]
  simp only[ψL.l0,oL,h,dT,cT,φr,List.length_set,tN,φ2h h,φy,φZ h,List.set_set,φx (show n+1<9223372036854775808 by omega),e1,m1,m2,bS,φ1c]
 ·simp[ψL.l0,hr]
theorem φ6L (l:List TxnT) (k:Int) (hl:l.length<2 ^ 62) (hP:∀x∈l,φ2K x) (h0:0<k) (h1:k+(sumC φ10 l:Nat)<1000000000000):ψF.f (φe φ1c φ10 l k) k=some (k+(sumC φ10 l:Nat)):=by
 unfold ψF.f
 rw[φ78 φ1c φ10 φ2K l hl hP (fun rec r k n x h hn0 hx hp h0 h1=>?_) (fun rec r k=>?_) k h0 h1]
 ·rfl
 ·have hn:n+1<9223372036854775808:=by omega
  have h1':k+((1+2 * x.2.1.length+3 * x.2.2.length:Nat):Int)<1000000000000:=h1
  have e1:w64 (k+1)=k+1:=by rw[φU (by omega) (by omega)]
  have e2:k+((1+2 * x.2.1.length+3 * x.2.2.length:Nat):Int)=k+1+2 * (x.2.1.length:Int)+3 * (x.2.2.length:Int):=by omega
  have m1:=φ5s x.2.1 (k+1) hp.1 (by omega) (by omega)
  have m2:=φ73 x.2.2 (k+1+2 * (x.2.1.length:Int)) hp.2 (by omega) (by omega)
  show _=rec (_,k+((1+2 * x.2.1.length+3 * x.2.2.length:Nat):Int),_)
  rw[e2]
  simp only[ψF.l0,oL,h,dT,cT,φr,φy,φZ h,hx,φ1c,φx hn,e1,m1,m2,bS,beq_self_eq_true,nZ,bne_self_eq_false,cF,dnn (show (0:Int)≤k+1+2 * (x.2.1.length:Int) by omega),dnn (show (0:Int)≤k+1+2 * (x.2.1.length:Int)+3 * (x.2.2.length:Int) by omega)]
 ·simp[ψF.l0]
noncomputable def φ1b (k:Int) (x:ModT):ModT:=(x.1,φO φ1z 3 x.2.1 k,x.2.2.1,φe φ1c φ10 x.2.2.2 (k+3 * (x.2.1.length:Int)))
def φ1Q (x:ModT):Nat:=3 * x.2.1.length+sumC φ10 x.2.2.2
def φ46 (x:ModT):Prop:=x.2.1.length<2 ^ 62∧x.2.2.2.length<2 ^ 62∧∀t∈x.2.2.2,φ2K t
theorem φ6o (x:ModT) (k:Int) (hx:φ46 x) (h0:0<k) (h1:k+(φ1Q x:Nat)<1000000000000):ψG.f x k=some (k+(φ1Q x:Nat),φ1b k x):=by
 obtain ⟨l1,l2,l3⟩:=hx
 unfold φ1Q at h1 ⊢
 unfold ψG.f φ1b
 rw[φ6v x.2.1 k l1 h0 (by omega),bS]
 simp only
 rw[φ5v x.2.2.2 _ l2 l3 (by omega) (by omega),bS]
 simp only[Option.some.injEq,Prod.mk.injEq,and_true]
 omega
theorem φ5o (x:ModT) (k:Int) (hx:φ46 x) (h0:0<k) (h1:k+(φ1Q x:Nat)<1000000000000):ψB.f (φ1b k x) k=some (k+(φ1Q x:Nat)):=by
 obtain ⟨l1,l2,l3⟩:=hx
 unfold φ1Q at h1 ⊢
 unfold ψB.f φ1b
 simp only[φ5x x.2.1 k l1 h0 (show k+3 * (x.2.1.length:Int)<1000000000000 by omega),bS,dnn (show (0:Int)≤k+3 * (x.2.1.length:Int) by omega),cF,φ6L x.2.2.2 (k+3 * (x.2.1.length:Int)) l2 l3 (by omega) (by omega),dnn (show (0:Int)≤k+3 * (x.2.1.length:Int)+((sumC φ10 x.2.2.2:Nat):Int) by omega)]
 simp only[Option.some.injEq]
 omega
theorem φ7G:ψ1.f=some true:=by
 have e1:ψM.f=some newM:=rfl
 have e2:ψ0.f=some newM:=rfl
 have hm:φ46 newM:=⟨by show 0<2 ^ 62;omega,by show 3<2 ^ 62;omega,fun t ht=>by simp[newM,zTx] at ht;subst ht;exact ⟨by show 0<2 ^ 62;omega,by show 0<2 ^ 62;omega⟩⟩
 have hl:φ57 newM:=⟨hm.1,hm.2.1,fun t ht=>hm.2.2 t ht⟩
 have hc:φ1Q newM=3:=rfl
 have m:=φ6o newM 1 hm (by omega) (by rw[hc];omega)
 have hd:=φ5o newM 1 hm (by omega) (by rw[hc];omega)
 have hk:((newM.1,(φ1b 1 newM).2.1,newM.2.2.1,(φ1b 1 newM).2.2.2):ModT)=φ1b 1 newM:=rfl
 unfold ψ1.f
 simp only[e1,e2,bS,φ6G newM newM hl,dT,nZ,cF,m]
 simp only[hk,hd,bS,dnn (show (0:Int)≤1+((φ1Q newM:Nat):Int) by omega),bne_self_eq_false,cF]
end Go.Rf.G
