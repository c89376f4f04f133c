import Derived.Test.YtakpldeobnelfabGreatDoorLConflictsLem1
open Option renaming bind_some→bS
open List renaming length_append→lA,append_assoc→aA,mem_cons_of_mem→mC,mem_append→mA,mem_append_right→mR,mem_append_left→mL,mem_cons→mc,drop_eq_getElem_cons→dG,length_take→lT,length_drop→lD,mem_map→mM,length_map→lM,length_cons→lC,length_nil→lN,getElem_mem→gM,map_append→mp,mem_singleton→mZ
open Bool renaming and_eq_true→bA,eq_false_or_eq_true→bE,not_true→nZ,not_false→nF,true_and→tA,not_not→nn
open Int renaming toNat_natCast→tN,ofNat_lt→oL
namespace Go.Rf.G
open Go Go.Rf
set_option linter.unusedVariables false
set_option linter.unusedSimpArgs false
set_option synthInstance.maxSize 4000
theorem φLH (n:Nat) (hn:n<1000000000000000000):strconv_Itoa.f (n:Int)=some (Lib.decDigits n):=by
 unfold strconv_Itoa.f
 have c:(decide (-9223372036854775808≤(n:Int)) && decide ((n:Int)≤9223372036854775807))=true:=by simp;omega
 rw[c,φ9e];rfl
def φ28 (word:List UInt8) (id:Int):List UInt8:=if 1≤id∧id≤100000 then word++Lib.decDigits id.toNat else []
def φ0 (id:Int):List UInt8:=φ28 [115,101,103] id
def φM (id:Int):List UInt8:=φ28 [104,105,110,116] id
theorem φFK (word:List UInt8) (id:Int) (hw:word.length≤100):ψ1U.f word id=some (φ28 word id):=by
 unfold ψ1U.f φ28 ψ6.f
 rw[φ25,bS]
 by_cases h:1≤id∧id≤100000
 ·obtain ⟨n,rfl⟩:∃n:Nat,id=(n:Int):=⟨id.toNat,by omega⟩
  have hl:=φ4v 5 n (by show n<1000000;omega)
  have hb:word.length+(Lib.decDigits n).length≤9223372036854775807:=by omega
  simp only[h,and_self,dT,nZ,cF,φLH n (by omega),bS,hb,cT,if_true,tN]
 ·simp[h]
theorem φ44 (id:Int):ψt.f id=some (φ0 id):=by
 unfold ψt.f φ0
 rw[φFK [115,101,103] id (by show 3≤100;decide),bS]
theorem φ2L (id:Int):ψ2y.f id=some (φ0 id):=by
 unfold ψ2y.f φ0 φ28
 rw[φ1r,bS]
 by_cases h:1≤id∧id≤100000
 ·obtain ⟨n,rfl⟩:∃n:Nat,id=(n:Int):=⟨id.toNat,by omega⟩
  have hl:=φ4v 5 n (by show n<1000000;omega)
  have hb:([115,101,103]:List UInt8).length+(Lib.decDigits n).length≤9223372036854775807:=by show 3+_≤_;omega
  simp only[h,and_self,dT,nZ,cF,φAn n (by omega),bS,hb,cT,if_true,tN]
 ·simp[h]
theorem φ4A (id:Int):(φ0 id).length≤9:=by
 unfold φ0 φ28
 split
 ·have hl:=φ4v 5 id.toNat (by show _<1000000;omega)
  rw[lA];show 3+_≤9;omega
 ·simp
def φ2 (d:φ1) (n:List UInt8):List UInt8×Bool:=
 if φ5 d=false then ([],false) else
 match d.1.findIdx? (fun f=>f.1==n) with
 | some i=>((d.1.getD i ([],[],0)).2.1,true)
 | none=>([],false)
theorem φ7u (d:φ1) (n:List UInt8) (h:dlim d):ψM.f d n=some (φ2 d n):=by
 have hl:=h.1
 unfold ψM.f φ2
 rw[φ4r d n (by omega),bS,φ9t d h]
 rcases φz d.1 n with ⟨e,_⟩ | ⟨i,hi,e,_⟩
 ·rw[e,φ19 e];simp
 ·rw[e,φ16 e]
  rcases bE (φ5 d) with k | k
  ·simp only[dnn (show (0:Int)≤(i:Int) by omega),cF,bS,k,nZ,φ3Q hi,cT,φ3a hi,φ8 hi,Bool.true_eq_false,if_false]
  ·simp only[dnn (show (0:Int)≤(i:Int) by omega),cF,bS,k,nF,cT,if_true]
theorem φ4j (d:φ1) (n:List UInt8) (h:dlim d):ψ2R.f d n=some (φ2 d n):=by
 have hl:=h.1
 unfold ψ2R.f φ2
 rw[φ5y d h,bS,φ4B d n (by omega)]
 rcases bE (φ5 d) with k | k
 rotate_left
 ·simp[k]
 rcases φz d.1 n with ⟨e,_⟩ | ⟨i,hi,e,_⟩
 ·rw[e,φ19 e];simp[k]
 ·rw[e,φ16 e]
  simp only[dnn (show (0:Int)≤(i:Int) by omega),cF,bS,k,nZ,φ3Q hi,cT,φ3a hi,φ8 hi,Bool.true_eq_false,if_false]
theorem φ4Z (d:φ1) (n:List UInt8) (h:dlim d):(φ2 d n).1.length≤φO d.1:=by
 unfold φ2
 split
 ·simp
 ·rcases φz d.1 n with ⟨e,_⟩ | ⟨i,hi,e,_⟩
  ·rw[φ19 e];simp
  ·rw[φ16 e]
   simp only[φ8 hi]
   exact φ9i (gM hi)
def segN (d:φ1) (l:List Int):Nat:=sumN (fun id=>(φ2 d (φ0 id)).1.length) l
def varN (n:Nat):List UInt8:=vLow n++[UInt8.ofNat (vTop n)]
theorem φ4q (n:Nat) (h:n≤562949953421311):varT (n:Int)=varN n:=by
 unfold varT varN
 rw[if_pos (by omega),tN]
theorem φ59 {n:Nat} (h:n<128):varN n=[UInt8.ofNat n]:=by
 unfold varN
 rw[vLow,vTop,dif_pos h,dif_pos h];rfl
theorem φ9K {n:Nat} (h:¬n<128):varN n=UInt8.ofNat (128+n % 128)::varN (n / 128):=by
 unfold varN
 rw[vLow,vTop,dif_neg h,dif_neg h];rfl
theorem φ7l (k n:Nat) (h:n<128 ^ (k+1)):1≤(varN n).length∧(varN n).length≤k+1:=by
 have:=φ8Q k n h
 unfold varN
 rw[lA,List.length_singleton];omega
def rvT:Nat→Bool→List UInt8→Option (Nat×Nat)
 | 0,_,_=>none
 | _+1,_,[]=>none
 | f+1,first,x::r=>if x.toNat<128 then (if x.toNat=0∧first=false then none else some (x.toNat,1)) else (rvT f false r).map fun p=>(x.toNat % 128+128 * p.1,p.2+1)
theorem φCE:∀(f:Nat) (first:Bool) (s:List UInt8) (n k:Nat),rvT f first s=some (n,k)→(first=false→1≤n)
 | 0,_,_,_,_,h=>by simp[rvT] at h
 | f+1,_,[],_,_,h=>by simp[rvT] at h
 | f+1,first,x::r,n,k,h=>by
  intro hf
  unfold rvT at h
  split at h
  ·split at h
   ·simp at h
   ·rename_i h1 h2
    simp only[Option.some.injEq,Prod.mk.injEq] at h
    have:¬x.toNat=0:=fun e=>h2 ⟨e,hf⟩
    omega
  ·cases hr:rvT f false r with
   | none=>rw[hr] at h;simp at h
   | some p=>
    rw[hr] at h
    simp only[Option.map_some,Option.some.injEq,Prod.mk.injEq] at h
    have:=φCE f false r p.1 p.2 hr rfl
    omega
theorem φ4W:∀(f:Nat) (first:Bool) (s:List UInt8) (n k:Nat),rvT f first s=some (n,k)→1≤k∧k≤f∧k≤s.length∧s.take k=varN n∧n<128 ^ f
 | 0,_,_,_,_,h=>by simp[rvT] at h
 | f+1,_,[],_,_,h=>by simp[rvT] at h
 | f+1,first,x::r,n,k,h=>by
  have hx:=x.toNat_lt
  unfold rvT at h
  split at h
  ·rename_i h1
   split at h
   ·simp at h
   ·simp only[Option.some.injEq,Prod.mk.injEq] at h
    obtain ⟨rfl,rfl⟩:=h
    refine ⟨Nat.le_refl _,by omega,by simp,?_,?_⟩
    ·rw[φ59 h1];simp
    ·exact Nat.lt_of_lt_of_le h1 (by rw[Nat.pow_succ];have:=Nat.pow_pos (n:=f) (show 0<128 by omega);omega)
  ·rename_i h1
   cases hr:rvT f false r with
   | none=>rw[hr] at h;simp at h
   | some p=>
    obtain ⟨m,j⟩:=p
    rw[hr] at h
    simp only[Option.map_some,Option.some.injEq,Prod.mk.injEq] at h
    obtain ⟨rfl,rfl⟩:=h
    obtain ⟨q1,q2,q3,q4,q5⟩:=φ4W f false r m j hr
    have hm:=φCE f false r m j hr rfl
    have hbig:¬x.toNat % 128+128 * m<128:=by omega
    refine ⟨by omega,by omega,by simp;omega,?_,?_⟩
    ·rw[φ9K hbig,List.take_succ_cons,q4]
     have e1:(x.toNat % 128+128 * m) % 128=x.toNat % 128:=by omega
     have e2:(x.toNat % 128+128 * m) / 128=m:=by omega
     have e3:128+x.toNat % 128=x.toNat:=by omega
     rw[e1,e2,e3];simp
    ·rw[Nat.pow_succ];omega
theorem φ7x:∀(f:Nat) (first:Bool) (n:Nat) (r:List UInt8),n<128 ^ f→(first=false→1≤n)→1≤f→rvT f first (varN n++r)=some (n,(varN n).length)
 | 0,_,_,_,_,_,h=>by omega
 | f+1,first,n,r,h,h1,_=>by
  by_cases c:n<128
  ·rw[φ59 c,List.singleton_append]
   unfold rvT
   have e:(UInt8.ofNat n).toNat=n:=by simp;omega
   rw[e,if_pos c,if_neg (by intro k;have:=h1 k.2;omega)];rfl
  ·rw[φ9K c,List.cons_append]
   unfold rvT
   have e:(UInt8.ofNat (128+n % 128)).toNat=128+n % 128:=by simp;omega
   have hf:1≤f:=by
    rcases Nat.eq_zero_or_pos f with k | k
    ·subst k;simp at h;omega
    ·exact k
   rw[e,if_neg (by omega),φ7x f false (n / 128) r (by rw[Nat.div_lt_iff_lt_mul (by omega)];rw[Nat.pow_succ] at h;exact h) (fun _=>by omega) hf]
   simp only[Option.map_some,lC]
   congr 2;omega
def decV (l:List UInt8):Nat:=l.foldr (fun x a=>x.toNat % 128+128 * a) 0
theorem φFO:∀(l:List UInt8),decV l<128 ^ l.length
 | []=>by simp[decV]
 | x::l=>by
  have:=φFO l
  show x.toNat % 128+128 * decV l<128 ^ (l.length+1)
  rw[Nat.pow_succ];omega
theorem φC0:∀(k n:Nat),n<128 ^ (k+1)→decV (varN n)=n
 | 0,n,h=>by
  have h:n<128:=by simpa using h
  rw[φ59 h]
  show (UInt8.ofNat n).toNat % 128+128 * 0=n
  have e:(UInt8.ofNat n).toNat=n:=by simp;omega
  rw[e];omega
 | k+1,n,h=>by
  by_cases c:n<128
  ·rw[φ59 c]
   show (UInt8.ofNat n).toNat % 128+128 * 0=n
   have e:(UInt8.ofNat n).toNat=n:=by simp;omega
   rw[e];omega
  ·rw[φ9K c]
   show (UInt8.ofNat (128+n % 128)).toNat % 128+128 * decV (varN (n / 128))=n
   have e:(UInt8.ofNat (128+n % 128)).toNat=128+n % 128:=by simp;omega
   rw[e,φC0 k (n / 128) (by rw[Nat.div_lt_iff_lt_mul (by omega)];rw[Nat.pow_succ] at h;exact h)]
   omega
def φi (s:List UInt8):Int×Int:=match rvT 7 true s with
 | some (n,k)=>((n:Int),(k:Int))
 | none=>(0,0)
theorem φ9N (s:List UInt8):φi s=(0,0)∨∃n k:Nat,rvT 7 true s=some (n,k)∧φi s=((n:Int),(k:Int))∧1≤k∧k≤7∧k≤s.length∧s.take k=varN n∧n<562949953421312:=by
 unfold φi
 cases h:rvT 7 true s with
 | none=>exact .inl rfl
 | some p=>
  obtain ⟨n,k⟩:=p
  obtain ⟨h1,h2,h3,h4,h5⟩:=φ4W 7 true s n k h
  exact .inr ⟨n,k,rfl,rfl,h1,h2,h3,h4,h5⟩
theorem φMw (s:List UInt8) (k4:Int) (k:Nat) (hk:k≤s.length) (h7:k≤7):lp ψ2p.l2 (s,k4,0,(k:Int) - 1)=some (s,k4,((decV (s.take k):Nat):Int)):=by
 have key:=φEt (step:=ψ2p.l2) (fun n (a:Nat)=>(s,k4,(a:Int),(n:Int) - 1)) (fun n a=>(s,k4,((decV (s.take n)+128 ^ n * a:Nat):Int))) (fun n a=>n≤k∧a<128 ^ (k - n))
  (fun rec n a hi ih=>by
   obtain ⟨hn,ha⟩:=hi
   cases n with
   | zero=>
    simp[ψ2p.l2,decV]
   | succ n=>
    have h1:n<s.length:=by omega
    have e0:((n+1:Nat):Int) - 1=(n:Int):=by omega
    have c:(n:Int)≥0:=by omega
    have hx:=s[n].toNat_lt
    have hpow:(128:Nat) ^ (k - (n+1))≤128 ^ 7:=Nat.pow_le_pow_right (by omega) (by omega)
    have ha7:a<562949953421312:=Nat.lt_of_lt_of_le ha hpow
    have ha6:a<128 ^ 6:=Nat.lt_of_lt_of_le ha (Nat.pow_le_pow_right (by omega) (by omega))
    have ha6:a<4398046511104:=ha6
    have e1:w64 ((a:Int) * 128)=((a * 128:Nat):Int):=by rw[φE (by omega) (by omega)];omega
    have e2:w64 (bAt s (n:Int))=((s[n].toNat:Nat):Int):=by rw[φ4S s n h1];exact φ3M (by omega)
    have e3:Int.tmod ((s[n].toNat:Nat):Int) 128=((s[n].toNat % 128:Nat):Int):=rfl
    have e4:w64 (((a * 128:Nat):Int)+((s[n].toNat % 128:Nat):Int))=((a * 128+s[n].toNat % 128:Nat):Int):=by rw[φE (by omega) (by omega)];omega
    have e5:w64 ((n:Int) - 1)=(n:Int) - 1:=φE (by omega) (by omega)
    have hlt:a * 128+s[n].toNat % 128<128 ^ (k - n):=by
     rw[show k - n=(k - (n+1))+1 by omega,Nat.pow_succ];omega
    have ih:=ih n (a * 128+s[n].toNat % 128) rfl ⟨by omega,hlt⟩
    simp only[ψ2p.l2,e0,c,dT,cT,φD,h1,e1,e2,e3,e4,e5,ih]
    congr 4
    rw[List.take_succ_eq_append_getElem h1]
    have hd:decV (s.take n++[s[n]])=decV (s.take n)+128 ^ n * (s[n].toNat % 128):=by
     have gen:∀l:List UInt8,decV (l++[s[n]])=decV l+128 ^ l.length * (s[n].toNat % 128):=by
      intro l
      induction l with
      | nil=>simp[decV]
      | cons x l ih=>
       show x.toNat % 128+128 * decV (l++[s[n]])=x.toNat % 128+128 * decV l+128 ^ (l.length+1) * (s[n].toNat % 128)
       rw[ih,Nat.pow_succ,Nat.mul_add,Nat.mul_comm (128 ^ l.length) 128,Nat.mul_assoc];omega
     rw[gen,lT,Nat.min_eq_left (by omega)]
    rw[hd,Nat.pow_succ,Nat.mul_add]
    have:128 ^ n * (a * 128)=128 ^ n * 128 * a:=by rw[Nat.mul_assoc,Nat.mul_comm a 128]
    omega)
  k 0 (by omega) ⟨Nat.le_refl _,by simp⟩
 simpa using key
theorem φ2M (s:List UInt8) (hl:s.length<2 ^ 62):ψ2p.f s=some (φi s):=by
 have key:=φ5g (step:=ψ2p.l0) (a:=(s,(1:Int))) (fun a=>match rvT 7 true s with
   | some (n,k)=>if a.2≤(k:Int) then .inr ((n:Int),(k:Int)) else .inl ()
   | none=>.inl ()) (fun a=>a.1=s∧1≤a.2∧a.2≤8) (fun a=>(8 - a.2).toNat)
  (fun rec a ha ih=>by
   obtain ⟨x,k⟩:=a
   obtain ⟨hx,h1,h2⟩:=ha
   simp only at hx h1 h2 ih ⊢
   subst hx
   obtain ⟨m,rfl⟩:∃m:Nat,k=(m:Int):=⟨k.toNat,by omega⟩
   have out:∀n j,rvT 7 true x=some (n,j)→j≤7∧j≤x.length:=fun n j hr=>by
    have:=φ4W 7 true x n j hr;exact ⟨this.2.1,this.2.2.1⟩
   by_cases c7:(m:Int)≤7
   rotate_left
   ·simp only[ψ2p.l0,c7,dF,cF]
    cases hr:rvT 7 true x with
    | none=>rfl
    | some p=>
     obtain ⟨n,j⟩:=p
     have:=(out n j hr).1
     simp only
     rw[if_neg (by omega)]
   by_cases cl:(m:Int)≤(x.length:Int)
   rotate_left
   ·simp only[ψ2p.l0,c7,cl,dT,dF,cT,cF]
    cases hr:rvT 7 true x with
    | none=>rfl
    | some p=>
     obtain ⟨n,j⟩:=p
     have:=(out n j hr).2
     simp only
     rw[if_neg (by omega)]
   have e1:w64 ((m:Int) - 1)=(m:Int) - 1:=φE (by omega) (by omega)
   have e2:=φMw x (m:Int) m (by omega) (by omega)
   have hv:decV (x.take m)<128 ^ 7:=Nat.lt_of_lt_of_le (φFO _) (Nat.pow_le_pow_right (by omega) (by rw[lT];omega))
   have hv2:decV (x.take m)<562949953421312:=hv
   have c0:(0:Int)≤(m:Int):=by omega
   have e3:w64 ((m:Int)+1)=((m+1:Nat):Int):=φJ (by omega)
   simp only[ψ2p.l0,c7,cl,dT,cT,e1,e2,bS,φ4m,φ4q _ (show decV (x.take m)≤562949953421311 by omega),c0,Bool.and_self,tN,e3]
   by_cases ck:varN (decV (x.take m))=x.take m
   ·have ck2:(varN (decV (x.take m))==x.take m)=true:=by simpa using ck
    have hr:rvT 7 true x=some (decV (x.take m),m):=by
     have hb:=φ7x 7 true (decV (x.take m)) (x.drop m) hv (by simp) (by omega)
     rw[ck,List.take_append_drop,lT,Nat.min_eq_left (by omega)] at hb
     exact hb
    simp only[ck2,cT,hr]
    rw[if_pos (Int.le_refl _)]
   ·have ck2:(varN (decV (x.take m))==x.take m)=false:=by simpa using ck
    have ih:=ih (x,((m+1:Nat):Int)) ⟨rfl,by simp only;omega,by simp only;omega⟩ (by simp only;omega)
    simp only[ck2,cF,ih]
    cases hr:rvT 7 true x with
    | none=>rfl
    | some p=>
     obtain ⟨n,j⟩:=p
     have hs:=φ4W 7 true x n j hr
     have hne:j≠m:=fun e=>by
      subst e
      rw[hs.2.2.2.1,φC0 6 n hs.2.2.2.2] at ck
      exact ck rfl
     simp only
     by_cases cj:(m:Int)≤(j:Int)
     ·rw[if_pos cj,if_pos (by omega)]
     ·rw[if_neg cj,if_neg (by omega)])
  ⟨rfl,by simp only;omega,by simp only;omega⟩ (by show (7:Nat)<2 ^ 62;decide)
 unfold ψ2p.f φi
 rw[key,bS]
 cases hr:rvT 7 true s with
 | none=>rfl
 | some p=>
  obtain ⟨n,k⟩:=p
  have hs:=φ4W 7 true s n k hr
  simp only
  rw[if_pos (by omega)];rfl
theorem φ8D (s:List UInt8) (hl:s.length<2 ^ 62):ψj.f s=some (φi s):=by
 have key:=φe (step:=ψj.l0) (fun i (a:Nat)=>(s,(a:Int),(i:Int))) 7 (fun i a=>match rvT (7 - i) (decide (i=0)) (s.drop i) with
   | some (n,k)=>.inr (((a+128 ^ i * n:Nat):Int),((i+k:Nat):Int))
   | none=>bif ((s.drop i).take (7 - i)).all (fun x=>decide (128≤x.toNat)) then .inl () else .inr (0,0)) (fun i a=>a<128 ^ i)
  (fun rec i a hi ha ih=>by
   have hpow:(128:Nat) ^ i≤128 ^ 7:=Nat.pow_le_pow_right (by omega) hi
   have ha7:a<562949953421312:=Nat.lt_of_lt_of_le ha hpow
   rcases Nat.lt_or_ge i 7 with h7 | h7
   rotate_left
   ·have:i=7:=by omega
    subst this
    simp[ψj.l0,rvT]
   have c7:(i:Int)<7:=by omega
   rcases Nat.lt_or_ge i s.length with hs | hs
   rotate_left
   ·have c:¬(i:Int)<(s.length:Int):=by omega
    have e:s.drop i=[]:=by rw[List.drop_eq_nil_iff];exact hs
    have e7:7 - i=(6 - i)+1:=by omega
    simp only[ψj.l0,c7,c,dT,dF,cT,cF,e,e7,rvT]
    simp
   have cs:(i:Int)<(s.length:Int):=by omega
   have hx:=s[i].toNat_lt
   have e1:w64 (bAt s (i:Int))=((s[i].toNat:Nat):Int):=by rw[φ4S s i hs];exact φ3M (by omega)
   have e2:w64 (7 * (i:Int))=((7 * i:Nat):Int):=by rw[φE (by omega) (by omega)];omega
   have e3:(0:Int)≤((7 * i:Nat):Int):=by omega
   have e4:Int.tmod ((s[i].toNat:Nat):Int) 128=((s[i].toNat % 128:Nat):Int):=rfl
   have e5:((s[i].toNat % 128:Nat):Int) * 2 ^ (min ((7 * i:Nat):Int).toNat 64)=((s[i].toNat % 128 * 128 ^ i:Nat):Int):=by
    rw[tN,Nat.min_eq_left (by omega),show (2:Int) ^ (7 * i)=((128 ^ i:Nat):Int) by
     rw[show (128:Nat)=2 ^ 7 from rfl,←Nat.pow_mul,Int.natCast_pow];rfl]
    simp
   have hb6:(128:Nat) ^ i≤128 ^ 6:=Nat.pow_le_pow_right (by omega) (by omega)
   have hb6:(128:Nat) ^ i≤4398046511104:=hb6
   have hm:s[i].toNat % 128 * 128 ^ i≤127 * 128 ^ i:=Nat.mul_le_mul_right _ (by omega)
   have e6:w64 ((s[i].toNat % 128 * 128 ^ i:Nat):Int)=((s[i].toNat % 128 * 128 ^ i:Nat):Int):=φ3M (by omega)
   have e7:w64 ((a:Int)+((s[i].toNat % 128 * 128 ^ i:Nat):Int))=((a+s[i].toNat % 128 * 128 ^ i:Nat):Int):=by rw[φE (by omega) (by omega)];omega
   have e8:w64 ((i:Int)+1)=((i+1:Nat):Int):=φJ (by omega)
   have e9:7 - i=(6 - i)+1:=by omega
   have e10:7 - (i+1)=6 - i:=by omega
   rw[dG hs,e9]
   by_cases cb:s[i].toNat<128
   ·have cb2:¬((s[i].toNat:Nat):Int)≥128:=by omega
    by_cases cz:s[i].toNat=0
    ·have cz2:(((s[i].toNat:Nat):Int)==0)=true:=by rw[cz];rfl
     by_cases ci:i=0
     ·subst ci
      have hi0:¬((0:Nat):Int) > 0:=by omega
      simp only[ψj.l0,c7,cs,dT,cT,φD,hs,e1,e2,e3,e4,e5,e6,e7,e8,cb2,dF,cF,cz2,hi0,bS,φX]
      unfold rvT
      rw[if_pos cb,if_neg (by simp)]
      simp[cz]
     ·have hi0:(i:Int) > 0:=by omega
      have hd:decide (i=0)=false:=decide_eq_false ci
      simp only[ψj.l0,c7,cs,dT,cT,φD,hs,e1,e2,e3,e4,e5,e6,e7,e8,cb2,dF,cF,cz2,hi0,bS,φd,hd]
      unfold rvT
      rw[if_pos cb,if_pos ⟨cz,rfl⟩]
      simp only[List.take_succ_cons]
      have hne:decide (128≤s[i].toNat)=false:=decide_eq_false (by omega)
      rw[List.all_cons,hne];rfl
    ·have cz2:(((s[i].toNat:Nat):Int)==0)=false:=by simp;omega
     simp only[ψj.l0,c7,cs,dT,cT,φD,hs,e1,e2,e3,e4,e5,e6,e7,e8,cb2,dF,cF,cz2,bS,φX]
     unfold rvT
     rw[if_pos cb,if_neg (fun k=>cz k.1)]
     have e11:s[i].toNat % 128=s[i].toNat:=by omega
     simp only[e11]
     rw[Nat.mul_comm (128 ^ i)]
   ·have cb2:((s[i].toNat:Nat):Int)≥128:=by omega
    have hlt:a+s[i].toNat % 128 * 128 ^ i<128 ^ (i+1):=by rw[Nat.pow_succ];omega
    have ih:=ih (a+s[i].toNat % 128 * 128 ^ i) h7 hlt
    rw[e10] at ih
    simp only[ψj.l0,c7,cs,dT,cT,φD,hs,e1,e2,e3,e4,e5,e6,e7,e8,cb2,ih]
    rw[rvT,if_neg cb,show decide (i+1=0)=false from decide_eq_false (by omega)]
    cases hr:rvT (6 - i) false (s.drop (i+1)) with
    | none=>
     simp only[Option.map_none,List.take_succ_cons]
     have hge:decide (128≤s[i].toNat)=true:=decide_eq_true (by omega)
     rw[List.all_cons,hge,tA]
    | some p=>
     obtain ⟨n,k⟩:=p
     simp only[Option.map_some]
     congr 3
     ·rw[Nat.mul_add,Nat.pow_succ,Nat.mul_comm (128 ^ i) (s[i].toNat % 128)]
      have:128 ^ i * (128 * n)=128 ^ i * 128 * n:=by rw[Nat.mul_assoc]
      omega
     ·omega)
  (by omega) 0 0 (Nat.zero_le _) (by simp)
 have key:lp ψj.l0 (s,0,0)=_:=key
 unfold ψj.f φi
 rw[key,bS]
 simp only[Nat.sub_zero,List.drop_zero,dT]
 cases hr:rvT 7 true s with
 | none=>
  simp only
  cases (s.take 7).all (fun x=>decide (128≤x.toNat))<;>rfl
 | some p=>
  obtain ⟨n,k⟩:=p
  simp
def fixR (l:List UInt8):Nat:=l.foldl (fun n x=>n * 256+x.toNat) 0
theorem φ8F (l:List UInt8) (x:UInt8):fixR (l++[x])=fixR l * 256+x.toNat:=by
 unfold fixR;rw[List.foldl_append];rfl
theorem φ9o (l:List UInt8):fixR l<256 ^ l.length:=by
 induction l using φ5W with
 | h0=>simp[fixR]
 | hs l x ih=>
  have:=x.toNat_lt
  rw[φ8F,lA,List.length_singleton,Nat.pow_succ];omega
theorem φKz (l:List UInt8):fixL (fixR l) l.length=l:=by
 induction l using φ5W with
 | h0=>rfl
 | hs l x ih=>
  have hx:=x.toNat_lt
  rw[φ8F,lA,List.length_singleton,φ8K,show (fixR l * 256+x.toNat) / 256=fixR l by omega,ih]
  have:UInt8.ofNat (fixR l * 256+x.toNat)=x:=by
   have e:=UInt8.ofNat_mod_size (x:=fixR l * 256+x.toNat)
   have e2:(fixR l * 256+x.toNat) % 2 ^ 8=x.toNat:=by omega
   rw[e2] at e
   rw[←e];simp
  rw[this]
theorem φCC:∀(k n:Nat),n<256 ^ k→fixR (fixL n k)=n
 | 0,n,h=>by simp at h;subst h;rfl
 | k+1,n,h=>by
  rw[φ8K,φ8F,φCC k (n / 256) (by rw[Nat.div_lt_iff_lt_mul (by omega)];rw[Nat.pow_succ] at h;exact h)]
  have:(UInt8.ofNat n).toNat=n % 256:=by simp
  rw[this];omega
def φ3b (s:List UInt8):Int×Bool:=if s.length<4 then (0,false) else (((fixR (s.take 4):Nat):Int),true)
theorem φG8 (s:List UInt8) (n:Nat) (h:n<s.length):fixR (s.take (n+1))=fixR (s.take n) * 256+s[n].toNat:=by
 rw[List.take_succ_eq_append_getElem h,φ8F]
theorem φCW (s:List UInt8) (hl:s.length<2 ^ 62):ψ2l.f s 4=some (φ3b s):=by
 unfold ψ2l.f φ3b
 have h0:decide ((1:Int)≤4∧(4:Int)≤7)=true:=by decide
 simp only[φ1r,bS,h0,nZ,cF]
 by_cases c:s.length<4
 ·have c1:(s.length:Int)<4:=by omega
  simp[c,c1]
 have c1:¬(s.length:Int)<4:=by omega
 have key:=φe (step:=ψ2l.l0) (fun n (_:Unit)=>(s,4,((fixR (s.take n):Nat):Int),(n:Int))) 4 (fun _ _=>((fixR (s.take 4):Nat):Int)) (fun _ _=>True)
  (fun rec n a hn _ ih=>by
   rcases Nat.lt_or_ge n 4 with h | h
   ·have h4:(n:Int)<4:=by omega
    have hs:n<s.length:=by omega
    have hx:=s[n].toNat_lt
    have hlt:fixR (s.take n)<256 ^ 3:=Nat.lt_of_lt_of_le (φ9o _) (Nat.pow_le_pow_right (by omega) (by rw[lT];omega))
    have hlt:fixR (s.take n)<16777216:=hlt
    have e1:w64 (((fixR (s.take n):Nat):Int) * 256)=((fixR (s.take n) * 256:Nat):Int):=by rw[φE (by omega) (by omega)];omega
    have e2:w64 (bAt s (n:Int))=((s[n].toNat:Nat):Int):=by rw[φ4S s n hs];exact φ3M (by omega)
    have e3:w64 (((fixR (s.take n) * 256:Nat):Int)+((s[n].toNat:Nat):Int))=((fixR (s.take (n+1)):Nat):Int):=by
     rw[φG8 s n hs,φE (by omega) (by omega)];omega
    simp only[ψ2l.l0,h4,dT,cT,φD,hs,e1,e2,e3,φJ (show n+1<9223372036854775808 by omega),ih () h trivial]
   ·have:n=4:=by omega
    subst this
    simp[ψ2l.l0])
  (by omega) 0 () (Nat.zero_le _) trivial
 have key:lp ψ2l.l0 (s,4,0,0)=_:=key
 simp only[c,c1,dF,cF,key,bS,if_false]
theorem or64 (a b:Nat) (ha:a<2 ^ 32) (hb:b<256):bits (fun _ a b=>a ||| b) .i64 ((a * 256:Nat):Int) (b:Int)=((a * 256+b:Nat):Int):=by
 have e:(BitVec.ofInt 64 ((a * 256:Nat):Int) ||| BitVec.ofInt 64 (b:Int)).toNat=a * 256+b:=by
  rw[BitVec.ofInt_natCast,BitVec.ofInt_natCast,BitVec.toNat_or,BitVec.toNat_ofNat,BitVec.toNat_ofNat,Nat.mod_eq_of_lt (by omega),Nat.mod_eq_of_lt (by omega)]
  have:=Nat.shiftLeft_add_eq_or_of_lt (show b<2 ^ 8 from hb) a
  rw[Nat.shiftLeft_eq] at this
  exact this.symm
 show IntKind.wrap .i64 ((BitVec.ofInt 64 ((a * 256:Nat):Int) ||| BitVec.ofInt 64 (b:Int)).toNat:Int)=_
 rw[e]
 exact φAd (by omega)
theorem φ6O (s:List UInt8) (hl:s.length<2 ^ 62):ψf.f s 4=some (φ3b s):=by
 unfold ψf.f φ3b
 have h0:decide ((1:Int)≤4∧(4:Int)≤7)=true:=by decide
 simp only[φ25,bS,h0,nZ,cF]
 by_cases c:s.length<4
 ·have c1:(s.length:Int)<4:=by omega
  simp[c,c1]
 have c1:¬(s.length:Int)<4:=by omega
 have key:=φe (step:=ψf.l0) (fun n (_:Unit)=>(s,((fixR (s.take n):Nat):Int),4,(n:Int))) 4 (fun _ _=>((fixR (s.take 4):Nat):Int)) (fun _ _=>True)
  (fun rec n a hn _ ih=>by
   rcases Nat.lt_or_ge n 4 with h | h
   ·have h4:(n:Int)<4:=by omega
    have hs:n<s.length:=by omega
    have hx:=s[n].toNat_lt
    have hlt:fixR (s.take n)<256 ^ 3:=Nat.lt_of_lt_of_le (φ9o _) (Nat.pow_le_pow_right (by omega) (by rw[lT];omega))
    have hlt:fixR (s.take n)<16777216:=hlt
    have e1:w64 (((fixR (s.take n):Nat):Int) * 2 ^ (min 8 64))=((fixR (s.take n) * 256:Nat):Int):=by
     show w64 (((fixR (s.take n):Nat):Int) * 256)=_
     rw[φE (by omega) (by omega)];omega
    have e2:w64 (bAt s (n:Int))=((s[n].toNat:Nat):Int):=by rw[φ4S s n hs];exact φ3M (by omega)
    have e3:=or64 (fixR (s.take n)) s[n].toNat (by omega) (by omega)
    rw[←φG8 s n hs] at e3
    simp only[ψf.l0,h4,dT,cT,φD,hs,e1,e2,e3,φJ (show n+1<9223372036854775808 by omega),ih () h trivial]
   ·have:n=4:=by omega
    subst this
    simp[ψf.l0])
  (by omega) 0 () (Nat.zero_le _) trivial
 have key:lp ψf.l0 (s,0,4,0)=_:=key
 simp only[c,c1,dF,cF,key,bS,if_false]
def φY (s:List UInt8):List UInt8×Int:=
 if s.length<4 then ([],0) else
 match rvT 7 true (s.drop 4) with
 | none=>([],0)
 | some (n,k)=>if 200<n∨s.length<4+k+n then ([],0) else
  if frame ((s.take (4+k+n)).drop (4+k))=s.take (4+k+n) then ((s.take (4+k+n)).drop (4+k),((4+k+n:Nat):Int)) else ([],0)
theorem φDr (s:List UInt8) (hl:s.length<1000000000000):ψ1A.f s=some (φY s):=by
 unfold ψ1A.f φY
 by_cases c:s.length<4
 ·have c1:(s.length:Int)<4:=by omega
  simp[c,c1]
 have c1:¬(s.length:Int)<4:=by omega
 have c2:(decide (0≤(4:Int)) && decide ((4:Int)≤(s.length:Int)))=true:=by simp;omega
 have hd:(s.drop 4).length<2 ^ 62:=by rw[lD];omega
 simp only[c,c1,dF,cF,c2,cT,φ8D (s.drop 4) hd,bS,if_false]
 unfold φi
 cases hr:rvT 7 true (s.drop 4) with
 | none=>simp
 | some p=>
  obtain ⟨n,k⟩:=p
  obtain ⟨q1,q2,q3,q4,q5⟩:=φ4W 7 true (s.drop 4) n k hr
  have q5:n<562949953421312:=q5
  rw[lD] at q3
  have d1:(((k:Nat):Int)==0)=false:=by simp;omega
  simp only[d1,cF]
  by_cases c3:200<n
  ·have c4:((n:Nat):Int) > 200:=by omega
   simp[c3,c4]
  have c4:¬((n:Nat):Int) > 200:=by omega
  have e1:w64 (w64 ((s.length:Int) - 4) - (k:Int))=(s.length:Int) - 4 - k:=by rw[φE (n:=(s.length:Int) - 4) (by omega) (by omega),φE (by omega) (by omega)]
  have e2:w64 (4+(k:Int))=((4+k:Nat):Int):=by rw[φE (by omega) (by omega)];omega
  have e3:w64 (((4+k:Nat):Int)+(n:Int))=((4+k+n:Nat):Int):=by rw[φE (by omega) (by omega)];omega
  by_cases c5:s.length<4+k+n
  ·have c6:((n:Nat):Int) > (s.length:Int) - 4 - k:=by omega
   simp[c3,c4,c5,c6,e1]
  have c6:¬((n:Nat):Int) > (s.length:Int) - 4 - k:=by omega
  have c7:(decide (0≤((4+k+n:Nat):Int)) && decide (((4+k+n:Nat):Int)≤(s.length:Int)))=true:=by simp;omega
  have c8:(decide (0≤((4+k:Nat):Int)) && decide (((4+k:Nat):Int)≤((4+k+n:Nat):Int)))=true:=by simp;omega
  have hl2:((s.take (4+k+n)).drop (4+k)).length<2 ^ 62:=by rw[lD,lT];omega
  simp only[c3,c4,c5,c6,e1,e2,e3,c7,c8,dF,cF,cT,tN,φ8M _ hl2,bS,or_self,if_false]
  by_cases c9:frame ((s.take (4+k+n)).drop (4+k))=s.take (4+k+n)
  ·have d9:(frame ((s.take (4+k+n)).drop (4+k))==s.take (4+k+n))=true:=by simpa using c9
   simp only[d9,nZ,cF]
   rw[if_pos c9]
  ·have d9:(frame ((s.take (4+k+n)).drop (4+k))==s.take (4+k+n))=false:=by simpa using c9
   simp only[d9,nF,cT]
   rw[if_neg c9]
theorem φ7p (s:List UInt8) (hl:s.length<1000000000000):ψ38.f s=some (φY s):=by
 unfold ψ38.f φY
 by_cases c:s.length<5
 ·have c1:(s.length:Int)<5:=by omega
  by_cases c4:s.length<4
  ·simp[c4,c1]
  ·have e:s.drop 4=[]:=by rw[List.drop_eq_nil_iff];omega
   have e2:s.length=4:=by omega
   rcases Nat.lt_or_ge s.length 4 with h | h
   ·exact absurd h c4
   ·have hn:rvT 7 true (s.drop 4)=none:=by
     cases hr:rvT 7 true (s.drop 4) with
     | none=>rfl
     | some p=>
      obtain ⟨n,k⟩:=p
      have q:=φ4W 7 true (s.drop 4) n k hr
      rw[lD] at q
      omega
    simp[c4,c1,hn]
 have c4:¬s.length<4:=by omega
 have c1:¬(s.length:Int)<5:=by omega
 have c2:(decide (0≤(4:Int)) && decide ((4:Int)≤(s.length:Int)))=true:=by simp;omega
 have hd:(s.drop 4).length<2 ^ 62:=by rw[lD];omega
 simp only[c4,c1,dF,cF,c2,cT,φ2M (s.drop 4) hd,bS,if_false]
 unfold φi
 cases hr:rvT 7 true (s.drop 4) with
 | none=>simp
 | some p=>
  obtain ⟨n,k⟩:=p
  obtain ⟨q1,q2,q3,q4,q5⟩:=φ4W 7 true (s.drop 4) n k hr
  have q5:n<562949953421312:=q5
  rw[lD] at q3
  have d1:(((k:Nat):Int)==0)=false:=by simp;omega
  simp only[d1,cF]
  by_cases c3:200<n
  ·have c4:((n:Nat):Int) > 200:=by omega
   simp[c3,c4]
  have c4:¬((n:Nat):Int) > 200:=by omega
  have e1:w64 (w64 ((s.length:Int) - 4) - (k:Int))=(s.length:Int) - 4 - k:=by rw[φE (n:=(s.length:Int) - 4) (by omega) (by omega),φE (by omega) (by omega)]
  have e2:w64 (4+(k:Int))=((4+k:Nat):Int):=by rw[φE (by omega) (by omega)];omega
  have e3:w64 (((4+k:Nat):Int)+(n:Int))=((4+k+n:Nat):Int):=by rw[φE (by omega) (by omega)];omega
  by_cases c5:s.length<4+k+n
  ·have c6:((n:Nat):Int) > (s.length:Int) - 4 - k:=by omega
   simp[c3,c4,c5,c6,e1]
  have c6:¬((n:Nat):Int) > (s.length:Int) - 4 - k:=by omega
  have c7:(decide (0≤((4+k+n:Nat):Int)) && decide (((4+k+n:Nat):Int)≤(s.length:Int)))=true:=by simp;omega
  have c8:(decide (0≤((4+k:Nat):Int)) && decide (((4+k:Nat):Int)≤((4+k+n:Nat):Int)))=true:=by simp;omega
  have hl2:((s.take (4+k+n)).drop (4+k)).length<2 ^ 62:=by rw[lD,lT];omega
  simp only[c3,c4,c5,c6,e1,e2,e3,c7,c8,dF,cF,cT,tN,φ7E _ hl2,bS,or_self,if_false]
  by_cases c9:frame ((s.take (4+k+n)).drop (4+k))=s.take (4+k+n)
  ·have d9:(s.take (4+k+n)==frame ((s.take (4+k+n)).drop (4+k)))=true:=by simpa using c9.symm
   simp only[d9,nZ,cF]
   rw[if_pos c9]
  ·have d9:(s.take (4+k+n)==frame ((s.take (4+k+n)).drop (4+k)))=false:=by simpa using fun e=>c9 e.symm
   simp only[d9,nF,cT]
   rw[if_neg c9]
abbrev φGB:=List UInt8×Bool
def φ1V (n:Int):Prop:=0≤n∧n≤562949953421311
theorem φMy {n:Int} (h:φ1V n):∃m:Nat,n=(m:Int)∧m<562949953421312∧varT n=varN m:=by
 unfold φ1V at h
 obtain ⟨m,rfl⟩:∃m:Nat,n=(m:Int):=⟨n.toNat,by omega⟩
 exact ⟨m,rfl,by omega,φ4q m (by omega)⟩
theorem φ3z {n:Int} (h:φ1V n) (r:List UInt8):φi (varT n++r)=(n,((varT n).length:Int))∧1≤(varT n).length:=by
 obtain ⟨m,rfl,hm,e⟩:=φMy h
 rw[e]
 have hb:=φ7x 7 true m r hm (by simp) (by omega)
 unfold φi
 rw[hb]
 exact ⟨rfl,(φ7l 6 m hm).1⟩
theorem φ4V {n:Int} (h:φ1V n) (r:List UInt8) (hl:(varT n++r).length<2 ^ 62):ψ1d.f (varT n++r,false)=some (n,(r,false)):=by
 obtain ⟨h1,h2⟩:=φ3z h r
 have d:((((varT n).length:Nat):Int)==0)=false:=by simp;intro e;rw[e] at h2;simp at h2
 have c:(decide (0≤(((varT n).length:Nat):Int)) && decide ((((varT n).length:Nat):Int)≤((varT n++r).length:Int)))=true:=by
  rw[lA];simp;omega
 unfold ψ1d.f
 simp only[φ8D _ hl,h1,bS,cF,d,c,cT,tN,List.drop_left]
theorem φ8P (s:List UInt8) (hl:s.length<2 ^ 62):(∃n r,ψ1d.f (s,false)=some (n,(r,false))∧s=varT n++r∧φ1V n)∨ψ1d.f (s,false)=some (0,(s,true)):=by
 rcases φ9N s with h | ⟨n,k,_,h,h1,h2,h3,h4,h5⟩
 ·right
  unfold ψ1d.f
  simp only[φ8D s hl,h,bS,cF,show ((0:Int)==0)=true from rfl,cT]
 ·left
  have hn:φ1V (n:Int):=⟨by omega,by omega⟩
  have e:s=varT (n:Int)++s.drop k:=by rw[φ4q n (by omega),←h4,List.take_append_drop]
  have hb:=φ4V hn (s.drop k) (by rw[←e];exact hl)
  rw[←e] at hb
  exact ⟨(n:Int),s.drop k,hb,e,hn⟩
theorem φA1 (s:List UInt8) (hl:s.length<2 ^ 62):ψ1d.f (s,true)=some (0,(s,true)):=by
 unfold ψ1d.f
 simp only[φ8D s hl,bS,cT]
theorem φ7C (t r:List UInt8):ψ1c.f (t++r,false) (t.length:Int)=some (t,(r,false)):=by
 unfold ψ1c.f
 have c1:¬((t.length:Nat):Int) > ((t++r).length:Int):=by rw[lA];omega
 have c2:(decide (0≤((t.length:Nat):Int)) && decide (((t.length:Nat):Int)≤((t++r).length:Int)))=true:=by rw[lA];simp;omega
 simp only[cF,c1,dF,c2,cT,tN,List.take_left,List.drop_left]
theorem φDL (s:List UInt8) (n:Int) (hn:0≤n):(∃t r,ψ1c.f (s,false) n=some (t,(r,false))∧s=t++r∧(t.length:Int)=n)∨ψ1c.f (s,false) n=some ([],(s,true)):=by
 by_cases c:n > (s.length:Int)
 ·right
  unfold ψ1c.f
  simp only[cF,c,dT,cT]
 ·left
  have hl:((s.take n.toNat).length:Int)=n:=by rw[lT];omega
  have:=φ7C (s.take n.toNat) (s.drop n.toNat)
  rw[List.take_append_drop,hl] at this
  exact ⟨_,_,this,(List.take_append_drop _ _).symm,hl⟩
theorem φ8C (s:List UInt8) (n:Int):ψ1c.f (s,true) n=some ([],(s,true)):=by
 unfold ψ1c.f
 simp only[cT]
theorem φBj (t r:List UInt8) (ht:φ1V (t.length:Int)) (hl:(varT (t.length:Int)++(t++r)).length<2 ^ 62):ψ1e.f (varT (t.length:Int)++(t++r),false)=some (t,(r,false)):=by
 unfold ψ1e.f
 simp only[φ4V ht (t++r) hl,bS,φ7C]
theorem φ9E (s:List UInt8) (hl:s.length<2 ^ 62):(∃t r,ψ1e.f (s,false)=some (t,(r,false))∧s=varT (t.length:Int)++(t++r)∧φ1V (t.length:Int))∨∃r,ψ1e.f (s,false)=some ([],(r,true))∧r.length≤s.length:=by
 unfold ψ1e.f
 rcases φ8P s hl with ⟨n,r,e,es,hn⟩ | e
 ·rw[e,bS]
  rcases φDL r n hn.1 with ⟨t,r2,e2,es2,ht⟩ | e2
  ·left
   refine ⟨t,r2,by simp only[e2,bS],?_,by rw[ht];exact hn⟩
   rw[ht,←es2];exact es
  ·right
   refine ⟨r,by simp only[e2,bS],?_⟩
   rw[es,lA];omega
 ·right
  refine ⟨s,?_,Nat.le_refl _⟩
  rw[e,bS]
  simp only[φ8C,bS]
theorem φA8 (s:List UInt8) (hl:s.length<2 ^ 62):ψ1e.f (s,true)=some ([],(s,true)):=by
 unfold ψ1e.f
 simp only[φA1 s hl,bS,φ8C]
theorem φ7R (t r:List UInt8) (ht:φ1V (t.length:Int)) (hl:(varT (t.length:Int)++(t++r)).length<1000000000000000):ψ3s.f (varT (t.length:Int)++(t++r))=some (t,r,true):=by
 obtain ⟨h1,h2⟩:=φ3z ht (t++r)
 have h3:=φk (t.length:Int)
 rw[lA,lA] at hl
 unfold ψ3s.f
 rw[φ2M _ (by rw[lA,lA];omega),h1,bS]
 generalize varT (t.length:Int)=v at *
 have d:(((v.length:Nat):Int)==0)=false:=by simp;intro e;rw[e] at h2;simp at h2
 have e1:w64 (((v++(t++r)).length:Int) - ((v.length:Nat):Int))=((t.length+r.length:Nat):Int):=by rw[lA,lA,φE (by omega) (by omega)];omega
 have c1:¬((t.length:Nat):Int) > ((t.length+r.length:Nat):Int):=by omega
 have e2:w64 (((v.length:Nat):Int)+((t.length:Nat):Int))=(((v++t).length:Nat):Int):=by rw[lA,φE (by omega) (by omega)];omega
 have c2:(decide (0≤(((v++t).length:Nat):Int)) && decide ((((v++t).length:Nat):Int)≤((v++(t++r)).length:Int)))=true:=by simp;omega
 have c3:(decide (0≤((v.length:Nat):Int)) && decide (((v.length:Nat):Int)≤(((v++t).length:Nat):Int)))=true:=by simp;omega
 have e3:(v++(t++r)).take (v++t).length=v++t:=by rw[←aA,List.take_left]
 have e4:(v++(t++r)).drop (v++t).length=r:=by rw[←aA,List.drop_left]
 simp only[d,cF,e1,c1,dF,e2,c2,c3,cT,tN,e3,e4,List.drop_left]
theorem φ7w (s:List UInt8) (hl:s.length<1000000000000000):∃t r b,ψ3s.f s=some (t,r,b)∧t.length≤s.length∧r.length≤s.length:=by
 rcases φ9N s with h | ⟨n,k,_,h,h1,h2,h3,h4,h5⟩
 ·refine ⟨[],[],false,?_,by simp,by simp⟩
  unfold ψ3s.f
  simp only[φ2M s (by omega),h,bS,show ((0:Int)==0)=true from rfl,cT]
 ·by_cases c:s.length<k+n
  ·refine ⟨[],[],false,?_,by simp,by simp⟩
   have d:(((k:Nat):Int)==0)=false:=by simp;omega
   have e1:w64 ((s.length:Int) - (k:Int))=(s.length:Int) - k:=φE (by omega) (by omega)
   have c1:((n:Nat):Int) > (s.length:Int) - k:=by omega
   unfold ψ3s.f
   simp only[φ2M s (by omega),h,bS,d,cF,e1,c1,dT,cT]
  ·have hn:φ1V (n:Int):=⟨by omega,by omega⟩
   have ht:(((s.drop k).take n).length:Int)=n:=by rw[lT,lD];omega
   have e:s=varT (((s.drop k).take n).length:Int)++((s.drop k).take n++(s.drop k).drop n):=by
    rw[ht,φ4q n (by omega),←h4,List.take_append_drop,List.take_append_drop]
   have hb:=φ7R ((s.drop k).take n) ((s.drop k).drop n) (by rw[ht];exact hn) (by rw[←e];exact hl)
   rw[←e] at hb
   exact ⟨_,_,_,hb,by rw[lT,lD];omega,by rw[lD,lD];omega⟩
def φ2s (s:List UInt8) (r:RecT):Prop:=φc r=true∧φ7 r=s
theorem φBW {r:RecT} (h:φc r=true):φ1V r.1∧φ1V r.2.1∧(r.1=1∨r.1=4→r.2.2.1.length≤8∧r.2.2.2.1.length≤24∧r.2.2.2.2.1=0∧r.2.2.2.2.2=0) ∧
  (r.1=2→r.2.2.1.length≤8∧r.2.2.2.1=[]∧r.2.2.2.2.1=0∧r.2.2.2.2.2=0) ∧
  (¬(r.1=1∨r.1=4)→¬r.1=2→r.2.2.1=[]∧r.2.2.2.1=[]∧φ1V r.2.2.2.2.1∧0≤r.2.2.2.2.2∧r.2.2.2.2.2≤4294967295):=by
 obtain ⟨k,b,ky,v,c,s⟩:=r
 unfold φc φ1T at h
 simp only[bA,decide_eq_true_eq] at h
 obtain ⟨⟨h1,_⟩,h⟩:=h
 unfold φ1V
 simp only
 by_cases c1:k=1∨k=4
 ·rw[if_pos c1] at h
  simp only[bA,decide_eq_true_eq,beq_iff_eq] at h
  exact ⟨by omega,by omega,fun _=>by omega,fun e=>by omega,fun e=>absurd c1 e⟩
 rw[if_neg c1] at h
 by_cases c2:k=2
 ·rw[if_pos c2] at h
  simp only[bA,decide_eq_true_eq,beq_iff_eq] at h
  exact ⟨by omega,by omega,fun e=>absurd e c1,fun _=>⟨by omega,h.2.1,h.2.2⟩,fun _ e=>absurd c2 e⟩
 rw[if_neg c2] at h
 by_cases c3:k=3
 ·rw[if_pos c3] at h
  simp only[bA,decide_eq_true_eq,beq_iff_eq] at h
  exact ⟨by omega,by omega,fun e=>absurd e c1,fun e=>absurd e c2,fun _ _=>⟨h.1,h.2.1,by omega,by omega,by omega⟩⟩
 rw[if_neg c3] at h
 by_cases c5:k=5
 ·rw[if_pos c5] at h
  simp only[bA,decide_eq_true_eq,beq_iff_eq] at h
  exact ⟨by omega,by omega,fun e=>absurd e c1,fun e=>absurd e c2,fun _ _=>⟨h.1,h.2.1,by omega,by omega,by omega⟩⟩
 ·rw[if_neg c5] at h;simp at h
theorem φ6h {n:Int} (h:0≤n∧n≤4294967295):(fix4 n).length=4:=by
 unfold fix4;rw[if_pos h,φ9l]
theorem φG7 {n:Int} (h:0≤n∧n≤4294967295) (r:List UInt8):φ3b (fix4 n++r)=(n,true):=by
 have hl:=φ6h h
 unfold φ3b
 rw[if_neg (by rw[lA];omega)]
 have e:(fix4 n++r).take 4=fix4 n:=by rw[←hl,List.take_left]
 rw[e]
 unfold fix4
 rw[if_pos h,φCC 4 n.toNat (by show _<4294967296;omega)]
 congr 1;omega
theorem φIJ (t:List UInt8) (h:t.length=4):fix4 (φ3b t).1=t∧0≤(φ3b t).1∧(φ3b t).1≤4294967295:=by
 have hlt:=φ9o t
 rw[h] at hlt
 have hlt:fixR t<4294967296:=hlt
 unfold φ3b
 rw[if_neg (by omega),show t.take 4=t by rw[←h,List.take_length]]
 refine ⟨?_,by simp only;omega,by simp only;omega⟩
 unfold fix4
 rw[if_pos (by simp only;omega)]
 show fixL ((fixR t:Nat):Int).toNat 4=t
 rw[tN,←h,φKz]
theorem φ6X (k:Int) {α β γ:Type} (x:α) (y:β) (z:γ):(bif k==1 then some (x,y,z,k,k==1) else some (x,y,z,k,k==4))=some (x,y,z,k,decide (k=1∨k=4)):=by
 by_cases c1:k=1
 ·subst c1;rfl
 ·have b1:(k==1)=false:=by simpa using c1
  rw[b1,cF]
  by_cases c4:k=4
  ·subst c4;rfl
  ·have b4:(k==4)=false:=by simpa using c4
   rw[b4,decide_eq_false (by omega)]
theorem φ8V (k:Int) {α β γ δ:Type} (x:α) (y:β) (z:γ) (u:δ):(bif k==1 then some (x,y,z,u,k,k==1) else some (x,y,z,u,k,k==4))=some (x,y,z,u,k,decide (k=1∨k=4)):=by
 by_cases c1:k=1
 ·subst c1;rfl
 ·have b1:(k==1)=false:=by simpa using c1
  rw[b1,cF]
  by_cases c4:k=4
  ·subst c4;rfl
  ·have b4:(k==4)=false:=by simpa using c4
   rw[b4,decide_eq_false (by omega)]
theorem app3 {a b c:List UInt8} {n:Nat} (h:(a++(b++c)).length≤n):(b++c).length≤n∧c.length≤n:=by simp only[lA] at h ⊢;omega
theorem app2 {a b:List UInt8} {n:Nat} (h:(a++b).length≤n):b.length≤n:=by simp only[lA] at h;omega
theorem lt15 {a:List UInt8} (h:a.length≤60):a.length<1000000000000000:=by omega
theorem lt62 {a:List UInt8} (h:a.length≤60):a.length<2 ^ 62:=by omega
def φ2r:RecT:=(0,0,[],[],0,0)
theorem φAI {s:List UInt8} {r:RecT} (h:φ2s s r):ψi.f s=some (r,true):=by
 obtain ⟨hok,rfl⟩:=h
 have hl:=φ39 r
 obtain ⟨i1,i2,i3,i4,i5⟩:=φBW hok
 have hok2:¬φc r=false:=by rw[hok];simp
 obtain ⟨k,b,ky,v,c,sm⟩:=r
 simp only at i1 i2 i3 i4 i5
 by_cases c1:k=1∨k=4
 ·obtain ⟨j1,j2,rfl,rfl⟩:=i3 c1
  have es:φ7 (k,b,ky,v,0,0)=varT k++(varT b++(varT (ky.length:Int)++(ky++(varT (v.length:Int)++(v++[]))))):=by
   unfold φ7;rw[if_neg hok2,if_pos c1];simp[aA]
  rw[es] at hl ⊢
  have x2:=φBj v [] ⟨by omega,by omega⟩ (lt62 (app3 (app3 hl).2).2)
  have x1:=φBj ky (varT (v.length:Int)++(v++[])) ⟨by omega,by omega⟩ (lt62 (app3 hl).2)
  have n2:=φ4V i2 (varT (ky.length:Int)++(ky++(varT (v.length:Int)++(v++[])))) (lt62 (app2 hl))
  have n1:=φ4V i1 (varT b++(varT (ky.length:Int)++(ky++(varT (v.length:Int)++(v++[]))))) (lt62 hl)
  have hcd:decide (k=1∨k=4)=true:=decide_eq_true c1
  unfold ψi.f
  simp only[n1,n2,bS,φ6X,hcd,cT,x1,x2,cF,φ6j,hok,nZ]
  rfl
 have hcd:decide (k=1∨k=4)=false:=decide_eq_false c1
 by_cases c2:k=2
 ·obtain ⟨j1,rfl,rfl,rfl⟩:=i4 c2
  have es:φ7 (k,b,ky,[],0,0)=varT k++(varT b++(varT (ky.length:Int)++(ky++[]))):=by
   unfold φ7;rw[if_neg hok2,if_neg c1,if_pos c2];simp[aA]
  rw[es] at hl ⊢
  have x1:=φBj ky [] ⟨by omega,by omega⟩ (lt62 (app3 hl).2)
  have n2:=φ4V i2 (varT (ky.length:Int)++(ky++[])) (lt62 (app2 hl))
  have n1:=φ4V i1 (varT b++(varT (ky.length:Int)++(ky++[]))) (lt62 hl)
  have b2:(k==2)=true:=by simpa using c2
  unfold ψi.f
  simp only[n1,n2,bS,φ6X,hcd,b2,cT,x1,cF,φ6j,hok,nZ]
  rfl
 ·obtain ⟨rfl,rfl,j3,j4⟩:=i5 c1 c2
  have l4:=φ6h j4
  have es:φ7 (k,b,[],[],c,sm)=varT k++(varT b++(varT c++(fix4 sm++[]))):=by
   unfold φ7;rw[if_neg hok2,if_neg c1,if_neg c2];simp[aA]
  rw[es] at hl ⊢
  have x1:=φ7C (fix4 sm) []
  rw[l4] at x1
  have x1:ψ1c.f (fix4 sm++[],false) 4=_:=x1
  have n3:=φ4V j3 (fix4 sm++[]) (lt62 (app3 hl).2)
  have n2:=φ4V i2 (varT c++(fix4 sm++[])) (lt62 (app2 hl))
  have n1:=φ4V i1 (varT b++(varT c++(fix4 sm++[]))) (lt62 hl)
  have b2:(k==2)=false:=by simpa using c2
  have f4:=φG7 j4 []
  rw[List.append_nil] at f4
  unfold ψi.f
  simp only[n1,n2,n3,bS,φ6X,hcd,b2,cT,x1,cF,φ6j,hok,nZ,φ6O (fix4 sm) (show (fix4 sm).length<2 ^ 62 by omega),f4]
  rfl
theorem φLG {s:List UInt8} {r:RecT} (h:φ2s s r):ψ2o.f s=some (r,true):=by
 obtain ⟨hok,rfl⟩:=h
 have hl:=φ39 r
 have hsh:=φ6H r
 obtain ⟨i1,i2,i3,i4,i5⟩:=φBW hok
 have hok2:¬φc r=false:=by rw[hok];simp
 obtain ⟨k,b,ky,v,c,sm⟩:=r
 simp only at i1 i2 i3 i4 i5
 have head:∀T:List UInt8,(varT k++(varT b++T)).length≤60→φ7 (k,b,ky,v,c,sm)=varT k++(varT b++T) →
   ∃a d:Nat,ψ2p.f (varT k++(varT b++T))=some (k,(a:Int))∧(decide (0≤(a:Int)) && decide ((a:Int)≤((varT k++(varT b++T)).length:Int)))=true∧(varT k++(varT b++T)).drop (a:Int).toNat=varT b++T ∧
    ψ2p.f (varT b++T)=some (b,(d:Int))∧((a:Int)==0)=false∧((d:Int)==0)=false∧(decide (0≤w64 ((a:Int)+(d:Int))) && decide (w64 ((a:Int)+(d:Int))≤((varT k++(varT b++T)).length:Int)))=true ∧
    (varT k++(varT b++T)).drop (w64 ((a:Int)+(d:Int))).toNat=T∧(varT k++(varT b++T)==[])=false:=by
  intro T hT _
  obtain ⟨p1,p2⟩:=φ3z i1 (varT b++T)
  obtain ⟨q1,q2⟩:=φ3z i2 T
  have hT2:=hT
  simp only[lA] at hT2
  have ew:w64 (((varT k).length:Int)+((varT b).length:Int))=(((varT k).length+(varT b).length:Nat):Int):=by rw[φE (by omega) (by omega)];omega
  refine ⟨(varT k).length,(varT b).length,?_,?_,?_,?_,?_,?_,?_,?_,?_⟩
  ·rw[φ2M _ (by omega),p1]
  ·simp only[lA];simp;omega
  ·rw[tN,List.drop_left]
  ·rw[φ2M _ (by simp only[lA];omega),q1]
  ·simp;intro e;rw[e] at p2;simp at p2
  ·simp;intro e;rw[e] at q2;simp at q2
  ·rw[ew];simp only[lA];simp;omega
  ·rw[ew,tN,←aA,←lA,List.drop_left]
  ·cases hv:varT k with
   | nil=>rw[hv] at p2;simp at p2
   | cons x l=>rfl
 by_cases c1:k=1∨k=4
 ·obtain ⟨j1,j2,rfl,rfl⟩:=i3 c1
  have hcd:decide (k=1∨k=4)=true:=decide_eq_true c1
  have es:φ7 (k,b,ky,v,0,0)=varT k++(varT b++(varT (ky.length:Int)++(ky++(varT (v.length:Int)++(v++[]))))):=by
   unfold φ7;rw[if_neg hok2,if_pos c1];simp[aA]
  rw[es] at hl hsh ⊢
  obtain ⟨a,d,e1,e2,e3,e4,e5,e6,e7,e8,e9⟩:=head _ hl es
  have x2:=φ7R v [] ⟨by omega,by omega⟩ (lt15 (app3 (app3 hl).2).2)
  have x1:=φ7R ky (varT (v.length:Int)++(v++[])) ⟨by omega,by omega⟩ (lt15 (app3 hl).2)
  unfold ψ2o.f
  simp only[e1,e2,e3,e4,e5,e6,e7,e8,e9,bS,φ8V,hcd,cT,x1,x2,cF,hsh,beq_self_eq_true,nZ]
 have hcd:decide (k=1∨k=4)=false:=decide_eq_false c1
 by_cases c2:k=2
 ·obtain ⟨j1,rfl,rfl,rfl⟩:=i4 c2
  have b2:(k==2)=true:=by simpa using c2
  have es:φ7 (k,b,ky,[],0,0)=varT k++(varT b++(varT (ky.length:Int)++(ky++[]))):=by
   unfold φ7;rw[if_neg hok2,if_neg c1,if_pos c2];simp[aA]
  rw[es] at hl hsh ⊢
  obtain ⟨a,d,e1,e2,e3,e4,e5,e6,e7,e8,e9⟩:=head _ hl es
  have x1:=φ7R ky [] ⟨by omega,by omega⟩ (lt15 (app3 hl).2)
  unfold ψ2o.f
  simp only[e1,e2,e3,e4,e5,e6,e7,e8,e9,bS,φ8V,hcd,b2,cT,x1,cF,hsh,beq_self_eq_true,nZ]
 ·obtain ⟨rfl,rfl,j3,j4⟩:=i5 c1 c2
  have b2:(k==2)=false:=by simpa using c2
  have l4:=φ6h j4
  have es:φ7 (k,b,[],[],c,sm)=varT k++(varT b++(varT c++(fix4 sm++[]))):=by
   unfold φ7;rw[if_neg hok2,if_neg c1,if_neg c2];simp[aA]
  rw[es] at hl hsh ⊢
  obtain ⟨a,d,e1,e2,e3,e4,e5,e6,e7,e8,e9⟩:=head _ hl es
  obtain ⟨p1,p2⟩:=φ3z j3 (fix4 sm++[])
  have hl3:=(app3 hl).2
  have r1:ψ2p.f (varT c++(fix4 sm++[]))=some (c,((varT c).length:Int)):=by rw[φ2M _ (lt62 hl3),p1]
  have r2:(decide (0≤((varT c).length:Int)) && decide (((varT c).length:Int)≤((varT c++(fix4 sm++[])).length:Int)))=true:=by simp only[lA];simp;omega
  have r3:(varT c++(fix4 sm++[])).drop (((varT c).length:Int)).toNat=fix4 sm++[]:=by rw[tN,List.drop_left]
  have r4:ψ2l.f (fix4 sm++[]) 4=some (sm,true):=by rw[φCW _ (lt62 (app2 hl3)),φG7 j4]
  unfold ψ2o.f
  simp only[e1,e2,e3,e4,e5,e6,e7,e8,e9,bS,φ8V,hcd,b2,cT,r1,r2,r3,r4,cF,hsh,beq_self_eq_true,nZ]
noncomputable def φ81 (k b:Int) (st:φGB):Option (RecT×Bool):=
 ((bif k==1 then some ((0,0,[],[],0,0),st,(k,b,[],[],0,0),k,k==1)
 else some ((0,0,[],[],0,0),st,(k,b,[],[],0,0),k,k==4):Option ((Int×Int×List UInt8×List UInt8×Int×Int)×(List UInt8×Bool)×(Int×Int×List UInt8×List UInt8×Int×Int)×Int×Bool)).bind (fun (x2,x4,x5,x16,x27)=>
 bif x27 then
 (ψ1e.f x4).bind fun (t3_0,t3_1)=>
 (ψ1e.f t3_1).bind fun (t4_0,t4_1)=>
 some (x2,t4_1,(x5.1,x5.2.1,t3_0,t4_0,x5.2.2.2.2))
 else
 (bif x16==2 then
 (ψ1e.f x4).bind fun (t5_0,t5_1)=>
 some (x2,t5_1,(x5.1,x5.2.1,t5_0,x5.2.2.2))
 else
 (ψ1d.f x4).bind fun (t6_0,t6_1)=>
 (ψ1c.f t6_1 4).bind fun (t7_0,t7_1)=>
 (ψf.f t7_0 4).bind fun (t8_0,t8_1)=>
 some (x2,t7_1,(x5.1,x5.2.1,x5.2.2.1,x5.2.2.2.1,t6_0,t8_0)):Option ((Int×Int×List UInt8×List UInt8×Int×Int)×(List UInt8×Bool)×Int×Int×List UInt8×List UInt8×Int×Int)).bind (fun (x2,x4,x5)=>
 some (x2,x4,x5))):Option ((Int×Int×List UInt8×List UInt8×Int×Int)×(List UInt8×Bool)×Int×Int×List UInt8×List UInt8×Int×Int)).bind (fun (x2,x4,x5)=>
 bif x4.2 then
 some ((0,0,[],[],0,0),false)
 else
 bif !(x4.1==[]) then
 some ((0,0,[],[],0,0),false)
 else
 (ψl.f x5).bind fun t9=>
 bif !t9 then
 some ((0,0,[],[],0,0),false)
 else
 some (x5,true))
theorem φIB (s:List UInt8):ψi.f s=(ψ1d.f (s,false)).bind fun p=>(ψ1d.f p.2).bind fun q=>φ81 p.1 q.1 q.2:=rfl
theorem φDY (k b:Int) (s:List UInt8) (hl:s.length<2 ^ 62):φ81 k b (s,true)=some (φ2r,false):=by
 have hf:ψf.f [] 4=some (0,false):=φ6O [] (by show 0<2 ^ 62;decide)
 unfold φ81
 simp only[φ6X,bS]
 cases decide (k=1∨k=4)
 ·cases (k==2)
  ·simp only[cF,φA1 s hl,bS,φ8C,hf,cT];rfl
  ·simp only[cF,cT,φA8 s hl,bS];rfl
 ·simp only[cT,φA8 s hl,bS];rfl
theorem φ9p (S:List UInt8) (r:RecT) (st:φGB) (h:st.2=false→st.1=[]→φc r=true→φ7 r=S) :
  ∃res:RecT×Bool,(bif st.2 then some (((0,0,[],[],0,0):RecT),false) else bif !(st.1==[]) then some ((0,0,[],[],0,0),false) else (ψl.f r).bind fun t9=>bif !t9 then some ((0,0,[],[],0,0),false) else some (r,true))=some res∧(res=(φ2r,false)∨∃r,res=(r,true)∧φ2s S r):=by
 cases hb:st.2
 rotate_left
 ·exact ⟨(φ2r,false),rfl,.inl rfl⟩
 simp only[cF]
 by_cases he:st.1=[]
 ·have he2:(st.1==[])=true:=by simpa using he
  simp only[he2,nZ,cF,φ6j,bS]
  cases hr:φc r
  ·exact ⟨(φ2r,false),rfl,.inl rfl⟩
  ·exact ⟨(r,true),rfl,.inr ⟨r,rfl,hr,h hb he hr⟩⟩
 ·have he2:(st.1==[])=false:=by simpa using he
  simp only[he2,nF,cT]
  exact ⟨(φ2r,false),rfl,.inl rfl⟩
theorem φIH (s:List UInt8) (hl:s.length<1000000000000):∃res:RecT×Bool,ψi.f s=some res∧(res=(φ2r,false)∨∃r,res=(r,true)∧φ2s s r):=by
 rw[φIB]
 rcases φ8P s (by omega) with ⟨k,s1,e1,q1,i1⟩ | e1
 rotate_left
 ·rw[e1,bS]
  simp only[φA1 s (show s.length<2 ^ 62 by omega),bS,φDY 0 0 s (show s.length<2 ^ 62 by omega)]
  exact ⟨_,rfl,.inl rfl⟩
 have l1:s1.length≤s.length:=by rw[q1,lA];omega
 rw[e1,bS]
 rcases φ8P s1 (by omega) with ⟨b,s2,e2,q2,i2⟩ | e2
 rotate_left
 ·simp only[e2,bS,φDY k 0 s1 (show s1.length<2 ^ 62 by omega)]
  exact ⟨_,rfl,.inl rfl⟩
 have l2:s2.length≤s.length:=by rw[q2,lA] at l1;omega
 simp only[e2,bS]
 unfold φ81
 simp only[φ6X,bS]
 by_cases c1:k=1∨k=4
 ·have hcd:decide (k=1∨k=4)=true:=decide_eq_true c1
  simp only[hcd,cT]
  rcases φ9E s2 (by omega) with ⟨ky,s3,e3,q3,i3⟩ | ⟨s3,e3,l3⟩
  rotate_left
  ·simp only[e3,bS,φA8 s3 (show s3.length<2 ^ 62 by omega)]
   exact ⟨_,rfl,.inl rfl⟩
  have l3:s3.length≤s.length:=by rw[q3,lA,lA] at l2;omega
  rcases φ9E s3 (by omega) with ⟨v,s4,e4,q4,i4⟩ | ⟨s4,e4,l4⟩
  rotate_left
  ·simp only[e3,e4,bS]
   exact ⟨_,rfl,.inl rfl⟩
  simp only[e3,e4,bS]
  exact φ9p s (k,b,ky,v,0,0) (s4,false) fun _ he hr=>by
   have he:s4=[]:=he
   subst he
   unfold φ7
   rw[if_neg (by rw[hr];simp),if_pos c1,q1,q2,q3,q4]
   simp[aA]
 have hcd:decide (k=1∨k=4)=false:=decide_eq_false c1
 by_cases c2:k=2
 ·have b2:(k==2)=true:=by simpa using c2
  simp only[hcd,b2,cT,cF]
  rcases φ9E s2 (by omega) with ⟨ky,s3,e3,q3,i3⟩ | ⟨s3,e3,l3⟩
  rotate_left
  ·simp only[e3,bS]
   exact ⟨_,rfl,.inl rfl⟩
  simp only[e3,bS]
  exact φ9p s (k,b,ky,[],0,0) (s3,false) fun _ he hr=>by
   have he:s3=[]:=he
   subst he
   unfold φ7
   rw[if_neg (by rw[hr];simp),if_neg c1,if_pos c2,q1,q2,q3]
   simp[aA]
 ·have b2:(k==2)=false:=by simpa using c2
  simp only[hcd,b2,cF]
  rcases φ8P s2 (by omega) with ⟨c,s3,e3,q3,i3⟩ | e3
  rotate_left
  ·have hf:ψf.f [] 4=some (0,false):=φ6O [] (by show 0<2 ^ 62;decide)
   simp only[e3,bS,φ8C,hf]
   exact ⟨_,rfl,.inl rfl⟩
  rcases φDL s3 4 (by omega) with ⟨t,s4,e4,q4,i4⟩ | e4
  rotate_left
  ·have hf:ψf.f [] 4=some (0,false):=φ6O [] (by show 0<2 ^ 62;decide)
   simp only[e3,e4,bS,hf]
   exact ⟨_,rfl,.inl rfl⟩
  have ht:t.length=4:=by omega
  have hf:=φ6O t (by omega)
  obtain ⟨f1,f2,f3⟩:=φIJ t ht
  simp only[e3,e4,bS,hf]
  exact φ9p s (k,b,[],[],c,(φ3b t).1) (s4,false) fun _ he hr=>by
   have he:s4=[]:=he
   subst he
   unfold φ7
   rw[if_neg (by rw[hr];simp),if_neg c1,if_neg c2,q1,q2,q3,q4]
   simp only
   rw[f1]
   simp[aA]
theorem φAP (S:List UInt8) (r:RecT):∃res:RecT×Bool,((ψ31.f r).bind fun t9=>bif !(t9==S) then some (((0,0,[],[],0,0):RecT),false) else bif S==[] then some ((0,0,[],[],0,0),false) else some (r,true))=some res∧(res=(φ2r,false)∨∃r,res=(r,true)∧φ2s S r):=by
 rw[φ6H,bS]
 by_cases c:φ7 r=S
 ·have c1:(φ7 r==S)=true:=by simpa using c
  simp only[c1,nZ,cF]
  by_cases e:S=[]
  ·have e1:(S==[])=true:=by simpa using e
   simp only[e1,cT]
   exact ⟨_,rfl,.inl rfl⟩
  ·have e1:(S==[])=false:=by simpa using e
   simp only[e1,cF]
   refine ⟨_,rfl,.inr ⟨r,rfl,?_,c⟩⟩
   cases hr:φc r with
   | true=>rfl
   | false=>
    exfalso
    apply e
    rw[←c]
    unfold φ7
    rw[if_pos hr]
 ·have c1:(φ7 r==S)=false:=by simpa using c
  simp only[c1,nF,cT]
  exact ⟨_,rfl,.inl rfl⟩
theorem φ5Y (s:List UInt8):0≤(φi s).2∧(φi s).2≤s.length∧(φi s).2≤7:=by
 rcases φ9N s with h | ⟨n,k,_,h,h1,h2,h3,h4,h5⟩
 ·rw[h];simp
 ·rw[h];simp only;omega
theorem φMm (s:List UInt8) (hl:s.length<1000000000000):∃res:RecT×Bool,ψ2o.f s=some res∧(res=(φ2r,false)∨∃r,res=(r,true)∧φ2s s r):=by
 unfold ψ2o.f
 rw[φ2M s (by omega),bS]
 obtain ⟨a1,a2,a3⟩:=φ5Y s
 generalize φi s=p at *
 obtain ⟨k,a⟩:=p
 simp only at a1 a2 a3
 have c1:(decide (0≤a) && decide (a≤(s.length:Int)))=true:=by simp;omega
 have hd:(s.drop a.toNat).length=s.length - a.toNat:=lD
 simp only[c1,cT,φ2M (s.drop a.toNat) (show (s.drop a.toNat).length<2 ^ 62 by omega),bS]
 obtain ⟨b1,b2,b3⟩:=φ5Y (s.drop a.toNat)
 generalize φi (s.drop a.toNat)=q at *
 obtain ⟨b,d⟩:=q
 simp only at b1 b2 b3 ⊢
 cases ea:(a==0)
 rotate_left
 ·simp only[cT];exact ⟨_,rfl,.inl rfl⟩
 cases ed:(d==0)
 rotate_left
 ·simp only[cT,cF];exact ⟨_,rfl,.inl rfl⟩
 have ew:w64 (a+d)=a+d:=φE (by omega) (by omega)
 have c2:(decide (0≤a+d) && decide (a+d≤(s.length:Int)))=true:=by simp;omega
 simp only[cF,ew,c2,cT,φ8V,bS]
 have hx:(s.drop (a+d).toNat).length≤s.length:=by rw[lD];omega
 generalize s.drop (a+d).toNat=x at *
 cases decide (k=1∨k=4)
 rotate_left
 ·obtain ⟨t,r,f,e1,l1,l2⟩:=φ7w x (by omega)
  obtain ⟨t',r',f',e2,l3,l4⟩:=φ7w r (by omega)
  simp only[cT,e1,e2,bS]
  exact φAP s (k,b,t,t',0,0)
 cases (k==2)
 rotate_left
 ·obtain ⟨t,r,f,e1,l1,l2⟩:=φ7w x (by omega)
  simp only[cT,cF,e1,bS]
  exact φAP s (k,b,t,[],0,0)
 ·simp only[cF,φ2M x (show x.length<2 ^ 62 by omega),bS]
  obtain ⟨g1,g2,g3⟩:=φ5Y x
  generalize φi x=u at *
  obtain ⟨c,g⟩:=u
  simp only at g1 g2 g3 ⊢
  have c3:(decide (0≤g) && decide (g≤(x.length:Int)))=true:=by simp;omega
  simp only[c3,cT,φCW (x.drop g.toNat) (show (x.drop g.toNat).length<2 ^ 62 by rw[lD];omega),bS]
  exact φAP s (k,b,[],[],c,(φ3b (x.drop g.toNat)).1)
noncomputable def φ1M (s:List UInt8):RecT×Bool:=@dite (RecT×Bool) (∃r,φ2s s r) (Classical.propDecidable _) (fun h=>(h.choose,true)) (fun _=>(φ2r,false))
theorem φCg {s:List UInt8} {o:Option (RecT×Bool)} (h1:∀r,φ2s s r→o=some (r,true)) (h2:∃res:RecT×Bool,o=some res∧(res=(φ2r,false)∨∃r,res=(r,true)∧φ2s s r)):o=some (φ1M s):=by
 unfold φ1M
 by_cases h:∃r,φ2s s r
 ·rw[dif_pos h];exact h1 _ h.choose_spec
 ·rw[dif_neg h]
  obtain ⟨res,e,k | ⟨r,_,hr⟩⟩:=h2
  ·rw[e,k]
  ·exact absurd ⟨r,hr⟩ h
theorem φGJ (s:List UInt8) (hl:s.length<1000000000000):ψi.f s=some (φ1M s):=φCg (fun _ h=>φAI h) (φIH s hl)
theorem φC9 (s:List UInt8) (hl:s.length<1000000000000):ψ2o.f s=some (φ1M s):=φCg (fun _ h=>φLG h) (φMm s hl)
theorem φ6f (s:List UInt8):φ1M s=(φ2r,false)∧(¬∃r,φ2s s r)∨∃r,φ1M s=(r,true)∧φ2s s r:=by
 unfold φ1M
 by_cases h:∃r,φ2s s r
 ·rw[dif_pos h];exact .inr ⟨_,rfl,h.choose_spec⟩
 ·rw[dif_neg h];exact .inl ⟨rfl,h⟩
theorem φ6S (s:List UInt8):(φY s).1.length≤s.length:=by
 unfold φY
 split
 ·simp
 split
 ·simp
 ·split
  ·simp
  split
  ·simp only[lD,lT];omega
  ·simp
noncomputable def φ1D (s:List UInt8) (a n:Int):RecT×Bool:=
 if 0≤a∧a≤(s.length:Int)∧1≤n∧n≤(s.length:Int) - a then
  (if (φY ((s.take (a+n).toNat).drop a.toNat)).2=n then φ1M (φY ((s.take (a+n).toNat).drop a.toNat)).1 else (φ2r,false))
 else (φ2r,false)
theorem φES (s:List UInt8) (a n:Int) (hl:s.length<1000000000):ψk.f s a n=some (φ1D s a n):=by
 unfold ψk.f φ1D
 rw[φ25,bS]
 by_cases c1:0≤a∧a≤(s.length:Int)
 rotate_left
 ·simp only[c1,dF,nF,cT]
  rw[if_neg (fun k=>c1 ⟨k.1,k.2.1⟩)];rfl
 have ew:w64 ((s.length:Int) - a)=(s.length:Int) - a:=φE (by omega) (by omega)
 have c1b:decide (0≤a∧a≤(s.length:Int))=true:=decide_eq_true c1
 simp only[c1b,nZ,cF,φ25,bS,ew]
 by_cases c2:0≤n∧n≤(s.length:Int) - a
 rotate_left
 ·simp only[c2,dF,nF,cT]
  rw[if_neg (fun k=>c2 ⟨by omega,k.2.2.2⟩)];rfl
 have e2:w64 (a+n)=a+n:=φE (by omega) (by omega)
 have c3:(decide (0≤a+n) && decide (a+n≤(s.length:Int)))=true:=by simp;omega
 have c4:(decide (0≤a) && decide (a≤a+n))=true:=by simp;omega
 have hlx:((s.take (a+n).toNat).drop a.toNat).length<1000000000:=by rw[lD,lT];omega
 have c2b:decide (0≤n∧n≤(s.length:Int) - a)=true:=decide_eq_true c2
 have hx0:n=0→(φY ((s.take (a+n).toNat).drop a.toNat)).2=0:=fun e=>by
  have:((s.take (a+n).toNat).drop a.toNat)=[]:=by rw[List.drop_eq_nil_iff,lT];omega
  rw[this];rfl
 have hlen:=φ6S ((s.take (a+n).toNat).drop a.toNat)
 have hun:=φDr _ (show ((s.take (a+n).toNat).drop a.toNat).length<1000000000000 by omega)
 by_cases c5:n=0
 ·rw[if_neg (fun z=>by omega)]
  simp only[c2b,nZ,cF,e2,c3,c4,cT,hun,bS]
  have hk:=hx0 c5
  have d:((φY ((s.take (a+n).toNat).drop a.toNat)).2==0)=true:=by simpa using hk
  simp only[d,cT];rfl
 rw[if_pos ⟨c1.1,c1.2,by omega,c2.2⟩]
 simp only[c2b,nZ,cF,e2,c3,c4,cT,hun,bS]
 generalize φY ((s.take (a+n).toNat).drop a.toNat)=u at *
 obtain ⟨t,k⟩:=u
 simp only at hx0 hlen ⊢
 by_cases c6:k=n
 ·have d:(k==0)=false:=by simp;omega
  have d2:(k != n)=false:=by simpa using c6
  simp only[d,d2,cF,φGJ t (show t.length<1000000000000 by omega),bS]
  rw[if_pos c6]
 ·have d2:(k != n)=true:=by simpa using c6
  rw[if_neg c6]
  cases d:(k==0)
  ·simp only[d2,cF,cT];rfl
  ·simp only[cT];rfl
theorem φEg (s:List UInt8) (a n:Int) (hl:s.length<1000000000):ψ2q.f s a n=some (φ1D s a n):=by
 unfold ψ2q.f φ1D
 rw[φ1r,bS]
 by_cases c1:0≤a∧a≤(s.length:Int)
 rotate_left
 ·simp only[c1,dF,nF,cT]
  rw[if_neg (fun k=>c1 ⟨k.1,k.2.1⟩)];rfl
 have ew:w64 ((s.length:Int) - a)=(s.length:Int) - a:=φE (by omega) (by omega)
 have c1b:decide (0≤a∧a≤(s.length:Int))=true:=decide_eq_true c1
 simp only[c1b,nZ,cF,φ1r,bS,ew]
 by_cases c2:1≤n∧n≤(s.length:Int) - a
 rotate_left
 ·rw[if_neg (fun k=>c2 ⟨k.2.2.1,k.2.2.2⟩)]
  simp only[c2,dF,nF,cT];rfl
 have e2:w64 (a+n)=a+n:=φE (by omega) (by omega)
 have c3:(decide (0≤a+n) && decide (a+n≤(s.length:Int)))=true:=by simp;omega
 have c4:(decide (0≤a) && decide (a≤a+n))=true:=by simp;omega
 have hlx:((s.take (a+n).toNat).drop a.toNat).length<1000000000:=by rw[lD,lT];omega
 have c2b:decide (1≤n∧n≤(s.length:Int) - a)=true:=decide_eq_true c2
 have hlen:=φ6S ((s.take (a+n).toNat).drop a.toNat)
 have hun:=φ7p _ (show ((s.take (a+n).toNat).drop a.toNat).length<1000000000000 by omega)
 rw[if_pos ⟨c1.1,c1.2,c2.1,c2.2⟩]
 simp only[c2b,nZ,cF,e2,c3,c4,cT,hun,bS]
 generalize φY ((s.take (a+n).toNat).drop a.toNat)=u at *
 obtain ⟨t,k⟩:=u
 simp only at hlen ⊢
 rw[φC9 t (by omega),bS]
 by_cases c6:k=n
 ·have d2:(k != n)=false:=by simpa using c6
  rw[if_pos c6]
  simp only[d2,cF]
  rcases φ6f t with ⟨e,_⟩ | ⟨r,e,_⟩<;>rw[e]<;>rfl
 ·have d2:(k != n)=true:=by simpa using c6
  rw[if_neg c6]
  simp only[d2,cT];rfl
theorem φJ4 (a n:Int):φ1D [] a n=(φ2r,false):=by
 unfold φ1D
 rw[if_neg]
 simp only[lN]
 omega
noncomputable def getP (s:φA) (d:φ1) (key:List UInt8):φg×Int:=
 if (φ2m s.2.1 key).2=false then (([],[],0),8) else
 let e:=(φ2m s.2.1 key).1
 let r:=φ1D (φ2 d (φ0 e.2.1)).1 e.2.2.1 e.2.2.2.1
 if r.2=true∧(r.1.1=1∨r.1.1=4)∧r.1.2.2.1=key then ((key,r.1.2.2.2.1,r.1.2.1),0) else (([],[],0),3)
theorem φIk (s:φA) (d:φ1) (key:List UInt8) (h:dlim d) (hu:φO d.1<1000000000) (hs:s.2.1.length<2 ^ 62):ψP.f s d key=some (getP s d key):=by
 unfold ψP.f getP
 rw[φEM s.2.1 key hs,bS]
 generalize φ2m s.2.1 key=g at *
 obtain ⟨e,is⟩:=g
 simp only
 cases is
 ·rfl
 have hl:=φ4Z d (φ0 e.2.1) h
 simp only[nZ,cF,φ44,bS,φ7u d _ h,φES (φ2 d (φ0 e.2.1)).1 e.2.2.1 e.2.2.2.1 (show (φ2 d (φ0 e.2.1)).1.length<1000000000 by omega),Bool.true_eq_false,if_false]
 generalize φ1D (φ2 d (φ0 e.2.1)).1 e.2.2.1 e.2.2.2.1=r at *
 obtain ⟨r,ok⟩:=r
 simp only
 cases ok
 ·simp
 simp only[nZ,cF,true_and]
 by_cases k:r.2.2.1=key
 ·have k2:(r.2.2.1==key)=true:=by simpa using k
  by_cases c1:r.1=1
  ·have d1:(r.1 != 1)=false:=by simpa using c1
   simp only[d1,k2,nZ,cF]
   rw[if_pos ⟨.inl c1,k⟩,k]
  ·have d1:(r.1 != 1)=true:=by simpa using c1
   by_cases c4:r.1=4
   ·have d4:(r.1 != 4)=false:=by simpa using c4
    simp only[d1,d4,k2,nZ,cF,cT]
    rw[if_pos ⟨.inr c4,k⟩,k]
   ·have d4:(r.1 != 4)=true:=by simpa using c4
    simp only[d1,d4,cT]
    rw[if_neg (by intro z;exact z.1.elim c1 c4)]
 ·have k2:(r.2.2.1==key)=false:=by simpa using k
  rw[if_neg (fun z=>k z.2)]
  cases (r.1 != 1)<;>cases (r.1 != 4)<;>simp only[k2,nF,cF,cT]
theorem φFy (s:φA) (d:φ1) (key:List UInt8) (h:dlim d) (hu:φO d.1<1000000000) (hs:s.2.1.length<2 ^ 62):ψ2V.f s d key=some (getP s d key):=by
 unfold ψ2V.f getP
 rw[φGV s.2.1 key hs,bS]
 generalize φ2m s.2.1 key=g at *
 obtain ⟨e,is⟩:=g
 simp only
 cases is
 ·rfl
 have hl:=φ4Z d (φ0 e.2.1) h
 simp only[nZ,cF,φ2L,bS,φ4j d _ h,φEg (φ2 d (φ0 e.2.1)).1 e.2.2.1 e.2.2.2.1 (show (φ2 d (φ0 e.2.1)).1.length<1000000000 by omega),Bool.true_eq_false,if_false]
 have hno:(φ2 d (φ0 e.2.1)).2=false→φ1D (φ2 d (φ0 e.2.1)).1 e.2.2.1 e.2.2.2.1=(φ2r,false):=fun hf=>by
  have:(φ2 d (φ0 e.2.1)).1=[]:=by
   unfold φ2 at hf ⊢
   split
   ·rfl
   ·rename_i c
    rw[if_neg c] at hf
    split
    ·rename_i i hi;rw[hi] at hf;simp at hf
    ·rfl
  rw[this];exact φJ4 _ _
 generalize φ1D (φ2 d (φ0 e.2.1)).1 e.2.2.1 e.2.2.2.1=r at *
 cases hf:(φ2 d (φ0 e.2.1)).2
 ·rw[hno hf];simp
 obtain ⟨r,ok⟩:=r
 simp only[nZ,cF]
 cases ok
 ·simp
 simp only[nZ,cF,true_and]
 by_cases k:r.2.2.1=key
 ·have k2:(r.2.2.1==key)=true:=by simpa using k
  simp only[k2,nZ,cF]
  by_cases c1:r.1=1
  ·have d1:(r.1 != 1)=false:=by simpa using c1
   simp only[d1,cF]
   rw[if_pos ⟨.inl c1,k⟩]
  ·have d1:(r.1 != 1)=true:=by simpa using c1
   by_cases c4:r.1=4
   ·have d4:(r.1 != 4)=false:=by simpa using c4
    simp only[d1,d4,cF,cT]
    rw[if_pos ⟨.inr c4,k⟩]
   ·have d4:(r.1 != 4)=true:=by simpa using c4
    simp only[d1,d4,cT]
    rw[if_neg (by intro z;exact z.1.elim c1 c4)]
 ·have k2:(r.2.2.1==key)=false:=by simpa using k
  simp only[k2,nF,cT]
  rw[if_neg (fun z=>k z.2)]
abbrev φ1S:=Int×Int×RecT
theorem φ96 (s:List UInt8):(φY s).2=0∨∃n:Nat,(φY s).2=(n:Int)∧5≤n∧n≤s.length:=by
 unfold φY
 split
 ·exact .inl rfl
 split
 ·exact .inl rfl
 ·rename_i n k hr
  obtain ⟨q1,q2,q3,q4,q5⟩:=φ4W 7 true (s.drop 4) n k hr
  split
  ·exact .inl rfl
  rename_i c
  split
  ·exact .inr ⟨4+k+n,rfl,by omega,by omega⟩
  ·exact .inl rfl
noncomputable def φ4s:Nat→List UInt8→Nat→List φ1S×Nat
 | 0,_,a=>([],a)
 | f+1,s,a=>
  if (φY (s.drop a)).2=0∨(φ1M (φY (s.drop a)).1).2=false then ([],a) else
  (((a:Int),(φY (s.drop a)).2,(φ1M (φY (s.drop a)).1).1)::(φ4s f s (a+(φY (s.drop a)).2.toNat)).1,(φ4s f s (a+(φY (s.drop a)).2.toNat)).2)
theorem φEi:∀(f g:Nat) (s:List UInt8) (a:Nat),a≤s.length→s.length<a+f→s.length<a+g→φ4s f s a=φ4s g s a
 | 0,_,s,a,ha,hf,_=>by omega
 | f+1,0,s,a,ha,_,hg=>by omega
 | f+1,g+1,s,a,ha,hf,hg=>by
  unfold φ4s
  by_cases c:(φY (s.drop a)).2=0∨(φ1M (φY (s.drop a)).1).2=false
  ·rw[if_pos c,if_pos c]
  ·rw[if_neg c,if_neg c]
   rcases φ96 (s.drop a) with h | ⟨n,h,h5,hn⟩
   ·exact absurd (.inl h) c
   ·rw[lD] at hn
    rw[h,tN,φEi f g s (a+n) (by omega) (by omega) (by omega)]
noncomputable def φ2A (s:List UInt8) (a:Nat):List φ1S×Nat:=φ4s (s.length+1 - a) s a
noncomputable def scan (s:List UInt8):List φ1S×Nat:=φ2A s 0
theorem φ54 {s:List UInt8} {a:Nat} (ha:a≤s.length) (h:(φY (s.drop a)).2=0∨(φ1M (φY (s.drop a)).1).2=false):φ2A s a=([],a):=by
 unfold φ2A
 rw[show s.length+1 - a=(s.length - a)+1 by omega,φ4s,if_pos h]
theorem φ5X {s:List UInt8} {a n:Nat} (hn:(φY (s.drop a)).2=(n:Int)) (h0:5≤n) (hl:a+n≤s.length) (hr:(φ1M (φY (s.drop a)).1).2=true) :
  φ2A s a=(((a:Int),(n:Int),(φ1M (φY (s.drop a)).1).1)::(φ2A s (a+n)).1,(φ2A s (a+n)).2):=by
 unfold φ2A
 rw[show s.length+1 - a=(s.length - a)+1 by omega,φ4s,if_neg (by rw[hn,hr];simp;omega),hn,tN,φEi (s.length - a) (s.length+1 - (a+n)) s (a+n) (by omega) (by omega) (by omega)]
theorem φ8w {s:List UInt8}:φ2A s s.length=([],s.length):=
 φ54 (Nat.le_refl _) (.inl (by rw[List.drop_length];rfl))
theorem φLj:∀(k:Nat) (s:List UInt8) (a:Nat),a≤s.length→s.length - a=k→(φ2A s a).2≤s.length∧a≤(φ2A s a).2∧(φ2A s a).1.length≤s.length - a:=by
 intro k
 induction k using Nat.strongRecOn with
 | ind k ih=>
  intro s a ha hk
  by_cases c:(φY (s.drop a)).2=0∨(φ1M (φY (s.drop a)).1).2=false
  ·rw[φ54 ha c];exact ⟨ha,Nat.le_refl _,by simp⟩
  ·rcases φ96 (s.drop a) with h | ⟨n,h,h5,hn⟩
   ·exact absurd (.inl h) c
   ·rw[lD] at hn
    have hr:(φ1M (φY (s.drop a)).1).2=true:=by
     cases e:(φ1M (φY (s.drop a)).1).2 with
     | true=>rfl
     | false=>exact absurd (.inr e) c
    rw[φ5X h h5 (by omega) hr]
    have:=ih (s.length - (a+n)) (by omega) s (a+n) (by omega) rfl
    simp only[lC]
    omega
theorem φ4b (s:List UInt8):(scan s).2≤s.length∧(scan s).1.length≤s.length:=by
 have:=φLj s.length s 0 (Nat.zero_le _) (by omega)
 unfold scan
 omega
def φ2l (e:φ9):Bool:=φ1T e.1 && (decide (1≤e.2.1∧e.2.1≤100000) && (decide (0≤e.2.2.1) && (decide (1≤e.2.2.2.1∧e.2.2.2.1≤210) && decide (1≤e.2.2.2.2∧e.2.2.2.2≤1000000))))
def φ2R:Option (List UInt8)→List φ9→Bool
 | _,[]=>true
 | p,e::r=>φ2l e && ((match p with | none=>true | some q=>Op.bytesLess q e.1) && φ2R (some e.1) r)
def φ6t (l:List φ9):Nat→Option (List UInt8)
 | 0=>none
 | n+1=>some (l.getD n ([],0,0,0,0)).1
theorem φ8R (l:List φ9) (n:Nat) (h:n<l.length):φ6t l (n+1)=some l[n].1:=by
 show some (l.getD n ([],0,0,0,0)).1=_
 rw[φ8 h]
def φ1i (l:List φ9):Bool:=φ2R none l && decide (l.length≤20)
theorem φDb {a:Nat} (h:a<1000000000001):(a+1) * 80≤140737488355328:=by omega
theorem φBq (s:List UInt8) (hl:s.length<1000000000):ψs.f s=some ((scan s).1,((scan s).2:Int)):=by
 have key:=φ5g (step:=ψs.l0) (a:=(s,([]:List φ1S),((0:Nat):Int))) (fun a=>(a.2.1++(φ2A s a.2.2.toNat).1,((φ2A s a.2.2.toNat).2:Int))) (fun a=>a.1=s∧∃n:Nat,a.2.2=(n:Int)∧n≤s.length∧a.2.1.length≤n) (fun a=>s.length - a.2.2.toNat)
  (fun rec a ha ih=>by
   obtain ⟨x,out,k⟩:=a
   obtain ⟨hx,n,hn,hle,hol⟩:=ha
   simp only at hx hn hol ih ⊢
   subst hx hn
   have c1:(decide (0≤(n:Int)) && decide ((n:Int)≤(x.length:Int)))=true:=by simp;omega
   have hd:(x.drop n).length<1000000000000:=by rw[lD];omega
   have hu:=φ6S (x.drop n)
   simp only[ψs.l0,c1,cT,tN,φDr (x.drop n) hd,φGJ (φY (x.drop n)).1 (show (φY (x.drop n)).1.length<1000000000000 by omega),bS]
   rcases φ96 (x.drop n) with h | ⟨m,h,h5,hm⟩
   ·have d:((φY (x.drop n)).2==0)=true:=by simpa using h
    rw[φ54 hle (.inl h)]
    simp only[d,cT,List.append_nil]
   have d:(((m:Nat):Int)==0)=false:=by simp;omega
   rw[lD] at hm
   cases hr:(φ1M (φY (x.drop n)).1).2
   ·rw[φ54 hle (.inr hr)]
    simp only[h,d,cF,nF,cT,List.append_nil]
   ·have hb:∀{α:Type} (v:α),(out.length+[v].length) * 80≤140737488355328:=fun v=>φDb (by omega)
    have ew:w64 ((n:Int)+(m:Int))=((n+m:Nat):Int):=by rw[φE (by omega) (by omega)];omega
    have ih:=ih (x,out++[((n:Int),(m:Int),(φ1M (φY (x.drop n)).1).1)],((n+m:Nat):Int)) ⟨rfl,n+m,rfl,by omega,by simp only[lA,List.length_singleton];omega⟩ (by simp only[tN];omega)
    simp only[tN] at ih
    rw[φ5X h h5 (by omega) hr]
    simp only[h,d,cF,nZ,hb,dT,cT,ew,ih]
    simp[aA])
  ⟨rfl,0,rfl,Nat.zero_le _,by simp⟩ (by simp only;omega)
 have key:lp ψs.l0 (s,[],0)=_:=key
 unfold ψs.f
 rw[key,bS]
 rfl
theorem φ7D (s:List UInt8) (hl:s.length<1000000000):ψ2x.f s=some ((scan s).1,((scan s).2:Int)):=by
 have key:=φ7T (step:=ψ2x.l0) (a:=(s,([]:List φ1S),((0:Nat):Int))) (fun a=>a.1=s∧∃n:Nat,a.2.2=(n:Int)∧n≤s.length∧a.2.1.length≤n∧scan s=(a.2.1++(φ2A s n).1,(φ2A s n).2)) (fun a=>s.length - a.2.2.toNat)
  (fun b=>b=.inl ((scan s).1,((scan s).2:Int))∨b=.inr ((scan s).1,((scan s).2:Int)))
  (fun rec a ha=>by
   obtain ⟨x,out,k⟩:=a
   obtain ⟨hx,n,hn,hle,hol,hs⟩:=ha
   simp only at hx hn hol hs
   subst hx hn
   rcases Nat.lt_or_ge n x.length with hlt | hge
   rotate_left
   ·left
    have:n=x.length:=by omega
    subst this
    rw[φ8w] at hs
    refine ⟨_,?_,.inl rfl⟩
    rw[hs]
    simp[ψ2x.l0]
   have c0:(n:Int)<(x.length:Int):=by omega
   have c1:(decide (0≤(n:Int)) && decide ((n:Int)≤(x.length:Int)))=true:=by simp;omega
   have hd:(x.drop n).length<1000000000000:=by rw[lD];omega
   have hu:=φ6S (x.drop n)
   simp only[ψ2x.l0,c0,dT,c1,cT,tN,φ7p (x.drop n) hd,φC9 (φY (x.drop n)).1 (show (φY (x.drop n)).1.length<1000000000000 by omega),bS]
   rcases φ96 (x.drop n) with h | ⟨m,h,h5,hm⟩
   ·left
    have d:((φY (x.drop n)).2==0)=true:=by simpa using h
    rw[φ54 hle (.inl h)] at hs
    simp only[List.append_nil] at hs
    exact ⟨.inr (out,(n:Int)),by simp only[d,cT],.inr (by rw[hs])⟩
   have d:(((m:Nat):Int)==0)=false:=by simp;omega
   rw[lD] at hm
   cases hr:(φ1M (φY (x.drop n)).1).2
   ·left
    rw[φ54 hle (.inr hr)] at hs
    simp only[List.append_nil] at hs
    exact ⟨.inr (out,(n:Int)),by simp only[h,d,cF,nF,cT],.inr (by rw[hs])⟩
   ·right
    have hb:∀{α:Type} (v:α),(out.length+[v].length) * 80≤140737488355328:=fun v=>φDb (by omega)
    have ew:w64 ((n:Int)+(m:Int))=((n+m:Nat):Int):=by rw[φE (by omega) (by omega)];omega
    rw[φ5X h h5 (by omega) hr] at hs
    refine ⟨(x,out++[((n:Int),(m:Int),(φ1M (φY (x.drop n)).1).1)],((n+m:Nat):Int)),⟨rfl,n+m,rfl,by omega,by simp only[lA,List.length_singleton];omega,by simpa [aA] using hs⟩,by simp only[tN];omega,?_⟩
    simp only[h,d,cF,nZ,hb,dT,cT,ew])
  ⟨rfl,0,rfl,Nat.zero_le _,by simp,by unfold scan;simp⟩ (by simp only;omega)
 obtain ⟨b,e,hb⟩:=key
 have e:lp ψ2x.l0 (s,[],0)=some b:=e
 unfold ψ2x.f
 rw[e,bS]
 rcases hb with rfl | rfl<;>rfl
theorem φJb (l:List φ9) (hl:l.length<2 ^ 62):lp ψA.l0 (l,l,(l.length:Int),0)=some (if φ2R none l=true then .inl l else .inr false):=by
 have key:=φe (step:=ψA.l0) (fun n (_:Unit)=>(l,l,(l.length:Int),(n:Int))) l.length (fun n _=>if φ2R (φ6t l n) (l.drop n)=true then .inl l else .inr false) (fun _ _=>True)
  (fun rec n s hn' _ ih=>by
   rcases Nat.lt_or_ge n l.length with h | h
   ·have hw:w64 ((n:Int)+1)=((n+1:Nat):Int):=φJ (by omega)
    have ih2:=ih () h trivial
    rw[φ8R l n h] at ih2
    rw[dG h]
    simp only[φ2R,ψA.l0,oL,h,dT,cT,φD,φG,φ8 h,bS,φ25,φ8U]
    unfold φ2l
    have hneg:decide (l[n].2.2.1<0)=!decide (0≤l[n].2.2.1):=by
     by_cases c:0≤l[n].2.2.1
     ·have:¬l[n].2.2.1<0:=by omega
      simp[c,this]
     ·have:l[n].2.2.1<0:=by omega
      simp[c,this]
    rw[hneg]
    rcases bE (φ1T l[n].1) with k1 | k1
    rotate_left
    ·simp[k1]
    rcases bE (decide (1≤l[n].2.1∧l[n].2.1≤100000)) with k2 | k2
    rotate_left
    ·simp only[k1,k2,nZ,nF,cF,cT,bS,φd];simp
    rcases bE (decide (0≤l[n].2.2.1)) with k3 | k3
    rotate_left
    ·simp only[k1,k2,k3,nZ,nF,cF,cT,bS,φd];simp
    rcases bE (decide (1≤l[n].2.2.2.1∧l[n].2.2.2.1≤210)) with k4 | k4
    rotate_left
    ·simp only[k1,k2,k3,k4,nZ,nF,cF,cT,bS,φd];simp
    rcases bE (decide (1≤l[n].2.2.2.2∧l[n].2.2.2.2≤1000000)) with k5 | k5
    rotate_left
    ·simp only[k1,k2,k3,k4,k5,nZ,nF,cF,cT,bS,φd];simp
    simp only[k1,k2,k3,k4,k5,nZ,cF,tA]
    cases n with
    | zero=>
     have z:¬((0:Nat):Int) > 0:=by omega
     simp only[z,dF,cF,bS,φX,hw,ih2,φ6t,tA]
    | succ m=>
     have z:((m+1:Nat):Int) > 0:=by omega
     have hm:m<l.length:=by omega
     have z2:w64 (((m+1:Nat):Int) - 1)=(m:Int):=by rw[φE (by omega) (by omega)];omega
     rw[φ8R l m hm]
     simp only[z,dT,cT,z2,φD,hm,φG,φ8 hm]
     rcases bE (Op.bytesLess l[m].1 l[m+1].1) with k6 | k6
     ·simp only[k6,nZ,cF,bS,φX,hw,ih2,tA]
     ·simp[k6]
   ·have:n=l.length:=by omega
    subst this
    simp[ψA.l0,φ2R])
  hl 0 () (Nat.zero_le _) trivial
 have key:lp ψA.l0 (l,l,(l.length:Int),0)=_:=key
 rw[key,List.drop_zero];rfl
theorem φMW (a:Int):decide (a<0)=!decide (0≤a):=by
 by_cases c:0≤a
 ·have:¬a<0:=by omega
  simp[c,this]
 ·have:a<0:=by omega
  simp[c,this]
theorem φJW (l:List φ9) (hl:l.length<2 ^ 62):lp ψ2I.l0 (l,0)=some (if φ2R none l=true then .inl () else .inr false):=by
 have key:=φe (step:=ψ2I.l0) (fun n (_:Unit)=>(l,(n:Int))) l.length (fun n _=>if φ2R (φ6t l n) (l.drop n)=true then .inl () else .inr false) (fun _ _=>True)
  (fun rec n s hn' _ ih=>by
   rcases Nat.lt_or_ge n l.length with h | h
   ·have hw:w64 ((n:Int)+1)=((n+1:Nat):Int):=φJ (by omega)
    have ih2:=ih () h trivial
    rw[φ8R l n h] at ih2
    rw[dG h]
    simp only[φ2R,ψ2I.l0,oL,h,dT,cT,φD,φG,φ8 h,bS,φ1r,φ71]
    unfold φ2l
    rw[φMW]
    rcases bE (φ1T l[n].1) with k1 | k1
    rotate_left
    ·simp[k1]
    rcases bE (decide (1≤l[n].2.1∧l[n].2.1≤100000)) with k2 | k2
    rotate_left
    ·simp only[k1,k2,nZ,nF,cF,cT,bS,φd];simp
    rcases bE (decide (0≤l[n].2.2.1)) with k3 | k3
    rotate_left
    ·simp only[k1,k2,k3,nZ,nF,cF,cT,bS,φd];simp
    rcases bE (decide (1≤l[n].2.2.2.1∧l[n].2.2.2.1≤210)) with k4 | k4
    rotate_left
    ·simp only[k1,k2,k3,k4,nZ,nF,cF,cT,bS,φd];simp
    rcases bE (decide (1≤l[n].2.2.2.2∧l[n].2.2.2.2≤1000000)) with k5 | k5
    rotate_left
    ·simp only[k1,k2,k3,k4,k5,nZ,nF,cF,cT,bS,φd];simp
    simp only[k1,k2,k3,k4,k5,nZ,cF,tA]
    cases n with
    | zero=>
     have z:¬((0:Nat):Int) > 0:=by omega
     simp only[z,dF,cF,bS,φX,hw,ih2,φ6t,tA]
    | succ m=>
     have z:((m+1:Nat):Int) > 0:=by omega
     have hm:m<l.length:=by omega
     have z2:w64 (((m+1:Nat):Int) - 1)=(m:Int):=by rw[φE (by omega) (by omega)];omega
     have z3:(Op.bytesLess l[m+1].1 l[m].1 || l[m+1].1==l[m].1)=!Op.bytesLess l[m].1 l[m+1].1:=φ7U _ _
     rw[φ8R l m hm]
     simp only[z,dT,cT,z2,φD,hm,φG,φ8 hm,z3]
     rcases bE (Op.bytesLess l[m].1 l[m+1].1) with k6 | k6
     ·simp only[k6,nZ,cF,bS,φX,hw,ih2,tA]
     ·simp[k6]
   ·have:n=l.length:=by omega
    subst this
    simp[ψ2I.l0,φ2R])
  hl 0 () (Nat.zero_le _) trivial
 have key:lp ψ2I.l0 (l,0)=_:=key
 rw[key,List.drop_zero];rfl
theorem φ9w (l:List φ9) (hl:l.length<2 ^ 62):ψA.f l=some (φ1i l):=by
 unfold ψA.f φ1i
 rw[φJb l hl,bS]
 have e:decide ((l.length:Int)≤20)=decide (l.length≤20):=decide_eq_decide.2 (by omega)
 cases φ2R none l<;>simp[e]
theorem φCe (l:List φ9) (hl:l.length<2 ^ 62):ψ2I.f l=some (φ1i l):=by
 unfold ψ2I.f φ1i
 rw[φJW l hl]
 by_cases c:l.length≤20
 ·have c1:¬(l.length:Int) > 20:=by omega
  simp only[c,c1,dT,dF,cF,Bool.and_true,bS]
  cases φ2R none l<;>rfl
 ·have c1:(l.length:Int) > 20:=by omega
  simp[c,c1]
noncomputable def φ4O (d:φ1) (size:Int) (last:Bool) (id:Int):Bool:=
 (φ2 d (φ0 id)).2 && (decide ((scan (φ2 d (φ0 id)).1).2=(φ2 d (φ0 id)).1.length) && (!last || decide (size=((φ2 d (φ0 id)).1.length:Int))))
noncomputable def φ1W (d:φ1) (size:Int):List Int→Bool
 | []=>true
 | id::r=>φ4O d size r.isEmpty id && φ1W d size r
noncomputable def φ1x (d:φ1) (batch:Int) (e:φ9):Bool:=
 let r:=φ1D (φ2 d (φ0 e.2.1)).1 e.2.2.1 e.2.2.2.1
 r.2 && ((r.1.1==1 || r.1.1==4) && (r.1.2.2.1==e.1 && (r.1.2.1==e.2.2.2.2 && !decide (e.2.2.2.2≥batch))))
noncomputable def φo (s:φA) (d:φ1):Bool:=
 φ5 d && (φm s.1 && (φ1i s.2.1 && (decide (1≤s.2.2.1∧s.2.2.1≤1000001) && (φ1W d s.2.2.2.1 s.1.2 && s.2.1.all (φ1x d s.2.2.1)))))
theorem φJp (s:φA) (d:φ1) (h:dlim d) (hu:φO d.1<1000000000) (hl:s.1.2.length<1000000000):lp ψx.l0 (s,d,s.1.2,(s.1.2.length:Int),0)=some (if φ1W d s.2.2.2.1 s.1.2=true then .inl (s,d) else .inr false):=by
 have key:=φe (step:=ψx.l0) (fun n (_:Unit)=>(s,d,s.1.2,(s.1.2.length:Int),(n:Int))) s.1.2.length (fun n _=>if φ1W d s.2.2.2.1 (s.1.2.drop n)=true then .inl (s,d) else .inr false) (fun _ _=>True)
  (fun rec n a hn _ ih=>by
   rcases Nat.lt_or_ge n s.1.2.length with h1 | h1
   ·have hw:=φJ (show n+1<9223372036854775808 by omega)
    have hw2:w64 ((s.1.2.length:Int) - 1)=(s.1.2.length:Int) - 1:=φE (by omega) (by omega)
    have hft:=φ4Z d (φ0 s.1.2[n]) h
    have ih:=ih () h1 trivial
    rw[dG h1]
    have hlast:(s.1.2.drop (n+1)).isEmpty=((n:Int)==(s.1.2.length:Int) - 1):=by
     by_cases c:n+1=s.1.2.length
     ·have c1:((n:Int)==(s.1.2.length:Int) - 1)=true:=by simp;omega
      rw[c1,c,List.drop_length];rfl
     ·have c1:((n:Int)==(s.1.2.length:Int) - 1)=false:=by simp;omega
      rw[c1]
      cases e:s.1.2.drop (n+1) with
      | nil=>rw[List.drop_eq_nil_iff] at e;omega
      | cons x r=>rfl
    simp only[φ1W,hlast,ψx.l0,oL,h1,dT,cT,φD,φG,φ8 h1,φ44,φ7u d _ h,φBq (φ2 d (φ0 s.1.2[n])).1 (show (φ2 d (φ0 s.1.2[n])).1.length<1000000000 by omega),bS,hw2]
    unfold φ4O
    cases hb:(φ2 d (φ0 s.1.2[n])).2
    ·simp
    simp only[nZ,cF,tA]
    by_cases c1:(scan (φ2 d (φ0 s.1.2[n])).1).2=(φ2 d (φ0 s.1.2[n])).1.length
    rotate_left
    ·have d1:(((scan (φ2 d (φ0 s.1.2[n])).1).2:Int) != ((φ2 d (φ0 s.1.2[n])).1.length:Int))=true:=by simp;omega
     simp only[d1,cT,bS,φd,c1,dF];simp
    have d1:(((scan (φ2 d (φ0 s.1.2[n])).1).2:Int) != ((φ2 d (φ0 s.1.2[n])).1.length:Int))=false:=by simp;omega
    simp only[c1,bne_self_eq_false,cF,dT,tA]
    cases hz:((n:Int)==(s.1.2.length:Int) - 1)
    ·simp only[cF,bS,φX,hw,ih,nF,Bool.true_or,tA]
    ·by_cases c2:s.2.2.2.1=((φ2 d (φ0 s.1.2[n])).1.length:Int)
     ·have d2:(s.2.2.2.1 != ((φ2 d (φ0 s.1.2[n])).1.length:Int))=false:=by simpa using c2
      simp only[cT,d2,cF,bS,φX,hw,ih,nZ,Bool.false_or,decide_eq_true c2,tA]
     ·have d2:(s.2.2.2.1 != ((φ2 d (φ0 s.1.2[n])).1.length:Int))=true:=by simpa using c2
      simp only[cT,d2,bS,φd,nZ,Bool.false_or,decide_eq_false c2,Bool.false_and,Bool.false_eq_true,if_false]
   ·have:n=s.1.2.length:=by omega
    subst this
    simp[ψx.l0,φ1W])
  (by omega) 0 () (Nat.zero_le _) trivial
 have key:lp ψx.l0 (s,d,s.1.2,(s.1.2.length:Int),0)=_:=key
 rw[key,List.drop_zero]
theorem φIi (s:φA) (d:φ1) (h:dlim d) (hu:φO d.1<1000000000) (hl:s.2.1.length<1000000000):lp ψx.l2 (s,d,s.2.1,(s.2.1.length:Int),0)=some (if s.2.1.all (φ1x d s.2.2.1)=true then .inl () else .inr false):=by
 refine φ3u (step:=ψx.l2) s.2.1 (φ1x d s.2.2.1) (fun n=>(s,d,s.2.1,(s.2.1.length:Int),(n:Int))) () (by omega) ?_ ?_
 ·intro rec n hn
  have hw:=φJ (show n+1<9223372036854775808 by omega)
  have hft:=φ4Z d (φ0 s.2.1[n].2.1) h
  simp only[ψx.l2,oL,hn,dT,cT,φD,φG,φ8 hn,φ44,φ7u d _ h,φES (φ2 d (φ0 s.2.1[n].2.1)).1 _ _ (show (φ2 d (φ0 s.2.1[n].2.1)).1.length<1000000000 by omega),bS,hw,φ1x]
  obtain ⟨r,hr⟩:∃r,φ1D (φ2 d (φ0 s.2.1[n].2.1)).1 s.2.1[n].2.2.1 s.2.1[n].2.2.2.1=r:=⟨_,rfl⟩
  simp only[hr]
  rcases bE r.2 with h1 | h1<;>rcases bE (r.1.1==1) with h2 | h2<;>rcases bE (r.1.1==4) with h3 | h3<;>rcases bE (r.1.2.2.1==s.2.1[n].1) with h4 | h4<;>rcases bE (r.1.2.1==s.2.1[n].2.2.2.2) with h5 | h5<;>rcases bE (decide (s.2.1[n].2.2.2.2≥s.2.2.1)) with h6 | h6<;>simp only[bne,h1,h2,h3,h4,h5,h6,φX,φd,nZ,nF,cT,cF,bS,tA,Bool.false_and,Bool.and_true,Bool.and_false,Bool.or_true,Bool.or_false,Bool.true_or,Bool.false_or,if_true,if_false,Bool.false_eq_true,hw]
 ·intro rec
  simp[ψx.l2]
theorem φLz (s:φA) (d:φ1) (h:dlim d) (hu:φO d.1<1000000000) (hl:s.2.1.length<1000000000):lp ψ32.l2 (s,d,0)=some (if s.2.1.all (φ1x d s.2.2.1)=true then .inl () else .inr false):=by
 refine φ3u (step:=ψ32.l2) s.2.1 (φ1x d s.2.2.1) (fun n=>(s,d,(n:Int))) () (by omega) ?_ ?_
 ·intro rec n hn
  have hw:=φJ (show n+1<9223372036854775808 by omega)
  have hft:=φ4Z d (φ0 s.2.1[n].2.1) h
  simp only[ψ32.l2,oL,hn,dT,cT,φD,φG,φ8 hn,φ2L,φ4j d _ h,φEg (φ2 d (φ0 s.2.1[n].2.1)).1 _ _ (show (φ2 d (φ0 s.2.1[n].2.1)).1.length<1000000000 by omega),bS,hw,φ1x]
  obtain ⟨r,hr⟩:∃r,φ1D (φ2 d (φ0 s.2.1[n].2.1)).1 s.2.1[n].2.2.1 s.2.1[n].2.2.2.1=r:=⟨_,rfl⟩
  simp only[hr]
  rcases bE r.2 with h1 | h1<;>rcases bE (r.1.1==1) with h2 | h2<;>rcases bE (r.1.1==4) with h3 | h3<;>rcases bE (r.1.2.2.1==s.2.1[n].1) with h4 | h4<;>rcases bE (r.1.2.1==s.2.1[n].2.2.2.2) with h5 | h5<;>rcases bE (decide (s.2.1[n].2.2.2.2≥s.2.2.1)) with h6 | h6<;>simp only[bne,h1,h2,h3,h4,h5,h6,φX,φd,nZ,nF,cT,cF,bS,tA,Bool.false_and,Bool.and_true,Bool.and_false,Bool.or_true,Bool.or_false,Bool.true_or,Bool.false_or,if_true,if_false,Bool.false_eq_true,hw]
 ·intro rec
  simp[ψ32.l2]
theorem φHl (s:φA) (d:φ1) (h:dlim d) (hu:φO d.1<1000000000) (hl:s.1.2.length<1000000000):lp ψ32.l0 (s,d,0)=some (if φ1W d s.2.2.2.1 s.1.2=true then .inl (s,d) else .inr false):=by
 have key:=φe (step:=ψ32.l0) (fun n (_:Unit)=>(s,d,(n:Int))) s.1.2.length (fun n _=>if φ1W d s.2.2.2.1 (s.1.2.drop n)=true then .inl (s,d) else .inr false) (fun _ _=>True)
  (fun rec n a hn _ ih=>by
   rcases Nat.lt_or_ge n s.1.2.length with h1 | h1
   ·have hw:=φJ (show n+1<9223372036854775808 by omega)
    have hft:=φ4Z d (φ0 s.1.2[n]) h
    have hsl:=(φ4b (φ2 d (φ0 s.1.2[n])).1).1
    have ih:=ih () h1 trivial
    rw[dG h1]
    have hlast:(s.1.2.drop (n+1)).isEmpty=(((n+1:Nat):Int)==(s.1.2.length:Int)):=by
     by_cases c:n+1=s.1.2.length
     ·have c1:(((n+1:Nat):Int)==(s.1.2.length:Int))=true:=by simp;omega
      rw[c1,c,List.drop_length];rfl
     ·have c1:(((n+1:Nat):Int)==(s.1.2.length:Int))=false:=by simp;omega
      rw[c1]
      cases e:s.1.2.drop (n+1) with
      | nil=>rw[List.drop_eq_nil_iff] at e;omega
      | cons x r=>rfl
    simp only[φ1W,hlast,ψ32.l0,oL,h1,dT,cT,φD,φG,φ8 h1,φ2L,φ4j d _ h,φ7D (φ2 d (φ0 s.1.2[n])).1 (show (φ2 d (φ0 s.1.2[n])).1.length<1000000000 by omega),bS,hw]
    unfold φ4O
    cases hb:(φ2 d (φ0 s.1.2[n])).2
    ·simp
    simp only[nZ,cF,tA]
    by_cases c1:(scan (φ2 d (φ0 s.1.2[n])).1).2=(φ2 d (φ0 s.1.2[n])).1.length
    rotate_left
    ·have d1:(scan (φ2 d (φ0 s.1.2[n])).1).2<(φ2 d (φ0 s.1.2[n])).1.length:=by omega
     simp only[d1,dT,cT,bS,φd,c1,dF];simp
    simp only[c1,Nat.lt_irrefl,dF,cF,dT,tA]
    cases hz:(((n+1:Nat):Int)==(s.1.2.length:Int))
    ·simp only[cF,bS,φX,hw,ih,nF,Bool.true_or,tA]
    ·by_cases c2:s.2.2.2.1=((φ2 d (φ0 s.1.2[n])).1.length:Int)
     ·have d2:(s.2.2.2.1 != ((φ2 d (φ0 s.1.2[n])).1.length:Int))=false:=by simpa using c2
      simp only[cT,d2,cF,bS,φX,hw,ih,nZ,Bool.false_or,decide_eq_true c2,tA]
     ·have d2:(s.2.2.2.1 != ((φ2 d (φ0 s.1.2[n])).1.length:Int))=true:=by simpa using c2
      simp only[cT,d2,bS,φd,nZ,Bool.false_or,decide_eq_false c2,Bool.false_and,Bool.false_eq_true,if_false]
   ·have:n=s.1.2.length:=by omega
    subst this
    simp[ψ32.l0,φ1W])
  (by omega) 0 () (Nat.zero_le _) trivial
 have key:lp ψ32.l0 (s,d,0)=_:=key
 rw[key,List.drop_zero]
theorem φDM (s:φA) (d:φ1) (h:dlim d) (hu:φO d.1<1000000000) (h1:s.1.2.length<1000000000) (h2:s.2.1.length<1000000000):ψx.f s d=some (φo s d):=by
 unfold ψx.f φo
 rw[φ9t d h,φFZ s.1 (by omega),φ9w s.2.1 (by omega),φ25,φJp s d h hu h1]
 simp only[bS]
 cases φ5 d<;>simp only[nZ,nF,cT,cF,tA,Bool.false_and]
 cases φm s.1<;>simp only[nZ,nF,cT,cF,tA,Bool.false_and]
 cases φ1i s.2.1<;>simp only[nZ,nF,cT,cF,tA,Bool.false_and]
 cases decide (1≤s.2.2.1∧s.2.2.1≤1000001)<;>simp only[nZ,nF,cT,cF,tA,Bool.false_and]
 cases φ1W d s.2.2.2.1 s.1.2<;>simp only[if_true,if_false,Bool.false_eq_true,φX,φd,tA,Bool.false_and]
 rw[φIi s d h hu h2,bS]
 cases s.2.1.all (φ1x d s.2.2.1)<;>simp only[if_true,if_false,Bool.false_eq_true,φX,φd]
theorem φFk (s:φA) (d:φ1) (h:dlim d) (hu:φO d.1<1000000000) (h1:s.1.2.length<1000000000) (h2:s.2.1.length<1000000000):ψ32.f s d=some (φo s d):=by
 unfold ψ32.f φo
 rw[φ5y d h,φ8j s.1 (by omega),φCe s.2.1 (by omega),φ1r,φHl s d h hu h1]
 simp only[bS]
 cases φ5 d<;>simp only[nZ,nF,cT,cF,tA,Bool.false_and]
 cases φm s.1<;>simp only[nZ,nF,cT,cF,tA,Bool.false_and]
 cases φ1i s.2.1<;>simp only[nZ,nF,cT,cF,tA,Bool.false_and]
 cases decide (1≤s.2.2.1∧s.2.2.1≤1000001)<;>simp only[nZ,nF,cT,cF,tA,Bool.false_and]
 cases φ1W d s.2.2.2.1 s.1.2<;>simp only[if_true,if_false,Bool.false_eq_true,φX,φd,tA,Bool.false_and]
 rw[φLz s d h hu h2,bS]
 cases s.2.1.all (φ1x d s.2.2.1)<;>simp only[if_true,if_false,Bool.false_eq_true,φX,φd]
theorem φFj:∀(l:List φ6) (p:List UInt8),(∀x∈l,Op.bytesLess p x.1=true)→srt l→φ3N (some p) l=true
 | [],_,_,_=>rfl
 | f::l,p,h,hs=>by
  simp only[φ3N,h f List.mem_cons_self,tA]
  have hs2:=List.pairwise_cons.1 hs
  exact φFj l f.1 hs2.1 hs2.2
theorem φIA (l:List φ6) (hs:srt l):φ3N none l=true:=by
 cases l with
 | nil=>rfl
 | cons f l=>
  have hs2:=List.pairwise_cons.1 hs
  exact φFj l f.1 hs2.1 hs2.2
def okF (cap:Int) (l:List φ6):Prop:=l.length≤130∧(φO l:Int)≤cap∧(∀f∈l,φ2p f=true)∧srt l
theorem φ3f (d:φ1):φ5 d=true↔(0≤d.2.1∧d.2.1≤100000)∧(-1≤d.2.2.1∧d.2.2.1≤100000)∧okF d.2.1 d.1:=by
 unfold φ5 okF φ5G
 simp only[bA,decide_eq_true_eq,List.all_eq_true]
 constructor
 ·rintro ⟨h1,h2,h3,h4,h5,h6⟩
  exact ⟨h2,h3,h1,h4,h5,φEN _ h6⟩
 ·rintro ⟨h2,h3,h1,h4,h5,h6⟩
  exact ⟨h1,h2,h3,h4,h5,φIA _ h6⟩
theorem φN1 {d:φ1} (h:φ5 d=true):φ5 (tick d)=true:=by
 rw[φ3f] at h ⊢
 obtain ⟨h1,h2,h3⟩:=h
 rw[φ8f,φ1K]
 refine ⟨h1,?_,h3⟩
 unfold tick;split
 ·exact ⟨by show -1≤d.2.2.1 - 1;omega,by show d.2.2.1 - 1≤100000;omega⟩
 ·exact h2
theorem φ5i {d:φ1} {act:List φ6→Int×List φ6} (h:φ5 d=true) (ha:okF d.2.1 d.1→okF d.2.1 (act d.1).2):φ5 (φW d act).1=true:=by
 have ht:=φN1 h
 rw[φ3f] at h ht
 unfold φW
 split
 ·rename_i k;rw[(φ3f d).2 h] at k;exact absurd k (by simp)
 ·split
  ·exact (φ3f _).2 h
  ·refine (φ3f _).2 ⟨?_,ht.2.1,?_⟩
   ·show 0≤(tick d).2.1∧(tick d).2.1≤100000
    exact ht.1
   ·show okF (tick d).2.1 (act d.1).2
    rw[φ8f];exact ha h.2.2
theorem φCV {cap:Int} {l m:List φ6} (h:okF cap l) (hs:m.Sublist l):okF cap m:=by
 have:=φ70 (fun f:φ6=>f.2.1.length) hs
 have:=hs.length_le
 have h2:=h.2.1
 refine ⟨by have:=h.1;omega,?_,fun f hf=>h.2.2.1 f (hs.subset hf),h.2.2.2.sublist hs⟩
 unfold φO at *;omega
theorem φM3 (l:List φ6) (f:φ6):φO (insB l f)=φO l+f.2.1.length:=by
 unfold φO
 induction l with
 | nil=>simp[insB,sumN]
 | cons x l ih=>
  rw[φ5v]
  split
  ·simp only[sumN,ih];omega
  ·simp only[sumN];omega
theorem φKx (l:List φ6) (i:Nat) (h:i<l.length):φO (φl l i)+l[i].2.1.length=φO l:=by
 unfold φO φl
 induction l generalizing i with
 | nil=>simp at h
 | cons x l ih=>
  cases i with
  | zero=>simp only[List.take_zero,List.drop_succ_cons,List.drop_zero,List.nil_append,List.getElem_cons_zero,sumN];omega
  | succ i=>
   have:=ih i (by simpa using h)
   simp only[List.take_succ_cons,List.drop_succ_cons,List.cons_append,sumN,List.getElem_cons_succ] at *
   omega
theorem φLm (l:List φ6) (i:Nat) (f:φ6) (h:i<l.length):φO (l.set i f)+l[i].2.1.length=φO l+f.2.1.length:=by
 unfold φO
 induction l generalizing i with
 | nil=>simp at h
 | cons x l ih=>
  cases i with
  | zero=>simp only[List.set_cons_zero,List.getElem_cons_zero,sumN];omega
  | succ i=>
   have:=ih i (by simpa using h)
   simp only[List.set_cons_succ,sumN,List.getElem_cons_succ] at *
   omega
theorem φI8 {α:Type} {l:List (List UInt8×α)} (h:srt l) (i:Nat) (hi:i<l.length) (f:List UInt8×α) (hf:f.1=l[i].1):srt (l.set i f):=by
 unfold srt at *
 have e:(l.set i f).map (·.1)=l.map (·.1):=by
  apply List.ext_getElem
  ·simp
  ·intro n h1 h2
   simp only[List.getElem_map,List.getElem_set]
   split
   ·rename_i c;subst c;exact hf
   ·rfl
 have h2:(l.map (·.1)).Pairwise (fun a b=>Op.bytesLess a b=true):=List.pairwise_map.2 h
 rw[←e] at h2
 exact List.pairwise_map.1 h2
theorem φAh {cap:Int} {l:List φ6} (h:okF cap l) (i:Nat) (hi:i<l.length) (f:φ6) (hn:f.1=l[i].1) (hf:φ2p f=true) (hu:(φO l:Int)+f.2.1.length - l[i].2.1.length≤cap):okF cap (l.set i f):=by
 have:=φLm l i f hi
 refine ⟨by rw[List.length_set];exact h.1,by omega,fun g hg=>?_,φI8 h.2.2.2 i hi f hn⟩
 rcases List.mem_or_eq_of_mem_set hg with hg | e
 ·exact h.2.2.1 g hg
 ·rw[e];exact hf
theorem φCs {cap:Int} {l:List φ6} (h:okF cap l) (f:φ6) (h1:l.length<130) (hne:∀x∈l,x.1≠f.1) (hf:φ2p f=true) (hu:(φO l:Int)+f.2.1.length≤cap):okF cap (insB l f):=by
 refine ⟨by rw[φ6T];omega,by rw[φM3];omega,fun g hg=>?_,φ9f f l h.2.2.2 hne⟩
 rcases (φ3Y g f l).1 hg with e | hg
 ·rw[e];exact hf
 ·exact h.2.2.1 g hg
theorem φ8o {d:φ1} (h:φ5 d=true) (n:List UInt8):φ5 (φ20 n d).1=true:=
 φ5i h fun k=>by
  unfold φ2X;split
  ·exact φCV k (φ5M _ _)
  ·exact k
theorem φ2U {d:φ1} (h:φ5 d=true) (n:List UInt8):φ5 (φF n d).1=true:=by
 unfold φF;split
 ·exact φ8o h n
 ·exact h
theorem φ34 {d:φ1} (h:φ5 d=true) (n:List UInt8):φ5 (φa n d).1=true:=
 φ5i h fun k=>by
  unfold φ2o;split
  ·exact k
  ·rename_i k1
   split
   ·exact k
   ·rename_i k2
    split
    ·exact k
    ·rename_i k3
     rcases φz d.1 n with ⟨e,hno⟩ | ⟨i,hi,e,_⟩
     ·refine φCs k _ (by omega) hno ?_ (by have:=k.2.1;simp;exact this)
      unfold φ2p;simp at k1 ⊢;exact k1
     ·omega
theorem φ3d {d:φ1} (h:φ5 d=true) (n t:List UInt8):φ5 (φU n t d).1=true:=
 φ5i h fun k=>by
  unfold φ2f
  rcases φz d.1 n with ⟨e,_⟩ | ⟨i,hi,e,_⟩
  ·rw[φ19 e];exact k
  ·rw[φ16 e]
   simp only
   split
   ·exact k
   ·rename_i k1
    rw[φ8 hi]
    refine φAh k i hi _ rfl ?_ ?_
    ·have:=k.2.2.1 _ (gM hi)
     unfold φ2p at *
     simp only[bA,decide_eq_true_eq,lA] at *
     exact ⟨this.1,by omega,by omega⟩
    ·simp only[lA];omega
theorem φ36 {d:φ1} (h:φ5 d=true) (n:List UInt8):φ5 (φN n d).1=true:=
 φ5i h fun k=>by
  unfold φ2a
  rcases φz d.1 n with ⟨e,_⟩ | ⟨i,hi,e,_⟩
  ·rw[φ19 e];exact k
  ·rw[φ16 e]
   simp only
   rw[φ8 hi]
   refine φAh k i hi _ rfl ?_ ?_
   ·have:=k.2.2.1 _ (gM hi)
    unfold φ2p at *
    simp only[bA,decide_eq_true_eq] at *
    exact ⟨this.1,by omega,by omega⟩
   ·have:=k.2.1;simp only;omega
theorem φ5j {d:φ1} (h:φ5 d=true) (n:List UInt8) (z:Int):φ5 (φW d (φ5A n z)).1=true:=
 φ5i h fun k=>by
  unfold φ5A
  rcases φz d.1 n with ⟨e,_⟩ | ⟨i,hi,e,_⟩
  ·rw[φ19 e];exact k
  ·rw[φ16 e]
   simp only
   rw[φ8 hi]
   split
   ·rename_i k1
    refine φAh k i hi _ rfl ?_ ?_
    ·have:=k.2.2.1 _ (gM hi)
     unfold φ2p at *
     simp only[bA,decide_eq_true_eq,lT] at *
     exact ⟨this.1,by omega,by omega⟩
    ·have:=k.2.1
     simp only[lT];omega
   ·exact k
theorem φBh {d:φ1} (h:φ5 d=true) (a b:List UInt8):φ5 (φ3B a b d).1=true:=
 φ5i h fun k=>by
  unfold φ2n
  split
  ·exact k
  ·rename_i k0
   rcases φz d.1 a with ⟨e,_⟩ | ⟨i,hi,e,_⟩
   ·rw[φ19 e];exact k
   ·rw[φ16 e]
    simp only
    split
    ·exact k
    ·rw[φ8 hi]
     have hs:(φ1h (φl d.1 i) b).Sublist d.1:=(φFH _ _).trans (φ5M _ _)
     have h2:=φKx d.1 i hi
     have h3:=φ98 hi
     have h4:=φBP (φl d.1 i) b
     have h5:φO (φ1h (φl d.1 i) b)≤φO (φl d.1 i):=φ70 (fun f:φ6=>f.2.1.length) (φFH _ _)
     have k1:=k.1
     have k2:=k.2.1
     refine φCs (φCV k hs) _ (by omega) (φEc (k.2.2.2.sublist (φ5M d.1 i))) ?_ (by simp only;omega)
     have:=k.2.2.1 _ (gM hi)
     unfold φ2p at *
     simp only[bA,decide_eq_true_eq,Bool.not_eq_false] at *
     exact ⟨k0,this.2⟩
theorem φ1e {w:φH} {op:φ1→φ1×Int} (h:φ5 w.1=true) (ho:φ5 w.1=true→φ5 (op w.1).1=true):φ5 (φI op w).1=true:=by
 unfold φI;split
 ·exact ho h
 ·exact h
theorem φ9b {w:φH} {op:φ1→φ1×Int} (h:φ5 w.1=true) (ho:φ5 w.1=true→φ5 (op w.1).1=true):φ5 (φ18 op w).1=true:=by
 unfold φ18;split
 ·exact ho h
 ·exact h
theorem φ4L {w:φH} (h:φ5 w.1=true) (n t:List UInt8):φ5 (φ1f n t w).1=true:=
 φ1e (op:=φN n) (φ1e (op:=φU n t) (φ1e (op:=φa n) (φ1e (op:=φF n) h fun k=>φ2U k n) fun k=>φ34 k n) fun k=>φ3d k n t) fun k=>φ36 k n
theorem φ3r {w:φH} (h:φ5 w.1=true) (v:φS):φ5 (sPut v w).1=true:=
 φ1e (op:=φ3B _ _) (φ4L h _ _) fun k=>φBh k _ _
theorem φu {d:φ1} (h:φ5 d=true):dl 100001 d:=by
 rw[φ3f] at h
 obtain ⟨h1,h2,h3,h4,h5,h6⟩:=h
 refine ⟨by omega,by omega,fun f hf=>?_⟩
 have:=h5 f hf
 unfold φ2p at this
 simp only[bA] at this
 have:=φIM this.1
 omega
theorem φLk {a:Nat} (h:a<1000000000001):(a+1) * 16≤140737488355328:=by omega
theorem φJu (l:List φ9) (hl:l.length<1000000000):ψ9.f l=some (l.map (·.1)):=by
 have key:=φe (step:=ψ9.l0) (fun n (acc:List (List UInt8))=>(acc,l,(l.length:Int),(n:Int))) l.length (fun n acc=>acc++(l.drop n).map (·.1)) (fun n acc=>acc.length=n)
  (fun rec n acc hn ha ih=>by
   rcases Nat.lt_or_ge n l.length with h | h
   ·have hw:=φJ (show n+1<9223372036854775808 by omega)
    have hb:(acc.length+([l[n].1]:List (List UInt8)).length) * 16≤140737488355328:=φLk (by omega)
    have ih:=ih (acc++[l[n].1]) h (by rw[lA,ha];rfl)
    simp only[ψ9.l0,oL,h,dT,cT,φD,φG,φ8 h,hb,hw,ih]
    rw[dG h,List.map_cons,aA];rfl
   ·have:n=l.length:=by omega
    subst this
    simp[ψ9.l0])
  (by omega) 0 [] (Nat.zero_le _) rfl
 have key:lp ψ9.l0 ([],l,(l.length:Int),0)=_:=key
 unfold ψ9.f
 rw[key,bS]
 simp
noncomputable def φ1U (s:φA) (d:φ1):List φ9→List φg→List φg×Int
 | [],acc=>(acc,0)
 | e::r,acc=>if (getP s d e.1).2≠0 then ([],(getP s d e.1).2) else φ1U s d r (acc++[(getP s d e.1).1])
noncomputable def φT (s:φA) (d:φ1):List φg×Int:=φ1U s d s.2.1 []
theorem φEe (s:φA) (d:φ1):∀(l:List φ9) (acc:List φg),(φ1U s d l acc).1.length≤acc.length+l.length
 | [],acc=>by simp[φ1U]
 | e::r,acc=>by
  unfold φ1U;split
  ·simp
  ·have:=φEe s d r (acc++[(getP s d e.1).1])
   simp only[lA,lC,lN] at *;omega
theorem φ95 (s:φA) (d:φ1):(φT s d).1.length≤s.2.1.length:=by
 have:=φEe s d s.2.1 []
 unfold φT
 simpa using this
theorem φCM (s:φA) (d:φ1) (h:dlim d) (hu:φO d.1<1000000000) (hs:s.2.1.length<1000000000):ψ2N.f s d=some (φT s d):=by
 have key:=φe (step:=ψ2N.l0) (fun n (acc:List φg)=>(s,d,acc,(n:Int))) s.2.1.length (fun n acc=>if (φ1U s d (s.2.1.drop n) acc).2=0 then .inl (φ1U s d (s.2.1.drop n) acc).1 else .inr ([],(φ1U s d (s.2.1.drop n) acc).2)) (fun n acc=>acc.length=n)
  (fun rec n acc hn ha ih=>by
   rcases Nat.lt_or_ge n s.2.1.length with h1 | h1
   ·have hw:=φJ (show n+1<9223372036854775808 by omega)
    rw[dG h1]
    simp only[ψ2N.l0,oL,h1,dT,cT,φD,φG,φ8 h1,hw,φFy s d _ h hu (show s.2.1.length<2 ^ 62 by omega),bS,φ1U]
    by_cases c:(getP s d (s.2.1[n]).1).2=0
    ·have c1:((getP s d (s.2.1[n]).1).2 != 0)=false:=by simpa using c
     have hb:(acc.length+([(getP s d (s.2.1[n]).1).1]:List φg).length) * 40≤140737488355328:=φ3j (by omega)
     have ih:=ih (acc++[(getP s d (s.2.1[n]).1).1]) h1 (by rw[lA,ha];rfl)
     simp only[c1,cF,hb,dT,cT,ih,c,ne_eq,not_true_eq_false,if_false,bne_self_eq_false]
    ·have c1:((getP s d (s.2.1[n]).1).2 != 0)=true:=by simpa using c
     simp only[c1,cT,c,ne_eq,not_false_eq_true,if_true,if_false]
   ·have:n=s.2.1.length:=by omega
    subst this
    simp[ψ2N.l0,φ1U])
  (by omega) 0 [] (Nat.zero_le _) rfl
 have key:lp ψ2N.l0 (s,d,[],0)=_:=key
 unfold ψ2N.f φT
 rw[key,bS,List.drop_zero]
 have hz:∀(l:List φ9) (acc:List φg),(φ1U s d l acc).2≠0→(φ1U s d l acc).1=[]:=by
  intro l
  induction l with
  | nil=>intro acc hh;simp[φ1U] at hh
  | cons e r ih=>
   intro acc hh
   unfold φ1U at hh ⊢
   split
   ·rfl
   ·rename_i c;rw[if_neg c] at hh;exact ih _ hh
 have hz':=hz s.2.1 []
 generalize φ1U s d s.2.1 []=R at hz' ⊢
 obtain ⟨L,c⟩:=R
 by_cases e:c=0
 ·subst e;rfl
 ·have:=hz' e
  simp only at this
  subst this
  simp[e]
theorem φDw (s:φA) (d:φ1) (h:dlim d) (hu:φO d.1<1000000000) (hs:s.2.1.length<1000000000):ψF.f s d=some (φT s d):=by
 have hkl:(s.2.1.map (·.1)).length=s.2.1.length:=lM _
 have key:=φe (step:=ψF.l0) (fun n (acc:List φg)=>(s,d,acc,s.2.1.map (·.1),((s.2.1.map (·.1)).length:Int),(n:Int))) s.2.1.length (fun n acc=>if (φ1U s d (s.2.1.drop n) acc).2=0 then .inl (φ1U s d (s.2.1.drop n) acc).1 else .inr ([],(φ1U s d (s.2.1.drop n) acc).2)) (fun n acc=>acc.length=n)
  (fun rec n acc hn ha ih=>by
   rcases Nat.lt_or_ge n s.2.1.length with h1 | h1
   ·have hw:=φJ (show n+1<9223372036854775808 by omega)
    have h2:n<(s.2.1.map (·.1)).length:=by rw[hkl];exact h1
    rw[dG h1]
    simp only[ψF.l0,oL,h2,dT,cT,φD,φG,φ8 h2,List.getElem_map,hw,φIk s d _ h hu (show s.2.1.length<2 ^ 62 by omega),bS,φ1U]
    by_cases c:(getP s d (s.2.1[n]).1).2=0
    ·have c1:((getP s d (s.2.1[n]).1).2 != 0)=false:=by simpa using c
     have hb:(acc.length+([(getP s d (s.2.1[n]).1).1]:List φg).length) * 40≤140737488355328:=φ3j (by omega)
     have ih:=ih (acc++[(getP s d (s.2.1[n]).1).1]) h1 (by rw[lA,ha];rfl)
     simp only[c1,cF,hb,dT,cT,ih,c,ne_eq,not_true_eq_false,if_false,bne_self_eq_false]
    ·have c1:((getP s d (s.2.1[n]).1).2 != 0)=true:=by simpa using c
     simp only[c1,cT,c,ne_eq,not_false_eq_true,if_true,if_false]
   ·have:n=s.2.1.length:=by omega
    subst this
    simp[ψF.l0,φ1U])
  (by omega) 0 [] (Nat.zero_le _) rfl
 have key:lp ψF.l0 (s,d,[],s.2.1.map (·.1),((s.2.1.map (·.1)).length:Int),0)=_:=key
 unfold ψF.f φT
 rw[φJu _ hs,bS,key,bS,List.drop_zero]
 have hz:∀(l:List φ9) (acc:List φg),(φ1U s d l acc).2≠0→(φ1U s d l acc).1=[]:=by
  intro l
  induction l with
  | nil=>intro acc hh;simp[φ1U] at hh
  | cons e r ih=>
   intro acc hh
   unfold φ1U at hh ⊢
   split
   ·rfl
   ·rename_i c;rw[if_neg c] at hh;exact ih _ hh
 have hz':=hz s.2.1 []
 generalize φ1U s d s.2.1 []=R at hz' ⊢
 obtain ⟨L,c⟩:=R
 by_cases e:c=0
 ·subst e;rfl
 ·have:=hz' e
  simp only at this
  subst this
  simp[e]
theorem φDJ {hi hi':Int} (x:Int) (h1:hi≤hi') (h2:1≤x∧x≤hi'):∀(l:List Int) (p:Option Int),φ1X hi p l=true→(∀y∈l,y<x)→(∀q,p=some q→q<x)→φ1X hi' p (l++[x])=true
 | [],p,_,_,hp=>by
  cases p with
  | none=>simp[φ1X,h2]
  | some q=>simp[φ1X,h2,hp q rfl]
 | y::l,p,h,hl,_=>by
  simp only[φ1X,bA,decide_eq_true_eq] at h
  have ih:=φDJ x h1 h2 l (some y) h.2.2 (fun z hz=>hl z (mC _ hz)) (fun q hq=>by injection hq with hq;subst hq;exact hl y List.mem_cons_self)
  simp only[List.cons_append,φ1X,bA,decide_eq_true_eq]
  exact ⟨⟨h.1.1,by omega⟩,h.2.1,ih⟩
theorem φ3g {hi:Int}:∀(l:List Int) (p:Option Int),φ1X hi p l=true→∀y∈l,1≤y∧y≤hi
 | [],_,_,y,hy=>by simp at hy
 | x::l,p,h,y,hy=>by
  simp only[φ1X,bA,decide_eq_true_eq] at h
  rcases mc.1 hy with e | hy
  ·subst e;exact h.1
  ·exact φ3g l (some x) h.2.2 y hy
theorem φ12 (v:φS):φm v=true↔φ1X (w64 (v.1 - 1)) none v.2=true∧(1≤v.1∧v.1≤100000)∧1≤v.2.length∧v.2.length≤60:=by
 unfold φm
 simp only[bA,decide_eq_true_eq]
 constructor
 ·rintro ⟨h1,h2,h3⟩;exact ⟨h1,h2,by omega,by omega⟩
 ·rintro ⟨h1,h2,h3⟩;exact ⟨h1,h2,by omega,by omega⟩
theorem φBR {v:φS} (h:φm v=true) (h1:v.2.length<60) (h2:v.1<100000):φm (v.1+1,v.2++[v.1])=true:=by
 rw[φ12] at h ⊢
 obtain ⟨k1,k2,k3⟩:=h
 rw[φE (by omega) (by omega)] at k1
 have hm:=φ3g _ _ k1
 refine ⟨?_,by simp only;omega,by simp only[lA,lC,lN];omega⟩
 simp only
 rw[φE (by omega) (by omega)]
 exact φDJ v.1 (by omega) (by omega) v.2 none k1 (fun y hy=>by have:=hm y hy;omega) (fun q hq=>by cases hq)
def φh (names:List (List UInt8)) (w:φH):φH:=names.foldl (fun w n=>φI (φF n) w) w
def φ8z (names:List (List UInt8)) (w:φH):φH:=names.foldl (fun w n=>φ18 (φF n) w) w
theorem φN2 (names:List (List UInt8)):∀w:φH,φ8z names (φC w)=φC (φh names w):=by
 induction names with
 | nil=>intro w;rfl
 | cons n l ih=>
  intro w
  show φ8z l (φ18 (φF n) (φC w))=φC (φh l (φI (φF n) w))
  rw[φ3C,ih]
theorem φ9O (names:List (List UInt8)) {d:φ1} {c:Int} (h:c≠0):φh names (d,c)=(d,c):=by
 induction names with
 | nil=>rfl
 | cons n l ih=>show φh l (φI (φF n) (d,c))=_;rw[φ2E h,ih]
theorem φ4c (names:List (List UInt8)):∀{w:φH},φ5 w.1=true→φ5 (φh names w).1=true:=by
 induction names with
 | nil=>intro w h;exact h
 | cons n l ih=>intro w h;exact ih (φ1e (op:=φF n) h fun k=>φ2U k n)
def φ1c (names:List (List UInt8)) (w:φH):φH:=
 if w.2=2 then (if (φC (φh names (w.1,0))).2=0 then ((φC (φh names (w.1,0))).1,2) else φC (φh names (w.1,0))) else w
theorem φGX (names:List (List UInt8)) {w:φH} (h:φ5 w.1=true):φ5 (φ1c names w).1=true:=by
 have:=φ4c names (w:=(w.1,0)) h
 unfold φ1c;split
 ·split
  ·exact this
  ·exact this
 ·exact h
theorem φFY (w:φH) (names:List (List UInt8)) (h:φ5 w.1=true) (hn:names.length<1000):ψ1r.f w names=some (φ1c names w):=by
 unfold ψ1r.f φ1c
 by_cases c:w.2=2
 rotate_left
 ·have c1:(w.2 != 2)=true:=by simpa using c
  simp[c,c1]
 have key:=φ2I (step:=ψ1r.l0) names (fun (w:φH) n=>φ18 (φF n) w) (fun n (a:φH)=>((([],w.1.2),w.2),a,names,(names.length:Int),(n:Int))) (fun a=>((([],w.1.2),w.2),a)) (fun _ a=>φ5 a.1=true) (by omega)
  (fun rec n a h1 ha=>by
   have hw:=φJ (show n+1<9223372036854775808 by omega)
   simp only[ψ1r.l0,oL,h1,dT,cT,φD,φG,φ8 h1,φ5R a names[n] (φu ha) (by omega),bS,hw])
  (fun n a h1 ha=>φ9b (op:=φF names[n]) ha fun k=>φ2U k _)
  (fun rec a ha=>by simp[ψ1r.l0])
  (w.1,0) h
 have key:lp ψ1r.l0 ((([],w.1.2),w.2),(w.1,0),names,(names.length:Int),0)=some ((([],w.1.2),w.2),φ8z names (w.1,0)):=key
 have e:φ8z names (w.1,0)=φC (φh names (w.1,0)):=φN2 names (w.1,0)
 have c1:(w.2 != 2)=false:=by simpa using c
 rw[c1,cF,key,bS,e]
 generalize φC (φh names (w.1,0))=r
 obtain ⟨x,k⟩:=r
 by_cases c2:k=0
 ·subst c2;simp[c]
 ·have c3:(k != 0)=true:=by simpa using c2
  simp[c,c2,c3]
theorem φ7d (d:φ1) (names:List (List UInt8)) (h:φ5 d=true) (hn:names.length<1000):ψ3R.f d names=some (φh names (d,0)):=by
 have key:=φe (step:=ψ3R.l0) (fun n (a:φ1)=>(names,a,([],0,0,false),(n:Int))) names.length (fun n a=>if (φh (names.drop n) (a,0)).2=0 then .inl ((φh (names.drop n) (a,0)).1,([],0,0,false)) else .inr (φh (names.drop n) (a,0))) (fun _ a=>φ5 a=true)
  (fun rec n a hn' ha ih=>by
   rcases Nat.lt_or_ge n names.length with h1 | h1
   ·have hw:=φJ (show n+1<9223372036854775808 by omega)
    have hd:=φ1J (φu ha) (by omega)
    rw[dG h1]
    have es:φh (names[n]::names.drop (n+1)) (a,0)=φh (names.drop (n+1)) (φF names[n] a):=by
     show φh _ (φI (φF names[n]) (a,0))=_;rw[φ1v]
    simp only[es,ψ3R.l0,oL,h1,dT,cT,φD,φG,φ8 h1,φ4B a names[n] (by have:=hd.1;omega),bS,hw]
    by_cases c2:φ1b a.1 names[n]≥0
    ·have c3:¬φ1b a.1 names[n]<0:=by omega
     have e:φF names[n] a=φ20 names[n] a:=by unfold φF;simp[c2]
     have er:ψ2t.f a names[n]=some (φ20 names[n] a):=φ9V a names[n] hd
     have hk:=φ8o ha names[n]
     rw[e]
     simp only[c3,dF,cF,er,bS]
     generalize φ20 names[n] a=r at *
     obtain ⟨x,c⟩:=r
     by_cases c4:c=0
     ·subst c4
      simp only[bne_self_eq_false,cF,bS,φX,hw,ih x h1 hk]
     ·have c5:(c != 0)=true:=by simpa using c4
      simp only[c5,cT,bS,φd,φ9O _ c4,c4,if_false]
    ·have c3:φ1b a.1 names[n]<0:=by omega
     have e:φF names[n] a=(a,0):=by unfold φF;simp[c2]
     rw[e]
     simp only[c3,dT,cT,bS,φX,hw,ih a h1 ha]
   ·have:n=names.length:=by omega
    subst this
    simp[ψ3R.l0,φh])
  (by omega) 0 d (Nat.zero_le _) h
 have key:lp ψ3R.l0 (names,d,([],0,0,false),0)=_:=key
 unfold ψ3R.f
 rw[key,bS,List.drop_zero]
 generalize φh names (d,0)=r
 obtain ⟨x,c⟩:=r
 by_cases c4:c=0
 ·subst c4;rfl
 ·simp only[c4,if_false,φd]
def φL (l:List Int):Int:=l.getD (l.length - 1) 0
def actN (s:φA):List UInt8:=φ0 (φL s.1.2)
theorem φ6y {l:List Int} (h:1≤l.length) (hl:l.length<2 ^ 62):w64 ((l.length:Int) - 1)=((l.length - 1:Nat):Int)∧inB ((l.length - 1:Nat):Int) l.length=true∧rdA 0 l ((l.length - 1:Nat):Int)=φL l:=by
 refine ⟨by rw[φE (by omega) (by omega)];omega,?_,?_⟩
 ·rw[φD];simp;omega
 ·rw[φG];rfl
theorem φBg (s:φA) (h:1≤s.1.2.length) (hl:s.1.2.length<2 ^ 62):ψy.f s=some (actN s,s):=by
 obtain ⟨e1,e2,e3⟩:=φ6y h hl
 unfold ψy.f actN
 simp only[e1,e2,e3,cT,φ44,bS]
theorem φ9X (s:φA) (h:1≤s.1.2.length) (hl:s.1.2.length<2 ^ 62):ψ3K.f s=some (actN s):=by
 obtain ⟨e1,e2,e3⟩:=φ6y h hl
 unfold ψ3K.f actN
 simp only[e1,e2,e3,cT,φ2L,bS]
theorem lim8 {a:Nat} (h:a<1000000000001):(a+1) * 8≤140737488355328:=by omega
theorem φ8W {a:Nat} (h:a<1000000000001):(0+a) * 8≤140737488355328:=by omega
theorem φ8O {a:Nat} (h:a<1000000000001):(0+a) * 48≤140737488355328:=by omega
theorem φEd (v:φS) (h:v.2.length<1000000000):ψ1G.f v=some v:=by
 unfold ψ1G.f
 have:(([]:List Int).length+v.2.length) * 8≤140737488355328:=φ8W (by omega)
 simp only[this,dT,cT,List.nil_append]
theorem φE6 (v:List φ9) (h:v.length<1000000000):ψ1D.f v=some v:=by
 unfold ψ1D.f
 have:(([]:List φ9).length+v.length) * 48≤140737488355328:=φ8O (by omega)
 simp only[this,dT,cT,List.nil_append]
theorem φ9m (s:φA) (h1:s.1.2.length<1000000000) (h2:s.2.1.length<1000000000):ψ1I.f s=some s:=by
 unfold ψ1I.f
 rw[φEd _ h1,bS,φE6 _ h2];rfl
theorem φ9h (s:φA) (h1:s.1.2.length<1000000000) (h2:s.2.1.length<1000000000):ψ3O.f s=some s:=by
 unfold ψ3O.f
 have k1:(([]:List Int).length+s.1.2.length) * 8≤140737488355328:=φ8W (by omega)
 have k2:(([]:List φ9).length+s.2.1.length) * 48≤140737488355328:=φ8O (by omega)
 simp only[k1,k2,dT,cT,List.nil_append]
def rotP (s:φA) (d:φ1):φA×φ1×Int:=
 if 60≤s.1.2.length∨100000≤s.1.1 then (s,d,5) else
 if (φN (actN s) d).2≠0 then (s,(φN (actN s) d).1,told (φN (actN s) d).2) else
 let w2:=φI (φa (φ0 s.1.1)) (φF (φ0 s.1.1) (φN (actN s) d).1)
 if w2.2≠0 then (((s.1.1+1,s.1.2),s.2),w2.1,told w2.2) else
 let w3:=φC (sPut (s.1.1+1,s.1.2++[s.1.1]) (w2.1,0))
 if w3.2≠0 then (((s.1.1+1,s.1.2),s.2),φ1c [[116,101,109,112],φ0 s.1.1] w3) else
 (((s.1.1+1,s.1.2++[s.1.1]),s.2.1,s.2.2.1,0,s.2.2.2.2),w3.1,0)
theorem φ5Z (c:Int):(told c != 0)=(c != 0):=by
 by_cases h:c=0
 ·subst h;rfl
 ·have h2:told c≠0:=fun e=>h ((φ1L c).1 e)
  rw[show (told c != 0)=true by simpa using h2,show (c != 0)=true by simpa using h]
theorem φJj (s:φA) (d:φ1) (h:φ5 d=true) (hv:φm s.1=true):ψ12.f s (d,0)=some (rotP s d):=by
 obtain ⟨k1,k2,k3,k4⟩:=(φ12 s.1).1 hv
 unfold ψ12.f rotP
 by_cases c1:60≤s.1.2.length
 ·have d1:(s.1.2.length:Int)≥60:=by omega
  simp[c1,d1]
 have d1:¬(s.1.2.length:Int)≥60:=by omega
 by_cases c2:100000≤s.1.1
 ·have d2:s.1.1≥100000:=c2
  simp[c1,c2,d1,d2]
 have d2:¬s.1.1≥100000:=c2
 have hs:=φ36 h (actN s)
 have hg:=φ2U hs (φ0 s.1.1)
 have hc:φ5 (φI (φa (φ0 s.1.1)) (φF (φ0 s.1.1) (φN (actN s) d).1)).1=true:=φ1e (op:=φa _) hg fun k=>φ34 k _
 have hn:=φ4A s.1.1
 simp only[c1,c2,d1,d2,dF,cF,or_self,if_false,φBg s k3 (by omega),bS,φ86 (d,0) (actN s) (φu h) (by omega)]
 rw[show φ18 (φN (actN s)) (d,0)=φC (φN (actN s) d) by unfold φ18;simp;rfl]
 generalize φN (actN s) d=r1 at *
 obtain ⟨x1,q1⟩:=r1
 show (bif told q1 != 0 then _ else _)=_
 rw[φ5Z]
 by_cases c3:q1=0
 rotate_left
 ·have d3:(q1 != 0)=true:=by simpa using c3
  simp only[d3,cT,c3,ne_eq,not_false_eq_true,if_true];rfl
 subst c3
 have e2:ψ1q.f (φC (x1,0)) (φ0 s.1.1)=some (φC (φI (φa (φ0 s.1.1)) (φF (φ0 s.1.1) x1))):=by
  unfold ψ1q.f
  have g1:φ5 (φ18 (φF (φ0 s.1.1)) (φC (x1,0))).1=true:=φ9b (op:=φF _) hs fun k=>φ2U k _
  rw[φ5R (φC (x1,0)) _ (φu hs) (by omega),bS,φ9r _ _ (φu g1) (by omega) (by omega),bS,φ3C,φ3C,φ1v]
 simp only[bne_self_eq_false,cF,ne_eq,not_true_eq_false,if_false,φ44,bS,e2]
 generalize φI (φa (φ0 s.1.1)) (φF (φ0 s.1.1) x1)=r2 at *
 obtain ⟨x2,q2⟩:=r2
 show (bif told q2 != 0 then _ else _)=_
 rw[φ5Z,show w64 (s.1.1+1)=s.1.1+1 from φE (by omega) (by omega)]
 by_cases c4:q2=0
 rotate_left
 ·have d3:(q2 != 0)=true:=by simpa using c4
  simp only[d3,cT,c4,not_false_eq_true,if_true];rfl
 subst c4
 have hp:φ5 (φC (sPut (s.1.1+1,s.1.2++[s.1.1]) (x2,0))).1=true:=φ3r (w:=(x2,0)) hc _
 have e3:ψ20.f (φC (x2,0)) (s.1.1+1,s.1.2++[s.1.1])=some (φC (sPut (s.1.1+1,s.1.2++[s.1.1]) (x2,0))):=by
  rw[φCF (φC (x2,0)) (s.1.1+1,s.1.2++[s.1.1]) (φu hc) (by omega) (by simp only[lA,lC,lN];omega),φDv]
 have hb:(s.1.2.length+[s.1.1].length) * 8≤140737488355328:=lim8 (by omega)
 simp only[bne_self_eq_false,cF,not_true_eq_false,if_false,φEd (s.1.1+1,s.1.2) (show s.1.2.length<1000000000 by omega),bS,hb,dT,cT,e3]
 generalize φC (sPut (s.1.1+1,s.1.2++[s.1.1]) (x2,0))=r3 at *
 obtain ⟨x3,q3⟩:=r3
 by_cases c5:q3=0
 ·subst c5
  simp only[bne_self_eq_false,cF,not_true_eq_false,if_false]
 ·have d5:(q3 != 0)=true:=by simpa using c5
  simp only[d5,cT,c5,not_false_eq_true,if_true,φFY (x3,q3) [[116,101,109,112],φ0 s.1.1] hp (by simp),bS]
theorem φMI (s:φA) (d:φ1) (h:φ5 d=true) (hv:φm s.1=true):ψ3P.f s d=some (rotP s d):=by
 obtain ⟨k1,k2,k3,k4⟩:=(φ12 s.1).1 hv
 unfold ψ3P.f rotP
 by_cases c1:60≤s.1.2.length
 ·have d1:(s.1.2.length:Int)≥60:=by omega
  simp[c1,d1]
 have d1:¬(s.1.2.length:Int)≥60:=by omega
 by_cases c2:100000≤s.1.1
 ·have d2:s.1.1≥100000:=c2
  simp[c1,c2,d1,d2]
 have d2:¬s.1.1≥100000:=c2
 have hm:=φBR hv (by omega) (by omega)
 have hs:=φ36 h (actN s)
 have hg:=φ2U hs (φ0 s.1.1)
 have hc:φ5 (φI (φa (φ0 s.1.1)) (φF (φ0 s.1.1) (φN (actN s) d).1)).1=true:=φ1e (op:=φa _) hg fun k=>φ34 k _
 have hn:=φ4A s.1.1
 have es:ψ34.f d (actN s)=some (φN (actN s) d):=φ6w d (actN s) (φ1J (φu h) (by omega))
 simp only[c1,c2,d1,d2,dF,cF,or_self,if_false,φ9X s k3 (by omega),bS,es]
 generalize φN (actN s) d=r1 at *
 obtain ⟨x1,q1⟩:=r1
 by_cases c3:q1=0
 rotate_left
 ·have d3:(q1 != 0)=true:=by simpa using c3
  simp only[d3,cT,c3,ne_eq,not_false_eq_true,if_true,φ2S,bS]
 subst c3
 simp only[bne_self_eq_false,cF,ne_eq,not_true_eq_false,if_false,φ2L,bS,φBN x1 (φ0 s.1.1) (φu hs) (by omega) (by omega)]
 generalize φI (φa (φ0 s.1.1)) (φF (φ0 s.1.1) x1)=r2 at *
 obtain ⟨x2,q2⟩:=r2
 rw[show w64 (s.1.1+1)=s.1.1+1 from φE (by omega) (by omega)]
 by_cases c4:q2=0
 rotate_left
 ·have d3:(q2 != 0)=true:=by simpa using c4
  simp only[d3,cT,c4,not_false_eq_true,if_true,φ2S,bS]
 subst c4
 have hp:φ5 (φC (sPut (s.1.1+1,s.1.2++[s.1.1]) (x2,0))).1=true:=φ3r (w:=(x2,0)) hc _
 have e3:ψ2i.f x2 (s.1.1+1,s.1.2++[s.1.1])=some (φC (sPut (s.1.1+1,s.1.2++[s.1.1]) (x2,0))):=by
  rw[φBk _ _ (φu hc) (by omega) (by simp only[lA,lC,lN];omega)]
  unfold φ6m
  rw[if_neg (by rw[hm,show φ5 x2=true from hc];simp)]
 have hb:(s.1.2.length+[s.1.1].length) * 8≤140737488355328:=lim8 (by omega)
 have hb0:(([]:List Int).length+s.1.2.length) * 8≤140737488355328:=φ8W (by omega)
 simp only[bne_self_eq_false,cF,not_true_eq_false,if_false,hb0,List.nil_append,bS,hb,dT,cT,e3]
 generalize φC (sPut (s.1.1+1,s.1.2++[s.1.1]) (x2,0))=r3 at *
 obtain ⟨x3,q3⟩:=r3
 by_cases c5:q3=0
 ·subst c5
  simp only[show ((0:Int)==2)=false from rfl,bne_self_eq_false,cF,not_true_eq_false,if_false]
 ·have d5:(q3 != 0)=true:=by simpa using c5
  unfold φ1c
  by_cases c6:q3=2
  ·have d6:(q3==2)=true:=by simpa using c6
   simp only[c6,if_true,show ((2:Int)==2)=true from rfl,cT,φ7d x3 [[116,101,109,112],φ0 s.1.1] hp (by simp),bS,φ2S,show ¬(2:Int)=0 by decide,not_false_eq_true]
   generalize φh [[116,101,109,112],φ0 s.1.1] (x3,0)=r4
   obtain ⟨x4,q4⟩:=r4
   by_cases c7:q4=0
   ·subst c7;rfl
   ·have d7:(q4 != 0)=true:=by simpa using c7
    have c8:¬told q4=0:=fun e=>c7 ((φ1L q4).1 e)
    show _=some (_,if told q4=0 then _ else _)
    rw[if_neg c8]
    simp only[d7,cT];rfl
  ·have d6:(q3==2)=false:=by simpa using c6
   simp only[d6,d5,cF,cT,c5,c6,not_false_eq_true,if_true,if_false]
theorem φ56 {s:φA} {d:φ1} (h:φo s d=true):φ5 d=true∧φm s.1=true∧φ1i s.2.1=true∧(1≤s.2.2.1∧s.2.2.1≤1000001)∧φ1W d s.2.2.2.1 s.1.2=true:=by
 unfold φo at h
 simp only[bA,decide_eq_true_eq] at h
 exact ⟨h.1,h.2.1,h.2.2.1,h.2.2.2.1,h.2.2.2.2.1⟩
theorem φ8h {s:φA} {d:φ1} (h:φ5 d=true) (hv:φm s.1=true):φ5 (rotP s d).2.1=true∧(rotP s d).1.1.2.length≤s.1.2.length+1∧(rotP s d).1.2.1=s.2.1∧(rotP s d).1.2.2.1=s.2.2.1 ∧
  (((rotP s d).2.2=0→φm (rotP s d).1.1=true))∧((rotP s d).1.2.2.2.1=s.2.2.2.1∨(rotP s d).1.2.2.2.1=0):=by
 have hs:=φ36 h (actN s)
 have hc:φ5 (φI (φa (φ0 s.1.1)) (φF (φ0 s.1.1) (φN (actN s) d).1)).1=true:=φ1e (op:=φa _) (φ2U hs _) fun k=>φ34 k _
 unfold rotP
 split
 ·exact ⟨h,Nat.le_succ _,rfl,rfl,fun e=>absurd e (by simp),.inl rfl⟩
 rename_i c1
 split
 ·rename_i c2
  exact ⟨hs,Nat.le_succ _,rfl,rfl,fun e=>absurd ((φ1L _).1 e) c2,.inl rfl⟩
 simp only
 split
 ·rename_i c2
  exact ⟨hc,Nat.le_succ _,rfl,rfl,fun e=>absurd ((φ1L _).1 e) c2,.inl rfl⟩
 have hp:=φ3r (w:=((φI (φa (φ0 s.1.1)) (φF (φ0 s.1.1) (φN (actN s) d).1)).1,0)) hc (s.1.1+1,s.1.2++[s.1.1])
 split
 ·rename_i c3
  refine ⟨φGX _ hp,Nat.le_succ _,rfl,rfl,fun e=>?_,.inl rfl⟩
  exfalso
  revert e
  unfold φ1c
  split
  ·split
   ·simp
   ·rename_i c4;exact c4
  ·exact c3
 ·refine ⟨hp,by simp,rfl,rfl,fun _=>φBR hv (by omega) (by omega),.inr rfl⟩
theorem φ3K {a:Nat} (h:a<1000000000001):(a+1) * 48≤140737488355328:=by omega
theorem φEu (l:List φ9) (key:List UInt8) (hl:l.length<1000000000):ψ7.f l key=some (φZ l key):=by
 have hk:=φ2I (step:=ψ7.l0) l (fun s x=>if (!(x.1==key))=true then s++[x] else s) (fun n (s:List φ9)=>(key,s,l,(l.length:Int),(n:Int))) id (fun n s=>s.length≤n) (by omega)
  (fun rec n s h hi=>by
   have hb:(s.length+([(l[n].1,l[n].2.1,l[n].2.2.1,l[n].2.2.2.1,l[n].2.2.2.2)]:List φ9).length) * 48≤140737488355328:=φ3K (by omega)
   have hw:=φJ (show n+1<9223372036854775808 by omega)
   simp only[ψ7.l0,oL,h,dT,cT,φD,φG,φ8 h,hb]
   cases l[n].1==key<;>simp only[nZ,nF,cT,cF,bS,hw,if_true,if_false,Bool.false_eq_true])
  (fun n s h hi=>by
   have:∀b:Bool,(if b=true then s++[l[n]] else s).length≤n+1:=fun b=>by cases b<;>simp<;>omega
   exact this _)
  (fun rec s hi=>by simp[ψ7.l0]) [] (by simp)
 have hk:lp ψ7.l0 (key,[],l,(l.length:Int),0)=_:=hk
 unfold ψ7.f
 rw[hk,φAR];rfl
theorem φEs (l:List φ9) (key:List UInt8) (hl:l.length<1000000000):ψ2F.f l key=some (φZ l key):=by
 have hk:=φ2I (step:=ψ2F.l0) l (fun s x=>if (!(x.1==key))=true then s++[x] else s) (fun n (s:List φ9)=>(l,key,s,(n:Int))) id (fun n s=>s.length≤n) (by omega)
  (fun rec n s h hi=>by
   have hb:(s.length+([(l[n].1,l[n].2.1,l[n].2.2.1,l[n].2.2.2.1,l[n].2.2.2.2)]:List φ9).length) * 48≤140737488355328:=φ3K (by omega)
   have hw:=φJ (show n+1<9223372036854775808 by omega)
   simp only[ψ2F.l0,oL,h,dT,cT,φD,φG,φ8 h,hb]
   cases l[n].1==key<;>simp only[nZ,nF,cT,cF,bS,hw,if_true,if_false,Bool.false_eq_true])
  (fun n s h hi=>by
   have:∀b:Bool,(if b=true then s++[l[n]] else s).length≤n+1:=fun b=>by cases b<;>simp<;>omega
   exact this _)
  (fun rec s hi=>by simp[ψ2F.l0]) [] (by simp)
 have hk:lp ψ2F.l0 (l,key,[],0)=_:=hk
 unfold ψ2F.f
 rw[hk,φAR];rfl
theorem φJR (rest:List φ9) (p:φ9) (hl:rest.length<2 ^ 62) :
  lp ψB.l0 (p,rest,0)=some (p,rest,((rest.takeWhile fun x=>leK x.1 p.1).length:Int)):=by
 have key:=φe (step:=ψB.l0) (fun n (_:Unit)=>(p,rest,(n:Int))) rest.length (fun n _=>(p,rest,((n+((rest.drop n).takeWhile fun x=>leK x.1 p.1).length:Nat):Int))) (fun _ _=>True)
  (fun rec n s hn _ ih=>by
   rcases Nat.lt_or_ge n rest.length with h | h
   ·rw[φF5 _ _ _ h]
    simp only[ψB.l0,oL,h,dT,cT,φD,φG,φ8 h,φJ (show n+1<9223372036854775808 by omega)]
    show (bif leK rest[n].1 p.1 then _ else _)=_
    cases leK rest[n].1 p.1
    ·simp
    ·simp only[cT,if_true]
     rw[ih () h trivial]
     congr 4;omega
   ·have:n=rest.length:=by omega
    subst this
    simp[ψB.l0])
  hl 0 () (Nat.zero_le _) trivial
 simpa using key
theorem φN0 (l:List φ9) (e:φ9) (hl:l.length<1000000000):ψB.f l e=some (insB (φZ l e.1) e):=by
 have hd:=φ6s l e.1
 have htw:((φZ l e.1).takeWhile fun x=>leK x.1 e.1).length≤(φZ l e.1).length:=(List.takeWhile_sublist _).length_le
 unfold ψB.f
 rw[φEu l e.1 hl,bS,φJR _ _ (by omega),bS]
 generalize hk:((φZ l e.1).takeWhile fun x=>leK x.1 e.1).length=k at *
 have c1:(0:Int)≤(k:Int):=by omega
 have c2:(k:Int)≤((φZ l e.1).length:Int):=by omega
 have c3:(List.take k (φZ l e.1)).length<1000000000:=by simp;omega
 have c4:((List.take k (φZ l e.1)).length+[e].length) * 48≤140737488355328:=φ3K (by omega)
 have c5:((List.take k (φZ l e.1)++[e]).length+(List.drop k (φZ l e.1)).length) * 48≤140737488355328:=by simp;omega
 have hins:insB (φZ l e.1) e=List.take k (φZ l e.1)++[e]++List.drop k (φZ l e.1):=by
  unfold insB;simp only[hk]
 simp only[c1,c2,dT,Bool.and_self,cT,tN,φE6 _ c3,bS,c4,c5,hins]
def setG {α:Type} (p:List UInt8×α) (s:List (List UInt8×α)×Bool) (x:List UInt8×α):List (List UInt8×α)×Bool:=
 if (x.1==p.1)=true then s else if s.2=false∧leK x.1 p.1=false then (s.1++[p]++[x],true) else (s.1++[x],s.2)
theorem φFa {α:Type} (p:List UInt8×α) (s:List (List UInt8×α)×Bool) (x:List UInt8×α):(setG p s x).1.length≤s.1.length+2:=by
 unfold setG;split
 ·omega
 ·split<;>simp<;>omega
theorem φAQ {α:Type} (p:List UInt8×α):∀(l out:List (List UInt8×α)),l.foldl (setG p) (out,true)=(out++φZ l p.1,true)
 | [],out=>by simp[φZ]
 | x::l,out=>by
  rw[List.foldl_cons]
  by_cases h:(x.1==p.1)=true
  ·have e1:setG p (out,true) x=(out,true):=by unfold setG;rw[if_pos h]
   rw[e1,φAQ p l]
   simp[φZ,h]
  ·have e1:setG p (out,true) x=(out++[x],true):=by unfold setG;rw[if_neg h,if_neg (by simp)]
   rw[e1,φAQ p l]
   simp[φZ,h]
theorem φAx {α:Type} (p:List UInt8×α):∀(l out:List (List UInt8×α)),(let s:=l.foldl (setG p) (out,false);if s.2=true then s.1 else s.1++[p])=out++insB (φZ l p.1) p
 | [],out=>by simp[φZ,insB]
 | x::l,out=>by
  rw[List.foldl_cons]
  by_cases h:(x.1==p.1)=true
  ·have e1:setG p (out,false) x=(out,false):=by unfold setG;rw[if_pos h]
   have e2:φZ (x::l) p.1=φZ l p.1:=by simp[φZ,h]
   rw[e1,e2];exact φAx p l out
  ·have e2:φZ (x::l) p.1=x::φZ l p.1:=by simp[φZ,h]
   rw[e2]
   cases hk:leK x.1 p.1
   ·have e1:setG p (out,false) x=(out++[p]++[x],true):=by unfold setG;rw[if_neg h,if_pos ⟨rfl,hk⟩]
    rw[e1,φAQ]
    simp[insB,hk]
   ·have e1:setG p (out,false) x=(out++[x],false):=by unfold setG;rw[if_neg h,if_neg (by simp[hk])]
    rw[e1,φAx p l (out++[x])]
    simp[insB,hk]
theorem φE0 (l:List φ9) (p:φ9) (hl:l.length<1000000000):ψ2J.f l p=some (insB (φZ l p.1) p):=by
 have hk:=φ2I (step:=ψ2J.l0) l (setG p) (fun n (s:List φ9×Bool)=>(l,p,s.1,s.2,(n:Int))) (fun s=>(p,s.1,s.2)) (fun n s=>s.1.length≤2 * n) (by omega)
  (fun rec n s h hi=>by
   have hi:s.1.length≤2 * n:=hi
   have hq:s.1.length<1000000000000:=by omega
   have hb1:(s.1.length+[p].length) * 48≤140737488355328:=φ3K (Nat.lt_succ_of_lt hq)
   have hb2:(s.1.length+([(l[n].1,l[n].2.1,l[n].2.2.1,l[n].2.2.2.1,l[n].2.2.2.2)]:List φ9).length) * 48≤140737488355328:=φ3K (Nat.lt_succ_of_lt hq)
   have hb3:((s.1++[p]).length+([(l[n].1,l[n].2.1,l[n].2.2.1,l[n].2.2.2.1,l[n].2.2.2.2)]:List φ9).length) * 48≤140737488355328:=by rw[lA];exact φ3K (Nat.succ_lt_succ hq)
   have hw:=φJ (show n+1<9223372036854775808 by omega)
   have hle:(Op.bytesLess l[n].1 p.1 || l[n].1==p.1)=leK l[n].1 p.1:=rfl
   simp only[ψ2J.l0,oL,h,dT,cT,φD,φG,φ8 h,hle]
   unfold setG
   rcases bE (l[n].1==p.1) with h1 | h1
   ·simp only[h1,cT,bS,hw,if_true]
   ·rcases bE s.2 with h2 | h2
    ·simp only[h1,h2,cF,nZ,bS,φD,φG,φ8 h,h,dT,cT,hb2,hw,Bool.false_eq_true,Bool.true_eq_false,false_and,if_false]
    ·rcases bE (leK l[n].1 p.1) with h3 | h3
     ·simp only[h1,h2,h3,cF,nZ,nF,cT,bS,φD,φG,φ8 h,h,dT,hb2,hw,Bool.false_eq_true,Bool.true_eq_false,and_false,if_false]
     ·simp only[h1,h2,h3,cF,nZ,nF,cT,bS,φD,φG,φ8 h,h,dT,hb1,hb3,hw,Bool.false_eq_true,and_self,if_true,if_false])
  (fun n s h hi=>by have:=φFa p s l[n];have hi:s.1.length≤2 * n:=hi;show _≤2 * (n+1);omega)
  (fun rec s hi=>by simp[ψ2J.l0]) ([],false) (by simp)
 have hk:lp ψ2J.l0 (l,p,[],false,0)=_:=hk
 have hlen:∀(m:List φ9) (s:List φ9×Bool),(m.foldl (setG p) s).1.length≤s.1.length+2 * m.length:=by
  intro m
  induction m with
  | nil=>intro s;simp
  | cons x m ih=>intro s;rw[List.foldl_cons];have:=ih (setG p s x);have:=φFa p s x;simp only[lC];omega
 unfold ψ2J.f
 rw[hk,bS]
 have hf:=φAx p l []
 have hb:=hlen l ([],false)
 generalize l.foldl (setG p) ([],false)=s at *
 obtain ⟨s1,s2⟩:=s
 simp only[lN,Nat.zero_add] at hb
 have hb1:(s1.length+[p].length) * 48≤140737488355328:=φ3K (by omega)
 cases s2
 ·simp only[Bool.false_eq_true,if_false,List.nil_append] at hf ⊢
  simp only[nF,cT,hb1,dT,hf]
 ·simp only[if_true,List.nil_append] at hf
  simp[hf]
def φ22 (dir:List φ9) (x:PutT×φ9):List φ9:=if x.1.2.1=true then φZ dir x.1.1 else insB (φZ dir x.2.1) x.2
def dirW (dir:List φ9) (l:List (PutT×φ9)):List φ9:=l.foldl φ22 dir
theorem φ9u (dir:List φ9) (x:PutT×φ9):(φ22 dir x).length≤dir.length+1:=by
 unfold φ22;split
 ·have:=φ6s dir x.1.1;omega
 ·rw[φ6T];have:=φ6s dir x.2.1;omega
theorem φBz (step:((List φ9×List φ9×List PutT×Int×Int)→Option (List φ9))→(List φ9×List φ9×List PutT×Int×Int)→Option (List φ9)) (hst:step=ψ1L.l0) (dir:List φ9) (l:List PutT) (es:List φ9) (h1:l.length≤es.length) (hd:dir.length<100000000) (hl:l.length<100000000) :
  lp step (dir,es,l,(l.length:Int),0)=some (dirW dir (l.zip es)):=by
 subst hst
 have hz:(l.zip es).length=l.length:=by rw[List.length_zip];omega
 have key:=φ2I (step:=ψ1L.l0) (l.zip es) φ22 (fun n (s:List φ9)=>(s,es,l,(l.length:Int),(n:Int))) id (fun n s=>s.length≤dir.length+n) (by omega)
  (fun rec n s h hi=>by
   have hn:n<l.length:=by omega
   have hn2:n<es.length:=by omega
   have hw:=φJ (show n+1<9223372036854775808 by omega)
   simp only[ψ1L.l0,oL,hn,hn2,dT,cT,φD,φG,φ8 hn,φ8 hn2,φEu s l[n].1 (by omega),φN0 s es[n] (by omega),bS,List.getElem_zip]
   unfold φ22
   simp only
   cases l[n].2.1
   ·simp only[cF,bS,hw,Bool.false_eq_true,if_false]
   ·simp only[cT,bS,hw,if_true])
  (fun n s h hi=>by have:=φ9u s (l.zip es)[n];have hi:s.length≤dir.length+n:=hi;show _≤_;omega)
  (fun rec s hi=>by simp only[hz,ψ1L.l0];simp)
  dir (by simp)
 exact key
theorem φMK (dir:List φ9) (l:List PutT) (es:List φ9) (h1:l.length≤es.length) (hd:dir.length<100000000) (hl:l.length<100000000):ψ1L.f dir l es=some (dirW dir (l.zip es)):=by
 unfold ψ1L.f
 rw[φBz _ rfl dir l es h1 hd hl];rfl
theorem φH4 (dir:List φ9) (l:List PutT) (es:List φ9) (h1:l.length≤es.length) (hd:dir.length<100000000) (hl:l.length<100000000):ψ1M.f dir l es=some (dirW dir (l.zip es)):=by
 unfold ψ1M.f
 rw[φBz ψ1M.l0 rfl dir l es h1 hd hl];rfl
def φ41 (p:PutT):φ9:=(p.1,0,0,0,0)
def φ35 (dir:List φ9) (l:List PutT):Nat:=(dirW dir (l.zip (l.map φ41))).length
theorem φHY (dir:List φ9) (l:List PutT) (hd:dir.length<100000000) (hl:l.length<100000000):ψ1T.f dir l=some (φ35 dir l:Int):=by
 have key:=φe (step:=ψ1T.l0) (fun n (acc:List φ9)=>(dir,l,acc,l,(l.length:Int),(n:Int))) l.length (fun n acc=>(dir,l,acc++(l.drop n).map φ41)) (fun n acc=>acc.length=n)
  (fun rec n acc hn ha ih=>by
   rcases Nat.lt_or_ge n l.length with h | h
   ·have hw:=φJ (show n+1<9223372036854775808 by omega)
    have hb:∀{α:Type} (x:α),decide ((acc.length+[x].length) * 48≤140737488355328)=true:=fun x=>decide_eq_true (φ3K (by omega))
    have ih:=ih (acc++[(l[n].1,0,0,0,0)]) h (by rw[lA,ha];rfl)
    simp only[ψ1T.l0,oL,h,dT,cT,φD,φG,φ8 h]
    simp only[hb,cT,hw,ih]
    rw[dG h,List.map_cons,aA];rfl
   ·have:n=l.length:=by omega
    subst this
    simp[ψ1T.l0])
  (by omega) 0 [] (Nat.zero_le _) rfl
 have key:lp ψ1T.l0 (dir,l,[],l,(l.length:Int),0)=_:=key
 unfold ψ1T.f φ35
 rw[key,bS,List.drop_zero,List.nil_append]
 simp only
 rw[φMK dir l _ (by rw[lM];exact Nat.le_refl _) hd hl];rfl
theorem φL7 (l:List PutT):l.zip (l.map φ41)=l.map fun p=>(p,φ41 p):=by
 induction l with
 | nil=>rfl
 | cons x l ih=>simp[ih]
theorem φMg (dir:List φ9) (l:List PutT) (hd:dir.length<100000000) (hl:l.length<100000000):ψ3M.f dir l=some (φ35 dir l:Int):=by
 have key:=φ2I (step:=ψ3M.l0) l (fun s p=>φ22 s (p,φ41 p)) (fun n (s:List φ9)=>(s,l,(n:Int))) id (fun n s=>s.length≤dir.length+n) (by omega)
  (fun rec n s h hi=>by
   have hi:s.length≤dir.length+n:=hi
   have hw:=φJ (show n+1<9223372036854775808 by omega)
   simp only[ψ3M.l0,oL,h,dT,cT,φD,φG,φ8 h,φEs s l[n].1 (by omega),bS]
   have e2:ψ2J.f s (l[n].1,0,0,0,0)=some (insB (φZ s l[n].1) (l[n].1,0,0,0,0)):=φE0 s (l[n].1,0,0,0,0) (by omega)
   simp only[e2,bS]
   unfold φ22 φ41
   simp only
   cases l[n].2.1
   ·simp only[cF,bS,hw,Bool.false_eq_true,if_false]
   ·simp only[cT,bS,hw,if_true])
  (fun n s h hi=>by have:=φ9u s (l[n],φ41 l[n]);have hi:s.length≤dir.length+n:=hi;show _≤_;omega)
  (fun rec s hi=>by simp[ψ3M.l0])
  dir (by simp)
 have key:lp ψ3M.l0 (dir,l,0)=_:=key
 unfold ψ3M.f φ35 dirW
 rw[key,bS,φL7,List.foldl_map];rfl
def φV (b:Int) (p:PutT):RecT:=if p.2.1=true then (2,b,p.1,[],0,0) else (1,b,p.1,p.2.2,0,0)
def φ2G (b:Int) (l:List PutT):List RecT:=l.map (φV b)++[(3,b,[],[],(l.length:Int),φ1I (l.map (φV b)))]
theorem φ5Q {a:Nat} (h:a<1000000000001):(a+1) * 64≤140737488355328:=by omega
theorem φGx (l:List PutT) (b:Int) (hl:l.length<100000000):ψ1b.f l b=some (φ2G b l):=by
 have key:=φe (step:=ψ1b.l0) (fun n (acc:List RecT)=>(l,b,acc,l,(l.length:Int),(n:Int))) l.length (fun n acc=>(l,b,acc++(l.drop n).map (φV b))) (fun n acc=>acc.length=n)
  (fun rec n acc hn ha ih=>by
   rcases Nat.lt_or_ge n l.length with h | h
   ·have hw:=φJ (show n+1<9223372036854775808 by omega)
    have hb:∀{α:Type} (x:α),decide ((acc.length+[x].length) * 64≤140737488355328)=true:=fun x=>decide_eq_true (φ5Q (by omega))
    have ih:=ih (acc++[φV b l[n]]) h (by rw[lA,ha];rfl)
    have e:acc++List.map (φV b) (List.drop n l)=acc++[φV b l[n]]++List.map (φV b) (List.drop (n+1) l):=by
     rw[dG h,List.map_cons,aA];rfl
    rw[e]
    simp only[ψ1b.l0,oL,h,dT,cT,φD,φG,φ8 h,hb]
    revert ih
    unfold φV
    cases l[n].2.1
    ·intro ih;simp only[Bool.false_eq_true,if_false] at ih ⊢;simp only[cF,bS,hw,ih]
    ·intro ih;simp only[if_true] at ih ⊢;simp only[cT,bS,hw,ih]
   ·have:n=l.length:=by omega
    subst this
    simp[ψ1b.l0])
  (by omega) 0 [] (Nat.zero_le _) rfl
 have key:lp ψ1b.l0 (l,b,[],l,(l.length:Int),0)=_:=key
 have hb:∀{α:Type} (x:α),decide (((l.map (φV b)).length+[x].length) * 64≤140737488355328)=true:=fun x=>decide_eq_true (φ5Q (by rw[lM];omega))
 unfold ψ1b.f φ2G
 rw[key,bS,List.drop_zero,List.nil_append]
 simp only[φBd (l.map (φV b)) (by rw[lM];omega),bS,hb,cT]
def addR (s:φA) (d:φ1) (t:List UInt8):φA×φ1×Int:=if s.2.2.2.1 > 0∧s.2.2.2.1+(t.length:Int) > 200 then rotP s d else (s,d,0)
def addP (s:φA) (d:φ1) (r:RecT):φA×φ1×Int×φ9:=
 let R:=addR s d (frame (φ7 r))
 if R.2.2≠0 then (R.1,R.2.1,R.2.2,([],0,0,0,0)) else
 let w:=φU (actN R.1) (frame (φ7 r)) R.2.1
 let e:φ9:=(r.2.2.1,φL R.1.1.2,R.1.2.2.2.1,((frame (φ7 r)).length:Int),r.2.1)
 if w.2≠0 then (R.1,w.1,told w.2,e) else ((R.1.1,R.1.2.1,R.1.2.2.1,R.1.2.2.2.1+((frame (φ7 r)).length:Int),R.1.2.2.2.2),w.1,0,e)
structure Good2 (k:Int) (s:φA) (d:φ1):Prop where
 dk:φ5 d=true
 lv:φm s.1=true
 s0:0≤s.2.2.2.1
 s1:s.2.2.2.1≤k
theorem φAJ {s:φA} {d:φ1} {k:Int} (h:Good2 k s d) (t:List UInt8):φ5 (addR s d t).2.1=true∧(addR s d t).1.1.2.length≤s.1.2.length+1∧(addR s d t).1.2.1=s.2.1∧((addR s d t).2.2=0→Good2 k (addR s d t).1 (addR s d t).2.1):=by
 unfold addR
 split
 ·obtain ⟨r1,r2,r3,r4,r5,r6⟩:=φ8h h.dk h.lv
  refine ⟨r1,r2,r3,fun e=>⟨r1,r5 e,?_,?_⟩⟩
  ·have:=h.s0;omega
  ·have:=h.s1;have:=h.s0;omega
 ·exact ⟨h.dk,Nat.le_succ _,rfl,fun _=>h⟩
theorem φ8y {s:φA} {d:φ1} {k:Int} (h:Good2 k s d) (r:RecT):φ5 (addP s d r).2.1=true∧(addP s d r).1.1.2.length≤s.1.2.length+1∧(addP s d r).1.2.1=s.2.1∧((addP s d r).2.2.1=0→Good2 (k+211) (addP s d r).1 (addP s d r).2.1):=by
 obtain ⟨q1,q2,q3,q4⟩:=φAJ h (frame (φ7 r))
 have hf:=φ4x (φ7 r)
 unfold addP
 generalize addR s d (frame (φ7 r))=R at *
 simp only
 split
 ·rename_i c;exact ⟨q1,q2,q3,fun e=>absurd e c⟩
 rename_i c
 have c:R.2.2=0:=by simpa using c
 have g:=q4 c
 have ha:=φ3d q1 (actN R.1) (frame (φ7 r))
 split
 ·rename_i c2;exact ⟨ha,q2,q3,fun e=>absurd ((φ1L _).1 e) c2⟩
 ·refine ⟨ha,q2,q3,fun _=>⟨ha,g.lv,?_,?_⟩⟩
  ·have:=g.s0;show 0≤R.1.2.2.2.1+_;omega
  ·have:=g.s1;show R.1.2.2.2.1+_≤_;omega
theorem φKC {s:φA} {d:φ1} {k:Int} (h:Good2 k s d) (hk:k≤1000000000000) (r:RecT):ψz.f s (d,0) r=some ((addP s d r).2.2.2,(addP s d r).1,((addP s d r).2.1,(addP s d r).2.2.1)):=by
 have h0:=h.s0
 have h1:=h.s1
 have hf:=φ4x (φ7 r)
 have hsr:=φ39 r
 obtain ⟨q1,q2,q3,q4⟩:=φAJ h (frame (φ7 r))
 have hw:w64 (s.2.2.2.1+((frame (φ7 r)).length:Int))=s.2.2.2.1+((frame (φ7 r)).length:Int):=φE (by omega) (by omega)
 have eR:(bif decide (s.2.2.2.1 > 0) then bif decide (s.2.2.2.1+((frame (φ7 r)).length:Int) > 200) then (ψ12.f s (d,0)).bind fun (t3_0,t3_1)=>some (t3_0,t3_1,r,(([],0,0,0,0):φ9),frame (φ7 r)) else some (s,(d,0),r,([],0,0,0,0),frame (φ7 r)) else some (s,(d,0),r,([],0,0,0,0),frame (φ7 r))) =
   some ((addR s d (frame (φ7 r))).1,((addR s d (frame (φ7 r))).2.1,(addR s d (frame (φ7 r))).2.2),r,([],0,0,0,0),frame (φ7 r)):=by
  unfold addR
  rw[φJj s d h.dk h.lv]
  by_cases c1:s.2.2.2.1 > 0
  ·by_cases c2:s.2.2.2.1+((frame (φ7 r)).length:Int) > 200
   ·simp only[c1,c2,dT,cT,and_self,if_true,bS]
   ·simp only[c1,c2,dT,dF,cT,cF,and_false,if_false]
  ·simp only[c1,dF,cF,false_and,if_false]
 unfold ψz.f addP
 simp only[φB9 r,φ8M (φ7 r) (show (φ7 r).length<2 ^ 62 by omega),bS,hw]
 rw[eR]
 generalize addR s d (frame (φ7 r))=R at *
 obtain ⟨S,D,c⟩:=R
 simp only[bS]
 by_cases c1:c=0
 rotate_left
 ·have d1:(c != 0)=true:=by simpa using c1
  simp only[d1,cT,c1,ne_eq,not_false_eq_true,if_true]
 subst c1
 have g:=q4 rfl
 have g0:0≤S.2.2.2.1:=g.s0
 have g1:S.2.2.2.1≤k:=g.s1
 have g2:φm S.1=true:=g.lv
 obtain ⟨k1,k2,k3,k4⟩:=(φ12 S.1).1 g2
 obtain ⟨l1,l2,l3⟩:=φ6y k3 (by omega)
 have hw2:w64 (S.2.2.2.1+((frame (φ7 r)).length:Int))=S.2.2.2.1+((frame (φ7 r)).length:Int):=φE (by omega) (by omega)
 simp only[bne_self_eq_false,cF,ne_eq,not_true_eq_false,if_false,l1,l2,l3,cT,φBg S k3 (by omega),bS,φBG (D,0) (actN S) (frame (φ7 r)) (φu q1) (by omega) (by omega)]
 rw[show φ18 (φU (actN S) (frame (φ7 r))) (D,0)=φC (φU (actN S) (frame (φ7 r)) D) by unfold φ18;simp;rfl]
 generalize φU (actN S) (frame (φ7 r)) D=w at *
 obtain ⟨x,c2⟩:=w
 by_cases c3:c2=0
 ·subst c3
  show (bif told 0==0 then _ else _)=_
  simp only[show (told 0==0)=true from rfl,cT,hw2,not_true_eq_false,if_false];rfl
 ·have c4:¬told c2=0:=fun e=>c3 ((φ1L c2).1 e)
  have d4:(told c2==0)=false:=by simpa using c4
  show (bif told c2==0 then _ else _)=_
  simp only[d4,cF,c3,not_false_eq_true,if_true];rfl
theorem φC2 {s:φA} {d:φ1} {k:Int} (h:Good2 k s d) (hk:k≤1000000000000) (r:RecT):∃p,ψ3L.f s d r=some ((addP s d r).1,(addP s d r).2.1,p,(addP s d r).2.2.1) ∧
  ((addP s d r).2.2.1=0→p=((addP s d r).2.2.2.2.1,(addP s d r).2.2.2.2.2.1,(addP s d r).2.2.2.2.2.2.1,r)∧(addP s d r).2.2.2.1=r.2.2.1∧(addP s d r).2.2.2.2.2.2.2=r.2.1):=by
 have h0:=h.s0
 have h1:=h.s1
 have hf:=φ4x (φ7 r)
 have hsr:=φ39 r
 obtain ⟨q1,q2,q3,q4⟩:=φAJ h (frame (φ7 r))
 have hw:w64 (s.2.2.2.1+((frame (φ7 r)).length:Int))=s.2.2.2.1+((frame (φ7 r)).length:Int):=φE (by omega) (by omega)
 unfold ψ3L.f addP
 simp only[φ6H r,φ7E (φ7 r) (show (φ7 r).length<2 ^ 62 by omega),bS,hw,φMI s d h.dk h.lv]
 obtain ⟨X,hX⟩:∃X,addR s d (frame (φ7 r))=X:=⟨_,rfl⟩
 have eX:∀{β:Type} (f:_→Option β) (g:_→Option β),((bif decide (s.2.2.2.1 > 0) then bif decide (s.2.2.2.1+((frame (φ7 r)).length:Int) > 200) then (bif (rotP s d).2.2 != 0 then some (Sum.inr ((rotP s d).1,(rotP s d).2.1,((0,0,0,0,0,[],[],0,0):Int×Int×Int×RecT),(rotP s d).2.2)) else some (Sum.inl ((rotP s d).1,(rotP s d).2.1,r,(((0,[]),[],0,0,0):φA),(([],0,0,false):φ1),((0,0,0,0,0,[],[],0,0):Int×Int×Int×RecT),frame (φ7 r)))) else some (Sum.inl (s,d,r,((0,[]),[],0,0,0),([],0,0,false),(0,0,0,0,0,[],[],0,0),frame (φ7 r))) else some (Sum.inl (s,d,r,((0,[]),[],0,0,0),([],0,0,false),(0,0,0,0,0,[],[],0,0),frame (φ7 r)))).bind fun o4=>φK o4 f g) =
   if X.2.2≠0 then g (X.1,X.2.1,(0,0,0,0,0,[],[],0,0),X.2.2) else f (X.1,X.2.1,r,((0,[]),[],0,0,0),([],0,0,false),(0,0,0,0,0,[],[],0,0),frame (φ7 r)):=by
  intro β f g
  rw[←hX]
  unfold addR
  by_cases c1:s.2.2.2.1 > 0
  ·by_cases c2:s.2.2.2.1+((frame (φ7 r)).length:Int) > 200
   ·by_cases c3:(rotP s d).2.2=0
    ·simp only[c1,c2,dT,cT,and_self,if_true,c3,bne_self_eq_false,cF,bS,φX,ne_eq,not_true_eq_false,if_false]
    ·have d3:((rotP s d).2.2 != 0)=true:=by simpa using c3
     simp only[c1,c2,dT,cT,and_self,if_true,c3,d3,bS,φd,ne_eq,not_false_eq_true]
   ·simp only[c1,c2,dT,dF,cT,cF,and_false,if_false,bS,φX,ne_eq,not_true_eq_false]
  ·simp only[c1,dF,cF,false_and,if_false,bS,φX,ne_eq,not_true_eq_false]
 rw[eX]
 rw[hX] at q1 q2 q3 q4 ⊢
 obtain ⟨S,D,c⟩:=X
 simp only at q1 q2 q3 q4 ⊢
 by_cases c1:c=0
 rotate_left
 ·simp only[c1,ne_eq,not_false_eq_true,if_true]
  exact ⟨_,rfl,fun e=>e.elim⟩
 subst c1
 have g:=q4 rfl
 have g0:0≤S.2.2.2.1:=g.s0
 have g1:S.2.2.2.1≤k:=g.s1
 have g2:φm S.1=true:=g.lv
 obtain ⟨k1,k2,k3,k4⟩:=(φ12 S.1).1 g2
 obtain ⟨l1,l2,l3⟩:=φ6y k3 (by omega)
 have hw2:w64 (S.2.2.2.1+((frame (φ7 r)).length:Int))=S.2.2.2.1+((frame (φ7 r)).length:Int):=φE (by omega) (by omega)
 have ea:ψ2A.f D (actN S) (frame (φ7 r))=some (φU (actN S) (frame (φ7 r)) D):=φ8m D (actN S) (frame (φ7 r)) (φ1J (φu q1) (by omega)) (by omega)
 simp only[ne_eq,not_true_eq_false,if_false,l1,l2,l3,cT,φ9X S k3 (by omega),bS,ea]
 generalize φU (actN S) (frame (φ7 r)) D=w at *
 obtain ⟨x,c2⟩:=w
 by_cases c3:c2=0
 ·subst c3
  simp only[bne_self_eq_false,cF,not_true_eq_false,if_false,hw2]
  refine ⟨_,rfl,fun _=>?_⟩
  simp
 ·have c4:¬told c2=0:=fun e=>c3 ((φ1L c2).1 e)
  have d4:(c2 != 0)=true:=by simpa using c3
  simp only[d4,cT,c3,not_false_eq_true,if_true,φ2S,bS]
  exact ⟨_,rfl,fun e=>absurd e c4⟩
def φP:List RecT→φA→φ1→φA×φ1×Int×List φ9
 | [],s,d=>(s,d,0,[])
 | r::rs,s,d=>if (addP s d r).2.2.1≠0 then ((addP s d r).1,(addP s d r).2.1,(addP s d r).2.2.1,[]) else
   let g:=φP rs (addP s d r).1 (addP s d r).2.1
   (g.1,g.2.1,g.2.2.1,(addP s d r).2.2.2::g.2.2.2)
theorem φ9R:∀(rs:List RecT) (s:φA) (d:φ1) (k:Int),Good2 k s d→φ5 (φP rs s d).2.1=true∧(φP rs s d).1.1.2.length≤61∧(φP rs s d).1.2.1=s.2.1 ∧
  ((φP rs s d).2.2.1=0→Good2 (k+211 * (rs.length:Int)) (φP rs s d).1 (φP rs s d).2.1∧(φP rs s d).2.2.2.length=rs.length)
 | [],s,d,k,h=>by
  have:=((φ12 _).1 h.lv).2.2.2
  refine ⟨h.dk,by show s.1.2.length≤61;omega,rfl,fun _=>⟨⟨h.dk,h.lv,h.s0,by have:=h.s1;show s.2.2.2.1≤_;simp;omega⟩,rfl⟩⟩
 | r::rs,s,d,k,h=>by
  obtain ⟨q1,q2,q3,q4⟩:=φ8y h r
  have:=((φ12 _).1 h.lv).2.2.2
  unfold φP
  split
  ·rename_i c
   exact ⟨q1,by show (addP s d r).1.1.2.length≤61;omega,q3,fun e=>absurd e c⟩
  ·rename_i c
   have c:(addP s d r).2.2.1=0:=by simpa using c
   obtain ⟨p1,p2,p3,p4⟩:=φ9R rs _ _ _ (q4 c)
   refine ⟨p1,p2,by show (φP rs _ _).1.2.1=_;rw[p3,q3],fun e=>?_⟩
   obtain ⟨g,hl⟩:=p4 e
   refine ⟨⟨g.dk,g.lv,g.s0,?_⟩,by show _+1=_+1;rw[hl]⟩
   have:=g.s1
   simp only[lC]
   show (φP rs _ _).1.2.2.2.1≤_
   push_cast;omega
theorem φEG (x:RecT):∀(rs:List RecT) (s:φA) (d:φ1),φP (rs++[x]) s d =
  if (φP rs s d).2.2.1≠0 then φP rs s d else
  if (addP (φP rs s d).1 (φP rs s d).2.1 x).2.2.1≠0 then ((addP (φP rs s d).1 (φP rs s d).2.1 x).1,(addP (φP rs s d).1 (φP rs s d).2.1 x).2.1,(addP (φP rs s d).1 (φP rs s d).2.1 x).2.2.1,(φP rs s d).2.2.2) else
  ((addP (φP rs s d).1 (φP rs s d).2.1 x).1,(addP (φP rs s d).1 (φP rs s d).2.1 x).2.1,0,(φP rs s d).2.2.2++[(addP (φP rs s d).1 (φP rs s d).2.1 x).2.2.2])
 | [],s,d=>by
  show (if (addP s d x).2.2.1≠0 then _ else _)=if (0:Int)≠0 then _ else if (addP s d x).2.2.1≠0 then _ else _
  rw[if_neg (show ¬(0:Int)≠0 by simp)]
  by_cases c:(addP s d x).2.2.1=0
  ·simp only[c,ne_eq,not_true_eq_false,if_false];rfl
  ·simp only[c,ne_eq,not_false_eq_true,if_true];rfl
 | r::rs,s,d=>by
  have ih:=φEG x rs (addP s d r).1 (addP s d r).2.1
  simp only[List.cons_append,φP]
  by_cases c:(addP s d r).2.2.1=0
  rotate_left
  ·simp only[c,ne_eq,not_false_eq_true,if_true]
  simp only[c,ne_eq,not_true_eq_false,if_false]
  rw[ih]
  by_cases c2:(φP rs (addP s d r).1 (addP s d r).2.1).2.2.1=0
  rotate_left
  ·simp only[c2,ne_eq,not_false_eq_true,if_true]
  simp only[c2,ne_eq,not_true_eq_false,if_false]
  split<;>rfl
theorem φKF (p2:List PutT) (rs:List RecT) (s:φA) (d:φ1) (k:Int) (h:Good2 k s d) (hk:k≤100000000000) (hr:rs.length<1000000) :
  lp ψ10.l0 (s,(d,0),p2,[],rs,(rs.length:Int),0)=some (if (φP rs s d).2.2.1=0 then .inl ((φP rs s d).1,((φP rs s d).2.1,0),p2,(φP rs s d).2.2.2) else .inr ((φP rs s d).1,((φP rs s d).2.1,(φP rs s d).2.2.1))):=by
 have key:=φe (step:=ψ10.l0) (fun n (a:φA×φ1×List φ9)=>(a.1,(a.2.1,0),p2,a.2.2,rs,(rs.length:Int),(n:Int))) rs.length
  (fun n a=>if (φP (rs.drop n) a.1 a.2.1).2.2.1=0 then .inl ((φP (rs.drop n) a.1 a.2.1).1,((φP (rs.drop n) a.1 a.2.1).2.1,0),p2,a.2.2++(φP (rs.drop n) a.1 a.2.1).2.2.2) else .inr ((φP (rs.drop n) a.1 a.2.1).1,((φP (rs.drop n) a.1 a.2.1).2.1,(φP (rs.drop n) a.1 a.2.1).2.2.1)))
  (fun n a=>Good2 (k+211 * (n:Int)) a.1 a.2.1∧a.2.2.length=n)
  (fun rec n a hn ha ih=>by
   obtain ⟨S,D,acc⟩:=a
   obtain ⟨ha,hacc⟩:=ha
   simp only at ha hacc
   rcases Nat.lt_or_ge n rs.length with h1 | h1
   ·have hw:=φJ (show n+1<9223372036854775808 by omega)
    obtain ⟨q1,q2,q3,q4⟩:=φ8y ha rs[n]
    have ea:ψz.f S (D,0) (rs[n].1,rs[n].2.1,rs[n].2.2.1,rs[n].2.2.2.1,rs[n].2.2.2.2.1,rs[n].2.2.2.2.2)=_:=φKC ha (by omega) rs[n]
    have hb:∀{α:Type} (x:α),decide ((acc.length+[x].length) * 48≤140737488355328)=true:=fun x=>decide_eq_true (φ3K (by omega))
    rw[dG h1]
    simp only[φP,ψ10.l0,oL,h1,dT,cT,φD,φG,φ8 h1,ea,bS,hb]
    by_cases c:(addP S D rs[n]).2.2.1=0
    ·have g:=q4 c
     have ih:=ih ((addP S D rs[n]).1,(addP S D rs[n]).2.1,acc++[(addP S D rs[n]).2.2.2]) h1 ⟨by
      refine ⟨g.dk,g.lv,g.s0,?_⟩
      have:=g.s1;simp only;push_cast;omega,by rw[lA,hacc];rfl⟩
     simp only at ih
     simp only[c,bne_self_eq_false,cF,ne_eq,not_true_eq_false,if_false,hw,ih,aA,List.singleton_append]
    ·have d1:((addP S D rs[n]).2.2.1 != 0)=true:=by simpa using c
     simp only[d1,cT,c,ne_eq,not_false_eq_true,if_true,if_false]
   ·have:n=rs.length:=by omega
    subst this
    simp[ψ10.l0,φP])
  (by omega) 0 (s,d,[]) (Nat.zero_le _) ⟨by simpa using h,rfl⟩
 have key:lp ψ10.l0 (s,(d,0),p2,[],rs,(rs.length:Int),0)=_:=key
 rw[key,List.drop_zero,List.nil_append]
def φ1n (s:φA) (d:φ1) (l:List PutT):φA×φ1×Int:=
 let g:=φP (φ2G s.2.2.1 l) (s.1,s.2.1,s.2.2.1+1,s.2.2.2) d
 if g.2.2.1≠0 then (g.1,g.2.1,g.2.2.1) else
 let w:=φN (actN g.1) g.2.1
 if w.2≠0 then (g.1,w.1,told w.2) else ((g.1.1,dirW g.1.2.1 (l.zip g.2.2.2),g.1.2.2),w.1,0)
theorem φAK (b:Int) (l:List PutT):(φ2G b l).length=l.length+1:=by
 unfold φ2G;simp
theorem φJS {s:φA} {d:φ1} {k:Int} (h:Good2 k s d) (hk:k≤100000000) (l:List PutT) (hl:l.length≤8) (hb:0≤s.2.2.1∧s.2.2.1≤1000001) (hd:s.2.1.length≤1000000):ψ10.f s (d,0) l=some (φ1n s d l):=by
 have h':Good2 k (s.1,s.2.1,s.2.2.1+1,s.2.2.2) d:=⟨h.dk,h.lv,h.s0,h.s1⟩
 have hrl:=φAK s.2.2.1 l
 obtain ⟨p1,p2,p3,p4⟩:=φ9R (φ2G s.2.2.1 l) _ _ _ h'
 unfold ψ10.f φ1n
 simp only[show w64 (s.2.2.1+1)=s.2.2.1+1 from φE (by omega) (by omega),φGx l s.2.2.1 (by omega),bS,φKF l (φ2G s.2.2.1 l) (s.1,s.2.1,s.2.2.1+1,s.2.2.2) d k h' (by omega) (by omega)]
 generalize φP (φ2G s.2.2.1 l) (s.1,s.2.1,s.2.2.1+1,s.2.2.2) d=g at *
 obtain ⟨S,D,c,es⟩:=g
 by_cases c1:c=0
 rotate_left
 ·simp only[c1,if_false,φd,ne_eq,not_false_eq_true,if_true]
 subst c1
 obtain ⟨g,hes⟩:=p4 rfl
 have g0:φm S.1=true:=g.lv
 have g1:φ5 D=true:=g.dk
 have hes:es.length=(φ2G s.2.2.1 l).length:=hes
 have p3:S.2.1=s.2.1:=p3
 obtain ⟨k1,k2,k3,k4⟩:=(φ12 S.1).1 g0
 simp only[if_true,φX,ne_eq,not_true_eq_false,if_false,φBg S k3 (by omega),bS,φ86 (D,0) (actN S) (φu g1) (by omega)]
 rw[show φ18 (φN (actN S)) (D,0)=φC (φN (actN S) D) by unfold φ18;simp;rfl]
 generalize φN (actN S) D=w at *
 obtain ⟨x,c2⟩:=w
 show (bif told c2==0 then _ else _)=_
 by_cases c3:c2=0
 ·subst c3
  simp only[show (told 0==0)=true from rfl,cT,not_true_eq_false,if_false,φH4 S.2.1 l es (by omega) (by rw[p3];omega) (by omega),bS];rfl
 ·have c4:¬told c2=0:=fun e=>c3 ((φ1L c2).1 e)
  have d4:(told c2==0)=false:=by simpa using c4
  simp only[d4,cF,c3,not_false_eq_true,if_true];rfl
theorem φCr (dir:List φ9) (p:Int×Int×Int×RecT) (hd:dir.length<100000000):ψ3w.f dir p=some (if p.2.2.2.1=2 then φZ dir p.2.2.2.2.2.1 else insB (φZ dir p.2.2.2.2.2.1) (p.2.2.2.2.2.1,p.1,p.2.1,p.2.2.1,p.2.2.2.2.1)):=by
 unfold ψ3w.f
 by_cases c:p.2.2.2.1=2
 ·have d:(p.2.2.2.1==2)=true:=by simpa using c
  simp only[d,cT,c,if_true,beq_self_eq_true,φEs dir _ (show dir.length<1000000000 by omega),bS]
 ·have d:(p.2.2.2.1==2)=false:=by simpa using c
  simp only[d,cF,c,if_false,φE0 dir (p.2.2.2.2.2.1,p.1,p.2.1,p.2.2.1,p.2.2.2.2.1) (show dir.length<1000000000 by omega),bS]
theorem φMx (l:List PutT) (hp:φ1m l=true) (b:Int) (dir:List φ9) (s:φA) (d:φ1) (k:Int) (h:Good2 k s d) (hk:k≤100000000000) (hr:l.length<1000000) (hd:dir.length≤1000000) :
  lp ψ3N.l0 (l,s,d,((0,[]),[],0,0,0),([],0,0,false),b,[],dir,0)=some (if (φP (l.map (φV b)) s d).2.2.1=0 then .inl ((φP (l.map (φV b)) s d).1,(φP (l.map (φV b)) s d).2.1,((0,[]),[],0,0,0),([],0,0,false),b,l.map (φV b),dirW dir (l.zip (φP (l.map (φV b)) s d).2.2.2)) else .inr ((φP (l.map (φV b)) s d).1,(φP (l.map (φV b)) s d).2.1,(φP (l.map (φV b)) s d).2.2.1)):=by
 have key:=φe (step:=ψ3N.l0) (fun n (a:φA×φ1×List RecT×List φ9)=>(l,a.1,a.2.1,((0,[]),[],0,0,0),([],0,0,false),b,a.2.2.1,a.2.2.2,(n:Int))) l.length
  (fun n a=>if (φP ((l.drop n).map (φV b)) a.1 a.2.1).2.2.1=0 then .inl ((φP ((l.drop n).map (φV b)) a.1 a.2.1).1,(φP ((l.drop n).map (φV b)) a.1 a.2.1).2.1,((0,[]),[],0,0,0),([],0,0,false),b,a.2.2.1++(l.drop n).map (φV b),dirW a.2.2.2 ((l.drop n).zip (φP ((l.drop n).map (φV b)) a.1 a.2.1).2.2.2)) else .inr ((φP ((l.drop n).map (φV b)) a.1 a.2.1).1,(φP ((l.drop n).map (φV b)) a.1 a.2.1).2.1,(φP ((l.drop n).map (φV b)) a.1 a.2.1).2.2.1))
  (fun n a=>Good2 (k+211 * (n:Int)) a.1 a.2.1∧a.2.2.1.length=n∧a.2.2.2.length≤1000000+n)
  (fun rec n a hn ha ih=>by
   obtain ⟨S,D,acc,dr⟩:=a
   obtain ⟨ha,hacc,hdr⟩:=ha
   simp only at ha hacc hdr
   rcases Nat.lt_or_ge n l.length with h1 | h1
   ·have hw:=φJ (show n+1<9223372036854775808 by omega)
    have hpn:φ2W l[n]=true:=by
     unfold φ1m at hp
     simp only[bA,List.all_eq_true] at hp
     exact hp.2 _ (gM h1)
    obtain ⟨q1,q2,q3,q4⟩:=φ8y ha (φV b l[n])
    obtain ⟨pl,ea,epl⟩:=φC2 ha (by omega) (φV b l[n])
    have hb:∀{α:Type} (x:α),decide ((acc.length+[x].length) * 64≤140737488355328)=true:=fun x=>decide_eq_true (φ5Q (by omega))
    have er:(bif l[n].2.1 then some (l,S,D,(((0,[]),[],0,0,0):φA),(([],0,0,false):φ1),b,acc,dr,(n:Int),(2,b,l[n].1,l[n].2.2,0,0)) else some (l,S,D,((0,[]),[],0,0,0),([],0,0,false),b,acc,dr,(n:Int),(1,b,l[n].1,l[n].2.2,0,0)))=some (l,S,D,((0,[]),[],0,0,0),([],0,0,false),b,acc,dr,(n:Int),φV b l[n]):=by
     unfold φV
     unfold φ2W at hpn
     revert hpn
     cases hdel:l[n].2.1
     ·intro _;simp
     ·intro hpn;simp at hpn;simp[hpn]
    rw[dG h1]
    simp only[List.map_cons,φP,ψ3N.l0,oL,h1,dT,cT,φD,φG,φ8 h1,er,bS,ea,hb]
    by_cases c:(addP S D (φV b l[n])).2.2.1=0
    ·have g:=q4 c
     obtain ⟨e1,e2,e3⟩:=epl c
     have ed:ψ3w.f dr pl=some (φ22 dr (l[n],(addP S D (φV b l[n])).2.2.2)):=by
      rw[φCr dr pl (by omega),e1]
      unfold φ22
      simp only
      congr 1
      have k1:(φV b l[n]).2.2.1=l[n].1:=by unfold φV;split<;>rfl
      have k2:((φV b l[n]).1=2)↔l[n].2.1=true:=by
       unfold φV;split
       ·rename_i z;simp[z]
       ·rename_i z;simp[z]
      by_cases z:l[n].2.1=true
      ·rw[if_pos (k2.2 z),if_pos z,k1]
      ·rw[if_neg (fun y=>z (k2.1 y)),if_neg z,e2,←e2,←e3]
     have hds:=φ9u dr (l[n],(addP S D (φV b l[n])).2.2.2)
     have ih:=ih ((addP S D (φV b l[n])).1,(addP S D (φV b l[n])).2.1,acc++[φV b l[n]],φ22 dr (l[n],(addP S D (φV b l[n])).2.2.2)) h1 ⟨by
      refine ⟨g.dk,g.lv,g.s0,?_⟩
      have:=g.s1;simp only;push_cast;omega,by rw[lA,hacc];rfl,by simp only;omega⟩
     simp only at ih
     simp only[c,bne_self_eq_false,cF,ed,bS,ne_eq,not_true_eq_false,if_false,hw,ih,aA,List.singleton_append,List.zip_cons_cons];rfl
    ·have d1:((addP S D (φV b l[n])).2.2.1 != 0)=true:=by simpa using c
     simp only[d1,cT,c,ne_eq,not_false_eq_true,if_true,if_false]
   ·have:n=l.length:=by omega
    subst this
    simp[ψ3N.l0,φP,dirW])
  (by omega) 0 (s,d,[],dir) (Nat.zero_le _) ⟨by simpa using h,rfl,by simpa using hd⟩
 have key:lp ψ3N.l0 (l,s,d,((0,[]),[],0,0,0),([],0,0,false),b,[],dir,0)=_:=key
 rw[key,List.drop_zero,List.nil_append]
theorem φAM {α β:Type}:∀(l:List α) (es x:List β),l.length≤es.length→l.zip (es++x)=l.zip es
 | [],_,_,_=>by simp
 | a::l,[],x,h=>by simp at h
 | a::l,e::es,x,h=>by
  rw[List.cons_append,List.zip_cons_cons,List.zip_cons_cons,φAM l es x (by simpa using h)]
theorem φHC {s:φA} {d:φ1} {k:Int} (h:Good2 k s d) (hk:k≤100000000) (l:List PutT) (hl:l.length≤8) (hp:φ1m l=true) (hb:0≤s.2.2.1∧s.2.2.1≤1000001) (hd:s.2.1.length≤1000000):ψ3N.f s d l=some (φ1n s d l):=by
 have h':Good2 k (s.1,s.2.1,s.2.2.1+1,s.2.2.2) d:=⟨h.dk,h.lv,h.s0,h.s1⟩
 obtain ⟨p1,p2,p3,p4⟩:=φ9R (l.map (φV s.2.2.1)) _ _ _ h'
 have hb48:(([]:List φ9).length+s.2.1.length) * 48≤140737488355328:=φ8O (by omega)
 have hml:(l.map (φV s.2.2.1)).length=l.length:=lM _
 unfold ψ3N.f φ1n
 rw[show φ2G s.2.2.1 l=l.map (φV s.2.2.1)++[(3,s.2.2.1,[],[],(l.length:Int),φ1I (l.map (φV s.2.2.1)))] from rfl,φEG]
 simp only[show w64 (s.2.2.1+1)=s.2.2.1+1 from φE (by omega) (by omega),hb48,dT,cT,List.nil_append,φMx l hp s.2.2.1 s.2.1 (s.1,s.2.1,s.2.2.1+1,s.2.2.2) d k h' (by omega) (by omega) hd,bS]
 generalize φP (l.map (φV s.2.2.1)) (s.1,s.2.1,s.2.2.1+1,s.2.2.2) d=g at *
 obtain ⟨S,D,c,es⟩:=g
 by_cases c1:c=0
 rotate_left
 ·simp only[c1,if_false,φd,ne_eq,not_false_eq_true,if_true]
 subst c1
 obtain ⟨g,hes⟩:=p4 rfl
 have hes:es.length=(l.map (φV s.2.2.1)).length:=hes
 have p3:S.2.1=s.2.1:=p3
 have g':Good2 (k+211 * ((l.map (φV s.2.2.1)).length:Int)) S D:=g
 have esl:ψ3y.f (l.map (φV s.2.2.1)) s.2.2.1 3=some (3,s.2.2.1,[],[],(l.length:Int),φ1I (l.map (φV s.2.2.1))):=by
  unfold ψ3y.f
  rw[φ7z _ (by omega),bS,hml]
 obtain ⟨pl,ea,_⟩:=φC2 g' (by omega) (3,s.2.2.1,[],[],(l.length:Int),φ1I (l.map (φV s.2.2.1)))
 obtain ⟨a1,a2,a3,a4⟩:=φ8y g' (3,s.2.2.1,[],[],(l.length:Int),φ1I (l.map (φV s.2.2.1)))
 simp only[if_true,φX,ne_eq,not_true_eq_false,if_false,esl,bS,ea]
 generalize addP S D (3,s.2.2.1,[],[],(l.length:Int),φ1I (l.map (φV s.2.2.1)))=A at *
 obtain ⟨S2,D2,c2,e2⟩:=A
 by_cases c3:c2=0
 rotate_left
 ·have d3:(c2 != 0)=true:=by simpa using c3
  simp only[d3,cT,c3,not_false_eq_true,if_true]
 subst c3
 have g3:=a4 rfl
 have g4:φm S2.1=true:=g3.lv
 have g5:φ5 D2=true:=g3.dk
 have a3:S2.2.1=S.2.1:=a3
 obtain ⟨k1,k2,k3,k4⟩:=(φ12 S2.1).1 g4
 have ey:ψ34.f D2 (actN S2)=some (φN (actN S2) D2):=φ6w D2 (actN S2) (φ1J (φu g5) (by omega))
 simp only[bne_self_eq_false,cF,not_true_eq_false,if_false,φ9X S2 k3 (by omega),bS,ey]
 generalize φN (actN S2) D2=w at *
 obtain ⟨x,c4⟩:=w
 by_cases c5:c4=0
 ·subst c5
  have ez:l.zip (es++[e2])=l.zip es:=φAM l es [e2] (by omega)
  simp only[bne_self_eq_false,cF,not_true_eq_false,if_false,ez,a3,p3]
 ·have d5:(c4 != 0)=true:=by simpa using c5
  simp only[d5,cT,c5,not_false_eq_true,if_true,φ2S,bS]
theorem φCx {d:φ1} (hd:dlim d) {size:Int}:∀(l:List Int),l≠[]→φ1W d size l=true→0≤size∧size≤(φO d.1:Int)
 | [],h,_=>absurd rfl h
 | [id],_,h=>by
  unfold φ1W φ4O at h
  simp only[bA,List.isEmpty_nil,nZ,Bool.false_or,decide_eq_true_eq] at h
  have:=φ4Z d (φ0 id) hd
  have e:=h.1.2.2
  omega
 | id::id2::r,_,h=>by
  have h2:φ1W d size (id2::r)=true:=by
   unfold φ1W at h
   simp only[bA] at h
   exact h.2
  exact φCx hd (id2::r) (by simp) h2
theorem φAk {s:φA} {d:φ1} (h:φo s d=true):Good2 100000 s d:=by
 obtain ⟨q1,q2,q3,q4,q5⟩:=φ56 h
 have hl:=φu q1
 have hd:=φ1J hl (by omega)
 have k:=(φ12 s.1).1 q2
 have:=φCx hd s.1.2 (fun e=>by rw[e] at k;simp at k) q5
 have:=(φ7t q1)
 exact ⟨q1,q2,by omega,by omega⟩
theorem φAq (id:Int):ψS.f id=some (φM id):=by
 unfold ψS.f φM
 rw[φFK [104,105,110,116] id (by show 4≤100;decide),bS]
theorem φ7O (id:Int):ψ2X.f id=some (φM id):=by
 unfold ψ2X.f φM φ28
 rw[φ1r,bS]
 by_cases h:1≤id∧id≤100000
 ·obtain ⟨n,rfl⟩:∃n:Nat,id=(n:Int):=⟨id.toNat,by omega⟩
  have hl:=φ4v 5 n (by show n<1000000;omega)
  have hb:([104,105,110,116]:List UInt8).length+(Lib.decDigits n).length≤9223372036854775807:=by show 4+_≤_;omega
  simp only[h,and_self,dT,nZ,cF,φAn n (by omega),bS,hb,cT,if_true,tN]
 ·simp[h]
theorem φF0 (id:Int):(φM id).length≤10:=by
 unfold φM φ28
 split
 ·have hl:=φ4v 5 id.toNat (by show _<1000000;omega)
  rw[lA];show 4+_≤10;omega
 ·simp
abbrev φ1E:=Int×Int×List φ9
def φ4N (h:φ1E) (e:φ9):Bool:=!(e.2.1 != ((h.2.2.getD 0 ([],0,0,0,0)).2.1)) && !decide (e.2.2.1 > 100000)
def φ2J (h:φ1E):Bool:=h.2.2.all (φ4N h) && (decide (0≤h.1∧h.1≤100000) && (decide (0≤h.2.1∧h.2.1≤1000000) && φ1i h.2.2))
theorem φIb (h:φ1E) (hl:h.2.2.length<1000000000):ψ1Q.f h=some (φ2J h):=by
 have key:=φ3u (step:=ψ1Q.l0) h.2.2 (φ4N h) (fun n=>(h,h.2.2,(h.2.2.length:Int),(n:Int))) h (by omega)
  (fun rec n h1=>by
   have hw:=φJ (show n+1<9223372036854775808 by omega)
   have h0:inB 0 h.2.2.length=true:=by rw[show (0:Int)=((0:Nat):Int) from rfl,φD];simp;omega
   have r0:rdA ([],0,0,0,0) h.2.2 0=h.2.2.getD 0 ([],0,0,0,0):=by rw[show (0:Int)=((0:Nat):Int) from rfl,φG]
   simp only[ψ1Q.l0,oL,h1,dT,cT,φD,φG,φ8 h1,h0,r0,hw]
   unfold φ4N
   cases (h.2.2[n].2.1 != (h.2.2.getD 0 ([],0,0,0,0)).2.1)<;>cases decide (h.2.2[n].2.2.1 > 100000)<;>rfl)
  (fun rec=>by simp[ψ1Q.l0])
 have key:lp ψ1Q.l0 (h,h.2.2,(h.2.2.length:Int),0)=_:=key
 unfold ψ1Q.f φ2J
 rw[key,bS]
 simp only[φ25,φ9w h.2.2 (by omega),bS]
 cases h.2.2.all (φ4N h)
 ·simp
 simp only[if_true,φX,tA]
 cases decide (0≤h.1∧h.1≤100000)<;>cases decide (0≤h.2.1∧h.2.1≤1000000)<;>simp[φ9w h.2.2 (show h.2.2.length<2 ^ 62 by omega)]
theorem φIr (h:φ1E) (hl:h.2.2.length<1000000000):ψ3C.f h=some (φ2J h):=by
 have key:=φ3u (step:=ψ3C.l0) h.2.2 (φ4N h) (fun n=>(h,(n:Int))) () (by omega)
  (fun rec n h1=>by
   have hw:=φJ (show n+1<9223372036854775808 by omega)
   have h0:inB 0 h.2.2.length=true:=by rw[show (0:Int)=((0:Nat):Int) from rfl,φD];simp;omega
   have r0:rdA ([],0,0,0,0) h.2.2 0=h.2.2.getD 0 ([],0,0,0,0):=by rw[show (0:Int)=((0:Nat):Int) from rfl,φG]
   simp only[ψ3C.l0,oL,h1,dT,cT,φD,φG,φ8 h1,h0,r0,hw]
   unfold φ4N
   cases (h.2.2[n].2.1 != (h.2.2.getD 0 ([],0,0,0,0)).2.1)<;>cases decide (h.2.2[n].2.2.1 > 100000)<;>rfl)
  (fun rec=>by simp[ψ3C.l0])
 have key:lp ψ3C.l0 (h,0)=_:=key
 unfold ψ3C.f φ2J
 rw[key]
 simp only[φ1r,φCe h.2.2 (by omega),bS]
 cases h.2.2.all (φ4N h)<;>cases decide (0≤h.1∧h.1≤100000)<;>cases decide (0≤h.2.1∧h.2.1≤1000000)<;>cases φ1i h.2.2<;>rfl
def entT (e:φ9):List UInt8:=varT (e.1.length:Int)++e.1++varT e.2.1++varT e.2.2.1++varT e.2.2.2.1++varT e.2.2.2.2
def φ1q (h:φ1E):List UInt8:=varT h.1++varT h.2.1++varT (h.2.2.length:Int)++(h.2.2.map entT).flatten
def φ1P (h:φ1E):List UInt8:=if φ2J h=false then [] else fix4 (crcT (φ1q h))++φ1q h
theorem φFW {e:φ9} (h:φ2l e=true):e.1.length≤8:=by
 unfold φ2l φ1T at h
 simp only[bA,decide_eq_true_eq] at h
 omega
theorem φDf:∀(l:List φ9) (p:Option (List UInt8)),φ2R p l=true→∀e∈l,φ2l e=true
 | [],_,_,e,he=>by simp at he
 | x::l,p,h,e,he=>by
  simp only[φ2R,bA] at h
  rcases mc.1 he with c | he
  ·subst c;exact h.1
  ·exact φDf l _ h.2.2 e he
theorem φ3x {l:List φ9} (h:φ1i l=true):l.length≤20∧∀e∈l,φ2l e=true:=by
 unfold φ1i at h
 simp only[bA,decide_eq_true_eq] at h
 exact ⟨h.2,φDf l none h.1⟩
theorem φBZ {e:φ9} (h:e.1.length≤8):(entT e).length≤43:=by
 unfold entT
 have:=φk (e.1.length:Int)
 have:=φk e.2.1
 have:=φk e.2.2.1
 have:=φk e.2.2.2.1
 have:=φk e.2.2.2.2
 simp only[lA];omega
theorem φCD:∀{l:List φ9},(∀e∈l,e.1.length≤8)→((l.map entT).flatten).length≤43 * l.length
 | [],_=>by simp
 | e::l,h=>by
  have h1:=φBZ (h e List.mem_cons_self)
  have h2:=φCD (l:=l) fun x hx=>h x (mC _ hx)
  rw[List.map_cons,List.flatten_cons,lA,lC];omega
theorem φAu {h:φ1E} (k:φ2J h=true):h.2.2.length≤20∧∀e∈h.2.2,e.1.length≤8:=by
 unfold φ2J at k
 simp only[bA] at k
 have:=φ3x k.2.2.2
 exact ⟨this.1,fun e he=>φFW (this.2 e he)⟩
theorem φ8d {h:φ1E} (k:φ2J h=true):(φ1q h).length≤1000:=by
 obtain ⟨k1,k2⟩:=φAu k
 have:=φCD k2
 have:=φk h.1
 have:=φk h.2.1
 have:=φk (h.2.2.length:Int)
 unfold φ1q
 simp only[lA];omega
theorem φBx (h:φ1E):(φ1P h).length≤1004:=by
 unfold φ1P;split
 ·simp
 ·rename_i k
  have:=φ8d (by simpa using k)
  have:=φ4R (crcT (φ1q h))
  rw[lA];omega
end Go.Rf.G
