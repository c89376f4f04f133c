import Derived.Test.YtaijadchooalpaaGreatDoorXEngineNewLem1
open Option renaming bind_some→bS
open List renaming length_append→lA,append_assoc→aA,mem_cons_of_mem→mC,mem_append→mA,mem_append_right→mR,mem_append_left→mL,mem_cons→mc,drop_eq_getElem_cons→dG,length_take→lT,length_drop→lD,mem_map→mM,length_map→lM,length_cons→lC,length_nil→lN,getElem_mem→gM,map_append→mp,mem_singleton→mZ,take_succ_eq_append_getElem→κ2,length_singleton→κ3,append_nil→κ4,mem_cons_self→κ6,take_append_drop→κ9,map_cons→κC,nodup_append→κD,drop_zero→κE,nil_append→κG,flatMap_append→κH,nodup_cons→κJ,foldl_cons→κK,cons_append→κM,take_length→κN,range'→κO,drop_left→κP,replicate→κU,flatten_cons→κY
open Bool renaming and_eq_true→bA,eq_false_or_eq_true→bE,not_true→nZ,not_false→nF,true_and→tA,not_not→nn,false_eq_true→κ1,true_eq_false→κ8,or_eq_false_iff→κF,false_and→κL,and_true→κV,not_eq_true'→κX
open Int renaming toNat_natCast→tN,ofNat_lt→oL
open Nat renaming lt_or_ge→κ0,zero_le→κ5,le_refl→κ7,lt_of_lt_of_le→κA,eq_of_beq_eq_true→κB,le_of_ble_eq_true→κI,zero_add→κQ,pow_succ→κS,pow_le_pow_right→κT,mod_eq_of_lt→κW
open Array renaming length_toList→κR
set_option linter.unusedVariables false
set_option linter.unusedSimpArgs false
namespace Go.Rf.G
open Go Go.Rf
set_option synthInstance.maxSize 4000
theorem φDN:∀(f:Nat) (first:Bool) (s:List UInt8) (n k:Nat),rvT f first s=some (n,k)→(first=false→1≤n)
 | 0,_,_,_,_,h=>by simp[rvT] at h
 | f+1,_,[],_,_,h=>by simp[rvT] at h
 | f+1,first,x::r,n,k,h=>by
  intro hf
  unfold rvT at h
  split at h
  ·split at h
   ·simp at h
   ·rename_i h1 h2
    simp only[Option.some.injEq,Prod.mk.injEq] at h
    have:¬x.toNat=0:=fun e=>h2 ⟨e,hf⟩
    omega
  ·cases hr:rvT f false r with
   | none=>rw[hr] at h;simp at h
   | some p=>
    rw[hr] at h
    simp only[Option.map_some,Option.some.injEq,Prod.mk.injEq] at h
    have:=φDN f false r p.1 p.2 hr rfl
    omega
theorem φ3H:∀(f:Nat) (first:Bool) (s:List UInt8) (n k:Nat),rvT f first s=some (n,k)→1≤k∧k≤f∧k≤s.length∧s.take k=varN n∧n<128 ^ f
 | 0,_,_,_,_,h=>by simp[rvT] at h
 | f+1,_,[],_,_,h=>by simp[rvT] at h
 | f+1,first,x::r,n,k,h=>by
  have hx:=x.toNat_lt
  unfold rvT at h
  split at h
  ·rename_i h1
   split at h
   ·simp at h
   ·simp only[Option.some.injEq,Prod.mk.injEq] at h
    obtain ⟨rfl,rfl⟩:=h
    refine ⟨κ7 _,by omega,by simp,?_,?_⟩
    ·rw[φ7b h1];simp
    ·exact κA h1 (by rw[κS];have:=Nat.pow_pos (n:=f) (show 0<128 by omega);omega)
  ·rename_i h1
   cases hr:rvT f false r with
   | none=>rw[hr] at h;simp at h
   | some p=>
    obtain ⟨m,j⟩:=p
    rw[hr] at h
    simp only[Option.map_some,Option.some.injEq,Prod.mk.injEq] at h
    obtain ⟨rfl,rfl⟩:=h
    obtain ⟨q1,q2,q3,q4,q5⟩:=φ3H f false r m j hr
    have hm:=φDN f false r m j hr rfl
    have hbig:¬x.toNat % 128+128 * m<128:=by omega
    refine ⟨by omega,by omega,by simp;omega,?_,?_⟩
    ·rw[φ9r hbig,List.take_succ_cons,q4]
     have e1:(x.toNat % 128+128 * m) % 128=x.toNat % 128:=by omega
     have e2:(x.toNat % 128+128 * m) / 128=m:=by omega
     have e3:128+x.toNat % 128=x.toNat:=by omega
     rw[e1,e2,e3];simp
    ·rw[κS];omega
theorem φ7A:∀(f:Nat) (first:Bool) (n:Nat) (r:List UInt8),n<128 ^ f→(first=false→1≤n)→1≤f→rvT f first (varN n++r)=some (n,(varN n).length)
 | 0,_,_,_,_,_,h=>by omega
 | f+1,first,n,r,h,h1,_=>by
  by_cases c:n<128
  ·rw[φ7b c,List.singleton_append]
   unfold rvT
   have e:(UInt8.ofNat n).toNat=n:=by simp;omega
   rw[e,if_pos c,if_neg (by intro k;have:=h1 k.2;omega)];rfl
  ·rw[φ9r c,κM]
   unfold rvT
   have e:(UInt8.ofNat (128+n % 128)).toNat=128+n % 128:=by simp;omega
   have hf:1≤f:=by
    rcases Nat.eq_zero_or_pos f with k | k
    ·subst k;simp at h;omega
    ·exact k
   rw[e,if_neg (by omega),φ7A f false (n / 128) r (by rw[Nat.div_lt_iff_lt_mul (by omega)];rw[κS] at h;exact h) (fun _=>by omega) hf]
   simp only[Option.map_some,lC]
   congr 2;omega
def decV (l:List UInt8):Nat:=l.foldr (fun x a=>x.toNat % 128+128 * a) 0
theorem φD8:∀(l:List UInt8),decV l<128 ^ l.length
 | []=>by simp[decV]
 | x::l=>by
  have:=φD8 l
  show x.toNat % 128+128 * decV l<128 ^ (l.length+1)
  rw[κS];omega
theorem φBk:∀(k n:Nat),n<128 ^ (k+1)→decV (varN n)=n
 | 0,n,h=>by
  have h:n<128:=by simpa using h
  rw[φ7b h]
  show (UInt8.ofNat n).toNat % 128+128 * 0=n
  have e:(UInt8.ofNat n).toNat=n:=by simp;omega
  rw[e];omega
 | k+1,n,h=>by
  by_cases c:n<128
  ·rw[φ7b c]
   show (UInt8.ofNat n).toNat % 128+128 * 0=n
   have e:(UInt8.ofNat n).toNat=n:=by simp;omega
   rw[e];omega
  ·rw[φ9r c]
   show (UInt8.ofNat (128+n % 128)).toNat % 128+128 * decV (varN (n / 128))=n
   have e:(UInt8.ofNat (128+n % 128)).toNat=128+n % 128:=by simp;omega
   rw[e,φBk k (n / 128) (by rw[Nat.div_lt_iff_lt_mul (by omega)];rw[κS] at h;exact h)]
   omega
def φP (s:List UInt8):Int×Int:=match rvT 7 true s with
 | some (n,k)=>((n:Int),(k:Int))
 | none=>(0,0)
theorem φ9e (s:List UInt8):φP s=(0,0)∨∃n k:Nat,rvT 7 true s=some (n,k)∧φP s=((n:Int),(k:Int))∧1≤k∧k≤7∧k≤s.length∧s.take k=varN n∧n<562949953421312:=by
 unfold φP
 cases h:rvT 7 true s with
 | none=>exact .inl rfl
 | some p=>
  obtain ⟨n,k⟩:=p
  obtain ⟨h1,h2,h3,h4,h5⟩:=φ3H 7 true s n k h
  exact .inr ⟨n,k,rfl,rfl,h1,h2,h3,h4,h5⟩
theorem φDq (s:List UInt8) (k4:Int) (k:Nat) (hk:k≤s.length) (h7:k≤7):lp ψ2Y.l2 (s,k4,0,(k:Int) - 1)=some (s,k4,((decV (s.take k):Nat):Int)):=by
 have key:=φI9 (step:=ψ2Y.l2) (fun n (a:Nat)=>(s,k4,(a:Int),(n:Int) - 1)) (fun n a=>(s,k4,((decV (s.take n)+128 ^ n * a:Nat):Int))) (fun n a=>n≤k∧a<128 ^ (k - n))
  (fun rec n a hi ih=>by
   obtain ⟨hn,ha⟩:=hi
   cases n with
   | zero=>
    simp[ψ2Y.l2,decV]
   | succ n=>
    have h1:n<s.length:=by omega
    have e0:((n+1:Nat):Int) - 1=(n:Int):=by omega
    have c:(n:Int)≥0:=by omega
    have hx:=s[n].toNat_lt
    have hpow:(128:Nat) ^ (k - (n+1))≤128 ^ 7:=κT (by omega) (by omega)
    have ha7:a<562949953421312:=κA ha hpow
    have ha6:a<128 ^ 6:=κA ha (κT (by omega) (by omega))
    have ha6:a<4398046511104:=ha6
    have e1:w64 ((a:Int) * 128)=((a * 128:Nat):Int):=by rw[φ9 (by omega) (by omega)];omega
    have e2:w64 (bAt s (n:Int))=((s[n].toNat:Nat):Int):=by rw[φ3R s n h1];exact φ2L (by omega)
    have e3:Int.tmod ((s[n].toNat:Nat):Int) 128=((s[n].toNat % 128:Nat):Int):=rfl
    have e4:w64 (((a * 128:Nat):Int)+((s[n].toNat % 128:Nat):Int))=((a * 128+s[n].toNat % 128:Nat):Int):=by rw[φ9 (by omega) (by omega)];omega
    have e5:w64 ((n:Int) - 1)=(n:Int) - 1:=φ9 (by omega) (by omega)
    have hlt:a * 128+s[n].toNat % 128<128 ^ (k - n):=by
     rw[show k - n=(k - (n+1))+1 by omega,κS];omega
    have ih:=ih n (a * 128+s[n].toNat % 128) rfl ⟨by omega,hlt⟩
    simp only[ψ2Y.l2,e0,c,dT,cT,φ8,h1,e1,e2,e3,e4,e5,ih]
    congr 4
    rw[κ2 h1]
    have hd:decV (s.take n++[s[n]])=decV (s.take n)+128 ^ n * (s[n].toNat % 128):=by
     have gen:∀l:List UInt8,decV (l++[s[n]])=decV l+128 ^ l.length * (s[n].toNat % 128):=by
      intro l
      induction l with
      | nil=>simp[decV]
      | cons x l ih=>
       show x.toNat % 128+128 * decV (l++[s[n]])=x.toNat % 128+128 * decV l+128 ^ (l.length+1) * (s[n].toNat % 128)
       rw[ih,κS,Nat.mul_add,Nat.mul_comm (128 ^ l.length) 128,Nat.mul_assoc];omega
     rw[gen,lT,Nat.min_eq_left (by omega)]
    rw[hd,κS,Nat.mul_add]
    have:128 ^ n * (a * 128)=128 ^ n * 128 * a:=by rw[Nat.mul_assoc,Nat.mul_comm a 128]
    omega)
  k 0 (by omega) ⟨κ7 _,by simp⟩
 simpa using key
theorem φ1e (s:List UInt8) (hl:s.length<2 ^ 62):ψ2Y.f s=some (φP s):=by
 have key:=φ4e (step:=ψ2Y.l0) (a:=(s,(1:Int))) (fun a=>match rvT 7 true s with
   | some (n,k)=>if a.2≤(k:Int) then .inr ((n:Int),(k:Int)) else .inl ()
   | none=>.inl ()) (fun a=>a.1=s∧1≤a.2∧a.2≤8) (fun a=>(8 - a.2).toNat)
  (fun rec a ha ih=>by
   obtain ⟨x,k⟩:=a
   obtain ⟨hx,h1,h2⟩:=ha
   simp only at hx h1 h2 ih ⊢
   subst hx
   obtain ⟨m,rfl⟩:∃m:Nat,k=(m:Int):=⟨k.toNat,by omega⟩
   have out:∀n j,rvT 7 true x=some (n,j)→j≤7∧j≤x.length:=fun n j hr=>by
    have:=φ3H 7 true x n j hr;exact ⟨this.2.1,this.2.2.1⟩
   by_cases c7:(m:Int)≤7
   rotate_left
   ·simp only[ψ2Y.l0,c7,dF,cF]
    cases hr:rvT 7 true x with
    | none=>rfl
    | some p=>
     obtain ⟨n,j⟩:=p
     have:=(out n j hr).1
     simp only
     rw[if_neg (by omega)]
   by_cases cl:(m:Int)≤(x.length:Int)
   rotate_left
   ·simp only[ψ2Y.l0,c7,cl,dT,dF,cT,cF]
    cases hr:rvT 7 true x with
    | none=>rfl
    | some p=>
     obtain ⟨n,j⟩:=p
     have:=(out n j hr).2
     simp only
     rw[if_neg (by omega)]
   have e1:w64 ((m:Int) - 1)=(m:Int) - 1:=φ9 (by omega) (by omega)
   have e2:=φDq x (m:Int) m (by omega) (by omega)
   have hv:decV (x.take m)<128 ^ 7:=κA (φD8 _) (κT (by omega) (by rw[lT];omega))
   have hv2:decV (x.take m)<562949953421312:=hv
   have c0:(0:Int)≤(m:Int):=by omega
   have e3:w64 ((m:Int)+1)=((m+1:Nat):Int):=φB (by omega)
   simp only[ψ2Y.l0,c7,cl,dT,cT,e1,e2,bS,φ3q,φ4k _ (show decV (x.take m)≤562949953421311 by omega),c0,Bool.and_self,tN,e3]
   by_cases ck:varN (decV (x.take m))=x.take m
   ·have ck2:(varN (decV (x.take m))==x.take m)=true:=by simpa using ck
    have hr:rvT 7 true x=some (decV (x.take m),m):=by
     have hb:=φ7A 7 true (decV (x.take m)) (x.drop m) hv (by simp) (by omega)
     rw[ck,κ9,lT,Nat.min_eq_left (by omega)] at hb
     exact hb
    simp only[ck2,cT,hr]
    rw[if_pos (Int.le_refl _)]
   ·have ck2:(varN (decV (x.take m))==x.take m)=false:=by simpa using ck
    have ih:=ih (x,((m+1:Nat):Int)) ⟨rfl,by simp only;omega,by simp only;omega⟩ (by simp only;omega)
    simp only[ck2,cF,ih]
    cases hr:rvT 7 true x with
    | none=>rfl
    | some p=>
     obtain ⟨n,j⟩:=p
     have hs:=φ3H 7 true x n j hr
     have hne:j≠m:=fun e=>by
      subst e
      rw[hs.2.2.2.1,φBk 6 n hs.2.2.2.2] at ck
      exact ck rfl
     simp only
     by_cases cj:(m:Int)≤(j:Int)
     ·rw[if_pos cj,if_pos (by omega)]
     ·rw[if_neg cj,if_neg (by omega)])
  ⟨rfl,by simp only;omega,by simp only;omega⟩ (by show (7:Nat)<2 ^ 62;decide)
 unfold ψ2Y.f φP
 rw[key,bS]
 cases hr:rvT 7 true s with
 | none=>rfl
 | some p=>
  obtain ⟨n,k⟩:=p
  have hs:=φ3H 7 true s n k hr
  simp only
  rw[if_pos (by omega)];rfl
theorem φ6m (s:List UInt8) (hl:s.length<2 ^ 62):ψV.f s=some (φP s):=by
 have key:=φO (step:=ψV.l0) (fun i (a:Nat)=>(s,(a:Int),(i:Int))) 7 (fun i a=>match rvT (7 - i) (decide (i=0)) (s.drop i) with
   | some (n,k)=>.inr (((a+128 ^ i * n:Nat):Int),((i+k:Nat):Int))
   | none=>bif ((s.drop i).take (7 - i)).all (fun x=>decide (128≤x.toNat)) then .inl () else .inr (0,0)) (fun i a=>a<128 ^ i)
  (fun rec i a hi ha ih=>by
   have hpow:(128:Nat) ^ i≤128 ^ 7:=κT (by omega) hi
   have ha7:a<562949953421312:=κA ha hpow
   rcases κ0 i 7 with h7 | h7
   rotate_left
   ·have:i=7:=by omega
    subst this
    simp[ψV.l0,rvT]
   have c7:(i:Int)<7:=by omega
   rcases κ0 i s.length with hs | hs
   rotate_left
   ·have c:¬(i:Int)<(s.length:Int):=by omega
    have e:s.drop i=[]:=by rw[List.drop_eq_nil_iff];exact hs
    have e7:7 - i=(6 - i)+1:=by omega
    simp only[ψV.l0,c7,c,dT,dF,cT,cF,e,e7,rvT]
    simp
   have cs:(i:Int)<(s.length:Int):=by omega
   have hx:=s[i].toNat_lt
   have e1:w64 (bAt s (i:Int))=((s[i].toNat:Nat):Int):=by rw[φ3R s i hs];exact φ2L (by omega)
   have e2:w64 (7 * (i:Int))=((7 * i:Nat):Int):=by rw[φ9 (by omega) (by omega)];omega
   have e3:(0:Int)≤((7 * i:Nat):Int):=by omega
   have e4:Int.tmod ((s[i].toNat:Nat):Int) 128=((s[i].toNat % 128:Nat):Int):=rfl
   have e5:((s[i].toNat % 128:Nat):Int) * 2 ^ (min ((7 * i:Nat):Int).toNat 64)=((s[i].toNat % 128 * 128 ^ i:Nat):Int):=by
    rw[tN,Nat.min_eq_left (by omega),show (2:Int) ^ (7 * i)=((128 ^ i:Nat):Int) by
     rw[show (128:Nat)=2 ^ 7 from rfl,←Nat.pow_mul,Int.natCast_pow];rfl]
    simp
   have hb6:(128:Nat) ^ i≤128 ^ 6:=κT (by omega) (by omega)
   have hb6:(128:Nat) ^ i≤4398046511104:=hb6
   have hm:s[i].toNat % 128 * 128 ^ i≤127 * 128 ^ i:=Nat.mul_le_mul_right _ (by omega)
   have e6:w64 ((s[i].toNat % 128 * 128 ^ i:Nat):Int)=((s[i].toNat % 128 * 128 ^ i:Nat):Int):=φ2L (by omega)
   have e7:w64 ((a:Int)+((s[i].toNat % 128 * 128 ^ i:Nat):Int))=((a+s[i].toNat % 128 * 128 ^ i:Nat):Int):=by rw[φ9 (by omega) (by omega)];omega
   have e8:w64 ((i:Int)+1)=((i+1:Nat):Int):=φB (by omega)
   have e9:7 - i=(6 - i)+1:=by omega
   have e10:7 - (i+1)=6 - i:=by omega
   rw[dG hs,e9]
   by_cases cb:s[i].toNat<128
   ·have cb2:¬((s[i].toNat:Nat):Int)≥128:=by omega
    by_cases cz:s[i].toNat=0
    ·have cz2:(((s[i].toNat:Nat):Int)==0)=true:=by rw[cz];rfl
     by_cases ci:i=0
     ·subst ci
      have hi0:¬((0:Nat):Int) > 0:=by omega
      simp only[ψV.l0,c7,cs,dT,cT,φ8,hs,e1,e2,e3,e4,e5,e6,e7,e8,cb2,dF,cF,cz2,hi0,bS,φL]
      unfold rvT
      rw[if_pos cb,if_neg (by simp)]
      simp[cz]
     ·have hi0:(i:Int) > 0:=by omega
      have hd:decide (i=0)=false:=decide_eq_false ci
      simp only[ψV.l0,c7,cs,dT,cT,φ8,hs,e1,e2,e3,e4,e5,e6,e7,e8,cb2,dF,cF,cz2,hi0,bS,φS,hd]
      unfold rvT
      rw[if_pos cb,if_pos ⟨cz,rfl⟩]
      simp only[List.take_succ_cons]
      have hne:decide (128≤s[i].toNat)=false:=decide_eq_false (by omega)
      rw[List.all_cons,hne];rfl
    ·have cz2:(((s[i].toNat:Nat):Int)==0)=false:=by simp;omega
     simp only[ψV.l0,c7,cs,dT,cT,φ8,hs,e1,e2,e3,e4,e5,e6,e7,e8,cb2,dF,cF,cz2,bS,φL]
     unfold rvT
     rw[if_pos cb,if_neg (fun k=>cz k.1)]
     have e11:s[i].toNat % 128=s[i].toNat:=by omega
     simp only[e11]
     rw[Nat.mul_comm (128 ^ i)]
   ·have cb2:((s[i].toNat:Nat):Int)≥128:=by omega
    have hlt:a+s[i].toNat % 128 * 128 ^ i<128 ^ (i+1):=by rw[κS];omega
    have ih:=ih (a+s[i].toNat % 128 * 128 ^ i) h7 hlt
    rw[e10] at ih
    simp only[ψV.l0,c7,cs,dT,cT,φ8,hs,e1,e2,e3,e4,e5,e6,e7,e8,cb2,ih]
    rw[rvT,if_neg cb,show decide (i+1=0)=false from decide_eq_false (by omega)]
    cases hr:rvT (6 - i) false (s.drop (i+1)) with
    | none=>
     simp only[Option.map_none,List.take_succ_cons]
     have hge:decide (128≤s[i].toNat)=true:=decide_eq_true (by omega)
     rw[List.all_cons,hge,tA]
    | some p=>
     obtain ⟨n,k⟩:=p
     simp only[Option.map_some]
     congr 3
     ·rw[Nat.mul_add,κS,Nat.mul_comm (128 ^ i) (s[i].toNat % 128)]
      have:128 ^ i * (128 * n)=128 ^ i * 128 * n:=by rw[Nat.mul_assoc]
      omega
     ·omega)
  (by omega) 0 0 (κ5 _) (by simp)
 have key:lp ψV.l0 (s,0,0)=_:=key
 unfold ψV.f φP
 rw[key,bS]
 simp only[Nat.sub_zero,κE,dT]
 cases hr:rvT 7 true s with
 | none=>
  simp only
  cases (s.take 7).all (fun x=>decide (128≤x.toNat))<;>rfl
 | some p=>
  obtain ⟨n,k⟩:=p
  simp
def fixR (l:List UInt8):Nat:=l.foldl (fun n x=>n * 256+x.toNat) 0
theorem φ7U (l:List UInt8) (x:UInt8):fixR (l++[x])=fixR l * 256+x.toNat:=by
 unfold fixR;rw[List.foldl_append];rfl
theorem φ7o (l:List UInt8):fixR l<256 ^ l.length:=by
 induction l using φBA with
 | h0=>simp[fixR]
 | hs l x ih=>
  have:=x.toNat_lt
  rw[φ7U,lA,κ3,κS];omega
theorem φFS (l:List UInt8):fixL (fixR l) l.length=l:=by
 induction l using φBA with
 | h0=>rfl
 | hs l x ih=>
  have hx:=x.toNat_lt
  rw[φ7U,lA,κ3,φ6Q,show (fixR l * 256+x.toNat) / 256=fixR l by omega,ih]
  have:UInt8.ofNat (fixR l * 256+x.toNat)=x:=by
   have e:=UInt8.ofNat_mod_size (x:=fixR l * 256+x.toNat)
   have e2:(fixR l * 256+x.toNat) % 2 ^ 8=x.toNat:=by omega
   rw[e2] at e
   rw[←e];simp
  rw[this]
theorem φBf:∀(k n:Nat),n<256 ^ k→fixR (fixL n k)=n
 | 0,n,h=>by simp at h;subst h;rfl
 | k+1,n,h=>by
  rw[φ6Q,φ7U,φBf k (n / 256) (by rw[Nat.div_lt_iff_lt_mul (by omega)];rw[κS] at h;exact h)]
  have:(UInt8.ofNat n).toNat=n % 256:=by simp
  rw[this];omega
def φ2o (s:List UInt8):Int×Bool:=if s.length<4 then (0,false) else (((fixR (s.take 4):Nat):Int),true)
theorem φB6 (s:List UInt8) (n:Nat) (h:n<s.length):fixR (s.take (n+1))=fixR (s.take n) * 256+s[n].toNat:=by
 rw[κ2 h,φ7U]
theorem φAG (s:List UInt8) (hl:s.length<2 ^ 62):ψ2U.f s 4=some (φ2o s):=by
 unfold ψ2U.f φ2o
 have h0:decide ((1:Int)≤4∧(4:Int)≤7)=true:=by decide
 simp only[φ1n,bS,h0,nZ,cF]
 by_cases c:s.length<4
 ·have c1:(s.length:Int)<4:=by omega
  simp[c,c1]
 have c1:¬(s.length:Int)<4:=by omega
 have key:=φO (step:=ψ2U.l0) (fun n (_:Unit)=>(s,4,((fixR (s.take n):Nat):Int),(n:Int))) 4 (fun _ _=>((fixR (s.take 4):Nat):Int)) (fun _ _=>True)
  (fun rec n a hn _ ih=>by
   rcases κ0 n 4 with h | h
   ·have h4:(n:Int)<4:=by omega
    have hs:n<s.length:=by omega
    have hx:=s[n].toNat_lt
    have hlt:fixR (s.take n)<256 ^ 3:=κA (φ7o _) (κT (by omega) (by rw[lT];omega))
    have hlt:fixR (s.take n)<16777216:=hlt
    have e1:w64 (((fixR (s.take n):Nat):Int) * 256)=((fixR (s.take n) * 256:Nat):Int):=by rw[φ9 (by omega) (by omega)];omega
    have e2:w64 (bAt s (n:Int))=((s[n].toNat:Nat):Int):=by rw[φ3R s n hs];exact φ2L (by omega)
    have e3:w64 (((fixR (s.take n) * 256:Nat):Int)+((s[n].toNat:Nat):Int))=((fixR (s.take (n+1)):Nat):Int):=by
     rw[φB6 s n hs,φ9 (by omega) (by omega)];omega
    simp only[ψ2U.l0,h4,dT,cT,φ8,hs,e1,e2,e3,φB (show n+1<9223372036854775808 by omega),ih () h trivial]
   ·have:n=4:=by omega
    subst this
    simp[ψ2U.l0])
  (by omega) 0 () (κ5 _) trivial
 have key:lp ψ2U.l0 (s,4,0,0)=_:=key
 simp only[c,c1,dF,cF,key,bS,if_false]
theorem or64 (a b:Nat) (ha:a<2 ^ 32) (hb:b<256):bits (fun _ a b=>a ||| b) .i64 ((a * 256:Nat):Int) (b:Int)=((a * 256+b:Nat):Int):=by
 have e:(BitVec.ofInt 64 ((a * 256:Nat):Int) ||| BitVec.ofInt 64 (b:Int)).toNat=a * 256+b:=by
  rw[BitVec.ofInt_natCast,BitVec.ofInt_natCast,BitVec.toNat_or,BitVec.toNat_ofNat,BitVec.toNat_ofNat,κW (by omega),κW (by omega)]
  have:=Nat.shiftLeft_add_eq_or_of_lt (show b<2 ^ 8 from hb) a
  rw[Nat.shiftLeft_eq] at this
  exact this.symm
 show IntKind.wrap .i64 ((BitVec.ofInt 64 ((a * 256:Nat):Int) ||| BitVec.ofInt 64 (b:Int)).toNat:Int)=_
 rw[e]
 exact φCF (by omega)
theorem φ5r (s:List UInt8) (hl:s.length<2 ^ 62):ψR.f s 4=some (φ2o s):=by
 unfold ψR.f φ2o
 have h0:decide ((1:Int)≤4∧(4:Int)≤7)=true:=by decide
 simp only[φ1b,bS,h0,nZ,cF]
 by_cases c:s.length<4
 ·have c1:(s.length:Int)<4:=by omega
  simp[c,c1]
 have c1:¬(s.length:Int)<4:=by omega
 have key:=φO (step:=ψR.l0) (fun n (_:Unit)=>(s,((fixR (s.take n):Nat):Int),4,(n:Int))) 4 (fun _ _=>((fixR (s.take 4):Nat):Int)) (fun _ _=>True)
  (fun rec n a hn _ ih=>by
   rcases κ0 n 4 with h | h
   ·have h4:(n:Int)<4:=by omega
    have hs:n<s.length:=by omega
    have hx:=s[n].toNat_lt
    have hlt:fixR (s.take n)<256 ^ 3:=κA (φ7o _) (κT (by omega) (by rw[lT];omega))
    have hlt:fixR (s.take n)<16777216:=hlt
    have e1:w64 (((fixR (s.take n):Nat):Int) * 2 ^ (min 8 64))=((fixR (s.take n) * 256:Nat):Int):=by
     show w64 (((fixR (s.take n):Nat):Int) * 256)=_
     rw[φ9 (by omega) (by omega)];omega
    have e2:w64 (bAt s (n:Int))=((s[n].toNat:Nat):Int):=by rw[φ3R s n hs];exact φ2L (by omega)
    have e3:=or64 (fixR (s.take n)) s[n].toNat (by omega) (by omega)
    rw[←φB6 s n hs] at e3
    simp only[ψR.l0,h4,dT,cT,φ8,hs,e1,e2,e3,φB (show n+1<9223372036854775808 by omega),ih () h trivial]
   ·have:n=4:=by omega
    subst this
    simp[ψR.l0])
  (by omega) 0 () (κ5 _) trivial
 have key:lp ψR.l0 (s,0,4,0)=_:=key
 simp only[c,c1,dF,cF,key,bS,if_false]
def φD (s:List UInt8):List UInt8×Int:=
 if s.length<4 then ([],0) else
 match rvT 7 true (s.drop 4) with
 | none=>([],0)
 | some (n,k)=>if 200<n∨s.length<4+k+n then ([],0) else
  if frame ((s.take (4+k+n)).drop (4+k))=s.take (4+k+n) then ((s.take (4+k+n)).drop (4+k),((4+k+n:Nat):Int)) else ([],0)
theorem φ8e (s:List UInt8) (hl:s.length<1000000000000):ψn.f s=some (φD s):=by
 unfold ψn.f φD
 by_cases c:s.length<4
 ·have c1:(s.length:Int)<4:=by omega
  simp[c,c1]
 have c1:¬(s.length:Int)<4:=by omega
 have c2:(decide (0≤(4:Int)) && decide ((4:Int)≤(s.length:Int)))=true:=by simp;omega
 have hd:(s.drop 4).length<2 ^ 62:=by rw[lD];omega
 simp only[c,c1,dF,cF,c2,cT,φ6m (s.drop 4) hd,bS,if_false]
 unfold φP
 cases hr:rvT 7 true (s.drop 4) with
 | none=>simp
 | some p=>
  obtain ⟨n,k⟩:=p
  obtain ⟨q1,q2,q3,q4,q5⟩:=φ3H 7 true (s.drop 4) n k hr
  have q5:n<562949953421312:=q5
  rw[lD] at q3
  have d1:(((k:Nat):Int)==0)=false:=by simp;omega
  simp only[d1,cF]
  by_cases c3:200<n
  ·have c4:((n:Nat):Int) > 200:=by omega
   simp[c3,c4]
  have c4:¬((n:Nat):Int) > 200:=by omega
  have e1:w64 (w64 ((s.length:Int) - 4) - (k:Int))=(s.length:Int) - 4 - k:=by rw[φ9 (n:=(s.length:Int) - 4) (by omega) (by omega),φ9 (by omega) (by omega)]
  have e2:w64 (4+(k:Int))=((4+k:Nat):Int):=by rw[φ9 (by omega) (by omega)];omega
  have e3:w64 (((4+k:Nat):Int)+(n:Int))=((4+k+n:Nat):Int):=by rw[φ9 (by omega) (by omega)];omega
  by_cases c5:s.length<4+k+n
  ·have c6:((n:Nat):Int) > (s.length:Int) - 4 - k:=by omega
   simp[c3,c4,c5,c6,e1]
  have c6:¬((n:Nat):Int) > (s.length:Int) - 4 - k:=by omega
  have c7:(decide (0≤((4+k+n:Nat):Int)) && decide (((4+k+n:Nat):Int)≤(s.length:Int)))=true:=by simp;omega
  have c8:(decide (0≤((4+k:Nat):Int)) && decide (((4+k:Nat):Int)≤((4+k+n:Nat):Int)))=true:=by simp;omega
  have hl2:((s.take (4+k+n)).drop (4+k)).length<2 ^ 62:=by rw[lD,lT];omega
  simp only[c3,c4,c5,c6,e1,e2,e3,c7,c8,dF,cF,cT,tN,φAp _ hl2,bS,or_self,if_false]
  by_cases c9:frame ((s.take (4+k+n)).drop (4+k))=s.take (4+k+n)
  ·have d9:(frame ((s.take (4+k+n)).drop (4+k))==s.take (4+k+n))=true:=by simpa using c9
   simp only[d9,nZ,cF]
   rw[if_pos c9]
  ·have d9:(frame ((s.take (4+k+n)).drop (4+k))==s.take (4+k+n))=false:=by simpa using c9
   simp only[d9,nF,cT]
   rw[if_neg c9]
theorem φ8p (s:List UInt8) (hl:s.length<1000000000000):ψ2m.f s=some (φD s):=by
 unfold ψ2m.f φD
 by_cases c:s.length<5
 ·have c1:(s.length:Int)<5:=by omega
  by_cases c4:s.length<4
  ·simp[c4,c1]
  ·have e:s.drop 4=[]:=by rw[List.drop_eq_nil_iff];omega
   have e2:s.length=4:=by omega
   rcases κ0 s.length 4 with h | h
   ·exact absurd h c4
   ·have hn:rvT 7 true (s.drop 4)=none:=by
     cases hr:rvT 7 true (s.drop 4) with
     | none=>rfl
     | some p=>
      obtain ⟨n,k⟩:=p
      have q:=φ3H 7 true (s.drop 4) n k hr
      rw[lD] at q
      omega
    simp[c4,c1,hn]
 have c4:¬s.length<4:=by omega
 have c1:¬(s.length:Int)<5:=by omega
 have c2:(decide (0≤(4:Int)) && decide ((4:Int)≤(s.length:Int)))=true:=by simp;omega
 have hd:(s.drop 4).length<2 ^ 62:=by rw[lD];omega
 simp only[c4,c1,dF,cF,c2,cT,φ1e (s.drop 4) hd,bS,if_false]
 unfold φP
 cases hr:rvT 7 true (s.drop 4) with
 | none=>simp
 | some p=>
  obtain ⟨n,k⟩:=p
  obtain ⟨q1,q2,q3,q4,q5⟩:=φ3H 7 true (s.drop 4) n k hr
  have q5:n<562949953421312:=q5
  rw[lD] at q3
  have d1:(((k:Nat):Int)==0)=false:=by simp;omega
  simp only[d1,cF]
  by_cases c3:200<n
  ·have c4:((n:Nat):Int) > 200:=by omega
   simp[c3,c4]
  have c4:¬((n:Nat):Int) > 200:=by omega
  have e1:w64 (w64 ((s.length:Int) - 4) - (k:Int))=(s.length:Int) - 4 - k:=by rw[φ9 (n:=(s.length:Int) - 4) (by omega) (by omega),φ9 (by omega) (by omega)]
  have e2:w64 (4+(k:Int))=((4+k:Nat):Int):=by rw[φ9 (by omega) (by omega)];omega
  have e3:w64 (((4+k:Nat):Int)+(n:Int))=((4+k+n:Nat):Int):=by rw[φ9 (by omega) (by omega)];omega
  by_cases c5:s.length<4+k+n
  ·have c6:((n:Nat):Int) > (s.length:Int) - 4 - k:=by omega
   simp[c3,c4,c5,c6,e1]
  have c6:¬((n:Nat):Int) > (s.length:Int) - 4 - k:=by omega
  have c7:(decide (0≤((4+k+n:Nat):Int)) && decide (((4+k+n:Nat):Int)≤(s.length:Int)))=true:=by simp;omega
  have c8:(decide (0≤((4+k:Nat):Int)) && decide (((4+k:Nat):Int)≤((4+k+n:Nat):Int)))=true:=by simp;omega
  have hl2:((s.take (4+k+n)).drop (4+k)).length<2 ^ 62:=by rw[lD,lT];omega
  simp only[c3,c4,c5,c6,e1,e2,e3,c7,c8,dF,cF,cT,tN,φDH _ hl2,bS,or_self,if_false]
  by_cases c9:frame ((s.take (4+k+n)).drop (4+k))=s.take (4+k+n)
  ·have d9:(s.take (4+k+n)==frame ((s.take (4+k+n)).drop (4+k)))=true:=by simpa using c9.symm
   simp only[d9,nZ,cF]
   rw[if_pos c9]
  ·have d9:(s.take (4+k+n)==frame ((s.take (4+k+n)).drop (4+k)))=false:=by simpa using fun e=>c9 e.symm
   simp only[d9,nF,cT]
   rw[if_neg c9]
abbrev φ32:=List UInt8×Bool
def φk (n:Int):Prop:=0≤n∧n≤562949953421311
theorem φII {n:Int} (h:φk n):∃m:Nat,n=(m:Int)∧m<562949953421312∧varT n=varN m:=by
 unfold φk at h
 obtain ⟨m,rfl⟩:∃m:Nat,n=(m:Int):=⟨n.toNat,by omega⟩
 exact ⟨m,rfl,by omega,φ4k m (by omega)⟩
theorem φ2H {n:Int} (h:φk n) (r:List UInt8):φP (varT n++r)=(n,((varT n).length:Int))∧1≤(varT n).length:=by
 obtain ⟨m,rfl,hm,e⟩:=φII h
 rw[e]
 have hb:=φ7A 7 true m r hm (by simp) (by omega)
 unfold φP
 rw[hb]
 exact ⟨rfl,(φ7f 6 m hm).1⟩
theorem φ1Z {n:Int} (h:φk n) (r:List UInt8) (hl:(varT n++r).length<2 ^ 62):ψ10.f (varT n++r,false)=some (n,(r,false)):=by
 obtain ⟨h1,h2⟩:=φ2H h r
 have d:((((varT n).length:Nat):Int)==0)=false:=by simp;intro e;rw[e] at h2;simp at h2
 have c:(decide (0≤(((varT n).length:Nat):Int)) && decide ((((varT n).length:Nat):Int)≤((varT n++r).length:Int)))=true:=by
  rw[lA];simp;omega
 unfold ψ10.f
 simp only[φ6m _ hl,h1,bS,cF,d,c,cT,tN,κP]
theorem φ3g (s:List UInt8) (hl:s.length<2 ^ 62):(∃n r,ψ10.f (s,false)=some (n,(r,false))∧s=varT n++r∧φk n)∨ψ10.f (s,false)=some (0,(s,true)):=by
 rcases φ9e s with h | ⟨n,k,_,h,h1,h2,h3,h4,h5⟩
 ·right
  unfold ψ10.f
  simp only[φ6m s hl,h,bS,cF,show ((0:Int)==0)=true from rfl,cT]
 ·left
  have hn:φk (n:Int):=⟨by omega,by omega⟩
  have e:s=varT (n:Int)++s.drop k:=by rw[φ4k n (by omega),←h4,κ9]
  have hb:=φ1Z hn (s.drop k) (by rw[←e];exact hl)
  rw[←e] at hb
  exact ⟨(n:Int),s.drop k,hb,e,hn⟩
theorem φ5c (s:List UInt8) (hl:s.length<2 ^ 62):ψ10.f (s,true)=some (0,(s,true)):=by
 unfold ψ10.f
 simp only[φ6m s hl,bS,cT]
theorem φ4w (t r:List UInt8):ψz.f (t++r,false) (t.length:Int)=some (t,(r,false)):=by
 unfold ψz.f
 have c1:¬((t.length:Nat):Int) > ((t++r).length:Int):=by rw[lA];omega
 have c2:(decide (0≤((t.length:Nat):Int)) && decide (((t.length:Nat):Int)≤((t++r).length:Int)))=true:=by rw[lA];simp;omega
 simp only[cF,c1,dF,c2,cT,tN,List.take_left,κP]
theorem φ8L (s:List UInt8) (n:Int) (hn:0≤n):(∃t r,ψz.f (s,false) n=some (t,(r,false))∧s=t++r∧(t.length:Int)=n)∨ψz.f (s,false) n=some ([],(s,true)):=by
 by_cases c:n > (s.length:Int)
 ·right
  unfold ψz.f
  simp only[cF,c,dT,cT]
 ·left
  have hl:((s.take n.toNat).length:Int)=n:=by rw[lT];omega
  have:=φ4w (s.take n.toNat) (s.drop n.toNat)
  rw[κ9,hl] at this
  exact ⟨_,_,this,(κ9 _ _).symm,hl⟩
theorem φ7I (s:List UInt8) (n:Int):ψz.f (s,true) n=some ([],(s,true)):=by
 unfold ψz.f
 simp only[cT]
theorem φ6s (t r:List UInt8) (ht:φk (t.length:Int)) (hl:(varT (t.length:Int)++(t++r)).length<2 ^ 62):ψ11.f (varT (t.length:Int)++(t++r),false)=some (t,(r,false)):=by
 unfold ψ11.f
 simp only[φ1Z ht (t++r) hl,bS,φ4w]
theorem φ6Y (s:List UInt8) (hl:s.length<2 ^ 62):(∃t r,ψ11.f (s,false)=some (t,(r,false))∧s=varT (t.length:Int)++(t++r)∧φk (t.length:Int))∨∃r,ψ11.f (s,false)=some ([],(r,true))∧r.length≤s.length:=by
 unfold ψ11.f
 rcases φ3g s hl with ⟨n,r,e,es,hn⟩ | e
 ·rw[e,bS]
  rcases φ8L r n hn.1 with ⟨t,r2,e2,es2,ht⟩ | e2
  ·left
   refine ⟨t,r2,by simp only[e2,bS],?_,by rw[ht];exact hn⟩
   rw[ht,←es2];exact es
  ·right
   refine ⟨r,by simp only[e2,bS],?_⟩
   rw[es,lA];omega
 ·right
  refine ⟨s,?_,κ7 _⟩
  rw[e,bS]
  simp only[φ7I,bS]
theorem φ6R (s:List UInt8) (hl:s.length<2 ^ 62):ψ11.f (s,true)=some ([],(s,true)):=by
 unfold ψ11.f
 simp only[φ5c s hl,bS,φ7I]
theorem φ5y (t r:List UInt8) (ht:φk (t.length:Int)) (hl:(varT (t.length:Int)++(t++r)).length<1000000000000000):ψ33.f (varT (t.length:Int)++(t++r))=some (t,r,true):=by
 obtain ⟨h1,h2⟩:=φ2H ht (t++r)
 have h3:=φR (t.length:Int)
 rw[lA,lA] at hl
 unfold ψ33.f
 rw[φ1e _ (by rw[lA,lA];omega),h1,bS]
 generalize varT (t.length:Int)=v at *
 have d:(((v.length:Nat):Int)==0)=false:=by simp;intro e;rw[e] at h2;simp at h2
 have e1:w64 (((v++(t++r)).length:Int) - ((v.length:Nat):Int))=((t.length+r.length:Nat):Int):=by rw[lA,lA,φ9 (by omega) (by omega)];omega
 have c1:¬((t.length:Nat):Int) > ((t.length+r.length:Nat):Int):=by omega
 have e2:w64 (((v.length:Nat):Int)+((t.length:Nat):Int))=(((v++t).length:Nat):Int):=by rw[lA,φ9 (by omega) (by omega)];omega
 have c2:(decide (0≤(((v++t).length:Nat):Int)) && decide ((((v++t).length:Nat):Int)≤((v++(t++r)).length:Int)))=true:=by simp;omega
 have c3:(decide (0≤((v.length:Nat):Int)) && decide (((v.length:Nat):Int)≤(((v++t).length:Nat):Int)))=true:=by simp;omega
 have e3:(v++(t++r)).take (v++t).length=v++t:=by rw[←aA,List.take_left]
 have e4:(v++(t++r)).drop (v++t).length=r:=by rw[←aA,κP]
 simp only[d,cF,e1,c1,dF,e2,c2,c3,cT,tN,e3,e4,κP]
theorem φ7B (s:List UInt8) (hl:s.length<1000000000000000):∃t r b,ψ33.f s=some (t,r,b)∧t.length≤s.length∧r.length≤s.length:=by
 rcases φ9e s with h | ⟨n,k,_,h,h1,h2,h3,h4,h5⟩
 ·refine ⟨[],[],false,?_,by simp,by simp⟩
  unfold ψ33.f
  simp only[φ1e s (by omega),h,bS,show ((0:Int)==0)=true from rfl,cT]
 ·by_cases c:s.length<k+n
  ·refine ⟨[],[],false,?_,by simp,by simp⟩
   have d:(((k:Nat):Int)==0)=false:=by simp;omega
   have e1:w64 ((s.length:Int) - (k:Int))=(s.length:Int) - k:=φ9 (by omega) (by omega)
   have c1:((n:Nat):Int) > (s.length:Int) - k:=by omega
   unfold ψ33.f
   simp only[φ1e s (by omega),h,bS,d,cF,e1,c1,dT,cT]
  ·have hn:φk (n:Int):=⟨by omega,by omega⟩
   have ht:(((s.drop k).take n).length:Int)=n:=by rw[lT,lD];omega
   have e:s=varT (((s.drop k).take n).length:Int)++((s.drop k).take n++(s.drop k).drop n):=by
    rw[ht,φ4k n (by omega),←h4,κ9,κ9]
   have hb:=φ5y ((s.drop k).take n) ((s.drop k).drop n) (by rw[ht];exact hn) (by rw[←e];exact hl)
   rw[←e] at hb
   exact ⟨_,_,_,hb,by rw[lT,lD];omega,by rw[lD,lD];omega⟩
def φ1v (s:List UInt8) (r:RecT):Prop:=φ12 r=true∧φc r=s
theorem φBv {r:RecT} (h:φ12 r=true):φk r.1∧φk r.2.1∧(r.1=1∨r.1=4→r.2.2.1.length≤8∧r.2.2.2.1.length≤24∧r.2.2.2.2.1=0∧r.2.2.2.2.2=0) ∧
  (r.1=2→r.2.2.1.length≤8∧r.2.2.2.1=[]∧r.2.2.2.2.1=0∧r.2.2.2.2.2=0) ∧
  (¬(r.1=1∨r.1=4)→¬r.1=2→r.2.2.1=[]∧r.2.2.2.1=[]∧φk r.2.2.2.2.1∧0≤r.2.2.2.2.2∧r.2.2.2.2.2≤4294967295):=by
 obtain ⟨k,b,ky,v,c,s⟩:=r
 unfold φ12 φ1X at h
 simp only[bA,decide_eq_true_eq] at h
 obtain ⟨⟨h1,_⟩,h⟩:=h
 unfold φk
 simp only
 by_cases c1:k=1∨k=4
 ·rw[if_pos c1] at h
  simp only[bA,decide_eq_true_eq,beq_iff_eq] at h
  exact ⟨by omega,by omega,fun _=>by omega,fun e=>by omega,fun e=>absurd c1 e⟩
 rw[if_neg c1] at h
 by_cases c2:k=2
 ·rw[if_pos c2] at h
  simp only[bA,decide_eq_true_eq,beq_iff_eq] at h
  exact ⟨by omega,by omega,fun e=>absurd e c1,fun _=>⟨by omega,h.2.1,h.2.2⟩,fun _ e=>absurd c2 e⟩
 rw[if_neg c2] at h
 by_cases c3:k=3
 ·rw[if_pos c3] at h
  simp only[bA,decide_eq_true_eq,beq_iff_eq] at h
  exact ⟨by omega,by omega,fun e=>absurd e c1,fun e=>absurd e c2,fun _ _=>⟨h.1,h.2.1,by omega,by omega,by omega⟩⟩
 rw[if_neg c3] at h
 by_cases c5:k=5
 ·rw[if_pos c5] at h
  simp only[bA,decide_eq_true_eq,beq_iff_eq] at h
  exact ⟨by omega,by omega,fun e=>absurd e c1,fun e=>absurd e c2,fun _ _=>⟨h.1,h.2.1,by omega,by omega,by omega⟩⟩
 ·rw[if_neg c5] at h;simp at h
theorem φ62 {n:Int} (h:0≤n∧n≤4294967295):(fix4 n).length=4:=by
 unfold fix4;rw[if_pos h,φ97]
theorem φBG {n:Int} (h:0≤n∧n≤4294967295) (r:List UInt8):φ2o (fix4 n++r)=(n,true):=by
 have hl:=φ62 h
 unfold φ2o
 rw[if_neg (by rw[lA];omega)]
 have e:(fix4 n++r).take 4=fix4 n:=by rw[←hl,List.take_left]
 rw[e]
 unfold fix4
 rw[if_pos h,φBf 4 n.toNat (by show _<4294967296;omega)]
 congr 1;omega
theorem φGg (t:List UInt8) (h:t.length=4):fix4 (φ2o t).1=t∧0≤(φ2o t).1∧(φ2o t).1≤4294967295:=by
 have hlt:=φ7o t
 rw[h] at hlt
 have hlt:fixR t<4294967296:=hlt
 unfold φ2o
 rw[if_neg (by omega),show t.take 4=t by rw[←h,κN]]
 refine ⟨?_,by simp only;omega,by simp only;omega⟩
 unfold fix4
 rw[if_pos (by simp only;omega)]
 show fixL ((fixR t:Nat):Int).toNat 4=t
 rw[tN,←h,φFS]
theorem φ5M (k:Int) {α β γ:Type} (x:α) (y:β) (z:γ):(bif k==1 then some (x,y,z,k,k==1) else some (x,y,z,k,k==4))=some (x,y,z,k,decide (k=1∨k=4)):=by
 by_cases c1:k=1
 ·subst c1;rfl
 ·have b1:(k==1)=false:=by simpa using c1
  rw[b1,cF]
  by_cases c4:k=4
  ·subst c4;rfl
  ·have b4:(k==4)=false:=by simpa using c4
   rw[b4,decide_eq_false (by omega)]
theorem φ6p (k:Int) {α β γ δ:Type} (x:α) (y:β) (z:γ) (u:δ):(bif k==1 then some (x,y,z,u,k,k==1) else some (x,y,z,u,k,k==4))=some (x,y,z,u,k,decide (k=1∨k=4)):=by
 by_cases c1:k=1
 ·subst c1;rfl
 ·have b1:(k==1)=false:=by simpa using c1
  rw[b1,cF]
  by_cases c4:k=4
  ·subst c4;rfl
  ·have b4:(k==4)=false:=by simpa using c4
   rw[b4,decide_eq_false (by omega)]
theorem app3 {a b c:List UInt8} {n:Nat} (h:(a++(b++c)).length≤n):(b++c).length≤n∧c.length≤n:=by simp only[lA] at h ⊢;omega
theorem app2 {a b:List UInt8} {n:Nat} (h:(a++b).length≤n):b.length≤n:=by simp only[lA] at h;omega
theorem lt15 {a:List UInt8} (h:a.length≤60):a.length<1000000000000000:=by omega
theorem lt62 {a:List UInt8} (h:a.length≤60):a.length<2 ^ 62:=by omega
def φ30:RecT:=(0,0,[],[],0,0)
theorem φ9n {s:List UInt8} {r:RecT} (h:φ1v s r):ψU.f s=some (r,true):=by
 obtain ⟨hok,rfl⟩:=h
 have hl:=φ4F r
 obtain ⟨i1,i2,i3,i4,i5⟩:=φBv hok
 have hok2:¬φ12 r=false:=by rw[hok];simp
 obtain ⟨k,b,ky,v,c,sm⟩:=r
 simp only at i1 i2 i3 i4 i5
 by_cases c1:k=1∨k=4
 ·obtain ⟨j1,j2,rfl,rfl⟩:=i3 c1
  have es:φc (k,b,ky,v,0,0)=varT k++(varT b++(varT (ky.length:Int)++(ky++(varT (v.length:Int)++(v++[]))))):=by
   unfold φc;rw[if_neg hok2,if_pos c1];simp[aA]
  rw[es] at hl ⊢
  have x2:=φ6s v [] ⟨by omega,by omega⟩ (lt62 (app3 (app3 hl).2).2)
  have x1:=φ6s ky (varT (v.length:Int)++(v++[])) ⟨by omega,by omega⟩ (lt62 (app3 hl).2)
  have n2:=φ1Z i2 (varT (ky.length:Int)++(ky++(varT (v.length:Int)++(v++[])))) (lt62 (app2 hl))
  have n1:=φ1Z i1 (varT b++(varT (ky.length:Int)++(ky++(varT (v.length:Int)++(v++[]))))) (lt62 hl)
  have hcd:decide (k=1∨k=4)=true:=decide_eq_true c1
  unfold ψU.f
  simp only[n1,n2,bS,φ5M,hcd,cT,x1,x2,cF,φ5z,hok,nZ]
  rfl
 have hcd:decide (k=1∨k=4)=false:=decide_eq_false c1
 by_cases c2:k=2
 ·obtain ⟨j1,rfl,rfl,rfl⟩:=i4 c2
  have es:φc (k,b,ky,[],0,0)=varT k++(varT b++(varT (ky.length:Int)++(ky++[]))):=by
   unfold φc;rw[if_neg hok2,if_neg c1,if_pos c2];simp[aA]
  rw[es] at hl ⊢
  have x1:=φ6s ky [] ⟨by omega,by omega⟩ (lt62 (app3 hl).2)
  have n2:=φ1Z i2 (varT (ky.length:Int)++(ky++[])) (lt62 (app2 hl))
  have n1:=φ1Z i1 (varT b++(varT (ky.length:Int)++(ky++[]))) (lt62 hl)
  have b2:(k==2)=true:=by simpa using c2
  unfold ψU.f
  simp only[n1,n2,bS,φ5M,hcd,b2,cT,x1,cF,φ5z,hok,nZ]
  rfl
 ·obtain ⟨rfl,rfl,j3,j4⟩:=i5 c1 c2
  have l4:=φ62 j4
  have es:φc (k,b,[],[],c,sm)=varT k++(varT b++(varT c++(fix4 sm++[]))):=by
   unfold φc;rw[if_neg hok2,if_neg c1,if_neg c2];simp[aA]
  rw[es] at hl ⊢
  have x1:=φ4w (fix4 sm) []
  rw[l4] at x1
  have x1:ψz.f (fix4 sm++[],false) 4=_:=x1
  have n3:=φ1Z j3 (fix4 sm++[]) (lt62 (app3 hl).2)
  have n2:=φ1Z i2 (varT c++(fix4 sm++[])) (lt62 (app2 hl))
  have n1:=φ1Z i1 (varT b++(varT c++(fix4 sm++[]))) (lt62 hl)
  have b2:(k==2)=false:=by simpa using c2
  have f4:=φBG j4 []
  rw[κ4] at f4
  unfold ψU.f
  simp only[n1,n2,n3,bS,φ5M,hcd,b2,cT,x1,cF,φ5z,hok,nZ,φ5r (fix4 sm) (show (fix4 sm).length<2 ^ 62 by omega),f4]
  rfl
theorem φEQ {s:List UInt8} {r:RecT} (h:φ1v s r):ψ2X.f s=some (r,true):=by
 obtain ⟨hok,rfl⟩:=h
 have hl:=φ4F r
 have hsh:=φ8S r
 obtain ⟨i1,i2,i3,i4,i5⟩:=φBv hok
 have hok2:¬φ12 r=false:=by rw[hok];simp
 obtain ⟨k,b,ky,v,c,sm⟩:=r
 simp only at i1 i2 i3 i4 i5
 have head:∀T:List UInt8,(varT k++(varT b++T)).length≤60→φc (k,b,ky,v,c,sm)=varT k++(varT b++T) →
   ∃a d:Nat,ψ2Y.f (varT k++(varT b++T))=some (k,(a:Int))∧(decide (0≤(a:Int)) && decide ((a:Int)≤((varT k++(varT b++T)).length:Int)))=true∧(varT k++(varT b++T)).drop (a:Int).toNat=varT b++T ∧
    ψ2Y.f (varT b++T)=some (b,(d:Int))∧((a:Int)==0)=false∧((d:Int)==0)=false∧(decide (0≤w64 ((a:Int)+(d:Int))) && decide (w64 ((a:Int)+(d:Int))≤((varT k++(varT b++T)).length:Int)))=true ∧
    (varT k++(varT b++T)).drop (w64 ((a:Int)+(d:Int))).toNat=T∧(varT k++(varT b++T)==[])=false:=by
  intro T hT _
  obtain ⟨p1,p2⟩:=φ2H i1 (varT b++T)
  obtain ⟨q1,q2⟩:=φ2H i2 T
  have hT2:=hT
  simp only[lA] at hT2
  have ew:w64 (((varT k).length:Int)+((varT b).length:Int))=(((varT k).length+(varT b).length:Nat):Int):=by rw[φ9 (by omega) (by omega)];omega
  refine ⟨(varT k).length,(varT b).length,?_,?_,?_,?_,?_,?_,?_,?_,?_⟩
  ·rw[φ1e _ (by omega),p1]
  ·simp only[lA];simp;omega
  ·rw[tN,κP]
  ·rw[φ1e _ (by simp only[lA];omega),q1]
  ·simp;intro e;rw[e] at p2;simp at p2
  ·simp;intro e;rw[e] at q2;simp at q2
  ·rw[ew];simp only[lA];simp;omega
  ·rw[ew,tN,←aA,←lA,κP]
  ·cases hv:varT k with
   | nil=>rw[hv] at p2;simp at p2
   | cons x l=>rfl
 by_cases c1:k=1∨k=4
 ·obtain ⟨j1,j2,rfl,rfl⟩:=i3 c1
  have hcd:decide (k=1∨k=4)=true:=decide_eq_true c1
  have es:φc (k,b,ky,v,0,0)=varT k++(varT b++(varT (ky.length:Int)++(ky++(varT (v.length:Int)++(v++[]))))):=by
   unfold φc;rw[if_neg hok2,if_pos c1];simp[aA]
  rw[es] at hl hsh ⊢
  obtain ⟨a,d,e1,e2,e3,e4,e5,e6,e7,e8,e9⟩:=head _ hl es
  have x2:=φ5y v [] ⟨by omega,by omega⟩ (lt15 (app3 (app3 hl).2).2)
  have x1:=φ5y ky (varT (v.length:Int)++(v++[])) ⟨by omega,by omega⟩ (lt15 (app3 hl).2)
  unfold ψ2X.f
  simp only[e1,e2,e3,e4,e5,e6,e7,e8,e9,bS,φ6p,hcd,cT,x1,x2,cF,hsh,beq_self_eq_true,nZ]
 have hcd:decide (k=1∨k=4)=false:=decide_eq_false c1
 by_cases c2:k=2
 ·obtain ⟨j1,rfl,rfl,rfl⟩:=i4 c2
  have b2:(k==2)=true:=by simpa using c2
  have es:φc (k,b,ky,[],0,0)=varT k++(varT b++(varT (ky.length:Int)++(ky++[]))):=by
   unfold φc;rw[if_neg hok2,if_neg c1,if_pos c2];simp[aA]
  rw[es] at hl hsh ⊢
  obtain ⟨a,d,e1,e2,e3,e4,e5,e6,e7,e8,e9⟩:=head _ hl es
  have x1:=φ5y ky [] ⟨by omega,by omega⟩ (lt15 (app3 hl).2)
  unfold ψ2X.f
  simp only[e1,e2,e3,e4,e5,e6,e7,e8,e9,bS,φ6p,hcd,b2,cT,x1,cF,hsh,beq_self_eq_true,nZ]
 ·obtain ⟨rfl,rfl,j3,j4⟩:=i5 c1 c2
  have b2:(k==2)=false:=by simpa using c2
  have l4:=φ62 j4
  have es:φc (k,b,[],[],c,sm)=varT k++(varT b++(varT c++(fix4 sm++[]))):=by
   unfold φc;rw[if_neg hok2,if_neg c1,if_neg c2];simp[aA]
  rw[es] at hl hsh ⊢
  obtain ⟨a,d,e1,e2,e3,e4,e5,e6,e7,e8,e9⟩:=head _ hl es
  obtain ⟨p1,p2⟩:=φ2H j3 (fix4 sm++[])
  have hl3:=(app3 hl).2
  have r1:ψ2Y.f (varT c++(fix4 sm++[]))=some (c,((varT c).length:Int)):=by rw[φ1e _ (lt62 hl3),p1]
  have r2:(decide (0≤((varT c).length:Int)) && decide (((varT c).length:Int)≤((varT c++(fix4 sm++[])).length:Int)))=true:=by simp only[lA];simp;omega
  have r3:(varT c++(fix4 sm++[])).drop (((varT c).length:Int)).toNat=fix4 sm++[]:=by rw[tN,κP]
  have r4:ψ2U.f (fix4 sm++[]) 4=some (sm,true):=by rw[φAG _ (lt62 (app2 hl3)),φBG j4]
  unfold ψ2X.f
  simp only[e1,e2,e3,e4,e5,e6,e7,e8,e9,bS,φ6p,hcd,b2,cT,r1,r2,r3,r4,cF,hsh,beq_self_eq_true,nZ]
noncomputable def φ6M (k b:Int) (st:φ32):Option (RecT×Bool):=
 ((bif k==1 then some ((0,0,[],[],0,0),st,(k,b,[],[],0,0),k,k==1)
 else some ((0,0,[],[],0,0),st,(k,b,[],[],0,0),k,k==4):Option ((Int×Int×List UInt8×List UInt8×Int×Int)×(List UInt8×Bool)×(Int×Int×List UInt8×List UInt8×Int×Int)×Int×Bool)).bind (fun (x2,x4,x5,x16,x27)=>
 bif x27 then
 (ψ11.f x4).bind fun (t3_0,t3_1)=>
 (ψ11.f t3_1).bind fun (t4_0,t4_1)=>
 some (x2,t4_1,(x5.1,x5.2.1,t3_0,t4_0,x5.2.2.2.2))
 else
 (bif x16==2 then
 (ψ11.f x4).bind fun (t5_0,t5_1)=>
 some (x2,t5_1,(x5.1,x5.2.1,t5_0,x5.2.2.2))
 else
 (ψ10.f x4).bind fun (t6_0,t6_1)=>
 (ψz.f t6_1 4).bind fun (t7_0,t7_1)=>
 (ψR.f t7_0 4).bind fun (t8_0,t8_1)=>
 some (x2,t7_1,(x5.1,x5.2.1,x5.2.2.1,x5.2.2.2.1,t6_0,t8_0)):Option ((Int×Int×List UInt8×List UInt8×Int×Int)×(List UInt8×Bool)×Int×Int×List UInt8×List UInt8×Int×Int)).bind (fun (x2,x4,x5)=>
 some (x2,x4,x5))):Option ((Int×Int×List UInt8×List UInt8×Int×Int)×(List UInt8×Bool)×Int×Int×List UInt8×List UInt8×Int×Int)).bind (fun (x2,x4,x5)=>
 bif x4.2 then
 some ((0,0,[],[],0,0),false)
 else
 bif !(x4.1==[]) then
 some ((0,0,[],[],0,0),false)
 else
 (ψW.f x5).bind fun t9=>
 bif !t9 then
 some ((0,0,[],[],0,0),false)
 else
 some (x5,true))
theorem φGs (s:List UInt8):ψU.f s=(ψ10.f (s,false)).bind fun p=>(ψ10.f p.2).bind fun q=>φ6M p.1 q.1 q.2:=rfl
theorem φBy (k b:Int) (s:List UInt8) (hl:s.length<2 ^ 62):φ6M k b (s,true)=some (φ30,false):=by
 have hf:ψR.f [] 4=some (0,false):=φ5r [] (by show 0<2 ^ 62;decide)
 unfold φ6M
 simp only[φ5M,bS]
 cases decide (k=1∨k=4)
 ·cases (k==2)
  ·simp only[cF,φ5c s hl,bS,φ7I,hf,cT];rfl
  ·simp only[cF,cT,φ6R s hl,bS];rfl
 ·simp only[cT,φ6R s hl,bS];rfl
theorem φ8s (S:List UInt8) (r:RecT) (st:φ32) (h:st.2=false→st.1=[]→φ12 r=true→φc r=S) :
  ∃res:RecT×Bool,(bif st.2 then some (((0,0,[],[],0,0):RecT),false) else bif !(st.1==[]) then some ((0,0,[],[],0,0),false) else (ψW.f r).bind fun t9=>bif !t9 then some ((0,0,[],[],0,0),false) else some (r,true))=some res∧(res=(φ30,false)∨∃r,res=(r,true)∧φ1v S r):=by
 cases hb:st.2
 rotate_left
 ·exact ⟨(φ30,false),rfl,.inl rfl⟩
 simp only[cF]
 by_cases he:st.1=[]
 ·have he2:(st.1==[])=true:=by simpa using he
  simp only[he2,nZ,cF,φ5z,bS]
  cases hr:φ12 r
  ·exact ⟨(φ30,false),rfl,.inl rfl⟩
  ·exact ⟨(r,true),rfl,.inr ⟨r,rfl,hr,h hb he hr⟩⟩
 ·have he2:(st.1==[])=false:=by simpa using he
  simp only[he2,nF,cT]
  exact ⟨(φ30,false),rfl,.inl rfl⟩
theorem φEO (s:List UInt8) (hl:s.length<1000000000000):∃res:RecT×Bool,ψU.f s=some res∧(res=(φ30,false)∨∃r,res=(r,true)∧φ1v s r):=by
 rw[φGs]
 rcases φ3g s (by omega) with ⟨k,s1,e1,q1,i1⟩ | e1
 rotate_left
 ·rw[e1,bS]
  simp only[φ5c s (show s.length<2 ^ 62 by omega),bS,φBy 0 0 s (show s.length<2 ^ 62 by omega)]
  exact ⟨_,rfl,.inl rfl⟩
 have l1:s1.length≤s.length:=by rw[q1,lA];omega
 rw[e1,bS]
 rcases φ3g s1 (by omega) with ⟨b,s2,e2,q2,i2⟩ | e2
 rotate_left
 ·simp only[e2,bS,φBy k 0 s1 (show s1.length<2 ^ 62 by omega)]
  exact ⟨_,rfl,.inl rfl⟩
 have l2:s2.length≤s.length:=by rw[q2,lA] at l1;omega
 simp only[e2,bS]
 unfold φ6M
 simp only[φ5M,bS]
 by_cases c1:k=1∨k=4
 ·have hcd:decide (k=1∨k=4)=true:=decide_eq_true c1
  simp only[hcd,cT]
  rcases φ6Y s2 (by omega) with ⟨ky,s3,e3,q3,i3⟩ | ⟨s3,e3,l3⟩
  rotate_left
  ·simp only[e3,bS,φ6R s3 (show s3.length<2 ^ 62 by omega)]
   exact ⟨_,rfl,.inl rfl⟩
  have l3:s3.length≤s.length:=by rw[q3,lA,lA] at l2;omega
  rcases φ6Y s3 (by omega) with ⟨v,s4,e4,q4,i4⟩ | ⟨s4,e4,l4⟩
  rotate_left
  ·simp only[e3,e4,bS]
   exact ⟨_,rfl,.inl rfl⟩
  simp only[e3,e4,bS]
  exact φ8s s (k,b,ky,v,0,0) (s4,false) fun _ he hr=>by
   have he:s4=[]:=he
   subst he
   unfold φc
   rw[if_neg (by rw[hr];simp),if_pos c1,q1,q2,q3,q4]
   simp[aA]
 have hcd:decide (k=1∨k=4)=false:=decide_eq_false c1
 by_cases c2:k=2
 ·have b2:(k==2)=true:=by simpa using c2
  simp only[hcd,b2,cT,cF]
  rcases φ6Y s2 (by omega) with ⟨ky,s3,e3,q3,i3⟩ | ⟨s3,e3,l3⟩
  rotate_left
  ·simp only[e3,bS]
   exact ⟨_,rfl,.inl rfl⟩
  simp only[e3,bS]
  exact φ8s s (k,b,ky,[],0,0) (s3,false) fun _ he hr=>by
   have he:s3=[]:=he
   subst he
   unfold φc
   rw[if_neg (by rw[hr];simp),if_neg c1,if_pos c2,q1,q2,q3]
   simp[aA]
 ·have b2:(k==2)=false:=by simpa using c2
  simp only[hcd,b2,cF]
  rcases φ3g s2 (by omega) with ⟨c,s3,e3,q3,i3⟩ | e3
  rotate_left
  ·have hf:ψR.f [] 4=some (0,false):=φ5r [] (by show 0<2 ^ 62;decide)
   simp only[e3,bS,φ7I,hf]
   exact ⟨_,rfl,.inl rfl⟩
  rcases φ8L s3 4 (by omega) with ⟨t,s4,e4,q4,i4⟩ | e4
  rotate_left
  ·have hf:ψR.f [] 4=some (0,false):=φ5r [] (by show 0<2 ^ 62;decide)
   simp only[e3,e4,bS,hf]
   exact ⟨_,rfl,.inl rfl⟩
  have ht:t.length=4:=by omega
  have hf:=φ5r t (by omega)
  obtain ⟨f1,f2,f3⟩:=φGg t ht
  simp only[e3,e4,bS,hf]
  exact φ8s s (k,b,[],[],c,(φ2o t).1) (s4,false) fun _ he hr=>by
   have he:s4=[]:=he
   subst he
   unfold φc
   rw[if_neg (by rw[hr];simp),if_neg c1,if_neg c2,q1,q2,q3,q4]
   simp only
   rw[f1]
   simp[aA]
theorem φ9D (S:List UInt8) (r:RecT):∃res:RecT×Bool,((ψ2i.f r).bind fun t9=>bif !(t9==S) then some (((0,0,[],[],0,0):RecT),false) else bif S==[] then some ((0,0,[],[],0,0),false) else some (r,true))=some res∧(res=(φ30,false)∨∃r,res=(r,true)∧φ1v S r):=by
 rw[φ8S,bS]
 by_cases c:φc r=S
 ·have c1:(φc r==S)=true:=by simpa using c
  simp only[c1,nZ,cF]
  by_cases e:S=[]
  ·have e1:(S==[])=true:=by simpa using e
   simp only[e1,cT]
   exact ⟨_,rfl,.inl rfl⟩
  ·have e1:(S==[])=false:=by simpa using e
   simp only[e1,cF]
   refine ⟨_,rfl,.inr ⟨r,rfl,?_,c⟩⟩
   cases hr:φ12 r with
   | true=>rfl
   | false=>
    exfalso
    apply e
    rw[←c]
    unfold φc
    rw[if_pos hr]
 ·have c1:(φc r==S)=false:=by simpa using c
  simp only[c1,nF,cT]
  exact ⟨_,rfl,.inl rfl⟩
theorem φ4I (s:List UInt8):0≤(φP s).2∧(φP s).2≤s.length∧(φP s).2≤7:=by
 rcases φ9e s with h | ⟨n,k,_,h,h1,h2,h3,h4,h5⟩
 ·rw[h];simp
 ·rw[h];simp only;omega
theorem φEd (s:List UInt8) (hl:s.length<1000000000000):∃res:RecT×Bool,ψ2X.f s=some res∧(res=(φ30,false)∨∃r,res=(r,true)∧φ1v s r):=by
 unfold ψ2X.f
 rw[φ1e s (by omega),bS]
 obtain ⟨a1,a2,a3⟩:=φ4I s
 generalize φP s=p at *
 obtain ⟨k,a⟩:=p
 simp only at a1 a2 a3
 have c1:(decide (0≤a) && decide (a≤(s.length:Int)))=true:=by simp;omega
 have hd:(s.drop a.toNat).length=s.length - a.toNat:=lD
 simp only[c1,cT,φ1e (s.drop a.toNat) (show (s.drop a.toNat).length<2 ^ 62 by omega),bS]
 obtain ⟨b1,b2,b3⟩:=φ4I (s.drop a.toNat)
 generalize φP (s.drop a.toNat)=q at *
 obtain ⟨b,d⟩:=q
 simp only at b1 b2 b3 ⊢
 cases ea:(a==0)
 rotate_left
 ·simp only[cT];exact ⟨_,rfl,.inl rfl⟩
 cases ed:(d==0)
 rotate_left
 ·simp only[cT,cF];exact ⟨_,rfl,.inl rfl⟩
 have ew:w64 (a+d)=a+d:=φ9 (by omega) (by omega)
 have c2:(decide (0≤a+d) && decide (a+d≤(s.length:Int)))=true:=by simp;omega
 simp only[cF,ew,c2,cT,φ6p,bS]
 have hx:(s.drop (a+d).toNat).length≤s.length:=by rw[lD];omega
 generalize s.drop (a+d).toNat=x at *
 cases decide (k=1∨k=4)
 rotate_left
 ·obtain ⟨t,r,f,e1,l1,l2⟩:=φ7B x (by omega)
  obtain ⟨t',r',f',e2,l3,l4⟩:=φ7B r (by omega)
  simp only[cT,e1,e2,bS]
  exact φ9D s (k,b,t,t',0,0)
 cases (k==2)
 rotate_left
 ·obtain ⟨t,r,f,e1,l1,l2⟩:=φ7B x (by omega)
  simp only[cT,cF,e1,bS]
  exact φ9D s (k,b,t,[],0,0)
 ·simp only[cF,φ1e x (show x.length<2 ^ 62 by omega),bS]
  obtain ⟨g1,g2,g3⟩:=φ4I x
  generalize φP x=u at *
  obtain ⟨c,g⟩:=u
  simp only at g1 g2 g3 ⊢
  have c3:(decide (0≤g) && decide (g≤(x.length:Int)))=true:=by simp;omega
  simp only[c3,cT,φAG (x.drop g.toNat) (show (x.drop g.toNat).length<2 ^ 62 by rw[lD];omega),bS]
  exact φ9D s (k,b,[],[],c,(φ2o (x.drop g.toNat)).1)
noncomputable def φ19 (s:List UInt8):RecT×Bool:=@dite (RecT×Bool) (∃r,φ1v s r) (Classical.propDecidable _) (fun h=>(h.choose,true)) (fun _=>(φ30,false))
theorem φAV {s:List UInt8} {o:Option (RecT×Bool)} (h1:∀r,φ1v s r→o=some (r,true)) (h2:∃res:RecT×Bool,o=some res∧(res=(φ30,false)∨∃r,res=(r,true)∧φ1v s r)):o=some (φ19 s):=by
 unfold φ19
 by_cases h:∃r,φ1v s r
 ·rw[dif_pos h];exact h1 _ h.choose_spec
 ·rw[dif_neg h]
  obtain ⟨res,e,k | ⟨r,_,hr⟩⟩:=h2
  ·rw[e,k]
  ·exact absurd ⟨r,hr⟩ h
theorem φHE (s:List UInt8) (hl:s.length<1000000000000):ψU.f s=some (φ19 s):=φAV (fun _ h=>φ9n h) (φEO s hl)
theorem φFV (s:List UInt8) (hl:s.length<1000000000000):ψ2X.f s=some (φ19 s):=φAV (fun _ h=>φEQ h) (φEd s hl)
theorem φAR (s:List UInt8):φ19 s=(φ30,false)∧(¬∃r,φ1v s r)∨∃r,φ19 s=(r,true)∧φ1v s r:=by
 unfold φ19
 by_cases h:∃r,φ1v s r
 ·rw[dif_pos h];exact .inr ⟨_,rfl,h.choose_spec⟩
 ·rw[dif_neg h];exact .inl ⟨rfl,h⟩
theorem φ6a (s:List UInt8):(φD s).1.length≤s.length:=by
 unfold φD
 split
 ·simp
 split
 ·simp
 ·split
  ·simp
  split
  ·simp only[lD,lT];omega
  ·simp
abbrev φ1g:=Int×Int×RecT
theorem φ7F (s:List UInt8):(φD s).2=0∨∃n:Nat,(φD s).2=(n:Int)∧5≤n∧n≤s.length:=by
 unfold φD
 split
 ·exact .inl rfl
 split
 ·exact .inl rfl
 ·rename_i n k hr
  obtain ⟨q1,q2,q3,q4,q5⟩:=φ3H 7 true (s.drop 4) n k hr
  split
  ·exact .inl rfl
  rename_i c
  split
  ·exact .inr ⟨4+k+n,rfl,by omega,by omega⟩
  ·exact .inl rfl
noncomputable def φ3v:Nat→List UInt8→Nat→List φ1g×Nat
 | 0,_,a=>([],a)
 | f+1,s,a=>
  if (φD (s.drop a)).2=0∨(φ19 (φD (s.drop a)).1).2=false then ([],a) else
  (((a:Int),(φD (s.drop a)).2,(φ19 (φD (s.drop a)).1).1)::(φ3v f s (a+(φD (s.drop a)).2.toNat)).1,(φ3v f s (a+(φD (s.drop a)).2.toNat)).2)
theorem φBj:∀(f g:Nat) (s:List UInt8) (a:Nat),a≤s.length→s.length<a+f→s.length<a+g→φ3v f s a=φ3v g s a
 | 0,_,s,a,ha,hf,_=>by omega
 | f+1,0,s,a,ha,_,hg=>by omega
 | f+1,g+1,s,a,ha,hf,hg=>by
  unfold φ3v
  by_cases c:(φD (s.drop a)).2=0∨(φ19 (φD (s.drop a)).1).2=false
  ·rw[if_pos c,if_pos c]
  ·rw[if_neg c,if_neg c]
   rcases φ7F (s.drop a) with h | ⟨n,h,h5,hn⟩
   ·exact absurd (.inl h) c
   ·rw[lD] at hn
    rw[h,tN,φBj f g s (a+n) (by omega) (by omega) (by omega)]
noncomputable def φ1m (s:List UInt8) (a:Nat):List φ1g×Nat:=φ3v (s.length+1 - a) s a
noncomputable def scan (s:List UInt8):List φ1g×Nat:=φ1m s 0
theorem φ4N {s:List UInt8} {a:Nat} (ha:a≤s.length) (h:(φD (s.drop a)).2=0∨(φ19 (φD (s.drop a)).1).2=false):φ1m s a=([],a):=by
 unfold φ1m
 rw[show s.length+1 - a=(s.length - a)+1 by omega,φ3v,if_pos h]
theorem φ5v {s:List UInt8} {a n:Nat} (hn:(φD (s.drop a)).2=(n:Int)) (h0:5≤n) (hl:a+n≤s.length) (hr:(φ19 (φD (s.drop a)).1).2=true) :
  φ1m s a=(((a:Int),(n:Int),(φ19 (φD (s.drop a)).1).1)::(φ1m s (a+n)).1,(φ1m s (a+n)).2):=by
 unfold φ1m
 rw[show s.length+1 - a=(s.length - a)+1 by omega,φ3v,if_neg (by rw[hn,hr];simp;omega),hn,tN,φBj (s.length - a) (s.length+1 - (a+n)) s (a+n) (by omega) (by omega) (by omega)]
theorem φDK {s:List UInt8}:φ1m s s.length=([],s.length):=
 φ4N (κ7 _) (.inl (by rw[List.drop_length];rfl))
theorem φFD:∀(k:Nat) (s:List UInt8) (a:Nat),a≤s.length→s.length - a=k→(φ1m s a).2≤s.length∧a≤(φ1m s a).2∧(φ1m s a).1.length≤s.length - a:=by
 intro k
 induction k using Nat.strongRecOn with
 | ind k ih=>
  intro s a ha hk
  by_cases c:(φD (s.drop a)).2=0∨(φ19 (φD (s.drop a)).1).2=false
  ·rw[φ4N ha c];exact ⟨ha,κ7 _,by simp⟩
  ·rcases φ7F (s.drop a) with h | ⟨n,h,h5,hn⟩
   ·exact absurd (.inl h) c
   ·rw[lD] at hn
    have hr:(φ19 (φD (s.drop a)).1).2=true:=by
     cases e:(φ19 (φD (s.drop a)).1).2 with
     | true=>rfl
     | false=>exact absurd (.inr e) c
    rw[φ5v h h5 (by omega) hr]
    have:=ih (s.length - (a+n)) (by omega) s (a+n) (by omega) rfl
    simp only[lC]
    omega
theorem φ3o (s:List UInt8):(scan s).2≤s.length∧(scan s).1.length≤s.length:=by
 have:=φFD s.length s 0 (κ5 _) (by omega)
 unfold scan
 omega
def φ3k (e:φG):Bool:=φ1X e.1 && (decide (1≤e.2.1∧e.2.1≤100000) && (decide (0≤e.2.2.1) && (decide (1≤e.2.2.2.1∧e.2.2.2.1≤210) && decide (1≤e.2.2.2.2∧e.2.2.2.2≤1000000))))
def φ2A:Option (List UInt8)→List φG→Bool
 | _,[]=>true
 | p,e::r=>φ3k e && ((match p with | none=>true | some q=>Op.bytesLess q e.1) && φ2A (some e.1) r)
def φ5Q (l:List φG):Nat→Option (List UInt8)
 | 0=>none
 | n+1=>some (l.getD n ([],0,0,0,0)).1
theorem φ6z (l:List φG) (n:Nat) (h:n<l.length):φ5Q l (n+1)=some l[n].1:=by
 show some (l.getD n ([],0,0,0,0)).1=_
 rw[φ5 h]
def φ3i (l:List φG):Bool:=φ2A none l && decide (l.length≤20)
theorem φBC {a:Nat} (h:a<1000000000001):(a+1) * 80≤140737488355328:=by omega
theorem φCM (s:List UInt8) (hl:s.length<1000000000):ψd.f s=some ((scan s).1,((scan s).2:Int)):=by
 have key:=φ4e (step:=ψd.l0) (a:=(s,([]:List φ1g),((0:Nat):Int))) (fun a=>(a.2.1++(φ1m s a.2.2.toNat).1,((φ1m s a.2.2.toNat).2:Int))) (fun a=>a.1=s∧∃n:Nat,a.2.2=(n:Int)∧n≤s.length∧a.2.1.length≤n) (fun a=>s.length - a.2.2.toNat)
  (fun rec a ha ih=>by
   obtain ⟨x,out,k⟩:=a
   obtain ⟨hx,n,hn,hle,hol⟩:=ha
   simp only at hx hn hol ih ⊢
   subst hx hn
   have c1:(decide (0≤(n:Int)) && decide ((n:Int)≤(x.length:Int)))=true:=by simp;omega
   have hd:(x.drop n).length<1000000000000:=by rw[lD];omega
   have hu:=φ6a (x.drop n)
   simp only[ψd.l0,c1,cT,tN,φ8e (x.drop n) hd,φHE (φD (x.drop n)).1 (show (φD (x.drop n)).1.length<1000000000000 by omega),bS]
   rcases φ7F (x.drop n) with h | ⟨m,h,h5,hm⟩
   ·have d:((φD (x.drop n)).2==0)=true:=by simpa using h
    rw[φ4N hle (.inl h)]
    simp only[d,cT,κ4]
   have d:(((m:Nat):Int)==0)=false:=by simp;omega
   rw[lD] at hm
   cases hr:(φ19 (φD (x.drop n)).1).2
   ·rw[φ4N hle (.inr hr)]
    simp only[h,d,cF,nF,cT,κ4]
   ·have hb:∀{α:Type} (v:α),(out.length+[v].length) * 80≤140737488355328:=fun v=>φBC (by omega)
    have ew:w64 ((n:Int)+(m:Int))=((n+m:Nat):Int):=by rw[φ9 (by omega) (by omega)];omega
    have ih:=ih (x,out++[((n:Int),(m:Int),(φ19 (φD (x.drop n)).1).1)],((n+m:Nat):Int)) ⟨rfl,n+m,rfl,by omega,by simp only[lA,κ3];omega⟩ (by simp only[tN];omega)
    simp only[tN] at ih
    rw[φ5v h h5 (by omega) hr]
    simp only[h,d,cF,nZ,hb,dT,cT,ew,ih]
    simp[aA])
  ⟨rfl,0,rfl,κ5 _,by simp⟩ (by simp only;omega)
 have key:lp ψd.l0 (s,[],0)=_:=key
 unfold ψd.f
 rw[key,bS]
 rfl
theorem φ75 (s:List UInt8) (hl:s.length<1000000000):ψ2e.f s=some ((scan s).1,((scan s).2:Int)):=by
 have key:=φ4s (step:=ψ2e.l0) (a:=(s,([]:List φ1g),((0:Nat):Int))) (fun a=>a.1=s∧∃n:Nat,a.2.2=(n:Int)∧n≤s.length∧a.2.1.length≤n∧scan s=(a.2.1++(φ1m s n).1,(φ1m s n).2)) (fun a=>s.length - a.2.2.toNat)
  (fun b=>b=.inl ((scan s).1,((scan s).2:Int))∨b=.inr ((scan s).1,((scan s).2:Int)))
  (fun rec a ha=>by
   obtain ⟨x,out,k⟩:=a
   obtain ⟨hx,n,hn,hle,hol,hs⟩:=ha
   simp only at hx hn hol hs
   subst hx hn
   rcases κ0 n x.length with hlt | hge
   rotate_left
   ·left
    have:n=x.length:=by omega
    subst this
    rw[φDK] at hs
    refine ⟨_,?_,.inl rfl⟩
    rw[hs]
    simp[ψ2e.l0]
   have c0:(n:Int)<(x.length:Int):=by omega
   have c1:(decide (0≤(n:Int)) && decide ((n:Int)≤(x.length:Int)))=true:=by simp;omega
   have hd:(x.drop n).length<1000000000000:=by rw[lD];omega
   have hu:=φ6a (x.drop n)
   simp only[ψ2e.l0,c0,dT,c1,cT,tN,φ8p (x.drop n) hd,φFV (φD (x.drop n)).1 (show (φD (x.drop n)).1.length<1000000000000 by omega),bS]
   rcases φ7F (x.drop n) with h | ⟨m,h,h5,hm⟩
   ·left
    have d:((φD (x.drop n)).2==0)=true:=by simpa using h
    rw[φ4N hle (.inl h)] at hs
    simp only[κ4] at hs
    exact ⟨.inr (out,(n:Int)),by simp only[d,cT],.inr (by rw[hs])⟩
   have d:(((m:Nat):Int)==0)=false:=by simp;omega
   rw[lD] at hm
   cases hr:(φ19 (φD (x.drop n)).1).2
   ·left
    rw[φ4N hle (.inr hr)] at hs
    simp only[κ4] at hs
    exact ⟨.inr (out,(n:Int)),by simp only[h,d,cF,nF,cT],.inr (by rw[hs])⟩
   ·right
    have hb:∀{α:Type} (v:α),(out.length+[v].length) * 80≤140737488355328:=fun v=>φBC (by omega)
    have ew:w64 ((n:Int)+(m:Int))=((n+m:Nat):Int):=by rw[φ9 (by omega) (by omega)];omega
    rw[φ5v h h5 (by omega) hr] at hs
    refine ⟨(x,out++[((n:Int),(m:Int),(φ19 (φD (x.drop n)).1).1)],((n+m:Nat):Int)),⟨rfl,n+m,rfl,by omega,by simp only[lA,κ3];omega,by simpa [aA] using hs⟩,by simp only[tN];omega,?_⟩
    simp only[h,d,cF,nZ,hb,dT,cT,ew])
  ⟨rfl,0,rfl,κ5 _,by simp,by unfold scan;simp⟩ (by simp only;omega)
 obtain ⟨b,e,hb⟩:=key
 have e:lp ψ2e.l0 (s,[],0)=some b:=e
 unfold ψ2e.f
 rw[e,bS]
 rcases hb with rfl | rfl<;>rfl
theorem φFB (l:List φG) (hl:l.length<2 ^ 62):lp ψ7.l0 (l,l,(l.length:Int),0)=some (if φ2A none l=true then .inl l else .inr false):=by
 have key:=φO (step:=ψ7.l0) (fun n (_:Unit)=>(l,l,(l.length:Int),(n:Int))) l.length (fun n _=>if φ2A (φ5Q l n) (l.drop n)=true then .inl l else .inr false) (fun _ _=>True)
  (fun rec n s hn' _ ih=>by
   rcases κ0 n l.length with h | h
   ·have hw:w64 ((n:Int)+1)=((n+1:Nat):Int):=φB (by omega)
    have ih2:=ih () h trivial
    rw[φ6z l n h] at ih2
    rw[dG h]
    simp only[φ2A,ψ7.l0,oL,h,dT,cT,φ8,φA,φ5 h,bS,φ1b,φ9C]
    unfold φ3k
    have hneg:decide (l[n].2.2.1<0)=!decide (0≤l[n].2.2.1):=by
     by_cases c:0≤l[n].2.2.1
     ·have:¬l[n].2.2.1<0:=by omega
      simp[c,this]
     ·have:l[n].2.2.1<0:=by omega
      simp[c,this]
    rw[hneg]
    rcases bE (φ1X l[n].1) with k1 | k1
    rotate_left
    ·simp[k1]
    rcases bE (decide (1≤l[n].2.1∧l[n].2.1≤100000)) with k2 | k2
    rotate_left
    ·simp only[k1,k2,nZ,nF,cF,cT,bS,φS];simp
    rcases bE (decide (0≤l[n].2.2.1)) with k3 | k3
    rotate_left
    ·simp only[k1,k2,k3,nZ,nF,cF,cT,bS,φS];simp
    rcases bE (decide (1≤l[n].2.2.2.1∧l[n].2.2.2.1≤210)) with k4 | k4
    rotate_left
    ·simp only[k1,k2,k3,k4,nZ,nF,cF,cT,bS,φS];simp
    rcases bE (decide (1≤l[n].2.2.2.2∧l[n].2.2.2.2≤1000000)) with k5 | k5
    rotate_left
    ·simp only[k1,k2,k3,k4,k5,nZ,nF,cF,cT,bS,φS];simp
    simp only[k1,k2,k3,k4,k5,nZ,cF,tA]
    cases n with
    | zero=>
     have z:¬((0:Nat):Int) > 0:=by omega
     simp only[z,dF,cF,bS,φL,hw,ih2,φ5Q,tA]
    | succ m=>
     have z:((m+1:Nat):Int) > 0:=by omega
     have hm:m<l.length:=by omega
     have z2:w64 (((m+1:Nat):Int) - 1)=(m:Int):=by rw[φ9 (by omega) (by omega)];omega
     rw[φ6z l m hm]
     simp only[z,dT,cT,z2,φ8,hm,φA,φ5 hm]
     rcases bE (Op.bytesLess l[m].1 l[m+1].1) with k6 | k6
     ·simp only[k6,nZ,cF,bS,φL,hw,ih2,tA]
     ·simp[k6]
   ·have:n=l.length:=by omega
    subst this
    simp[ψ7.l0,φ2A])
  hl 0 () (κ5 _) trivial
 have key:lp ψ7.l0 (l,l,(l.length:Int),0)=_:=key
 rw[key,κE];rfl
theorem φFP (a:Int):decide (a<0)=!decide (0≤a):=by
 by_cases c:0≤a
 ·have:¬a<0:=by omega
  simp[c,this]
 ·have:a<0:=by omega
  simp[c,this]
theorem φEC (l:List φG) (hl:l.length<2 ^ 62):lp ψ2C.l0 (l,0)=some (if φ2A none l=true then .inl () else .inr false):=by
 have key:=φO (step:=ψ2C.l0) (fun n (_:Unit)=>(l,(n:Int))) l.length (fun n _=>if φ2A (φ5Q l n) (l.drop n)=true then .inl () else .inr false) (fun _ _=>True)
  (fun rec n s hn' _ ih=>by
   rcases κ0 n l.length with h | h
   ·have hw:w64 ((n:Int)+1)=((n+1:Nat):Int):=φB (by omega)
    have ih2:=ih () h trivial
    rw[φ6z l n h] at ih2
    rw[dG h]
    simp only[φ2A,ψ2C.l0,oL,h,dT,cT,φ8,φA,φ5 h,bS,φ1n,φAt]
    unfold φ3k
    rw[φFP]
    rcases bE (φ1X l[n].1) with k1 | k1
    rotate_left
    ·simp[k1]
    rcases bE (decide (1≤l[n].2.1∧l[n].2.1≤100000)) with k2 | k2
    rotate_left
    ·simp only[k1,k2,nZ,nF,cF,cT,bS,φS];simp
    rcases bE (decide (0≤l[n].2.2.1)) with k3 | k3
    rotate_left
    ·simp only[k1,k2,k3,nZ,nF,cF,cT,bS,φS];simp
    rcases bE (decide (1≤l[n].2.2.2.1∧l[n].2.2.2.1≤210)) with k4 | k4
    rotate_left
    ·simp only[k1,k2,k3,k4,nZ,nF,cF,cT,bS,φS];simp
    rcases bE (decide (1≤l[n].2.2.2.2∧l[n].2.2.2.2≤1000000)) with k5 | k5
    rotate_left
    ·simp only[k1,k2,k3,k4,k5,nZ,nF,cF,cT,bS,φS];simp
    simp only[k1,k2,k3,k4,k5,nZ,cF,tA]
    cases n with
    | zero=>
     have z:¬((0:Nat):Int) > 0:=by omega
     simp only[z,dF,cF,bS,φL,hw,ih2,φ5Q,tA]
    | succ m=>
     have z:((m+1:Nat):Int) > 0:=by omega
     have hm:m<l.length:=by omega
     have z2:w64 (((m+1:Nat):Int) - 1)=(m:Int):=by rw[φ9 (by omega) (by omega)];omega
     have z3:(Op.bytesLess l[m+1].1 l[m].1 || l[m+1].1==l[m].1)=!Op.bytesLess l[m].1 l[m+1].1:=φ6T _ _
     rw[φ6z l m hm]
     simp only[z,dT,cT,z2,φ8,hm,φA,φ5 hm,z3]
     rcases bE (Op.bytesLess l[m].1 l[m+1].1) with k6 | k6
     ·simp only[k6,nZ,cF,bS,φL,hw,ih2,tA]
     ·simp[k6]
   ·have:n=l.length:=by omega
    subst this
    simp[ψ2C.l0,φ2A])
  hl 0 () (κ5 _) trivial
 have key:lp ψ2C.l0 (l,0)=_:=key
 rw[key,κE];rfl
theorem φCt (l:List φG) (hl:l.length<2 ^ 62):ψ7.f l=some (φ3i l):=by
 unfold ψ7.f φ3i
 rw[φFB l hl,bS]
 have e:decide ((l.length:Int)≤20)=decide (l.length≤20):=decide_eq_decide.2 (by omega)
 cases φ2A none l<;>simp[e]
theorem φHt (l:List φG) (hl:l.length<2 ^ 62):ψ2C.f l=some (φ3i l):=by
 unfold ψ2C.f φ3i
 rw[φEC l hl]
 by_cases c:l.length≤20
 ·have c1:¬(l.length:Int) > 20:=by omega
  simp only[c,c1,dT,dF,cF,κV,bS]
  cases φ2A none l<;>rfl
 ·have c1:(l.length:Int) > 20:=by omega
  simp[c,c1]
theorem φA9:∀(l:List φ4) (p:List UInt8),(∀x∈l,Op.bytesLess p x.1=true)→srt l→φ2E (some p) l=true
 | [],_,_,_=>rfl
 | f::l,p,h,hs=>by
  simp only[φ2E,h f κ6,tA]
  have hs2:=List.pairwise_cons.1 hs
  exact φA9 l f.1 hs2.1 hs2.2
theorem φI3 (l:List φ4) (hs:srt l):φ2E none l=true:=by
 cases l with
 | nil=>rfl
 | cons f l=>
  have hs2:=List.pairwise_cons.1 hs
  exact φA9 l f.1 hs2.1 hs2.2
def okF (cap:Int) (l:List φ4):Prop:=l.length≤130∧(φK l:Int)≤cap∧(∀f∈l,φ23 f=true)∧srt l
theorem φ3d (d:φ2):φ6 d=true↔(0≤d.2.1∧d.2.1≤100000)∧(-1≤d.2.2.1∧d.2.2.1≤100000)∧okF d.2.1 d.1:=by
 unfold φ6 okF φ4V
 simp only[bA,decide_eq_true_eq,List.all_eq_true]
 constructor
 ·rintro ⟨h1,h2,h3,h4,h5,h6⟩
  exact ⟨h2,h3,h1,h4,h5,φAE _ h6⟩
 ·rintro ⟨h2,h3,h1,h4,h5,h6⟩
  exact ⟨h1,h2,h3,h4,h5,φI3 _ h6⟩
theorem φGO {d:φ2} (h:φ6 d=true):φ6 (tick d)=true:=by
 rw[φ3d] at h ⊢
 obtain ⟨h1,h2,h3⟩:=h
 rw[φ7X,φr]
 refine ⟨h1,?_,h3⟩
 unfold tick;split
 ·exact ⟨by show -1≤d.2.2.1 - 1;omega,by show d.2.2.1 - 1≤100000;omega⟩
 ·exact h2
theorem φ4x {d:φ2} {act:List φ4→Int×List φ4} (h:φ6 d=true) (ha:okF d.2.1 d.1→okF d.2.1 (act d.1).2):φ6 (φZ d act).1=true:=by
 have ht:=φGO h
 rw[φ3d] at h ht
 unfold φZ
 split
 ·rename_i k;rw[(φ3d d).2 h] at k;exact absurd k (by simp)
 ·split
  ·exact (φ3d _).2 h
  ·refine (φ3d _).2 ⟨?_,ht.2.1,?_⟩
   ·show 0≤(tick d).2.1∧(tick d).2.1≤100000
    exact ht.1
   ·show okF (tick d).2.1 (act d.1).2
    rw[φ7X];exact ha h.2.2
theorem φAS {cap:Int} {l m:List φ4} (h:okF cap l) (hs:m.Sublist l):okF cap m:=by
 have:=φ7w (fun f:φ4=>f.2.1.length) hs
 have:=hs.length_le
 have h2:=h.2.1
 refine ⟨by have:=h.1;omega,?_,fun f hf=>h.2.2.1 f (hs.subset hf),h.2.2.2.sublist hs⟩
 unfold φK at *;omega
theorem φGX (l:List φ4) (f:φ4):φK (insB l f)=φK l+f.2.1.length:=by
 unfold φK
 induction l with
 | nil=>simp[insB,sumN]
 | cons x l ih=>
  rw[φ7R]
  split
  ·simp only[sumN,ih];omega
  ·simp only[sumN];omega
theorem φHq (l:List φ4) (i:Nat) (h:i<l.length):φK (φW l i)+l[i].2.1.length=φK l:=by
 unfold φK φW
 induction l generalizing i with
 | nil=>simp at h
 | cons x l ih=>
  cases i with
  | zero=>simp only[List.take_zero,List.drop_succ_cons,κE,κG,List.getElem_cons_zero,sumN];omega
  | succ i=>
   have:=ih i (by simpa using h)
   simp only[List.take_succ_cons,List.drop_succ_cons,κM,sumN,List.getElem_cons_succ] at *
   omega
theorem φGk (l:List φ4) (i:Nat) (f:φ4) (h:i<l.length):φK (l.set i f)+l[i].2.1.length=φK l+f.2.1.length:=by
 unfold φK
 induction l generalizing i with
 | nil=>simp at h
 | cons x l ih=>
  cases i with
  | zero=>simp only[List.set_cons_zero,List.getElem_cons_zero,sumN];omega
  | succ i=>
   have:=ih i (by simpa using h)
   simp only[List.set_cons_succ,sumN,List.getElem_cons_succ] at *
   omega
theorem φH1 {α:Type} {l:List (List UInt8×α)} (h:srt l) (i:Nat) (hi:i<l.length) (f:List UInt8×α) (hf:f.1=l[i].1):srt (l.set i f):=by
 unfold srt at *
 have e:(l.set i f).map (·.1)=l.map (·.1):=by
  apply List.ext_getElem
  ·simp
  ·intro n h1 h2
   simp only[List.getElem_map,List.getElem_set]
   split
   ·rename_i c;subst c;exact hf
   ·rfl
 have h2:(l.map (·.1)).Pairwise (fun a b=>Op.bytesLess a b=true):=List.pairwise_map.2 h
 rw[←e] at h2
 exact List.pairwise_map.1 h2
theorem φ8H {cap:Int} {l:List φ4} (h:okF cap l) (i:Nat) (hi:i<l.length) (f:φ4) (hn:f.1=l[i].1) (hf:φ23 f=true) (hu:(φK l:Int)+f.2.1.length - l[i].2.1.length≤cap):okF cap (l.set i f):=by
 have:=φGk l i f hi
 refine ⟨by rw[List.length_set];exact h.1,by omega,fun g hg=>?_,φH1 h.2.2.2 i hi f hn⟩
 rcases List.mem_or_eq_of_mem_set hg with hg | e
 ·exact h.2.2.1 g hg
 ·rw[e];exact hf
theorem φCb {cap:Int} {l:List φ4} (h:okF cap l) (f:φ4) (h1:l.length<130) (hne:∀x∈l,x.1≠f.1) (hf:φ23 f=true) (hu:(φK l:Int)+f.2.1.length≤cap):okF cap (insB l f):=by
 refine ⟨by rw[φ8D];omega,by rw[φGX];omega,fun g hg=>?_,φ9t f l h.2.2.2 hne⟩
 rcases (φ7H g f l).1 hg with e | hg
 ·rw[e];exact hf
 ·exact h.2.2.1 g hg
theorem φ8b {d:φ2} (h:φ6 d=true) (n:List UInt8):φ6 (φ2U n d).1=true:=
 φ4x h fun k=>by
  unfold φ2h;split
  ·exact φAS k (φ4D _ _)
  ·exact k
theorem φ9d {d:φ2} (h:φ6 d=true) (n:List UInt8):φ6 (φu n d).1=true:=by
 unfold φu;split
 ·exact φ8b h n
 ·exact h
theorem φ6U {d:φ2} (h:φ6 d=true) (n:List UInt8):φ6 (φ16 n d).1=true:=
 φ4x h fun k=>by
  unfold φ2q;split
  ·exact k
  ·rename_i k1
   split
   ·exact k
   ·rename_i k2
    split
    ·exact k
    ·rename_i k3
     rcases φt d.1 n with ⟨e,hno⟩ | ⟨i,hi,e,_⟩
     ·refine φCb k _ (by omega) hno ?_ (by have:=k.2.1;simp;exact this)
      unfold φ23;simp at k1 ⊢;exact k1
     ·omega
theorem φDn {d:φ2} (h:φ6 d=true) (n t:List UInt8):φ6 (φ2I n t d).1=true:=
 φ4x h fun k=>by
  unfold φ2z
  rcases φt d.1 n with ⟨e,_⟩ | ⟨i,hi,e,_⟩
  ·rw[φy e];exact k
  ·rw[φv e]
   simp only
   split
   ·exact k
   ·rename_i k1
    rw[φ5 hi]
    refine φ8H k i hi _ rfl ?_ ?_
    ·have:=k.2.2.1 _ (gM hi)
     unfold φ23 at *
     simp only[bA,decide_eq_true_eq,lA] at *
     exact ⟨this.1,by omega,by omega⟩
    ·simp only[lA];omega
theorem φ6t {d:φ2} (h:φ6 d=true) (n:List UInt8):φ6 (φ2J n d).1=true:=
 φ4x h fun k=>by
  unfold φ2k
  rcases φt d.1 n with ⟨e,_⟩ | ⟨i,hi,e,_⟩
  ·rw[φy e];exact k
  ·rw[φv e]
   simp only
   rw[φ5 hi]
   refine φ8H k i hi _ rfl ?_ ?_
   ·have:=k.2.2.1 _ (gM hi)
    unfold φ23 at *
    simp only[bA,decide_eq_true_eq] at *
    exact ⟨this.1,by omega,by omega⟩
   ·have:=k.2.1;simp only;omega
theorem φ4P {d:φ2} (h:φ6 d=true) (n:List UInt8) (z:Int):φ6 (φZ d (φ2X n z)).1=true:=
 φ4x h fun k=>by
  unfold φ2X
  rcases φt d.1 n with ⟨e,_⟩ | ⟨i,hi,e,_⟩
  ·rw[φy e];exact k
  ·rw[φv e]
   simp only
   rw[φ5 hi]
   split
   ·rename_i k1
    refine φ8H k i hi _ rfl ?_ ?_
    ·have:=k.2.2.1 _ (gM hi)
     unfold φ23 at *
     simp only[bA,decide_eq_true_eq,lT] at *
     exact ⟨this.1,by omega,by omega⟩
    ·have:=k.2.1
     simp only[lT];omega
   ·exact k
theorem φHP {d:φ2} (h:φ6 d=true) (a b:List UInt8):φ6 (φ5Y a b d).1=true:=
 φ4x h fun k=>by
  unfold φ34
  split
  ·exact k
  ·rename_i k0
   rcases φt d.1 a with ⟨e,_⟩ | ⟨i,hi,e,_⟩
   ·rw[φy e];exact k
   ·rw[φv e]
    simp only
    split
    ·exact k
    ·rw[φ5 hi]
     have hs:(φ1H (φW d.1 i) b).Sublist d.1:=(φAj _ _).trans (φ4D _ _)
     have h2:=φHq d.1 i hi
     have h3:=φ7Z hi
     have h4:=φ9M (φW d.1 i) b
     have h5:φK (φ1H (φW d.1 i) b)≤φK (φW d.1 i):=φ7w (fun f:φ4=>f.2.1.length) (φAj _ _)
     have k1:=k.1
     have k2:=k.2.1
     refine φCb (φAS k hs) _ (by omega) (φAO (k.2.2.2.sublist (φ4D d.1 i))) ?_ (by simp only;omega)
     have:=k.2.2.1 _ (gM hi)
     unfold φ23 at *
     simp only[bA,decide_eq_true_eq,Bool.not_eq_false] at *
     exact ⟨k0,this.2⟩
theorem φ3D {w:φN} {op:φ2→φ2×Int} (h:φ6 w.1=true) (ho:φ6 w.1=true→φ6 (op w.1).1=true):φ6 (φe op w).1=true:=by
 unfold φe;split
 ·exact ho h
 ·exact h
theorem φFn {w:φN} {op:φ2→φ2×Int} (h:φ6 w.1=true) (ho:φ6 w.1=true→φ6 (op w.1).1=true):φ6 (φ13 op w).1=true:=by
 unfold φ13;split
 ·exact ho h
 ·exact h
theorem φI6 {w:φN} (h:φ6 w.1=true) (n t:List UInt8):φ6 (φ3I n t w).1=true:=
 φ3D (op:=φ2J n) (φ3D (op:=φ2I n t) (φ3D (op:=φ16 n) (φ3D (op:=φu n) h fun k=>φ9d k n) fun k=>φ6U k n) fun k=>φDn k n t) fun k=>φ6t k n
theorem φFv {w:φN} (h:φ6 w.1=true) (v:φE):φ6 (sPut v w).1=true:=
 φ3D (op:=φ5Y _ _) (φI6 h _ _) fun k=>φHP k _ _
theorem φ1s {d:φ2} (h:φ6 d=true):dl 100001 d:=by
 rw[φ3d] at h
 obtain ⟨h1,h2,h3,h4,h5,h6⟩:=h
 refine ⟨by omega,by omega,fun f hf=>?_⟩
 have:=h5 f hf
 unfold φ23 at this
 simp only[bA] at this
 have:=φIF this.1
 omega
theorem φB7 {hi:Int}:∀(l:List Int) (p:Option Int),φ1h hi p l=true→∀y∈l,1≤y∧y≤hi
 | [],_,_,y,hy=>by simp at hy
 | x::l,p,h,y,hy=>by
  simp only[φ1h,bA,decide_eq_true_eq] at h
  rcases mc.1 hy with e | hy
  ·subst e;exact h.1
  ·exact φB7 l (some x) h.2.2 y hy
theorem φ5k (v:φE):φ1C v=true↔φ1h (w64 (v.1 - 1)) none v.2=true∧(1≤v.1∧v.1≤100000)∧1≤v.2.length∧v.2.length≤60:=by
 unfold φ1C
 simp only[bA,decide_eq_true_eq]
 constructor
 ·rintro ⟨h1,h2,h3⟩;exact ⟨h1,h2,by omega,by omega⟩
 ·rintro ⟨h1,h2,h3⟩;exact ⟨h1,h2,by omega,by omega⟩
def φ26 (names:List (List UInt8)) (w:φN):φN:=names.foldl (fun w n=>φe (φu n) w) w
def φ4y (names:List (List UInt8)) (w:φN):φN:=names.foldl (fun w n=>φ13 (φu n) w) w
theorem φBc (names:List (List UInt8)):∀w:φN,φ4y names (φg w)=φg (φ26 names w):=by
 induction names with
 | nil=>intro w;rfl
 | cons n l ih=>
  intro w
  show φ4y l (φ13 (φu n) (φg w))=φg (φ26 l (φe (φu n) w))
  rw[φ3z,ih]
theorem φHa (names:List (List UInt8)) {d:φ2} {c:Int} (h:c≠0):φ26 names (d,c)=(d,c):=by
 induction names with
 | nil=>rfl
 | cons n l ih=>show φ26 l (φe (φu n) (d,c))=_;rw[φ3a h,ih]
theorem φGb (names:List (List UInt8)):∀{w:φN},φ6 w.1=true→φ6 (φ26 names w).1=true:=by
 induction names with
 | nil=>intro w h;exact h
 | cons n l ih=>intro w h;exact ih (φ3D (op:=φu n) h fun k=>φ9d k n)
def φI (l:List Int):Int:=l.getD (l.length - 1) 0
theorem φBW {l:List Int} (h:1≤l.length) (hl:l.length<2 ^ 62):w64 ((l.length:Int) - 1)=((l.length - 1:Nat):Int)∧inB ((l.length - 1:Nat):Int) l.length=true∧rdA 0 l ((l.length - 1:Nat):Int)=φI l:=by
 refine ⟨by rw[φ9 (by omega) (by omega)];omega,?_,?_⟩
 ·rw[φ8];simp;omega
 ·rw[φA];rfl
theorem lim8 {a:Nat} (h:a<1000000000001):(a+1) * 8≤140737488355328:=by omega
theorem φCf {a:Nat} (h:a<1000000000001):(0+a) * 48≤140737488355328:=by omega
theorem φCx (v:List φG) (h:v.length<1000000000):ψp.f v=some v:=by
 unfold ψp.f
 have:(([]:List φG).length+v.length) * 48≤140737488355328:=φCf (by omega)
 simp only[this,dT,cT,κG]
theorem φ5x (c:Int):(told c != 0)=(c != 0):=by
 by_cases h:c=0
 ·subst h;rfl
 ·have h2:told c≠0:=fun e=>h ((φ5q c).1 e)
  rw[show (told c != 0)=true by simpa using h2,show (c != 0)=true by simpa using h]
structure RS (y0:φ2b) (y1:φ2):Prop where
 xs:φ9a y0
 xd:φ6d y1
 ms:φ4L y0
 md:φ44 y1
 c0:1+((φ1J y0:Nat):Int)<1000000000000
 c1:1+((φ1J y0:Nat):Int)+((φ1f y1:Nat):Int)<1000000000000
theorem φHc {y0:φ2b} {y1:φ2} (l1:y1.1.length≤100000000) (l2:y0.1.2.length≤100000000) (l3:y0.2.1.length≤100000000):RS y0 y1:=by
 have hm:φ4L y0:=by constructor<;>first | omega | (show _<_;omega)
 refine ⟨by constructor<;>first | omega | (show _<_;omega),show _<_ by omega,hm,show _<_ by omega,?_,?_⟩
 ·unfold φ1J φ2G;omega
 ·unfold φ1J φ2G φ1f;omega
theorem φ3K {a:Nat} (h:a<1000000000001):(a+1) * 48≤140737488355328:=by omega
theorem φD5 (l:List φG) (key:List UInt8) (hl:l.length<1000000000):ψ6.f l key=some (φp l key):=by
 have hk:=φ1z (step:=ψ6.l0) l (fun s x=>if (!(x.1==key))=true then s++[x] else s) (fun n (s:List φG)=>(key,s,l,(l.length:Int),(n:Int))) id (fun n s=>s.length≤n) (by omega)
  (fun rec n s h hi=>by
   have hb:(s.length+([(l[n].1,l[n].2.1,l[n].2.2.1,l[n].2.2.2.1,l[n].2.2.2.2)]:List φG).length) * 48≤140737488355328:=φ3K (by omega)
   have hw:=φB (show n+1<9223372036854775808 by omega)
   simp only[ψ6.l0,oL,h,dT,cT,φ8,φA,φ5 h,hb]
   cases l[n].1==key<;>simp only[nZ,nF,cT,cF,bS,hw,if_true,if_false,κ1])
  (fun n s h hi=>by
   have:∀b:Bool,(if b=true then s++[l[n]] else s).length≤n+1:=fun b=>by cases b<;>simp<;>omega
   exact this _)
  (fun rec s hi=>by simp[ψ6.l0]) [] (by simp)
 have hk:lp ψ6.l0 (key,[],l,(l.length:Int),0)=_:=hk
 unfold ψ6.f
 rw[hk,φ8x];rfl
theorem φI8 (l:List φG) (key:List UInt8) (hl:l.length<1000000000):ψ2B.f l key=some (φp l key):=by
 have hk:=φ1z (step:=ψ2B.l0) l (fun s x=>if (!(x.1==key))=true then s++[x] else s) (fun n (s:List φG)=>(l,key,s,(n:Int))) id (fun n s=>s.length≤n) (by omega)
  (fun rec n s h hi=>by
   have hb:(s.length+([(l[n].1,l[n].2.1,l[n].2.2.1,l[n].2.2.2.1,l[n].2.2.2.2)]:List φG).length) * 48≤140737488355328:=φ3K (by omega)
   have hw:=φB (show n+1<9223372036854775808 by omega)
   simp only[ψ2B.l0,oL,h,dT,cT,φ8,φA,φ5 h,hb]
   cases l[n].1==key<;>simp only[nZ,nF,cT,cF,bS,hw,if_true,if_false,κ1])
  (fun n s h hi=>by
   have:∀b:Bool,(if b=true then s++[l[n]] else s).length≤n+1:=fun b=>by cases b<;>simp<;>omega
   exact this _)
  (fun rec s hi=>by simp[ψ2B.l0]) [] (by simp)
 have hk:lp ψ2B.l0 (l,key,[],0)=_:=hk
 unfold ψ2B.f
 rw[hk,φ8x];rfl
theorem φHO (rest:List φG) (p:φG) (hl:rest.length<2 ^ 62) :
  lp ψ8.l0 (p,rest,0)=some (p,rest,((rest.takeWhile fun x=>leK x.1 p.1).length:Int)):=by
 have key:=φO (step:=ψ8.l0) (fun n (_:Unit)=>(p,rest,(n:Int))) rest.length (fun n _=>(p,rest,((n+((rest.drop n).takeWhile fun x=>leK x.1 p.1).length:Nat):Int))) (fun _ _=>True)
  (fun rec n s hn _ ih=>by
   rcases κ0 n rest.length with h | h
   ·rw[φCS _ _ _ h]
    simp only[ψ8.l0,oL,h,dT,cT,φ8,φA,φ5 h,φB (show n+1<9223372036854775808 by omega)]
    show (bif leK rest[n].1 p.1 then _ else _)=_
    cases leK rest[n].1 p.1
    ·simp
    ·simp only[cT,if_true]
     rw[ih () h trivial]
     congr 4;omega
   ·have:n=rest.length:=by omega
    subst this
    simp[ψ8.l0])
  hl 0 () (κ5 _) trivial
 simpa using key
theorem φGd (l:List φG) (e:φG) (hl:l.length<1000000000):ψ8.f l e=some (insB (φp l e.1) e):=by
 have hd:=φCA l e.1
 have htw:((φp l e.1).takeWhile fun x=>leK x.1 e.1).length≤(φp l e.1).length:=(List.takeWhile_sublist _).length_le
 unfold ψ8.f
 rw[φD5 l e.1 hl,bS,φHO _ _ (by omega),bS]
 generalize hk:((φp l e.1).takeWhile fun x=>leK x.1 e.1).length=k at *
 have c1:(0:Int)≤(k:Int):=by omega
 have c2:(k:Int)≤((φp l e.1).length:Int):=by omega
 have c3:(List.take k (φp l e.1)).length<1000000000:=by simp;omega
 have c4:((List.take k (φp l e.1)).length+[e].length) * 48≤140737488355328:=φ3K (by omega)
 have c5:((List.take k (φp l e.1)++[e]).length+(List.drop k (φp l e.1)).length) * 48≤140737488355328:=by simp;omega
 have hins:insB (φp l e.1) e=List.take k (φp l e.1)++[e]++List.drop k (φp l e.1):=by
  unfold insB;simp only[hk]
 simp only[c1,c2,dT,Bool.and_self,cT,tN,φCx _ c3,bS,c4,c5,hins]
def setG {α:Type} (p:List UInt8×α) (s:List (List UInt8×α)×Bool) (x:List UInt8×α):List (List UInt8×α)×Bool:=
 if (x.1==p.1)=true then s else if s.2=false∧leK x.1 p.1=false then (s.1++[p]++[x],true) else (s.1++[x],s.2)
theorem φ9z {α:Type} (p:List UInt8×α) (s:List (List UInt8×α)×Bool) (x:List UInt8×α):(setG p s x).1.length≤s.1.length+2:=by
 unfold setG;split
 ·omega
 ·split<;>simp<;>omega
theorem φ95 {α:Type} (p:List UInt8×α):∀(l out:List (List UInt8×α)),l.foldl (setG p) (out,true)=(out++φp l p.1,true)
 | [],out=>by simp[φp]
 | x::l,out=>by
  rw[κK]
  by_cases h:(x.1==p.1)=true
  ·have e1:setG p (out,true) x=(out,true):=by unfold setG;rw[if_pos h]
   rw[e1,φ95 p l]
   simp[φp,h]
  ·have e1:setG p (out,true) x=(out++[x],true):=by unfold setG;rw[if_neg h,if_neg (by simp)]
   rw[e1,φ95 p l]
   simp[φp,h]
theorem φ8j {α:Type} (p:List UInt8×α):∀(l out:List (List UInt8×α)),(let s:=l.foldl (setG p) (out,false);if s.2=true then s.1 else s.1++[p])=out++insB (φp l p.1) p
 | [],out=>by simp[φp,insB]
 | x::l,out=>by
  rw[κK]
  by_cases h:(x.1==p.1)=true
  ·have e1:setG p (out,false) x=(out,false):=by unfold setG;rw[if_pos h]
   have e2:φp (x::l) p.1=φp l p.1:=by simp[φp,h]
   rw[e1,e2];exact φ8j p l out
  ·have e2:φp (x::l) p.1=x::φp l p.1:=by simp[φp,h]
   rw[e2]
   cases hk:leK x.1 p.1
   ·have e1:setG p (out,false) x=(out++[p]++[x],true):=by unfold setG;rw[if_neg h,if_pos ⟨rfl,hk⟩]
    rw[e1,φ95]
    simp[insB,hk]
   ·have e1:setG p (out,false) x=(out++[x],false):=by unfold setG;rw[if_neg h,if_neg (by simp[hk])]
    rw[e1,φ8j p l (out++[x])]
    simp[insB,hk]
theorem φGI (l:List φG) (p:φG) (hl:l.length<1000000000):ψ2D.f l p=some (insB (φp l p.1) p):=by
 have hk:=φ1z (step:=ψ2D.l0) l (setG p) (fun n (s:List φG×Bool)=>(l,p,s.1,s.2,(n:Int))) (fun s=>(p,s.1,s.2)) (fun n s=>s.1.length≤2 * n) (by omega)
  (fun rec n s h hi=>by
   have hi:s.1.length≤2 * n:=hi
   have hq:s.1.length<1000000000000:=by omega
   have hb1:(s.1.length+[p].length) * 48≤140737488355328:=φ3K (Nat.lt_succ_of_lt hq)
   have hb2:(s.1.length+([(l[n].1,l[n].2.1,l[n].2.2.1,l[n].2.2.2.1,l[n].2.2.2.2)]:List φG).length) * 48≤140737488355328:=φ3K (Nat.lt_succ_of_lt hq)
   have hb3:((s.1++[p]).length+([(l[n].1,l[n].2.1,l[n].2.2.1,l[n].2.2.2.1,l[n].2.2.2.2)]:List φG).length) * 48≤140737488355328:=by rw[lA];exact φ3K (Nat.succ_lt_succ hq)
   have hw:=φB (show n+1<9223372036854775808 by omega)
   have hle:(Op.bytesLess l[n].1 p.1 || l[n].1==p.1)=leK l[n].1 p.1:=rfl
   simp only[ψ2D.l0,oL,h,dT,cT,φ8,φA,φ5 h,hle]
   unfold setG
   rcases bE (l[n].1==p.1) with h1 | h1
   ·simp only[h1,cT,bS,hw,if_true]
   ·rcases bE s.2 with h2 | h2
    ·simp only[h1,h2,cF,nZ,bS,φ8,φA,φ5 h,h,dT,cT,hb2,hw,κ1,κ8,false_and,if_false]
    ·rcases bE (leK l[n].1 p.1) with h3 | h3
     ·simp only[h1,h2,h3,cF,nZ,nF,cT,bS,φ8,φA,φ5 h,h,dT,hb2,hw,κ1,κ8,and_false,if_false]
     ·simp only[h1,h2,h3,cF,nZ,nF,cT,bS,φ8,φA,φ5 h,h,dT,hb1,hb3,hw,κ1,and_self,if_true,if_false])
  (fun n s h hi=>by have:=φ9z p s l[n];have hi:s.1.length≤2 * n:=hi;show _≤2 * (n+1);omega)
  (fun rec s hi=>by simp[ψ2D.l0]) ([],false) (by simp)
 have hk:lp ψ2D.l0 (l,p,[],false,0)=_:=hk
 have hlen:∀(m:List φG) (s:List φG×Bool),(m.foldl (setG p) s).1.length≤s.1.length+2 * m.length:=by
  intro m
  induction m with
  | nil=>intro s;simp
  | cons x m ih=>intro s;rw[κK];have:=ih (setG p s x);have:=φ9z p s x;simp only[lC];omega
 unfold ψ2D.f
 rw[hk,bS]
 have hf:=φ8j p l []
 have hb:=hlen l ([],false)
 generalize l.foldl (setG p) ([],false)=s at *
 obtain ⟨s1,s2⟩:=s
 simp only[lN,κQ] at hb
 have hb1:(s1.length+[p].length) * 48≤140737488355328:=φ3K (by omega)
 cases s2
 ·simp only[κ1,if_false,κG] at hf ⊢
  simp only[nF,cT,hb1,dT,hf]
 ·simp only[if_true,κG] at hf
  simp[hf]
theorem φ85 {a:Nat} (h:a<1000000000001):(a+1) * 64≤140737488355328:=by omega
theorem φHs (dir:List φG) (p:Int×Int×Int×RecT) (hd:dir.length<100000000):ψ37.f dir p=some (if p.2.2.2.1=2 then φp dir p.2.2.2.2.2.1 else insB (φp dir p.2.2.2.2.2.1) (p.2.2.2.2.2.1,p.1,p.2.1,p.2.2.1,p.2.2.2.2.1)):=by
 unfold ψ37.f
 by_cases c:p.2.2.2.1=2
 ·have d:(p.2.2.2.1==2)=true:=by simpa using c
  simp only[d,cT,c,if_true,beq_self_eq_true,φI8 dir _ (show dir.length<1000000000 by omega),bS]
 ·have d:(p.2.2.2.1==2)=false:=by simpa using c
  simp only[d,cF,c,if_false,φGI dir (p.2.2.2.2.2.1,p.1,p.2.1,p.2.2.1,p.2.2.2.2.1) (show dir.length<1000000000 by omega),bS]
theorem φHY (id:Int):ψI.f id=some (φf id):=by
 unfold ψI.f φf
 rw[φAi [104,105,110,116] id (by show 4≤100;decide),bS]
theorem φBX (id:Int):ψ2K.f id=some (φf id):=by
 unfold ψ2K.f φf φ1o
 rw[φ1n,bS]
 by_cases h:1≤id∧id≤100000
 ·obtain ⟨n,rfl⟩:∃n:Nat,id=(n:Int):=⟨id.toNat,by omega⟩
  have hl:=φ46 5 n (by show n<1000000;omega)
  have hb:([104,105,110,116]:List UInt8).length+(Lib.decDigits n).length≤9223372036854775807:=by show 4+_≤_;omega
  simp only[h,and_self,dT,nZ,cF,φ9i n (by omega),bS,hb,cT,if_true,tN]
 ·simp[h]
abbrev φj:=Int×Int×List φG
def φ3l (h:φj) (e:φG):Bool:=!(e.2.1 != ((h.2.2.getD 0 ([],0,0,0,0)).2.1)) && !decide (e.2.2.1 > 100000)
def φ1u (h:φj):Bool:=h.2.2.all (φ3l h) && (decide (0≤h.1∧h.1≤100000) && (decide (0≤h.2.1∧h.2.1≤1000000) && φ3i h.2.2))
theorem φ8T (h:φj) (hl:h.2.2.length<1000000000):ψu.f h=some (φ1u h):=by
 have key:=φ58 (step:=ψu.l0) h.2.2 (φ3l h) (fun n=>(h,h.2.2,(h.2.2.length:Int),(n:Int))) h (by omega)
  (fun rec n h1=>by
   have hw:=φB (show n+1<9223372036854775808 by omega)
   have h0:inB 0 h.2.2.length=true:=by rw[show (0:Int)=((0:Nat):Int) from rfl,φ8];simp;omega
   have r0:rdA ([],0,0,0,0) h.2.2 0=h.2.2.getD 0 ([],0,0,0,0):=by rw[show (0:Int)=((0:Nat):Int) from rfl,φA]
   simp only[ψu.l0,oL,h1,dT,cT,φ8,φA,φ5 h1,h0,r0,hw]
   unfold φ3l
   cases (h.2.2[n].2.1 != (h.2.2.getD 0 ([],0,0,0,0)).2.1)<;>cases decide (h.2.2[n].2.2.1 > 100000)<;>rfl)
  (fun rec=>by simp[ψu.l0])
 have key:lp ψu.l0 (h,h.2.2,(h.2.2.length:Int),0)=_:=key
 unfold ψu.f φ1u
 rw[key,bS]
 simp only[φ1b,φCt h.2.2 (by omega),bS]
 cases h.2.2.all (φ3l h)
 ·simp
 simp only[if_true,φL,tA]
 cases decide (0≤h.1∧h.1≤100000)<;>cases decide (0≤h.2.1∧h.2.1≤1000000)<;>simp[φCt h.2.2 (show h.2.2.length<2 ^ 62 by omega)]
theorem φGw (h:φj) (hl:h.2.2.length<1000000000):ψ2o.f h=some (φ1u h):=by
 have key:=φ58 (step:=ψ2o.l0) h.2.2 (φ3l h) (fun n=>(h,(n:Int))) () (by omega)
  (fun rec n h1=>by
   have hw:=φB (show n+1<9223372036854775808 by omega)
   have h0:inB 0 h.2.2.length=true:=by rw[show (0:Int)=((0:Nat):Int) from rfl,φ8];simp;omega
   have r0:rdA ([],0,0,0,0) h.2.2 0=h.2.2.getD 0 ([],0,0,0,0):=by rw[show (0:Int)=((0:Nat):Int) from rfl,φA]
   simp only[ψ2o.l0,oL,h1,dT,cT,φ8,φA,φ5 h1,h0,r0,hw]
   unfold φ3l
   cases (h.2.2[n].2.1 != (h.2.2.getD 0 ([],0,0,0,0)).2.1)<;>cases decide (h.2.2[n].2.2.1 > 100000)<;>rfl)
  (fun rec=>by simp[ψ2o.l0])
 have key:lp ψ2o.l0 (h,0)=_:=key
 unfold ψ2o.f φ1u
 rw[key]
 simp only[φ1n,φHt h.2.2 (by omega),bS]
 cases h.2.2.all (φ3l h)<;>cases decide (0≤h.1∧h.1≤100000)<;>cases decide (0≤h.2.1∧h.2.1≤1000000)<;>cases φ3i h.2.2<;>rfl
def entT (e:φG):List UInt8:=varT (e.1.length:Int)++e.1++varT e.2.1++varT e.2.2.1++varT e.2.2.2.1++varT e.2.2.2.2
def φ11 (h:φj):List UInt8:=varT h.1++varT h.2.1++varT (h.2.2.length:Int)++(h.2.2.map entT).flatten
def φ25 (h:φj):List UInt8:=if φ1u h=false then [] else fix4 (crcT (φ11 h))++φ11 h
theorem φDB {e:φG} (h:φ3k e=true):e.1.length≤8:=by
 unfold φ3k φ1X at h
 simp only[bA,decide_eq_true_eq] at h
 omega
theorem φBb:∀(l:List φG) (p:Option (List UInt8)),φ2A p l=true→∀e∈l,φ3k e=true
 | [],_,_,e,he=>by simp at he
 | x::l,p,h,e,he=>by
  simp only[φ2A,bA] at h
  rcases mc.1 he with c | he
  ·subst c;exact h.1
  ·exact φBb l _ h.2.2 e he
theorem φBO {l:List φG} (h:φ3i l=true):l.length≤20∧∀e∈l,φ3k e=true:=by
 unfold φ3i at h
 simp only[bA,decide_eq_true_eq] at h
 exact ⟨h.2,φBb l none h.1⟩
theorem φ7t {e:φG} (h:e.1.length≤8):(entT e).length≤43:=by
 unfold entT
 have:=φR (e.1.length:Int)
 have:=φR e.2.1
 have:=φR e.2.2.1
 have:=φR e.2.2.2.1
 have:=φR e.2.2.2.2
 simp only[lA];omega
theorem φ90:∀{l:List φG},(∀e∈l,e.1.length≤8)→((l.map entT).flatten).length≤43 * l.length
 | [],_=>by simp
 | e::l,h=>by
  have h1:=φ7t (h e κ6)
  have h2:=φ90 (l:=l) fun x hx=>h x (mC _ hx)
  rw[κC,κY,lA,lC];omega
theorem φ8n {h:φj} (k:φ1u h=true):h.2.2.length≤20∧∀e∈h.2.2,e.1.length≤8:=by
 unfold φ1u at k
 simp only[bA] at k
 have:=φBO k.2.2.2
 exact ⟨this.1,fun e he=>φDB (this.2 e he)⟩
theorem φ6i {h:φj} (k:φ1u h=true):(φ11 h).length≤1000:=by
 obtain ⟨k1,k2⟩:=φ8n k
 have:=φ90 k2
 have:=φR h.1
 have:=φR h.2.1
 have:=φR (h.2.2.length:Int)
 unfold φ11
 simp only[lA];omega
theorem φB0 (h:φj) (hl:h.2.2.length<1000000000):ψf.f h=some (φ25 h):=by
 unfold ψf.f φ25
 rw[φ8T h hl,bS]
 rcases bE (φ1u h) with k | k
 rotate_left
 ·simp[k]
 obtain ⟨k1,k2⟩:=φ8n k
 have hB:=φ6i k
 have hf:=φ3y (crcT (φ11 h))
 have v1:=φR h.1
 have v2:=φR h.2.1
 have v3:=φR (h.2.2.length:Int)
 have e0:ψ1B.f [h.1,h.2.1,(h.2.2.length:Int)]=some (varT h.1++varT h.2.1++varT (h.2.2.length:Int)):=by
  rw[φ61 _ (by simp)];simp
 have key:=φO (step:=ψf.l0) (fun n (acc:List UInt8)=>(acc,h.2.2,(h.2.2.length:Int),(n:Int))) h.2.2.length (fun n acc=>acc++((h.2.2.drop n).map entT).flatten) (fun n acc=>acc.length≤21+43 * n)
  (fun rec n acc hn ha ih=>by
   rcases κ0 n h.2.2.length with h1 | h1
   ·have hw:=φB (show n+1<9223372036854775808 by omega)
    have hk:=k2 _ (gM h1)
    have he:=φ7t hk
    have ih:=ih (acc++entT h.2.2[n]) h1 (by rw[lA];omega)
    have e1:ψ1B.f [h.2.2[n].2.1,h.2.2[n].2.2.1,h.2.2[n].2.2.2.1,h.2.2[n].2.2.2.2]=some (varT h.2.2[n].2.1++varT h.2.2[n].2.2.1++varT h.2.2[n].2.2.2.1++varT h.2.2[n].2.2.2.2):=by
     rw[φ61 _ (by simp)];simp
    have e2:(varT (h.2.2[n].1.length:Int)++h.2.2[n].1)++(varT h.2.2[n].2.1++varT h.2.2[n].2.2.1++varT h.2.2[n].2.2.2.1++varT h.2.2[n].2.2.2.2)=entT h.2.2[n]:=by
     unfold entT;simp only[aA]
    have e3:(varT (h.2.2[n].1.length:Int)++h.2.2[n].1).length+(varT h.2.2[n].2.1++varT h.2.2[n].2.2.1++varT h.2.2[n].2.2.2.1++varT h.2.2[n].2.2.2.2).length≤1000000000000000:=by
     rw[←lA,e2];omega
    simp only[ψf.l0,oL,h1,dT,cT,φ8,φA,φ5 h1,φ5F h.2.2[n].1 (show h.2.2[n].1.length<2 ^ 62 by omega),e1,bS,φl e3,e2,φl (show acc.length+(entT h.2.2[n]).length≤1000000000000000 by omega),hw,ih]
    rw[dG h1,κC,κY,aA]
   ·have:n=h.2.2.length:=by omega
    subst this
    simp[ψf.l0])
  (by omega) 0 (varT h.1++varT h.2.1++varT (h.2.2.length:Int)) (κ5 _) (by simp only[lA];omega)
 have key:lp ψf.l0 (varT h.1++varT h.2.1++varT (h.2.2.length:Int),h.2.2,(h.2.2.length:Int),0)=some (φ11 h):=by rw[show (0:Int)=((0:Nat):Int) from rfl,key];rfl
 simp only[k,nZ,cF,e0,bS,key,φ8F (φ11 h) (by omega),φ9Z,φl (show (fix4 (crcT (φ11 h))).length+(φ11 h).length≤1000000000000000 by omega),cT,κ8,if_false]
theorem φCJ (h:φj) (hl:h.2.2.length<1000000000):ψ2g.f h=some (φ25 h):=by
 unfold ψ2g.f φ25
 rw[φGw h hl,bS]
 rcases bE (φ1u h) with k | k
 rotate_left
 ·simp[k]
 obtain ⟨k1,k2⟩:=φ8n k
 have hB:=φ6i k
 have hf:=φ3y (crcT (φ11 h))
 have hr:=φ5a (φ11 h)
 have v1:=φR h.1
 have v2:=φR h.2.1
 have v3:=φR (h.2.2.length:Int)
 have key:=φO (step:=ψ2g.l0) (fun n (acc:List UInt8)=>(h,acc,(n:Int))) h.2.2.length (fun n acc=>acc++((h.2.2.drop n).map entT).flatten) (fun n acc=>acc.length≤21+43 * n)
  (fun rec n acc hn ha ih=>by
   rcases κ0 n h.2.2.length with h1 | h1
   ·have hw:=φB (show n+1<9223372036854775808 by omega)
    have hk:=k2 _ (gM h1)
    have he:=φ7t hk
    have ih:=ih (acc++entT h.2.2[n]) h1 (by rw[lA];omega)
    have w1:=φR (h.2.2[n].1.length:Int)
    have w2:=φR h.2.2[n].2.1
    have w3:=φR h.2.2[n].2.2.1
    have w4:=φR h.2.2[n].2.2.2.1
    have w5:=φR h.2.2[n].2.2.2.2
    have e2:acc++varT (h.2.2[n].1.length:Int)++h.2.2[n].1++varT h.2.2[n].2.1++varT h.2.2[n].2.2.1++varT h.2.2[n].2.2.2.1++varT h.2.2[n].2.2.2.2=acc++entT h.2.2[n]:=by
     unfold entT;simp only[aA]
    simp only[ψ2g.l0,oL,h1,dT,cT,φ8,φA,φ5 h1,φ3q,bS,
     φl (show acc.length+(varT (h.2.2[n].1.length:Int)).length≤1000000000000000 by omega),
     φl (show (acc++varT (h.2.2[n].1.length:Int)).length+h.2.2[n].1.length≤1000000000000000 by simp only[lA];omega),
     φl (show (acc++varT (h.2.2[n].1.length:Int)++h.2.2[n].1).length+(varT h.2.2[n].2.1).length≤1000000000000000 by simp only[lA];omega),
     φl (show (acc++varT (h.2.2[n].1.length:Int)++h.2.2[n].1++varT h.2.2[n].2.1).length+(varT h.2.2[n].2.2.1).length≤1000000000000000 by simp only[lA];omega),
     φl (show (acc++varT (h.2.2[n].1.length:Int)++h.2.2[n].1++varT h.2.2[n].2.1++varT h.2.2[n].2.2.1).length+(varT h.2.2[n].2.2.2.1).length≤1000000000000000 by simp only[lA];omega),
     φl (show (acc++varT (h.2.2[n].1.length:Int)++h.2.2[n].1++varT h.2.2[n].2.1++varT h.2.2[n].2.2.1++varT h.2.2[n].2.2.2.1).length+(varT h.2.2[n].2.2.2.2).length≤1000000000000000 by simp only[lA];omega),e2,hw,ih]
    rw[dG h1,κC,κY,aA]
   ·have:n=h.2.2.length:=by omega
    subst this
    simp[ψ2g.l0])
  (by omega) 0 (varT h.1++varT h.2.1++varT (h.2.2.length:Int)) (κ5 _) (by simp only[lA];omega)
 have key:lp ψ2g.l0 (h,varT h.1++varT h.2.1++varT (h.2.2.length:Int),0)=some (φ11 h):=by rw[show (0:Int)=((0:Nat):Int) from rfl,key];rfl
 simp only[k,nZ,cF,φ3q,φl (show (varT h.1).length+(varT h.2.1).length≤1000000000000000 by omega),φl (show (varT h.1++varT h.2.1).length+(varT (h.2.2.length:Int)).length≤1000000000000000 by simp only[lA];omega),bS,key,φ8v (φ11 h) (by omega),φ9O _ (show crcT (φ11 h)<9223372036854775808 by omega),φl (show (fix4 (crcT (φ11 h))).length+(φ11 h).length≤1000000000000000 by omega),cT,κ8,if_false]
abbrev φC:=Int×φ1g
theorem φAL (id:Int) (l:List φ1g) (hl:l.length<1000000000):ψy.f id l=some (l.map fun x=>((id,x):φC)):=by
 have key:=φO (step:=ψy.l0) (fun n (acc:List φC)=>(id,acc,l,(l.length:Int),(n:Int))) l.length (fun n acc=>acc++(l.drop n).map fun x=>((id,x):φC)) (fun n acc=>acc.length=n)
  (fun rec n acc hn ha ih=>by
   rcases κ0 n l.length with h | h
   ·have hw:=φB (show n+1<9223372036854775808 by omega)
    have hb:∀{α:Type} (x:α),decide ((acc.length+[x].length) * 88≤140737488355328)=true:=fun x=>decide_eq_true (by show (acc.length+1) * 88≤_;omega)
    have ih:=ih (acc++[(id,l[n])]) h (by rw[lA,ha];rfl)
    simp only[ψy.l0,oL,h,dT,cT,φ8,φA,φ5 h,hb,hw,ih]
    rw[dG h,κC,aA];rfl
   ·have:n=l.length:=by omega
    subst this
    simp[ψy.l0])
  (by omega) 0 [] (κ5 _) rfl
 have key:lp ψy.l0 (id,[],l,(l.length:Int),0)=_:=key
 unfold ψy.f
 rw[key,bS]
 simp
def φ2Y (r:RecT) (l:List RecT):Bool:=(r.2.2.2.2.1==(l.length:Int)) && (r.2.2.2.2.2==φ52 l)
theorem φBK (r:RecT) (l:List φC) (hl:l.length<1000000000):ψs.f r l=some (φ2Y r (l.map (·.2.2.2))):=by
 have key:=φO (step:=ψs.l0) (fun n (acc:List RecT)=>(r,acc,l,(l.length:Int),(n:Int))) l.length (fun n acc=>(r,acc++(l.drop n).map (·.2.2.2))) (fun n acc=>acc.length=n)
  (fun rec n acc hn ha ih=>by
   rcases κ0 n l.length with h | h
   ·have hw:=φB (show n+1<9223372036854775808 by omega)
    have hb:∀{α:Type} (x:α),decide ((acc.length+[x].length) * 64≤140737488355328)=true:=fun x=>decide_eq_true (φ85 (by omega))
    have ih:=ih (acc++[l[n].2.2.2]) h (by rw[lA,ha];rfl)
    simp only[ψs.l0,oL,h,dT,cT,φ8,φA,φ5 h,hb,hw,ih]
    rw[dG h,κC,aA];rfl
   ·have:n=l.length:=by omega
    subst this
    simp[ψs.l0])
  (by omega) 0 [] (κ5 _) rfl
 have key:lp ψs.l0 (r,[],l,(l.length:Int),0)=_:=key
 unfold ψs.f φ2Y
 rw[key,bS,κE,κG]
 simp only[φFT (l.map (·.2.2.2)) (by rw[lM];omega),bS]
 cases (r.2.2.2.2.1==((l.map (·.2.2.2)).length:Int))<;>rfl
abbrev φ1k:φ1g:=(0,0,0,0,[],[],0,0)
def entS (id:Int) (x:φ1g):φG:=(x.2.2.2.2.1,id,x.1,x.2.1,x.2.2.2.1)
def φ2g (mark:Int):Option (List UInt8)→List φ1g→Bool
 | _,[]=>true
 | p,x::r=>(x.2.2.1==4) && (!decide (x.2.2.2.1 > mark) && ((match p with | none=>true | some q=>Op.bytesLess q x.2.2.2.2.1) && φ2g mark (some x.2.2.2.2.1) r))
def φ5W (l:List φ1g):Nat→Option (List UInt8)
 | 0=>none
 | n+1=>some (l.getD n φ1k).2.2.2.2.1
theorem φ6X (l:List φ1g) (n:Nat) (h:n<l.length):φ5W l (n+1)=some l[n].2.2.2.2.1:=by
 show some (l.getD n φ1k).2.2.2.2.1=_
 rw[φ5 h]
theorem φHm (id e mark:Int) (l:List φ1g) (k:Nat) (hk:k≤l.length) (hl:l.length<1000000000) :
  lp ψJ.l0 (id,(0,0,[]),l,(e,mark,[]),l.take k,((l.take k).length:Int),0)=some (if φ2g mark none (l.take k)=true then .inl ((0,0,[]),(e,mark,(l.take k).map (entS id))) else .inr ((0,0,[]),false)):=by
 have hlen:(l.take k).length=k:=by rw[lT];omega
 have key:=φO (step:=ψJ.l0) (fun n (acc:List φG)=>(id,(0,0,[]),l,(e,mark,acc),l.take k,((l.take k).length:Int),(n:Int))) k (fun n acc=>if φ2g mark (φ5W l n) ((l.take k).drop n)=true then .inl ((0,0,[]),(e,mark,acc++((l.take k).drop n).map (entS id))) else .inr ((0,0,[]),false)) (fun n acc=>acc.length=n)
  (fun rec n acc hn ha ih=>by
   rcases κ0 n k with h | h
   ·have hw:=φB (show n+1<9223372036854775808 by omega)
    have h1:n<(l.take k).length:=by omega
    have h2:n<l.length:=by omega
    have hx:(l.take k)[n]=l[n]:=List.getElem_take
    have hb:∀{α:Type} (x:α),decide ((acc.length+[x].length) * 48≤140737488355328)=true:=fun x=>decide_eq_true (φ3K (by omega))
    have ih:=ih (acc++[entS id l[n]]) h (by rw[lA,ha];rfl)
    rw[φ6X l n h2] at ih
    rw[dG h1,hx]
    simp only[φ2g,ψJ.l0,oL,h1,dT,cT,φ8,φA,φ5 h1,hx]
    rcases bE (l[n].2.2.1==4) with k1 | k1
    rotate_left
    ·simp only[bne,k1,nF,cT,bS,φS,κL,κ1,if_false]
    rcases bE (decide (l[n].2.2.2.1 > mark)) with k2 | k2
    ·simp only[bne,k1,k2,nZ,nF,cF,cT,bS,φS,κL,tA,κ1,if_false]
    simp only[bne,k1,k2,nZ,nF,cF,tA,κC]
    cases n with
    | zero=>
     have z:¬((0:Nat):Int) > 0:=by omega
     simp only[z,dF,cF,bS,φL,hb,cT,hw,φ5W,tA]
     rw[show acc++entS id l[0]::List.map (entS id) (List.drop (0+1) (List.take k l))=acc++[entS id l[0]]++List.map (entS id) (List.drop (0+1) (List.take k l)) by rw[aA];rfl]
     exact ih
    | succ m=>
     have z:((m+1:Nat):Int) > 0:=by omega
     have hm:m<l.length:=by omega
     have z2:w64 (((m+1:Nat):Int) - 1)=(m:Int):=by rw[φ9 (by omega) (by omega)];omega
     rw[φ6X l m hm]
     simp only[z,dT,cT,z2,φ8,hm,φA,φ5 hm]
     rcases bE (Op.bytesLess l[m].2.2.2.2.1 l[m+1].2.2.2.2.1) with k3 | k3
     ·simp only[k3,nZ,cF,bS,φL,hb,cT,hw,tA]
      rw[show acc++entS id l[m+1]::List.map (entS id) (List.drop (m+1+1) (List.take k l))=acc++[entS id l[m+1]]++List.map (entS id) (List.drop (m+1+1) (List.take k l)) by rw[aA];rfl]
      exact ih
     ·simp only[k3,nF,cT,bS,φS,κL,κ1,if_false]
   ·have:n=k:=by omega
    subst this
    have hd:(l.take n).drop n=[]:=by rw[List.drop_eq_nil_iff];omega
    rw[hd]
    simp[ψJ.l0,φ2g,hlen])
  (by omega) 0 [] (κ5 _) rfl
 have key:lp ψJ.l0 (id,(0,0,[]),l,(e,mark,[]),l.take k,((l.take k).length:Int),0)=_:=key
 rw[key,κE,κG];rfl
theorem φEG (id e mark:Int) (l:List φ1g) (h0:1≤l.length) (hl:l.length<1000000000) :
  lp ψ2L.l0 (id,(0,0,[]),l,(e,mark,[]),[],0)=some (if φ2g mark none (l.take (l.length - 1))=true then .inl ((0,0,[]),l,(e,mark,(l.take (l.length - 1)).map (entS id)),(l.take (l.length - 1)).map (·.2.2)) else .inr ((0,0,[]),false)):=by
 obtain ⟨k,hk⟩:∃k,l.length=k+1:=⟨l.length - 1,by omega⟩
 have e1:l.length - 1=k:=by omega
 rw[e1]
 have hlen:(l.take k).length=k:=by rw[lT];omega
 have key:=φO (step:=ψ2L.l0) (fun n (a:List φG×List RecT)=>(id,(0,0,[]),l,(e,mark,a.1),a.2,(n:Int))) k (fun n a=>if φ2g mark (φ5W l n) ((l.take k).drop n)=true then .inl ((0,0,[]),l,(e,mark,a.1++((l.take k).drop n).map (entS id)),a.2++((l.take k).drop n).map (·.2.2)) else .inr ((0,0,[]),false)) (fun n a=>a.1.length=n∧a.2.length=n)
  (fun rec n a hn ha ih=>by
   obtain ⟨acc,rs⟩:=a
   obtain ⟨ha,hr⟩:=ha
   simp only at ha hr
   rcases κ0 n k with h | h
   ·have hw:=φB (show n+1<9223372036854775808 by omega)
    have h1:n<(l.take k).length:=by omega
    have h2:n<l.length:=by omega
    have h3:n+1<l.length:=by omega
    have hx:(l.take k)[n]=l[n]:=List.getElem_take
    have hb:∀{α:Type} (x:α),decide ((acc.length+[x].length) * 48≤140737488355328)=true:=fun x=>decide_eq_true (φ3K (by omega))
    have hb2:∀{α:Type} (x:α),decide ((rs.length+[x].length) * 64≤140737488355328)=true:=fun x=>decide_eq_true (φ85 (by omega))
    have ih:=ih (acc++[entS id l[n]],rs++[l[n].2.2]) h ⟨by rw[lA,ha];rfl,by rw[lA,hr];rfl⟩
    simp only at ih
    rw[φ6X l n h2] at ih
    rw[dG h1,hx]
    simp only[φ2g,ψ2L.l0,hw,oL,h2,h3,dT,cT,φ8,φA,φ5 h2]
    rcases bE (l[n].2.2.1==4) with k1 | k1
    rotate_left
    ·simp only[bne,k1,nF,cT,bS,φS,κL,κ1,if_false]
    rcases bE (decide (l[n].2.2.2.1 > mark)) with k2 | k2
    ·simp only[bne,k1,k2,nZ,nF,cF,cT,bS,φS,κL,tA,κ1,if_false]
    simp only[bne,k1,k2,nZ,nF,cF,tA,κC]
    cases n with
    | zero=>
     have z:¬((0:Nat):Int) > 0:=by omega
     simp only[z,dF,cF,bS,φL,hb,hb2,cT,φ8,h2,dT,φA,φ5 h2,hw,φ5W,tA]
     rw[show acc++entS id l[0]::List.map (entS id) (List.drop (0+1) (List.take k l))=acc++[entS id l[0]]++List.map (entS id) (List.drop (0+1) (List.take k l)) by rw[aA];rfl,
      show rs++l[0].2.2::List.map (·.2.2) (List.drop (0+1) (List.take k l))=rs++[l[0].2.2]++List.map (·.2.2) (List.drop (0+1) (List.take k l)) by rw[aA];rfl]
     exact ih
    | succ m=>
     have z:((m+1:Nat):Int) > 0:=by omega
     have hm:m<l.length:=by omega
     have z2:w64 (((m+1:Nat):Int) - 1)=(m:Int):=by rw[φ9 (by omega) (by omega)];omega
     have hle:(Op.bytesLess l[m+1].2.2.2.2.1 l[m].2.2.2.2.1 || l[m+1].2.2.2.2.1==l[m].2.2.2.2.1)=!Op.bytesLess l[m].2.2.2.2.1 l[m+1].2.2.2.2.1:=φ6T _ _
     rw[φ6X l m hm]
     simp only[z,dT,cT,z2,φ8,hm,φA,φ5 hm,hle]
     rcases bE (Op.bytesLess l[m].2.2.2.2.1 l[m+1].2.2.2.2.1) with k3 | k3
     ·simp only[k3,nZ,cF,bS,φL,hb,hb2,cT,φ8,h2,dT,φA,φ5 h2,hw,tA]
      rw[show acc++entS id l[m+1]::List.map (entS id) (List.drop (m+1+1) (List.take k l))=acc++[entS id l[m+1]]++List.map (entS id) (List.drop (m+1+1) (List.take k l)) by rw[aA];rfl,
       show rs++l[m+1].2.2::List.map (·.2.2) (List.drop (m+1+1) (List.take k l))=rs++[l[m+1].2.2]++List.map (·.2.2) (List.drop (m+1+1) (List.take k l)) by rw[aA];rfl]
      exact ih
     ·simp only[k3,nF,cT,bS,φS,κL,κ1,if_false]
   ·have:n=k:=by omega
    subst this
    have hd:(l.take n).drop n=[]:=by rw[List.drop_eq_nil_iff];omega
    have hw:=φB (show n+1<9223372036854775808 by omega)
    rw[hd]
    simp[ψ2L.l0,φ2g,hk,hw])
  (by omega) 0 ([],[]) (κ5 _) ⟨rfl,rfl⟩
 have key:lp ψ2L.l0 (id,(0,0,[]),l,(e,mark,[]),[],0)=_:=key
 rw[key,κE,κG,κG];rfl
noncomputable def φ3M (id:Int) (t:List UInt8):φj×Bool:=
 let l:=(scan t).1
 let z:=l.getD (l.length - 1) φ1k
 if l.length=0∨(scan t).2≠t.length∨¬(1≤id∧id≤100000)∨z.2.2.1≠5∨φ2Y z.2.2 ((l.take (l.length - 1)).map (·.2.2))=false∨φ2g z.2.2.2.1 none (l.take (l.length - 1))=false then ((0,0,[]),false)
 else (((t.length:Int),z.2.2.2.1,(l.take (l.length - 1)).map (entS id)),true)
theorem φAl (id:Int) (t:List UInt8):(φ3M id t).1.2.2.length≤t.length:=by
 have:=(φ3o t).2
 unfold φ3M
 simp only
 split
 ·simp
 ·simp only[lM,lT];omega
theorem φEp (id:Int):(φ3 id==[])=!decide (1≤id∧id≤100000):=by
 unfold φ3 φ1o
 by_cases h:1≤id∧id≤100000
 ·simp[h]
 ·simp[h]
theorem φIj (id:Int) (t:List UInt8) (ht:t.length<100000000):ψJ.f id t=some (φ3M id t):=by
 have hs:=φ3o t
 unfold ψJ.f φ3M
 rw[φCM t (by omega),bS]
 generalize (scan t).1=l at *
 generalize (scan t).2=e at *
 simp only
 rcases Nat.eq_zero_or_pos l.length with h0 | h0
 ·have:decide (w64 (((0:Nat):Int) - 1)<0)=true:=by decide
  simp only[h0,this,cT,true_or,if_true]
 obtain ⟨k,hk⟩:∃k,l.length=k+1:=⟨l.length - 1,by omega⟩
 have hw:w64 ((l.length:Int) - 1)=(k:Int):=by rw[φ9 (by omega) (by omega)];omega
 have e1:l.length - 1=k:=by omega
 have hkl:k<l.length:=by omega
 have n0:¬(k:Int)<0:=by omega
 have n1:(0:Int)≤(k:Int):=by omega
 have n2:(k:Int)≤(l.length:Int):=by omega
 have n3:¬l.length=0:=by omega
 rw[e1]
 simp only[hw,n0,n1,n2,n3,dF,dT,cF,Bool.and_self,cT,φ1b,bS,φ8,hkl,φA,tN,false_or]
 by_cases c1:e=t.length
 rotate_left
 ·have d1:((e:Int) != (t.length:Int))=true:=by simp;omega
  simp only[d1,cT,c1,ne_eq,not_false_eq_true,true_or,if_true]
 have d1:((e:Int) != (t.length:Int))=false:=by simp;omega
 by_cases c2:1≤id∧id≤100000
 rotate_left
 ·simp only[d1,cF,c2,dF,nF,cT,not_false_eq_true,true_or,or_true,if_true]
 by_cases c3:(l.getD k φ1k).2.2.1=5
 rotate_left
 ·have d3:((l.getD k φ1k).2.2.1 != 5)=true:=by simpa using c3
  simp only[d1,d3,cF,c2,dT,nZ,cT,and_self,c3,ne_eq,not_false_eq_true,true_or,or_true,if_true]
 have d3:((l.getD k φ1k).2.2.1 != 5)=false:=by simpa using c3
 have hpl:=φAL id (l.take k) (by rw[lT];omega)
 have hft:=φBK (l.getD k φ1k).2.2 ((l.take k).map fun x=>((id,x):φC)) (by rw[lM,lT];omega)
 have hmm:((l.take k).map fun x=>((id,x):φC)).map (·.2.2.2)=(l.take k).map (·.2.2):=by rw[List.map_map];rfl
 rw[hmm] at hft
 subst c1
 simp only[d1,d3,cF,c2,dT,nZ,and_self,hpl,bS,hft]
 simp only[c3,ne_eq,not_true_eq_false,false_or]
 rcases bE (φ2Y (l.getD k φ1k).2.2 ((l.take k).map (·.2.2))) with c4 | c4
 rotate_left
 ·simp only[c4,nF,cT,true_or,if_true]
 simp only[c4,nZ,cF,κ8,false_or,φHm id (t.length:Int) (l.getD k φ1k).2.2.2.1 l k (by omega) (by omega),bS]
 rcases bE (φ2g (l.getD k φ1k).2.2.2.1 none (l.take k)) with c5 | c5
 ·simp only[c5,if_true,φL,κ8,if_false]
 ·simp only[c5,κ1,if_false,φS,if_true]
theorem φGY (id:Int) (t:List UInt8) (ht:t.length<100000000):ψ2L.f id t=some (φ3M id t):=by
 have hs:=φ3o t
 unfold ψ2L.f φ3M
 rw[φ75 t (by omega),bS]
 generalize (scan t).1=l at *
 generalize (scan t).2=e at *
 simp only
 by_cases c1:e=t.length
 rotate_left
 ·have d1:((e:Int) != (t.length:Int))=true:=by simp;omega
  simp only[d1,cT,c1,ne_eq,not_false_eq_true,true_or,or_true,if_true]
 have d1:((e:Int) != (t.length:Int))=false:=by simp;omega
 rcases Nat.eq_zero_or_pos l.length with h0 | h0
 ·have d2:(((0:Nat):Int)==0)=true:=rfl
  simp only[d1,h0,d2,cF,cT,true_or,if_true]
 obtain ⟨k,hk⟩:∃k,l.length=k+1:=⟨l.length - 1,by omega⟩
 have hw:w64 ((l.length:Int) - 1)=(k:Int):=by rw[φ9 (by omega) (by omega)];omega
 have e1:l.length - 1=k:=by omega
 have hkl:k<l.length:=by omega
 have n3:¬l.length=0:=by omega
 have d2:((l.length:Int)==0)=false:=beq_eq_false_iff_ne.2 (by omega)
 have hl0:=φEG id (t.length:Int) (l.getD k φ1k).2.2.2.1 l (by omega) (by omega)
 rw[e1] at hl0 ⊢
 subst c1
 simp only[d1,d2,n3,cF,hw,φ8,hkl,dT,cT,φA,φ40,φEp,bS,false_or,ne_eq,not_true_eq_false]
 by_cases c3:(l.getD k φ1k).2.2.1=5
 rotate_left
 ·have d3:((l.getD k φ1k).2.2.1 != 5)=true:=by simpa using c3
  simp only[d3,cT,c3,not_false_eq_true,true_or,or_true,if_true]
 have d3:((l.getD k φ1k).2.2.1 != 5)=false:=by simpa using c3
 by_cases c2:1≤id∧id≤100000
 rotate_left
 ·simp only[d3,cF,c2,dF,nF,cT,not_false_eq_true,true_or,or_true,if_true]
 simp only[d3,cF,c2,dT,nZ,and_self,not_true_eq_false,false_or,hl0,bS]
 simp only[c3,not_true_eq_false,false_or]
 rcases bE (φ2g (l.getD k φ1k).2.2.2.1 none (l.take k)) with c5 | c5
 rotate_left
 ·simp only[c5,κ1,if_false,φS,or_true,if_true]
 have hlen:((l.take k).map (·.2.2)).length=k:=by rw[lM,lT];omega
 simp only[c5,if_true,φL,κ8,or_false,hw,φ8,hkl,dT,cT,φA,φBS ((l.take k).map (·.2.2)) (by omega),bS]
 unfold φ2Y
 rcases bE ((l.getD k φ1k).2.2.2.2.2.2.1==(((l.take k).map (·.2.2)).length:Int)) with c6 | c6
 rotate_left
 ·simp only[bne,c6,nF,cT,κL,if_true]
 rcases bE ((l.getD k φ1k).2.2.2.2.2.2.2==φ52 ((l.take k).map (·.2.2))) with c7 | c7
 rotate_left
 ·simp only[bne,c6,c7,nF,nZ,cF,cT,tA,if_true]
 simp only[bne,c6,c7,nZ,cF,tA,κ8,if_false]
theorem φBp {α:Type} {l:List (List UInt8×α)} (h:srt l) {i j:Nat} (hi:i<l.length) (hj:j<l.length) (e:l[i].1=l[j].1):i=j:=by
 unfold srt at h
 rw[List.pairwise_iff_getElem] at h
 rcases Nat.lt_trichotomy i j with c | c | c
 ·have:=h i j hi hj c;rw[e,φ5s] at this;simp at this
 ·exact c
 ·have:=h j i hj hi c;rw[e,φ5s] at this;simp at this
theorem φ5R {d:φ2} (h:φ6 d=true) {f:φ4} (hf:f∈d.1):φ7 d f.1=(f.2.1,true):=by
 have hs:=((φ3d d).1 h).2.2.2.2.2
 unfold φ7
 rw[if_neg (by rw[h];simp)]
 rcases φt d.1 f.1 with ⟨e,hno⟩ | ⟨i,hi,e,hn⟩
 ·exact absurd rfl (hno f hf)
 ·rw[φv e]
  obtain ⟨j,hj,ej⟩:=List.getElem_of_mem hf
  have:i=j:=φBp hs hi hj (by rw[hn,ej])
  subst this
  simp only
  rw[φ5 hi,ej]
def φ1l (n:List UInt8) (z:Int) (d:φ2):φ2×Int:=φZ d (φ2X n z)
theorem φHj {d:φ2} {act:List φ4→Int×List φ4} (h:(φZ d act).2=0):φ6 d=true∧(act d.1).1=0∧(φZ d act).1=((act d.1).2,(tick d).2):=by
 unfold φZ at h ⊢
 split at h
 ·simp at h
 rename_i c
 split at h
 ·simp at h
 rename_i c2
 rw[if_neg c,if_neg c2]
 exact ⟨by simpa using c,h,rfl⟩
theorem φCk {d:φ2} {n:List UInt8} (h:∀f∈d.1,f.1≠n):φ7 d n=([],false):=by
 unfold φ7
 split
 ·rfl
 ·rcases φt d.1 n with ⟨e,hno⟩ | ⟨i,hi,e,hn⟩
  ·rw[φy e]
  ·exact absurd hn (h _ (gM hi))
theorem φIc {d e:φ2} (hd:φ6 d=true) (he:φ6 e=true) (n:List UInt8) (hm:∀t,(∃s,((n,t,s):φ4)∈d.1)↔∃s,((n,t,s):φ4)∈e.1):φ7 e n=φ7 d n:=by
 by_cases c:∃t s,((n,t,s):φ4)∈d.1
 ·obtain ⟨t,s,hs⟩:=c
  obtain ⟨s',hs'⟩:=(hm t).1 ⟨s,hs⟩
  have e1:=φ5R hd hs
  have e2:=φ5R he hs'
  exact e2.trans e1.symm
 ·have h1:∀f∈d.1,f.1≠n:=fun f hf e=>c ⟨f.2.1,f.2.2,by rw[←e];exact hf⟩
  have h2:∀f∈e.1,f.1≠n:=fun f hf e'=>by
   obtain ⟨s,hs⟩:=(hm f.2.1).2 ⟨f.2.2,by rw[←e'];exact hf⟩
   exact c ⟨_,_,hs⟩
  rw[φCk h1,φCk h2]
theorem φ9h {d:φ2} {act:List φ4→Int×List φ4} (h:φ6 d=true) (hk:φ6 (φZ d act).1=true) (n:List UInt8) (hm:∀t,(∃s,((n,t,s):φ4)∈d.1)↔∃s,((n,t,s):φ4)∈(act d.1).2):φ7 (φZ d act).1 n=φ7 d n:=by
 refine φIc h hk n fun t=>?_
 have hx:(φZ d act).1.1=d.1∨(φZ d act).1.1=(act d.1).2:=by
  unfold φZ
  split
  ·exact .inl rfl
  ·split
   ·exact .inl rfl
   ·exact .inr rfl
 rcases hx with e | e
 ·rw[e]
 ·rw[e];exact hm t
theorem φ7G {l:List φ4} {i:Nat} (hi:i<l.length) {f:φ4} (hf:f.1=l[i].1) {x:φ4} (hx:x.1≠l[i].1):x∈l.set i f↔x∈l:=by
 constructor
 ·intro h
  rcases List.mem_or_eq_of_mem_set h with h | e
  ·exact h
  ·rw[e] at hx;exact absurd hf hx
 ·intro h
  obtain ⟨j,hj,e⟩:=List.getElem_of_mem h
  have hij:i≠j:=fun c=>by subst c;rw[e] at hx;exact hx rfl
  exact List.mem_iff_getElem.2 ⟨j,by simpa using hj,by rw[List.getElem_set,if_neg hij];exact e⟩
theorem φDY {l:List φ4} {i:Nat} (hi:i<l.length) {x:φ4} (hx:x.1≠l[i].1):x∈φW l i↔x∈l:=by
 constructor
 ·intro h;exact (φ4D l i).subset h
 ·intro h
  rw[φ7Y hi] at h
  unfold φW
  rcases mA.1 h with h | h
  ·exact mL _ h
  ·rcases mc.1 h with e | h
   ·rw[e] at hx;exact absurd rfl hx
   ·exact mR _ h
theorem φIP {d:φ2} (h:φ6 d=true) {m n:List UInt8} (hne:n≠m):φ7 (φ2U m d).1 n=φ7 d n:=by
 refine φ9h h (φ8b h m) n fun t=>?_
 unfold φ2h
 rcases φt d.1 m with ⟨e,_⟩ | ⟨i,hi,e,hn⟩
 ·rw[φy e]
 ·rw[φv e]
  simp only
  constructor
  ·rintro ⟨s,hs⟩;exact ⟨s,(φDY hi (by rw[hn];exact hne)).2 hs⟩
  ·rintro ⟨s,hs⟩;exact ⟨s,(φDY hi (by rw[hn];exact hne)).1 hs⟩
theorem φ6G {d:φ2} (h:φ6 d=true) (m n:List UInt8):φ7 (φ2J m d).1 n=φ7 d n:=by
 refine φ9h h (φ6t h m) n fun t=>?_
 unfold φ2k
 rcases φt d.1 m with ⟨e,_⟩ | ⟨i,hi,e,hn⟩
 ·rw[φy e]
 ·rw[φv e]
  simp only
  rw[φ5 hi]
  by_cases hne:n=m
  ·subst hne
   have hs:=((φ3d d).1 h).2.2.2.2.2
   have uniq:∀t s,((n,t,s):φ4)∈d.1→d.1[i]=(n,t,s):=fun t s hx=>by
    obtain ⟨j,hj,ej⟩:=List.getElem_of_mem hx
    have:i=j:=φBp hs hi hj (by rw[hn,ej])
    subst this;exact ej
   constructor
   ·rintro ⟨s,hx⟩
    refine ⟨(d.1[i].2.1.length:Int),List.mem_iff_getElem.2 ⟨i,by simpa using hi,?_⟩⟩
    rw[List.getElem_set_self,uniq t s hx]
   ·rintro ⟨s,hx⟩
    rcases List.mem_or_eq_of_mem_set hx with hx | e
    ·exact ⟨s,hx⟩
    ·have e1:t=d.1[i].2.1:=congrArg (·.2.1) e
     refine ⟨d.1[i].2.2,?_⟩
     rw[e1,←hn];exact gM hi
  ·constructor
   ·rintro ⟨s,hs⟩;exact ⟨s,(φ7G (f:=(d.1[i].1,d.1[i].2.1,(d.1[i].2.1.length:Int))) hi rfl (by rw[hn];exact hne)).2 hs⟩
   ·rintro ⟨s,hs⟩;exact ⟨s,(φ7G (f:=(d.1[i].1,d.1[i].2.1,(d.1[i].2.1.length:Int))) hi rfl (by rw[hn];exact hne)).1 hs⟩
theorem φ6l {w:φN} {op:φ2→φ2×Int} {n:List UInt8} (ho:φ7 (op w.1).1 n=φ7 w.1 n):φ7 (φe op w).1 n=φ7 w.1 n:=by
 unfold φe;split
 ·exact ho
 ·rfl
abbrev φ5E:List UInt8:=[116,101,109,112]
abbrev φ2y:List UInt8:=[108,105,118,101]
theorem φ8f:∀(k a b:Nat),a<k→Lib.decDigits a=Lib.decDigits b→a=b
 | 0,a,b,h,_=>by omega
 | k+1,a,b,h,e=>by
  have last:∀n:Nat,(Lib.decDigits n).getLast?=some (UInt8.ofNat (48+n % 10)):=fun n=>by
   by_cases c:n<10
   ·rw[Lib.decDigits_one c,κW c];rfl
   ·have:=φ2x (n:=n) (by omega)
    unfold digs at this
    rw[if_neg (by omega),if_neg (by omega)] at this
    rw[this];simp
  have hm:a % 10=b % 10:=by
   have h1:=last a
   rw[e,last b] at h1
   have h2:UInt8.ofNat (48+b % 10)=UInt8.ofNat (48+a % 10):=Option.some.inj h1
   have h3:=congrArg UInt8.toNat h2
   simp only[UInt8.toNat_ofNat'] at h3
   omega
  by_cases ca:a<10
  ·by_cases cb:b<10
   ·omega
   ·exfalso
    have:=φ2x (n:=b) (by omega)
    unfold digs at this
    rw[if_neg (by omega),if_neg (by omega)] at this
    rw[this,Lib.decDigits_one ca] at e
    have hl:=congrArg List.length e
    have h0:0<(Lib.decDigits (b / 10)).length:=by
     cases hd:Lib.decDigits (b / 10) with
     | nil=>have:=last (b / 10);rw[hd] at this;simp at this
     | cons x l=>simp
    simp only[lA,lC,lN] at hl
    omega
  ·by_cases cb:b<10
   ·exfalso
    have:=φ2x (n:=a) (by omega)
    unfold digs at this
    rw[if_neg (by omega),if_neg (by omega)] at this
    rw[this,Lib.decDigits_one cb] at e
    have hl:=congrArg List.length e
    have h0:0<(Lib.decDigits (a / 10)).length:=by
     cases hd:Lib.decDigits (a / 10) with
     | nil=>have:=last (a / 10);rw[hd] at this;simp at this
     | cons x l=>simp
    simp only[lA,lC,lN] at hl
    omega
   ·have e1:=φ2x (n:=a) (by omega)
    have e2:=φ2x (n:=b) (by omega)
    unfold digs at e1 e2
    rw[if_neg (by omega),if_neg (by omega)] at e1 e2
    rw[e1,e2] at e
    have:=(List.append_inj' e rfl).1
    have:=φ8f k (a / 10) (b / 10) (by omega) this
    omega
theorem φFK {i j:Int} (hi:1≤i∧i≤100000) (hj:1≤j∧j≤100000) (h:φ3 i=φ3 j):i=j:=by
 unfold φ3 φ1o at h
 rw[if_pos hi,if_pos hj] at h
 have:=φ8f (i.toNat+1) i.toNat j.toNat (by omega) (List.append_cancel_left h)
 omega
theorem φCq (i j:Int) (hi:1≤i∧i≤100000):φ3 i≠φf j:=by
 unfold φ3 φf φ1o
 rw[if_pos hi]
 split
 ·intro h;have:=congrArg List.head? h;simp at this
 ·simp
theorem φ9o {t:List UInt8} (h:t.length≤200):frame t=fix4 (crcT (varT (t.length:Int)++t))++(varN t.length++t)∧(fix4 (crcT (varT (t.length:Int)++t))).length=4:=by
 unfold frame
 rw[if_neg (by omega),φ4k t.length (by omega)]
 exact ⟨rfl,φ62 (φ5a _)⟩
theorem φ8c {t:List UInt8} (h:t.length≤200) (r:List UInt8):φD (frame t++r)=(t,((frame t).length:Int)):=by
 obtain ⟨e,h4⟩:=φ9o h
 have hb:=φ7A 7 true t.length (t++r) (by omega) (by simp) (by omega)
 generalize hC:fix4 (crcT (varT (t.length:Int)++t))=C at *
 have hl:(frame t).length=4+(varN t.length).length+t.length:=by rw[e];simp only[lA,h4];omega
 have e1:(frame t++r).drop 4=varN t.length++(t++r):=by
  rw[e,aA,←h4,κP,aA]
 have e2:(frame t++r).take (4+(varN t.length).length+t.length)=frame t:=by rw[←hl,List.take_left]
 have e3:(frame t).drop (4+(varN t.length).length)=t:=by
  rw[e,show C++(varN t.length++t)=(C++varN t.length)++t by rw[aA],show 4+(varN t.length).length=(C++varN t.length).length by rw[lA,h4],κP]
 unfold φD
 rw[if_neg (by rw[lA];omega),e1,hb]
 simp only
 rw[if_neg (by rw[lA];omega),e2,e3,if_pos rfl,hl]
theorem φAx {s:List UInt8} (h:(φD s).2≠0):∃t r,s=frame t++r∧t.length≤200∧φD s=(t,((frame t).length:Int)):=by
 have key:∃t r,s=frame t++r∧t.length≤200:=by
  unfold φD at h
  split at h
  ·exact absurd rfl h
  split at h
  ·exact absurd rfl h
  rename_i n k hr
  split at h
  ·exact absurd rfl h
  rename_i c
  split at h
  ·rename_i c2
   refine ⟨_,s.drop (4+k+n),by rw[c2,κ9],?_⟩
   rw[lD,lT];omega
  ·exact absurd rfl h
 obtain ⟨t,r,e,hl⟩:=key
 exact ⟨t,r,e,hl,by rw[e];exact φ8c hl r⟩
theorem φ9F {t:List UInt8} (h:t.length≤200):5≤(frame t).length:=by
 obtain ⟨e,h4⟩:=φ9o h
 have:=(φ7f 6 t.length (by omega)).1
 rw[e];simp only[lA,h4];omega
theorem φGG {s:List UInt8} {r q:RecT} (h:φ1v s r) (k:φ1v s q):r=q:=by
 have a:=φ9n h
 rw[φ9n k] at a
 simp only[Option.some.injEq,Prod.mk.injEq,and_true] at a
 exact a.symm
theorem φEg {r:RecT} (h:φ12 r=true):φ19 (φc r)=(r,true):=by
 rcases φAR (φc r) with ⟨_,e⟩ | ⟨q,e,hq⟩
 ·exact absurd ⟨r,h,rfl⟩ e
 ·rw[e,φGG hq ⟨h,rfl⟩]
def fr (r:RecT):List UInt8:=frame (φc r)
def txt (rs:List RecT):List UInt8:=(rs.map fr).flatten
theorem φIn (r:RecT):5≤(fr r).length∧(fr r).length≤71:=by
 have h:=φ4F r
 refine ⟨φ9F (by omega),?_⟩
 obtain ⟨e,h4⟩:=φ9o (t:=φc r) (by omega)
 have:=(φ7f 0 (φc r).length (by omega)).2
 unfold fr
 rw[e];simp only[lA,h4];omega
theorem φ6g (r:RecT) (rs:List RecT):txt (r::rs)=fr r++txt rs:=rfl
theorem φCZ (x:Int):φI [x]=x:=rfl
theorem φCo (x y:Int) (l:List Int):φI (x::y::l)=φI (y::l):=by
 unfold φI
 simp only[lC,Nat.add_sub_cancel]
 rfl
theorem φ9j:∀(k n:Nat),n<k→(Lib.decDigits n).all φ33=true
 | 0,n,h=>by omega
 | k+1,n,h=>by
  have hb:∀m,m<10→φ33 (UInt8.ofNat (48+m))=true:=fun m hm=>by
   unfold φ33
   have:(UInt8.ofNat (48+m)).toNat=48+m:=by simp only[UInt8.toNat_ofNat'];omega
   rw[this]
   simp;omega
  by_cases c:n<10
  ·rw[Lib.decDigits_one c,List.all_cons,hb n c];rfl
  ·have:=φ2x (n:=n) (by omega)
   unfold digs at this
   rw[if_neg (by omega),if_neg (by omega)] at this
   rw[this,List.all_append,φ9j k (n / 10) (by omega),List.all_cons,hb (n % 10) (by omega)];rfl
theorem φG4 {d:φ2} {n:List UInt8} (h:(φ7 d n).2=true):∃i:Nat,∃hi:i<d.1.length,d.1.findIdx? (fun f=>f.1==n)=some i∧d.1[i].1=n∧φ1P d.1 n=(i:Int):=by
 rcases φt d.1 n with ⟨e,_⟩ | ⟨i,hi,e,hn⟩
 ·unfold φ7 at h
  split at h
  ·simp at h
  ·rw[φy e] at h;simp at h
 ·exact ⟨i,hi,φv e,hn,e⟩
theorem φIf (u:Nat) (h:1≤u):Lib.itoa (-(u:Int))=[45]++Lib.decDigits u:=by
 unfold Lib.itoa
 rw[if_pos (by omega)]
 simp
theorem φGK (n:Nat) (h1:1≤n) (hn:n<1000000000000000000):ψ2A.f (-(n:Int))=some ([45]++Lib.decDigits n):=by
 unfold ψ2A.f
 have c1:((-(n:Int))==0)=false:=by
  have:¬(-(n:Int))=0:=by omega
  simpa using this
 have c2:decide ((-(n:Int))<0)=true:=by simp;omega
 have key:=φ4e (step:=ψ2A.l0) (a:=((-(n:Int)),([]:List UInt8),true)) (fun a=>(digs (-a.1).toNat++a.2.1,true)) (fun a=>a.1≤0∧a.2.2=true∧a.2.1.length+(-a.1).toNat≤n) (fun a=>(-a.1).toNat)
  (fun rec a ha ih=>by
   obtain ⟨x,s,f⟩:=a
   obtain ⟨h0,hf,hl⟩:=ha
   simp only at hf hl h0 ih ⊢
   subst hf
   obtain ⟨m,rfl⟩:∃m:Nat,x=-(m:Int):=⟨(-x).toNat,by omega⟩
   simp only[Int.neg_neg,tN] at hl ih ⊢
   by_cases d:m=0
   ·subst d
    simp[ψ2A.l0,digs]
   ·have d1:((-(m:Int)) != 0)=true:=by
     have:¬(-(m:Int))=0:=by omega
     simpa using this
    have e1:Int.tmod (-(m:Int)) 10=-((m % 10:Nat):Int):=by rw[Int.neg_tmod];rfl
    have e2:w64 (Int.tdiv (-(m:Int)) 10)=-((m / 10:Nat):Int):=by
     rw[Int.neg_tdiv,show Int.tdiv (m:Int) 10=((m / 10:Nat):Int) from rfl];exact φ9 (by omega) (by omega)
    have e5:w64 (0 - -((m % 10:Nat):Int))=((m % 10:Nat):Int):=by rw[φ9 (by omega) (by omega)];omega
    have e4:φm [IntKind.wrap .u8 (w64 (48+((m % 10:Nat):Int)))]=[UInt8.ofNat (48+m % 10)]:=by
     have e:w64 (48+((m % 10:Nat):Int))=((48+m % 10:Nat):Int):=by rw[φ9 (by omega) (by omega)];omega
     rw[e]
     unfold φm
     simp only[κC,List.map_nil,φ4b]
    have hb:([UInt8.ofNat (48+m % 10)]:List UInt8).length+s.length≤9223372036854775807:=by show 1+_≤_;omega
    have ih:=ih (-((m / 10:Nat):Int),[UInt8.ofNat (48+m % 10)]++s,true) ⟨by simp only;omega,rfl,by simp only[lA,κ3,Int.neg_neg,tN];omega⟩ (by simp only[Int.neg_neg,tN];omega)
    simp only[Int.neg_neg,tN] at ih
    have e6:(bif decide (-((m % 10:Nat):Int)<0) then some (-(m:Int),s,true,w64 (0 - -((m % 10:Nat):Int))) else some (-(m:Int),s,true,-((m % 10:Nat):Int)))=some (-(m:Int),s,true,((m % 10:Nat):Int)):=by
     rw[e5]
     by_cases z:-((m % 10:Nat):Int)<0
     ·simp only[z,dT,cT]
     ·have:((m % 10:Nat):Int)=0:=by omega
      simp only[decide_eq_false z,cF]
      rw[this];rfl
    simp only[ψ2A.l0,d1,cT,e1,e2,e6,bS,e4,hb,dT,ih]
    rw[φ2x d,aA])
  ⟨by simp only;omega,rfl,by simp⟩ (by simp only[Int.neg_neg,tN];omega)
 have hd:decide (([45]:List UInt8).length+(digs n++[]).length≤9223372036854775807)=true:=by
  have:=φ46 17 n (by omega)
  refine φl ?_
  unfold digs
  rw[if_neg (by omega),κ4]
  show 1+_≤_;omega
 simp only[Int.neg_neg,tN] at key
 simp only[c1,c2,cF,key,bS,cT,hd]
 unfold digs
 rw[if_neg (by omega),κ4]
theorem φHZ (n:Int) (h:-1000000000000000000<n∧n<1000000000000000000):ψ2A.f n=some (Lib.itoa n):=by
 rcases Int.lt_or_le n 0 with c | c
 ·obtain ⟨m,rfl⟩:∃m:Nat,n=-(m:Int):=⟨(-n).toNat,by omega⟩
  rw[φGK m (by omega) (by omega),φIf m (by omega)]
 ·obtain ⟨m,rfl⟩:∃m:Nat,n=(m:Int):=⟨n.toNat,by omega⟩
  rw[φ9i m (by omega),φ5O]
def φ2t (b:UInt8):Bool:=decide (48≤b.toNat) && decide (b.toNat≤57)
def φ1Q (a:Nat×Nat) (b:UInt8):Nat×Nat:=if φ2t b=true then (a.1 * 10+(b.toNat - 48),a.2+1) else a
def φ1B (s:List UInt8):Nat×Nat:=s.foldl φ1Q (0,0)
theorem φCV (l:List UInt8):∀(a:Nat×Nat) (n:Nat),a.1<10 ^ n→a.2≤n→(l.foldl φ1Q a).1<10 ^ (n+l.length)∧(l.foldl φ1Q a).2≤n+l.length:=by
 induction l with
 | nil=>intro a n h1 h2;exact ⟨h1,h2⟩
 | cons b l ih=>
  intro a n h1 h2
  have b1:(φ1Q a b).1<10 ^ (n+1):=by
   unfold φ1Q φ2t
   rw[κS]
   split
   ·rename_i c
    simp only[bA,decide_eq_true_eq] at c
    show a.1 * 10+(b.toNat - 48)<_
    omega
   ·omega
  have b2:(φ1Q a b).2≤n+1:=by
   unfold φ1Q
   split
   ·show a.2+1≤n+1;omega
   ·omega
  have:=ih (φ1Q a b) (n+1) b1 b2
  rw[κK,lC,show n+(l.length+1)=n+1+l.length by omega]
  exact this
def sgn:List UInt8→Bool
 | []=>false
 | b::_=>b==45
def φ2r (s:List UInt8):Int×Bool:=
 let p:=φ1B (s.take 11)
 let n:Int:=if sgn s=true then -(p.1:Int) else (p.1:Int)
 if 9<p.2∨10<s.length∨Lib.itoa n≠s then (0,false) else (n,true)
theorem φHF (s:List UInt8) (hl:s.length<1000000000000):lp ψ2T.l0 (s,0,0,0)=some (s,((φ1B (s.take 11)).1:Int),((φ1B (s.take 11)).2:Int)):=by
 have hN:(s.take 11).length=min 11 s.length:=lT
 have key:=φO (step:=ψ2T.l0) (fun n (p:Nat×Nat)=>(s,(p.1:Int),(p.2:Int),(n:Int))) (s.take 11).length (fun n p=>(s,((((s.take 11).drop n).foldl φ1Q p).1:Int),((((s.take 11).drop n).foldl φ1Q p).2:Int))) (fun n p=>p.1<10 ^ n∧p.2≤n)
  (fun rec n p hn hp ih=>by
   rcases κ0 n (s.take 11).length with h | h
   ·have hs:n<s.length:=by omega
    have h11:n<11:=by omega
    have hw:=φB (show n+1<9223372036854775808 by omega)
    have c1:(n:Int)<(s.length:Int):=by omega
    have c2:(n:Int)<11:=by omega
    have hg:(s.take 11)[n]=s[n]:=List.getElem_take
    have hpow:10 ^ n≤10 ^ 10:=κT (by omega) (by omega)
    have hp1:p.1<10000000000:=κA hp.1 hpow
    rw[dG h,hg,κK]
    have hstep:=φCV [s[n]] p n hp.1 hp.2
    have ih:=ih (φ1Q p s[n]) h hstep
    simp only[ψ2T.l0,c1,c2,dT,cT,φ8,hs,φ3R s n hs]
    have hlt:=UInt8.toNat_lt s[n]
    by_cases d1:48≤s[n].toNat
    ·have d1':((s[n].toNat:Nat):Int)≥48:=by omega
     by_cases d2:s[n].toNat≤57
     ·have d2':((s[n].toNat:Nat):Int)≤57:=by omega
      have e1:w64 (IntKind.wrap .u8 ((s[n].toNat:Int) - 48))=((s[n].toNat - 48:Nat):Int):=by
       have:(s[n].toNat:Int) - 48=((s[n].toNat - 48:Nat):Int):=by omega
       rw[this,show IntKind.wrap .u8 ((s[n].toNat - 48:Nat):Int)=((s[n].toNat - 48:Nat):Int) by unfold IntKind.wrap;show ((((s[n].toNat - 48:Nat):Int)) % 256:Int)=_;omega]
       exact φ2L (by omega)
      have e2:w64 ((p.1:Int) * 10)=((p.1 * 10:Nat):Int):=by rw[φ9 (by omega) (by omega)];omega
      have e3:w64 (((p.1 * 10:Nat):Int)+((s[n].toNat - 48:Nat):Int))=((p.1 * 10+(s[n].toNat - 48):Nat):Int):=by rw[φ9 (by omega) (by omega)];omega
      have e4:w64 ((p.2:Int)+1)=((p.2+1:Nat):Int):=φB (by have:=hp.2;omega)
      have e5:φ1Q p s[n]=(p.1 * 10+(s[n].toNat - 48),p.2+1):=by
       unfold φ1Q φ2t
       rw[if_pos (by simp[d1,d2])]
      rw[e5] at ih ⊢
      simp only[d1',d2',dT,cT,e1,e2,e3,e4,bS,hw,ih]
     ·have d2':¬((s[n].toNat:Nat):Int)≤57:=by omega
      have e5:φ1Q p s[n]=p:=by unfold φ1Q φ2t;rw[if_neg (by simp[d2])]
      rw[e5] at ih ⊢
      simp only[d1',d2',dT,dF,cT,cF,bS,hw,ih]
    ·have d1':¬((s[n].toNat:Nat):Int)≥48:=by omega
     have e5:φ1Q p s[n]=p:=by unfold φ1Q φ2t;rw[if_neg (by simp[d1])]
     rw[e5] at ih ⊢
     simp only[d1',dF,cF,bS,hw,ih]
   ·have hn2:n=(s.take 11).length:=by omega
    have hnil:(s.take 11).drop n=[]:=List.drop_eq_nil_of_le (by omega)
    rw[hnil,List.foldl_nil]
    by_cases c:n<s.length
    ·have c1:(n:Int)<(s.length:Int):=by omega
     have c2:¬(n:Int)<11:=by omega
     simp only[ψ2T.l0,c1,c2,dT,dF,cT,cF]
    ·have c1:¬(n:Int)<(s.length:Int):=by omega
     simp only[ψ2T.l0,c1,dF,cF])
  (by omega) 0 (0,0) (κ5 _) ⟨by decide,κ7 _⟩
 exact key
theorem φHl (s:List UInt8) (hl:s.length<1000000000000):ψ2T.f s=some (φ2r s):=by
 have hb:=φCV (s.take 11) (0,0) 0 (by decide) (κ7 _)
 have h11:(s.take 11).length≤11:=by rw[lT];omega
 have hpow:10 ^ (0+(s.take 11).length)≤10 ^ 11:=κT (by omega) (by omega)
 have hv:(φ1B (s.take 11)).1<100000000000:=κA hb.1 hpow
 unfold ψ2T.f φ2r
 rw[φHF s hl,bS]
 have e1:(bif decide ((s.length:Int) > 0) then
   bif inB 0 s.length then
   bif (bAt s 0)==45 then some (s,w64 (0 - ((φ1B (s.take 11)).1:Int)),((φ1B (s.take 11)).2:Int)) else some (s,((φ1B (s.take 11)).1:Int),((φ1B (s.take 11)).2:Int))
   else none
   else some (s,((φ1B (s.take 11)).1:Int),((φ1B (s.take 11)).2:Int)):Option (List UInt8×Int×Int)) =
   some (s,(if sgn s=true then -((φ1B (s.take 11)).1:Int) else ((φ1B (s.take 11)).1:Int)),((φ1B (s.take 11)).2:Int)):=by
  cases s with
  | nil=>rfl
  | cons b r=>
   have c1:((b::r).length:Int) > 0:=by simp
   have c2:inB 0 (b::r).length=true:=by unfold inB;simp
   have c3:bAt (b::r) 0=(b.toNat:Int):=rfl
   simp only[c1,dT,cT,c2,c3,sgn]
   by_cases z:b=45
   ·subst z
    have hw:w64 (0 - ((φ1B (((45:UInt8)::r).take 11)).1:Int))=-((φ1B (((45:UInt8)::r).take 11)).1:Int):=by rw[φ9 (by omega) (by omega)];omega
    rw[hw];rfl
   ·have z1:((b.toNat:Int)==45)=false:=by
     have:¬(b.toNat:Int)=45:=fun h=>z (by
      have:b.toNat=45:=by omega
      exact UInt8.toNat_inj.1 (by rw[this];rfl))
     simpa using this
    have z2:(b==45)=false:=by simpa using z
    simp only[z1,cF,z2,κ1,if_false]
 dsimp only
 rw[e1,bS]
 dsimp only
 have hvb:-1000000000000000000<(if sgn s=true then -((φ1B (s.take 11)).1:Int) else ((φ1B (s.take 11)).1:Int))∧(if sgn s=true then -((φ1B (s.take 11)).1:Int) else ((φ1B (s.take 11)).1:Int))<1000000000000000000:=by split<;>omega
 generalize (if sgn s=true then -((φ1B (s.take 11)).1:Int) else ((φ1B (s.take 11)).1:Int))=v at hvb ⊢
 generalize (φ1B (s.take 11)).2=q
 have hd:=φHZ v hvb
 by_cases c1:9<q
 ·have h1:decide ((q:Int) > 9)=true:=by simp;omega
  rw[h1,cT,if_pos (.inl c1)]
 have h1:decide ((q:Int) > 9)=false:=by simp;omega
 rw[h1,cF]
 by_cases c2:10<s.length
 ·have h2:decide ((s.length:Int) > 10)=true:=by simp;omega
  rw[h2,cT,if_pos (.inr (.inl c2))]
 have h2:decide ((s.length:Int) > 10)=false:=by simp;omega
 rw[h2,cF,hd,bS]
 by_cases c3:Lib.itoa v=s
 ·rw[if_neg (by simp only[not_or,ne_eq,Decidable.not_not];exact ⟨c1,c2,c3⟩)]
  have:(Lib.itoa v==s)=true:=by rw[c3];simp
  simp only[this,nZ,cF]
 ·rw[if_pos (.inr (.inr c3))]
  have:(Lib.itoa v==s)=false:=by simpa using c3
  simp only[this,nF,cT]
theorem φ5i:∀(k n:Nat),n<k→∀(a:Nat×Nat),(Lib.decDigits n).foldl φ1Q a=(a.1 * 10 ^ (Lib.decDigits n).length+n,a.2+(Lib.decDigits n).length)
 | 0,n,h,a=>by omega
 | k+1,n,h,a=>by
  have hd:∀m,m<10→∀a:Nat×Nat,φ1Q a (UInt8.ofNat (48+m))=(a.1 * 10+m,a.2+1):=fun m hm a=>by
   have e:(UInt8.ofNat (48+m)).toNat=48+m:=by simp only[UInt8.toNat_ofNat'];omega
   unfold φ1Q φ2t
   rw[e,if_pos (by simp;omega)]
   simp
  by_cases c:n<10
  ·rw[Lib.decDigits_one c]
   simp only[κK,List.foldl_nil,lC,lN]
   rw[hd n c]
  ·have:=φ2x (n:=n) (by omega)
   unfold digs at this
   rw[if_neg (by omega),if_neg (by omega)] at this
   rw[this,List.foldl_append,φ5i k (n / 10) (by omega),κK,List.foldl_nil,hd _ (by omega)]
   simp only[lA,lC,lN,κQ,Prod.mk.injEq]
   constructor
   ·rw[κS,←Nat.mul_assoc,Nat.add_mul];omega
   ·omega
theorem φEy {n:Nat} (h:n≤100000):φ2r (Lib.decDigits n)=((n:Int),true):=by
 have hl:=φ46 5 n (by show _<1000000;omega)
 have ht:(Lib.decDigits n).take 11=Lib.decDigits n:=List.take_of_length_le (by omega)
 have hf:φ1B (Lib.decDigits n)=(n,(Lib.decDigits n).length):=by
  unfold φ1B
  rw[φ5i (n+1) n (by omega)]
  simp
 have hh:sgn (Lib.decDigits n)=false:=by
  have ha:=φ9j (n+1) n (by omega)
  rw[List.all_eq_true] at ha
  cases e:Lib.decDigits n with
  | nil=>rfl
  | cons b r=>
   have:=ha b (by rw[e];exact κ6)
   show (b==45)=false
   cases h:b==45 with
   | false=>rfl
   | true=>
    have:b=45:=by simpa using h
    subst this
    revert this;decide
 unfold φ2r
 simp only[ht,hf,hh,κ1,if_false]
 rw[if_neg]
 simp only[not_or,ne_eq,Decidable.not_not]
 exact ⟨by omega,by omega,φ5O n⟩
theorem φHK {i j:Int} (hi:1≤i∧i≤100000) (hj:1≤j∧j≤100000) (h:φf i=φf j):i=j:=by
 unfold φf φ1o at h
 rw[if_pos hi,if_pos hj] at h
 have:=φ8f (i.toNat+1) i.toNat j.toNat (by omega) (List.append_cancel_left h)
 omega
def φ3B (name:List UInt8) (id:Int):Prop:=(1≤id∧id≤100000)∧(name=φ3 id∨name=φf id)
theorem φDk {name:List UInt8} {i j:Int} (hi:φ3B name i) (hj:φ3B name j):i=j:=by
 obtain ⟨h1,h2⟩:=hi
 obtain ⟨k1,k2⟩:=hj
 rcases h2 with h2 | h2<;>rcases k2 with k2 | k2
 ·exact φFK h1 k1 (h2.symm.trans k2)
 ·exact absurd (h2.symm.trans k2) (φCq i j h1)
 ·exact absurd (k2.symm.trans h2) (φCq j i k1)
 ·exact φHK h1 k1 (h2.symm.trans k2)
noncomputable def idOf (name:List UInt8):Int×Bool:=@dite (Int×Bool) (∃id,φ3B name id) (Classical.propDecidable _) (fun h=>(h.choose,true)) (fun _=>(0,false))
theorem φ92 {name:List UInt8} {id:Int} (h:φ3B name id):idOf name=(id,true):=by
 have hx:∃id,φ3B name id:=⟨id,h⟩
 unfold idOf
 rw[dif_pos hx,φDk hx.choose_spec h]
theorem φ8W {name:List UInt8} (h:¬∃id,φ3B name id):idOf name=(0,false):=by
 unfold idOf;rw[dif_neg h]
noncomputable def idAt (name:List UInt8) (k:Nat):Option Int:=
 if k<name.length∧(φ2r (name.drop k)).2=true∧1≤(φ2r (name.drop k)).1∧(φ3 (φ2r (name.drop k)).1=name∨φf (φ2r (name.drop k)).1=name) then some (φ2r (name.drop k)).1 else none
theorem φDE {name:List UInt8} {k:Nat} {n:Int} (h:idAt name k=some n):φ3B name n:=by
 unfold idAt at h
 split at h
 ·rename_i c
  have h:(φ2r (name.drop k)).1=n:=Option.some.inj h
  rw[h] at c
  obtain ⟨c1,c2,c3,c4⟩:=c
  have hr:n≤100000:=by
   rcases Int.lt_or_le 100000 n with z | z
   ·exfalso
    unfold φ3 φf φ1o at c4
    rw[if_neg (by omega),if_neg (by omega)] at c4
    rcases c4 with e | e<;>rw[←e] at c1<;>simp at c1
   ·exact z
  exact ⟨⟨c3,hr⟩,c4.imp Eq.symm Eq.symm⟩
 ·simp at h
theorem φG2 {name:List UInt8} {id:Int} (h:φ3B name id):idAt name 3=some id∨idAt name 4=some id:=by
 obtain ⟨h1,h2⟩:=h
 obtain ⟨n,rfl⟩:∃n:Nat,id=(n:Int):=⟨id.toNat,by omega⟩
 have hr:=φEy (n:=n) (by omega)
 have hne:(Lib.decDigits n)≠[]:=fun e=>by
  have:=φ5i (n+1) n (by omega) (0,0)
  rw[e] at this
  simp at this;omega
 have hpos:0<(Lib.decDigits n).length:=List.length_pos_iff.2 hne
 rcases h2 with h2 | h2
 ·left
  have e:name=[115,101,103]++Lib.decDigits n:=by rw[h2];unfold φ3 φ1o;rw[if_pos h1,tN]
  have hd:name.drop 3=Lib.decDigits n:=by rw[e];rfl
  unfold idAt
  rw[hd,hr]
  rw[if_pos ⟨by rw[e,lA];show 3<3+_;omega,rfl,h1.1,.inl h2.symm⟩]
 ·right
  have e:name=[104,105,110,116]++Lib.decDigits n:=by rw[h2];unfold φf φ1o;rw[if_pos h1,tN]
  have hd:name.drop 4=Lib.decDigits n:=by rw[e];rfl
  unfold idAt
  rw[hd,hr]
  rw[if_pos ⟨by rw[e,lA];show 4<4+_;omega,rfl,h1.1,.inr h2.symm⟩]
theorem φHH (name:List UInt8) (hl:name.length<1000000000000):ψ2M.f name=some (idOf name):=by
 have key:=φO (step:=ψ2M.l0) (fun n (_:Unit)=>(name,(n:Int))) 5 (fun n _=>match (if n=3 then idAt name 3 else none),(if n≤4 then idAt name 4 else none) with | some x,_=>.inr (x,true) | none,some x=>.inr (x,true) | none,none=>.inl ()) (fun n _=>3≤n)
  (fun rec n _ hn h3 ih=>by
   rcases κ0 n 5 with h | h
   ·have hw:=φB (show n+1<9223372036854775808 by omega)
    have c1:(n:Int)≤4:=by omega
    have hone:(bif decide ((name.length:Int) > (n:Int)) then
      bif (decide (0≤(n:Int)) && decide ((n:Int)≤(name.length:Int))) then
      (ψ2T.f (name.drop (n:Int).toNat)).bind fun (t1_0,t1_1)=>
      (bif t1_1 then
      bif decide (t1_0≥1) then
      (ψ2f.f t1_0).bind fun t2=>
      bif t2==name then
      some (Sum.inr (t1_0,true))
      else
      (ψ2K.f t1_0).bind fun t3=>
      bif t3==name then
      some (Sum.inr (t1_0,true))
      else
      some (Sum.inl (name,(n:Int)))
      else
      some (Sum.inl (name,(n:Int)))
      else
      some (Sum.inl (name,(n:Int))):Option ((List UInt8×Int) ⊕ (Int×Bool))).bind (fun o4=>φF o4 (fun (x0,x4)=>
      some (Sum.inl (x0,x4))) (fun (x2,x3)=>
      some (Sum.inr (x2,x3))))
      else none
      else
      some (Sum.inl (name,(n:Int))):Option ((List UInt8×Int) ⊕ (Int×Bool)))=some (match idAt name n with | some x=>.inr (x,true) | none=>.inl (name,(n:Int))):=by
     by_cases d:n<name.length
     ·have d1:(name.length:Int) > (n:Int):=by omega
      have d2:(decide (0≤(n:Int)) && decide ((n:Int)≤(name.length:Int)))=true:=by simp;omega
      simp only[d1,dT,cT,d2,tN,φHl (name.drop n) (by rw[lD];omega),bS]
      unfold idAt
      generalize φ2r (name.drop n)=p
      obtain ⟨v,b⟩:=p
      simp only[φ40,φBX,bS]
      cases b
      ·simp
      ·by_cases e:v≥1
       ·by_cases e1:φ3 v=name
        ·simp[d,e,e1,φS]
        ·have e1':(φ3 v==name)=false:=by simpa using e1
         by_cases e2:φf v=name
         ·simp[d,e,e1',e1,e2,φS]
         ·have e2':(φf v==name)=false:=by simpa using e2
          simp[d,e,e1',e1,e2',e2,φL]
       ·have e':¬1≤v:=e
        simp[d,e,e',φL]
     ·have d1:¬(name.length:Int) > (n:Int):=by omega
      simp only[d1,dF,cF]
      unfold idAt
      rw[if_neg (fun z=>d z.1)]
    simp only[ψ2M.l0,c1,dT,cT]
    erw [hone]
    simp only[bS]
    have ih:=ih () h (by omega)
    have:n=3∨n=4:=by omega
    rcases this with rfl | rfl
    ·cases e3:idAt name 3 with
     | some x=>simp[φS]
     | none=>
      simp only[φL,hw]
      rw[ih]
      simp
    ·cases e4:idAt name 4 with
     | some x=>simp[φS]
     | none=>
      simp only[φL,hw]
      rw[ih]
      simp
   ·have:n=5:=by omega
    subst this
    simp[ψ2M.l0])
  (by omega) 3 () (by omega) (κ7 _)
 have key:lp ψ2M.l0 (name,3)=_:=key
 unfold ψ2M.f
 rw[key,bS]
 simp only[if_true,show (3:Nat)≤4 by omega]
 cases e3:idAt name 3 with
 | some x=>simp only[φS];rw[φ92 (φDE e3)]
 | none=>
  cases e4:idAt name 4 with
  | some x=>simp only[φS];rw[φ92 (φDE e4)]
  | none=>
   simp only[φL]
   rw[φ8W]
   rintro ⟨id,h⟩
   rcases φG2 h with z | z
   ·rw[e3] at z;simp at z
   ·rw[e4] at z;simp at z
noncomputable def φ5G (v:φE) (f:φ4):Bool:=((idOf f.1).2 && !(v.2.any fun i=>i==(idOf f.1).1)) || f.1==φ5E
noncomputable def φ1q (d:φ2) (v:φE):List (List UInt8):=if φ6 d=false then [] else (d.1.filter (φ5G v)).map (·.1)
theorem φEq (d:φ2) (v:φE) (acc:List (List UInt8)) (i id:Int) (is:Bool) (hv:v.2.length<1000000000) :
  lp ψ2R.l2 (d,v,acc,i,id,is,false,0)=some (d,v,acc,i,is,v.2.any fun x=>x==id):=by
 have key:=φO (step:=ψ2R.l2) (fun n (b:Bool)=>(d,v,acc,i,id,is,b,(n:Int))) v.2.length (fun n b=>(d,v,acc,i,is,b || (v.2.drop n).any fun x=>x==id)) (fun _ _=>True)
  (fun rec n b hn _ ih=>by
   rcases κ0 n v.2.length with h | h
   ·have hw:=φB (show n+1<9223372036854775808 by omega)
    rw[dG h,List.any_cons]
    simp only[ψ2R.l2,oL,h,dT,cT,φ8,φA,φ5 h]
    cases b
    ·simp only[cF,bS,hw,ih _ h trivial,Bool.false_or]
    ·simp only[cT,bS,hw,ih _ h trivial,Bool.true_or]
   ·have:n=v.2.length:=by omega
    subst this
    simp[ψ2R.l2])
  (by omega) 0 false (κ5 _) trivial
 have key:lp ψ2R.l2 (d,v,acc,i,id,is,false,0)=_:=key
 rw[key,κE,Bool.false_or]
theorem φAe {a:Nat} (h:a<1000000000001):(a+1) * 16≤140737488355328:=by omega
theorem φI2 (d:φ2) (v:φE) (hd:dlim d) (hv:v.2.length<1000000000):ψ2R.f d v=some (φ1q d v):=by
 have key:=φO (step:=ψ2R.l0) (fun n (acc:List (List UInt8))=>(d,v,acc,(n:Int))) d.1.length (fun n acc=>acc++((d.1.drop n).filter (φ5G v)).map (·.1)) (fun n acc=>acc.length≤n)
  (fun rec n acc hn ha ih=>by
   rcases κ0 n d.1.length with h | h
   ·have hlen:=hd.1
    have hw:=φB (show n+1<9223372036854775808 by omega)
    have hnm:=hd.2.2 _ (gM h)
    have hb:(acc.length+([d.1[n].1]:List (List UInt8)).length) * 16≤140737488355328:=φAe (by omega)
    have i1:=ih (acc++[d.1[n].1]) h (by rw[lA];show acc.length+1≤n+1;omega)
    have i2:=ih acc h (by omega)
    rw[dG h,List.filter_cons]
    simp only[ψ2R.l0,oL,h,dT,cT,φ8,φA,φ5 h]
    rw[φHH d.1[n].1 hnm,bS]
    simp only[φEq d v acc (n:Int) _ _ hv,bS,hb,dT,cT]
    have hob:φ5G v d.1[n]=(((idOf d.1[n].1).2 && !(v.2.any fun i=>i==(idOf d.1[n].1).1)) || d.1[n].1==φ5E):=rfl
    rw[hob]
    obtain ⟨tb,hT⟩:∃tb,(d.1[n].1==φ5E)=tb:=⟨_,rfl⟩
    have ht:(d.1[n].1==[116,101,109,112])=tb:=hT
    rw[hT]
    cases (idOf d.1[n].1).2<;>cases (v.2.any fun i=>i==(idOf d.1[n].1).1)<;>cases tb <;>
     simp only[φ8,h,φA,φ5 h,ht,hb,dT,cT,cF,bS,nZ,nF,κV,Bool.and_false,Bool.or_true,Bool.or_false,tA,κL,Bool.false_or,Bool.true_or,if_true,κ1,if_false,hw,i1,i2,κC,aA,List.singleton_append]
   ·have:n=d.1.length:=by omega
    subst this
    simp[ψ2R.l0])
  (by have:=hd.1;omega) 0 [] (κ5 _) (κ7 _)
 have key:lp ψ2R.l0 (d,v,[],0)=_:=key
 unfold ψ2R.f φ1q
 rw[φ5H d hd,bS]
 cases φ6 d
 ·simp
 ·simp only[nZ,cF,key,bS,κE,κG,κ8,if_false]
theorem φGh {op:φ2→φ2×Int} {w:φN} (h:(φe op w).2=0):w.2=0∧(op w.1).2=0∧φe op w=op w.1:=by
 unfold φe at h ⊢
 split at h
 ·rename_i c;rw[if_pos c];exact ⟨c,h,rfl⟩
 ·rename_i c;exact absurd h c
theorem φGT {α:Type} {l:List (List UInt8×α)} (h:srt l):(l.map (·.1)).Nodup:=by
 unfold srt at h
 unfold List.Nodup
 rw[List.pairwise_map]
 exact h.imp fun hab=>φ9G hab
theorem φBi (d:UInt8):∀(l:List UInt8) (a u:Nat),Lib.parseUint10 a l=.ok u→(48≤d.toNat∧d.toNat≤57)→u<1000000000000→Lib.parseUint10 a (l++[d])=.ok (u * 10+(d.toNat - 48))
 | [],a,u,h,hd,hu=>by
  have h:a=u:=by simp only[Lib.parseUint10] at h;injection h
  subst h
  show Lib.parseUint10 a [d]=_
  rw[Lib.parseUint10,if_pos hd,if_neg (by omega),if_neg (by omega)]
  rfl
 | c::l,a,u,h,hd,hu=>by
  rw[κM,Lib.parseUint10]
  rw[Lib.parseUint10] at h
  split
  ·rename_i c1
   rw[if_pos c1] at h
   split
   ·rename_i c2;rw[if_pos c2] at h;cases h
   ·rename_i c2
    rw[if_neg c2] at h
    split
    ·rename_i c3;rw[if_pos c3] at h;cases h
    ·rename_i c3
     rw[if_neg c3] at h
     exact φBi d l _ u h hd hu
  ·rename_i c1
   rw[if_neg c1] at h;cases h
theorem φAw:∀(k n:Nat),n<k→n<1000000000000→Lib.parseUint10 0 (Lib.decDigits n)=.ok n
 | 0,n,h,_=>by omega
 | k+1,n,h,hn=>by
  have e:∀m,m<10→(UInt8.ofNat (48+m)).toNat=48+m:=fun m hm=>by simp only[UInt8.toNat_ofNat'];omega
  by_cases c:n<10
  ·rw[Lib.decDigits_one c,Lib.parseUint10,e n c,if_pos (by omega),if_neg (by omega),if_neg (by omega),Lib.parseUint10]
   congr 1;omega
  ·have:=φ2x (n:=n) (by omega)
   unfold digs at this
   rw[if_neg (by omega),if_neg (by omega)] at this
   rw[this,φBi _ _ 0 (n / 10) (φAw k (n / 10) (by omega) (by omega)) (by rw[e _ (by omega)];omega) (by omega),e _ (by omega)]
   congr 1;omega
theorem φHp (n:Nat):Lib.decDigits n≠[]:=fun e=>by
 have h1:=φ5i (n+1) n (by omega) (1,0)
 rw[e] at h1
 have h2:=φ5i (n+1) n (by omega) (0,0)
 rw[e] at h2
 simp at h1 h2
 subst h2
 rw[Lib.decDigits_one (by omega)] at e
 simp at e
theorem φHQ (n:Nat) {c:UInt8} {r:List UInt8} (h:Lib.decDigits n=c::r):φ2t c=true:=by
 have ha:=φ9j (n+1) n (by omega)
 have key:∀(k n:Nat),n<k→∀b∈Lib.decDigits n,φ2t b=true:=by
  intro k
  induction k with
  | zero=>intro n h;omega
  | succ k ih=>
   intro n h b hb
   have e:∀m,m<10→φ2t (UInt8.ofNat (48+m))=true:=fun m hm=>by
    unfold φ2t
    have:(UInt8.ofNat (48+m)).toNat=48+m:=by simp only[UInt8.toNat_ofNat'];omega
    rw[this];simp;omega
   by_cases c:n<10
   ·rw[Lib.decDigits_one c] at hb
    rw[mZ.1 hb];exact e n c
   ·have:=φ2x (n:=n) (by omega)
    unfold digs at this
    rw[if_neg (by omega),if_neg (by omega)] at this
    rw[this] at hb
    rcases mA.1 hb with hb | hb
    ·exact ih (n / 10) (by omega) b hb
    ·rw[mZ.1 hb];exact e _ (by omega)
 exact key (n+1) n (by omega) c (by rw[h];exact κ6)
theorem φGo {n:Nat} (hn:n<1000000000000):Lib.atoiAll (Lib.decDigits n)=.ok (n:Int):=by
 have hp:=φAw (n+1) n (by omega) hn
 cases e:Lib.decDigits n with
 | nil=>exact absurd e (φHp n)
 | cons c r=>
  have hd:=φHQ n e
  unfold φ2t at hd
  simp only[bA,decide_eq_true_eq] at hd
  rw[Lib.atoiAll_plain c r (by omega) (by omega)]
  rw[e] at hp
  unfold Lib.parseMag
  rw[if_neg (by simp),hp]
  unfold Lib.signless
  simp
  omega
def φ1N (s:List UInt8):Int×Bool:=
 match Lib.atoiAll s with
 | .ok n=>if Lib.itoa n=s∧-999999999≤n∧n≤999999999 then (n,true) else (0,false)
 | _=>(0,false)
theorem φIJ (n:Int) (h:-9223372036854775808≤n∧n≤9223372036854775807):ψ5.f n=some (Lib.itoa n):=by
 unfold ψ5.f strconv_Itoa.f
 have:(decide (-9223372036854775808≤n) && decide (n≤9223372036854775807))=true:=by simp;omega
 rw[this];rfl
theorem φC5 (s:List UInt8) (hl:s.length<1000000000000):ψQ.f s=some (φ1N s):=by
 unfold ψQ.f φ1N strconv_Atoi.f
 have h1:decide (s.length≤281474976710656)=true:=by simp;omega
 rw[h1,cT]
 rcases num3 (Lib.atoiAll s) with ⟨n,ha⟩ | ha | ha
 ·rw[ha]
  have hb:=Lib.atoiAll_bounds ha
  simp only[bS,cF,φIJ n hb,φ1b]
  by_cases c:Lib.itoa n=s
  ·have:(Lib.itoa n==s)=true:=by simpa using c
   simp only[this,nZ,cF]
   by_cases c2:-999999999≤n∧n≤999999999
   ·rw[if_pos ⟨c,c2⟩]
    simp[c2]
   ·rw[if_neg (fun z=>c2 z.2)]
    have:decide (-999999999≤n∧n≤999999999)=false:=decide_eq_false c2
    simp only[this,nF,cT]
  ·have:(Lib.itoa n==s)=false:=by simpa using c
   rw[if_neg (fun z=>c z.1)]
   simp only[this,nF,cT]
 ·simp[ha]
 ·simp[ha]
theorem φGq {s:List UInt8} {n:Int} (h:φ1N s=(n,true)):Lib.itoa n=s:=by
 unfold φ1N at h
 split at h
 ·split at h
  ·rename_i c
   simp only[Prod.mk.injEq,and_true] at h
   rw[←h];exact c.1
  ·simp at h
 ·simp at h
theorem φH4 {n:Nat} (h:n≤100000):φ1N (Lib.decDigits n)=((n:Int),true):=by
 unfold φ1N
 rw[φGo (by omega)]
 simp only
 rw[if_pos ⟨φ5O n,by omega,by omega⟩]
theorem φAN (s p:List UInt8):ψ3B.f s p=some (decide (p.length≤s.length) && (s.take p.length==p)):=by
 unfold ψ3B.f
 by_cases c:p.length≤s.length
 ·have c1:(s.length:Int)≥(p.length:Int):=by omega
  have c2:(decide (0≤(p.length:Int)) && decide ((p.length:Int)≤(s.length:Int)))=true:=by simp;omega
  rw[c2,decide_eq_true c1,cT,cT,decide_eq_true c,tA,tN]
 ·have c1:¬(s.length:Int)≥(p.length:Int):=by omega
  simp only[c1,c,dF,cF,κL]
theorem φ9u (p r:List UInt8):ψ39.f (p++r) p=some (r,true):=by
 unfold ψ39.f ψ3A.f
 rw[φAN]
 have c1:decide (p.length≤(p++r).length)=true:=by simp
 have c2:((p++r).take p.length==p)=true:=by rw[List.take_left];simp
 have c3:(decide (0≤(p.length:Int)) && decide ((p.length:Int)≤((p++r).length:Int)))=true:=by rw[lA];simp;omega
 simp only[c1,c2,tA,bS,nZ,cF,c3,cT,tN,κP]
theorem φAz {s p:List UInt8} (h:¬∃r,s=p++r):ψ39.f s p=some (s,false):=by
 unfold ψ39.f ψ3A.f
 rw[φAN]
 have c:(decide (p.length≤s.length) && (s.take p.length==p))=false:=by
  cases e:(decide (p.length≤s.length) && (s.take p.length==p)) with
  | false=>rfl
  | true=>
   simp only[bA,decide_eq_true_eq,beq_iff_eq] at e
   exact absurd ⟨s.drop p.length,by rw[←e.2,lT,Nat.min_eq_left e.1,κ9]⟩ h
 simp only[c,bS,nF,cT]
theorem φ7P {id:Int} (h:1≤id∧id≤100000):φ3 id=[115,101,103]++Lib.decDigits id.toNat:=by unfold φ3 φ1o;rw[if_pos h]
theorem φ6b {id:Int} (h:1≤id∧id≤100000):φf id=[104,105,110,116]++Lib.decDigits id.toNat:=by unfold φf φ1o;rw[if_pos h]
theorem φAc {w r:List UInt8} {name:List UInt8} (hn:name=w++r) (hw:(w=[115,101,103]∧∀id,1≤id∧id≤100000→name≠φf id)∨(w=[104,105,110,116]∧∀id,1≤id∧id≤100000→name≠φ3 id)) :
  (if (φ1N r).2=true∧1≤(φ1N r).1∧(φ1N r).1≤100000 then ((φ1N r).1,true) else (0,false))=idOf name:=by
 have hnm:∀id,1≤id∧id≤100000→Lib.decDigits id.toNat=r→φ3B name id:=fun id hid e=>by
  refine ⟨hid,?_⟩
  rcases hw with ⟨hw,_⟩ | ⟨hw,_⟩
  ·left;rw[hn,hw,←e,φ7P hid]
  ·right;rw[hn,hw,←e,φ6b hid]
 by_cases c:(φ1N r).2=true∧1≤(φ1N r).1∧(φ1N r).1≤100000
 ·rw[if_pos c]
  have ht:φ1N r=((φ1N r).1,true):=by rw[←c.1]
  have hi:=φGq ht
  generalize (φ1N r).1=n at c hi
  obtain ⟨m,rfl⟩:∃m:Nat,n=(m:Int):=⟨n.toNat,by omega⟩
  rw[φ5O] at hi
  exact (φ92 (hnm (m:Int) c.2 (by rw[tN];exact hi))).symm
 ·rw[if_neg c,φ8W]
  rintro ⟨id,hid,hor⟩
  apply c
  have hr:r=Lib.decDigits id.toNat:=by
   rcases hw with ⟨hw,hno⟩ | ⟨hw,hno⟩
   ·rcases hor with e | e
    ·rw[hn,hw,φ7P hid] at e;exact List.append_cancel_left e
    ·exact absurd e (hno id hid)
   ·rcases hor with e | e
    ·exact absurd e (hno id hid)
    ·rw[hn,hw,φ6b hid] at e;exact List.append_cancel_left e
  have:=φH4 (n:=id.toNat) (by omega)
  rw[←hr] at this
  rw[this]
  exact ⟨rfl,by show (1:Int)≤(id.toNat:Int);omega,by show (id.toNat:Int)≤100000;omega⟩
theorem φHd (name:List UInt8) (hl:name.length<1000000000000):ψK.f name=some (idOf name):=by
 have fin:∀(r:List UInt8),r.length<1000000000000→((ψQ.f r).bind fun (t3_0,t3_1)=>
   bif !true then some ((0:Int),false) else
   bif !t3_1 then some (0,false) else
   (ψv.f t3_0 1 100000).bind fun t4=>bif !t4 then some (0,false) else some (t3_0,true))=some (if (φ1N r).2=true∧1≤(φ1N r).1∧(φ1N r).1≤100000 then ((φ1N r).1,true) else (0,false)):=fun r hr=>by
  rw[φC5 r hr,bS]
  generalize φ1N r=p
  obtain ⟨n,b⟩:=p
  simp only[nZ,cF,φ1b,bS]
  cases b
  ·simp
  ·by_cases c:1≤n∧n≤100000
   ·simp[c]
   ·have:decide (1≤n∧n≤100000)=false:=decide_eq_false c
    simp only[nZ,cF,this,nF,cT]
    rw[if_neg (fun z=>c z.2)]
 unfold ψK.f
 by_cases h1:∃r,name=[115,101,103]++r
 ·obtain ⟨r,rfl⟩:=h1
  rw[lA] at hl
  rw[φ9u]
  have:=fin r (by omega)
  simp only[bS,nZ,cF] at this ⊢
  rw[this,φAc rfl (.inl ⟨rfl,fun id hid e=>by
   rw[φ6b hid] at e
   have:=congrArg (fun l=>l.getD 0 0) e
   simp at this⟩)]
 ·rw[φAz h1]
  by_cases h2:∃r,name=[104,105,110,116]++r
  ·obtain ⟨r,rfl⟩:=h2
   rw[lA] at hl
   rw[bS]
   simp only[nF,cT]
   rw[φ9u]
   have:=fin r (by omega)
   simp only[bS,nZ,cF] at this ⊢
   rw[this,φAc rfl (.inr ⟨rfl,fun id hid e=>by
    rw[φ7P hid] at e
    have:=congrArg (fun l=>l.getD 0 0) e
    simp at this⟩)]
  ·rw[bS]
   simp only[nF,cT]
   rw[φAz h2]
   simp only[bS,φC5 name hl,nF,cT]
   rw[φ8W]
   rintro ⟨id,hid,e | e⟩
   ·exact h1 ⟨_,e.trans (φ7P hid)⟩
   ·exact h2 ⟨_,e.trans (φ6b hid)⟩
theorem φH3 (l:List Int) (n:Int) (hl:l.length<1000000000):ψt.f l n=some (l.any fun x=>x==n):=by
 have key:=φO (step:=ψt.l0) (fun k (_:Unit)=>(n,l,(l.length:Int),(k:Int))) l.length (fun k _=>if (l.drop k).any (fun x=>x==n)=true then .inr true else .inl ()) (fun _ _=>True)
  (fun rec k _ hk _ ih=>by
   rcases κ0 k l.length with h | h
   ·have hw:=φB (show k+1<9223372036854775808 by omega)
    rw[dG h,List.any_cons]
    simp only[ψt.l0,oL,h,dT,cT,φ8,φA,φ5 h]
    cases hq:(l[k]==n)
    ·simp only[cF,hw,ih () h trivial,Bool.false_or]
    ·simp
   ·have:k=l.length:=by omega
    subst this
    simp[ψt.l0])
  (by omega) 0 () (κ5 _) trivial
 have key:lp ψt.l0 (n,l,(l.length:Int),0)=_:=key
 unfold ψt.f
 rw[key,bS,κE]
 cases l.any fun x=>x==n
 ·simp[φL]
 ·simp[φS]
theorem φIU (d:φ2) (v:φE) (hd:dlim d) (hv:v.2.length<1000000000):ψP.f d v=some (φ1q d v):=by
 have key:=φO (step:=ψP.l0) (fun n (acc:List (List UInt8))=>(v,acc,d.1,(d.1.length:Int),(n:Int))) d.1.length (fun n acc=>acc++((d.1.drop n).filter (φ5G v)).map (·.1)) (fun n acc=>acc.length≤n)
  (fun rec n acc hn ha ih=>by
   rcases κ0 n d.1.length with h | h
   ·have hlen:=hd.1
    have hw:=φB (show n+1<9223372036854775808 by omega)
    have hnm:=hd.2.2 _ (gM h)
    have hb:(acc.length+([d.1[n].1]:List (List UInt8)).length) * 16≤140737488355328:=φAe (by omega)
    have i1:=ih (acc++[d.1[n].1]) h (by rw[lA];show acc.length+1≤n+1;omega)
    have i2:=ih acc h (by omega)
    rw[dG h,List.filter_cons]
    simp only[ψP.l0,oL,h,dT,cT,φ8,φA,φ5 h]
    rw[φHd d.1[n].1 hnm,bS]
    have hob:φ5G v d.1[n]=(((idOf d.1[n].1).2 && !(v.2.any fun i=>i==(idOf d.1[n].1).1)) || d.1[n].1==φ5E):=rfl
    rw[hob]
    obtain ⟨tb,hT⟩:∃tb,(d.1[n].1==φ5E)=tb:=⟨_,rfl⟩
    have ht:(d.1[n].1==[116,101,109,112])=tb:=hT
    rw[hT]
    simp only[φH3 v.2 _ hv,ht]
    cases (idOf d.1[n].1).2<;>cases (v.2.any fun i=>i==(idOf d.1[n].1).1)<;>cases tb <;>
     simp only[φ8,h,φA,φ5 h,ht,hb,dT,cT,cF,bS,nZ,nF,κV,Bool.and_false,Bool.or_true,Bool.or_false,tA,κL,Bool.false_or,Bool.true_or,if_true,κ1,if_false,hw,i1,i2,κC,aA,List.singleton_append]
   ·have:n=d.1.length:=by omega
    subst this
    simp[ψP.l0])
  (by have:=hd.1;omega) 0 [] (κ5 _) (κ7 _)
 have key:lp ψP.l0 (v,[],d.1,(d.1.length:Int),0)=_:=key
 unfold ψP.f φ1q
 rw[φ7J d hd,bS]
 cases φ6 d
 ·simp
 ·simp only[nZ,cF,key,bS,κE,κG,κ8,if_false]
def φ2N (s:List UInt8) (v:φE):Prop:=φ1C v=true∧φ1E v=s
def φi:φE:=(0,[])
def φ3W (v:φE):List UInt8:=varT v.1++varT (v.2.length:Int)++(v.2.map varT).flatten
theorem φ8Q {v:φE} (h:φ1C v=true):φk v.1∧(∀x∈v.2,φk x∧x≤100000)∧1≤v.2.length∧v.2.length≤60∧v.1≤100000:=by
 obtain ⟨k1,k2,k3,k4⟩:=(φ5k v).1 h
 rw[φ9 (by omega) (by omega)] at k1
 have:=φB7 _ _ k1
 refine ⟨⟨by omega,by omega⟩,fun x hx=>?_,k3,k4,k2.2⟩
 have:=this x hx
 exact ⟨⟨by omega,by omega⟩,by omega⟩
theorem φ7x {n:Int} (h:0≤n∧n≤100000):(varT n).length≤3:=by
 obtain ⟨m,rfl⟩:∃m:Nat,n=(m:Int):=⟨n.toNat,by omega⟩
 rw[φ4k m (by omega)]
 exact (φ7f 2 m (by show m<2097152;omega)).2
theorem φ8o {l:List Int} (h:∀x∈l,0≤x∧x≤100000):((l.map varT).flatten).length≤3 * l.length:=by
 induction l with
 | nil=>simp
 | cons x l ih=>
  have h1:=φ7x (h x κ6)
  have h2:=ih (fun y hy=>h y (mC _ hy))
  simp only[κC,κY,lA,lC]
  omega
theorem φ7V {v:φE} (h:φ1C v=true):(φ3W v).length≤200:=by
 obtain ⟨h1,h2,h3,h4,h5⟩:=φ8Q h
 have a1:=φ7x ⟨h1.1,h5⟩
 have a2:=φ7x (n:=(v.2.length:Int)) (by omega)
 have a3:=φ8o (l:=v.2) (fun x hx=>⟨(h2 x hx).1.1,(h2 x hx).2⟩)
 unfold φ3W
 simp only[lA];omega
theorem φC6 {s:List UInt8} {v:φE} (h:φ2N s v):s=frame (φ3W v)∧φD s=(φ3W v,(s.length:Int))∧5≤s.length:=by
 have e:s=frame (φ3W v):=by
  rw[←h.2];unfold φ1E;rw[if_neg (by rw[h.1];simp)];rfl
 have hb:=φ8c (φ7V h.1) []
 rw[κ4,←e] at hb
 exact ⟨e,hb,by rw[e];exact φ9F (φ7V h.1)⟩
theorem φDg {s:List UInt8} {v:φE} (h:φ2N s v):ψT.f s=some (v,true):=by
 obtain ⟨e1,e2,e3⟩:=φC6 h
 obtain ⟨n1,n2,n3,n4,n5⟩:=φ8Q h.1
 have hbl:=φ7V h.1
 have hsl:s.length≤211:=by rw[e1];exact φ8K _
 obtain ⟨nx,ids⟩:=v
 have hcnt:φk (ids.length:Int):=⟨by omega,by have:ids.length≤60:=n4;omega⟩
 have hbd:φ3W (nx,ids)=varT nx++(varT (ids.length:Int)++(ids.map varT).flatten):=by unfold φ3W;rw[aA]
 have hbl2:=hbl
 rw[hbd] at hbl2
 simp only[lA] at hbl2
 have m1:=φ1Z n1 (varT (ids.length:Int)++(ids.map varT).flatten) (by simp only[lA];omega)
 have m2:=φ1Z hcnt (ids.map varT).flatten (by simp only[lA];omega)
 have n4:ids.length≤60:=n4
 have key:=φO (step:=ψT.l0) (fun n (_:Unit)=>(s,((0,[]):φE),(s.length:Int),(((ids.drop n).map varT).flatten,false),((nx,ids.take n):φE),(ids.length:Int),(n:Int))) ids.length (fun _ _=>(s,(0,[]),(s.length:Int),([],false),(nx,ids))) (fun _ _=>True)
  (fun rec n _ hn _ ih=>by
   rcases κ0 n ids.length with h1 | h1
   ·have hw:=φB (show n+1<9223372036854775808 by omega)
    have hin:=(n2 _ (gM h1)).1
    have hd:((ids.drop n).map varT).flatten=varT ids[n]++((ids.drop (n+1)).map varT).flatten:=by
     rw[dG h1];rfl
    have hfl:((ids.drop n).map varT).flatten.length≤3 * (ids.drop n).length:=φ8o (fun x hx=>⟨(n2 x (List.mem_of_mem_drop hx)).1.1,(n2 x (List.mem_of_mem_drop hx)).2⟩)
    have m3:=φ1Z hin ((ids.drop (n+1)).map varT).flatten (by rw[←hd];rw[lD] at hfl;omega)
    have hb:((ids.take n).length+([ids[n]]:List Int).length) * 8≤140737488355328:=lim8 (by rw[lT];omega)
    have hi:ids.take n++[ids[n]]=ids.take (n+1):=(κ2 h1).symm
    simp only[ψT.l0,oL,h1,dT,cT,hd,nF,m3,bS,hb,hw,hi,ih () h1 trivial]
   ·have:n=ids.length:=by omega
    subst this
    simp[ψT.l0])
  (by omega) 0 () (κ5 _) trivial
 have key:lp ψT.l0 (s,(0,[]),(s.length:Int),((ids.map varT).flatten,false),(nx,[]),(ids.length:Int),0)=_:=key
 unfold ψT.f
 rw[φ8e s (by omega),e2,hbd,bS]
 simp only[m1,m2,bS,key]
 have c1:((s.length:Int)==0)=false:=by
  have:¬(s.length:Int)=0:=by omega
  simpa using this
 have hok:φ1C (nx,ids)=true:=h.1
 simp only[c1,cF,bne_self_eq_false,beq_self_eq_true,nZ,φ7v (nx,ids) (by show ids.length<2 ^ 62;omega),bS,hok]
end Go.Rf.G
