import Derived.Test.YtleflckegnlgcaaGreatDoorLTwiceLem1
open Option renaming bind_some→bS
open List renaming length_append→lA,append_assoc→aA,mem_cons_of_mem→mC,mem_append→mA,mem_append_right→mR,mem_append_left→mL,mem_cons→mc,drop_eq_getElem_cons→dG,length_take→lT,length_drop→lD,mem_map→mM,length_map→lM,length_cons→lC,length_nil→lN,getElem_mem→gM,map_append→mp,mem_singleton→mZ,mem_cons_self→κ0,take_succ_eq_append_getElem→κ3,map_cons→κ6,append_nil→κ7,nil_append→κ9,length_singleton→κA,drop_zero→κC,take_append_drop→κE,cons_append→κF,flatMap_append→κJ,replicate→κK,nodup_append→κL,foldl_cons→κO,drop_left→κP,nodup_cons→κQ,range'→κR,all_eq_true→κT,foldl_append→κU,take_length→κW,pairwise_cons→κY,mem_or_eq_of_mem_set→κd,pairwise_append→κe,mem_of_mem_take→κf
open Bool renaming and_eq_true→bA,eq_false_or_eq_true→bE,not_true→nZ,not_false→nF,true_and→tA,not_not→nn,false_eq_true→κ2,true_eq_false→κ8,false_and→κD,or_eq_false_iff→κI,and_true→κM,not_eq_true'→κN,false_or→κS,or_eq_true→κX
open Int renaming toNat_natCast→tN,ofNat_lt→oL,le_refl→κH
open Nat renaming lt_or_ge→κ1,zero_le→κ4,le_refl→κ5,eq_of_beq_eq_true→κB,lt_of_lt_of_le→κG,zero_add→κV,le_trans→κZ,pow_succ→κa,mod_eq_of_lt→κc
open Array renaming length_toList→κb
set_option linter.unusedVariables false
set_option linter.unusedSimpArgs false
namespace Go.Rf.G
open Go Go.Rf
set_option synthInstance.maxSize 4000
theorem φHm:∀(l:List UInt8),decV l<128 ^ l.length
 | []=>by simp[decV]
 | x::l=>by
  have:=φHm l
  show x.toNat % 128+128 * decV l<128 ^ (l.length+1)
  rw[κa];omega
theorem φDC:∀(k n:Nat),n<128 ^ (k+1)→decV (varN n)=n
 | 0,n,h=>by
  have h:n<128:=by simpa using h
  rw[φ5W h]
  show (UInt8.ofNat n).toNat % 128+128 * 0=n
  have e:(UInt8.ofNat n).toNat=n:=by simp;omega
  rw[e];omega
 | k+1,n,h=>by
  by_cases c:n<128
  ·rw[φ5W c]
   show (UInt8.ofNat n).toNat % 128+128 * 0=n
   have e:(UInt8.ofNat n).toNat=n:=by simp;omega
   rw[e];omega
  ·rw[φAr c]
   show (UInt8.ofNat (128+n % 128)).toNat % 128+128 * decV (varN (n / 128))=n
   have e:(UInt8.ofNat (128+n % 128)).toNat=128+n % 128:=by simp;omega
   rw[e,φDC k (n / 128) (by rw[Nat.div_lt_iff_lt_mul (by omega)];rw[κa] at h;exact h)]
   omega
def φz (s:List UInt8):Int×Int:=match rvT 7 true s with
 | some (n,k)=>((n:Int),(k:Int))
 | none=>(0,0)
theorem φBF (s:List UInt8):φz s=(0,0)∨∃n k:Nat,rvT 7 true s=some (n,k)∧φz s=((n:Int),(k:Int))∧1≤k∧k≤7∧k≤s.length∧s.take k=varN n∧n<562949953421312:=by
 unfold φz
 cases h:rvT 7 true s with
 | none=>exact .inl rfl
 | some p=>
  obtain ⟨n,k⟩:=p
  obtain ⟨h1,h2,h3,h4,h5⟩:=φ4g 7 true s n k h
  exact .inr ⟨n,k,rfl,rfl,h1,h2,h3,h4,h5⟩
theorem φOi (s:List UInt8) (k4:Int) (k:Nat) (hk:k≤s.length) (h7:k≤7):lp ψ2e.l2 (s,k4,0,(k:Int) - 1)=some (s,k4,((decV (s.take k):Nat):Int)):=by
 have key:=φCA (step:=ψ2e.l2) (fun n (a:Nat)=>(s,k4,(a:Int),(n:Int) - 1)) (fun n a=>(s,k4,((decV (s.take n)+128 ^ n * a:Nat):Int))) (fun n a=>n≤k∧a<128 ^ (k - n))
  (fun rec n a hi ih=>by
   obtain ⟨hn,ha⟩:=hi
   cases n with
   | zero=>
    simp[ψ2e.l2,decV]
   | succ n=>
    have h1:n<s.length:=by omega
    have e0:((n+1:Nat):Int) - 1=(n:Int):=by omega
    have c:(n:Int)≥0:=by omega
    have hx:=s[n].toNat_lt
    have hpow:(128:Nat) ^ (k - (n+1))≤128 ^ 7:=Nat.pow_le_pow_right (by omega) (by omega)
    have ha7:a<562949953421312:=κG ha hpow
    have ha6:a<128 ^ 6:=κG ha (Nat.pow_le_pow_right (by omega) (by omega))
    have ha6:a<4398046511104:=ha6
    have e1:w64 ((a:Int) * 128)=((a * 128:Nat):Int):=by rw[φH (by omega) (by omega)];omega
    have e2:w64 (bAt s (n:Int))=((s[n].toNat:Nat):Int):=by rw[φ4q s n h1];exact φ3i (by omega)
    have e3:Int.tmod ((s[n].toNat:Nat):Int) 128=((s[n].toNat % 128:Nat):Int):=rfl
    have e4:w64 (((a * 128:Nat):Int)+((s[n].toNat % 128:Nat):Int))=((a * 128+s[n].toNat % 128:Nat):Int):=by rw[φH (by omega) (by omega)];omega
    have e5:w64 ((n:Int) - 1)=(n:Int) - 1:=φH (by omega) (by omega)
    have hlt:a * 128+s[n].toNat % 128<128 ^ (k - n):=by
     rw[show k - n=(k - (n+1))+1 by omega,κa];omega
    have ih:=ih n (a * 128+s[n].toNat % 128) rfl ⟨by omega,hlt⟩
    simp only[ψ2e.l2,e0,c,dT,cT,φJ,h1,e1,e2,e3,e4,e5,ih]
    congr 4
    rw[κ3 h1]
    have hd:decV (s.take n++[s[n]])=decV (s.take n)+128 ^ n * (s[n].toNat % 128):=by
     have gen:∀l:List UInt8,decV (l++[s[n]])=decV l+128 ^ l.length * (s[n].toNat % 128):=by
      intro l
      induction l with
      | nil=>simp[decV]
      | cons x l ih=>
       show x.toNat % 128+128 * decV (l++[s[n]])=x.toNat % 128+128 * decV l+128 ^ (l.length+1) * (s[n].toNat % 128)
       rw[ih,κa,Nat.mul_add,Nat.mul_comm (128 ^ l.length) 128,Nat.mul_assoc];omega
     rw[gen,lT,Nat.min_eq_left (by omega)]
    rw[hd,κa,Nat.mul_add]
    have:128 ^ n * (a * 128)=128 ^ n * 128 * a:=by rw[Nat.mul_assoc,Nat.mul_comm a 128]
    omega)
  k 0 (by omega) ⟨κ5 _,by simp⟩
 simpa using key
theorem φ2r (s:List UInt8) (hl:s.length<2 ^ 62):ψ2e.f s=some (φz s):=by
 have key:=φ72 (step:=ψ2e.l0) (a:=(s,(1:Int))) (fun a=>match rvT 7 true s with
   | some (n,k)=>if a.2≤(k:Int) then .inr ((n:Int),(k:Int)) else .inl ()
   | none=>.inl ()) (fun a=>a.1=s∧1≤a.2∧a.2≤8) (fun a=>(8 - a.2).toNat)
  (fun rec a ha ih=>by
   obtain ⟨x,k⟩:=a
   obtain ⟨hx,h1,h2⟩:=ha
   simp only at hx h1 h2 ih ⊢
   subst hx
   obtain ⟨m,rfl⟩:∃m:Nat,k=(m:Int):=⟨k.toNat,by omega⟩
   have out:∀n j,rvT 7 true x=some (n,j)→j≤7∧j≤x.length:=fun n j hr=>by
    have:=φ4g 7 true x n j hr;exact ⟨this.2.1,this.2.2.1⟩
   by_cases c7:(m:Int)≤7
   rotate_left
   ·simp only[ψ2e.l0,c7,dF,cF]
    cases hr:rvT 7 true x with
    | none=>rfl
    | some p=>
     obtain ⟨n,j⟩:=p
     have:=(out n j hr).1
     simp only
     rw[if_neg (by omega)]
   by_cases cl:(m:Int)≤(x.length:Int)
   rotate_left
   ·simp only[ψ2e.l0,c7,cl,dT,dF,cT,cF]
    cases hr:rvT 7 true x with
    | none=>rfl
    | some p=>
     obtain ⟨n,j⟩:=p
     have:=(out n j hr).2
     simp only
     rw[if_neg (by omega)]
   have e1:w64 ((m:Int) - 1)=(m:Int) - 1:=φH (by omega) (by omega)
   have e2:=φOi x (m:Int) m (by omega) (by omega)
   have hv:decV (x.take m)<128 ^ 7:=κG (φHm _) (Nat.pow_le_pow_right (by omega) (by rw[lT];omega))
   have hv2:decV (x.take m)<562949953421312:=hv
   have c0:(0:Int)≤(m:Int):=by omega
   have e3:w64 ((m:Int)+1)=((m+1:Nat):Int):=φS (by omega)
   simp only[ψ2e.l0,c7,cl,dT,cT,e1,e2,bS,φ5D,φ5I _ (show decV (x.take m)≤562949953421311 by omega),c0,Bool.and_self,tN,e3]
   by_cases ck:varN (decV (x.take m))=x.take m
   ·have ck2:(varN (decV (x.take m))==x.take m)=true:=by simpa using ck
    have hr:rvT 7 true x=some (decV (x.take m),m):=by
     have hb:=φ9B 7 true (decV (x.take m)) (x.drop m) hv (by simp) (by omega)
     rw[ck,κE,lT,Nat.min_eq_left (by omega)] at hb
     exact hb
    simp only[ck2,cT,hr]
    rw[if_pos (κH _)]
   ·have ck2:(varN (decV (x.take m))==x.take m)=false:=by simpa using ck
    have ih:=ih (x,((m+1:Nat):Int)) ⟨rfl,by simp only;omega,by simp only;omega⟩ (by simp only;omega)
    simp only[ck2,cF,ih]
    cases hr:rvT 7 true x with
    | none=>rfl
    | some p=>
     obtain ⟨n,j⟩:=p
     have hs:=φ4g 7 true x n j hr
     have hne:j≠m:=fun e=>by
      subst e
      rw[hs.2.2.2.1,φDC 6 n hs.2.2.2.2] at ck
      exact ck rfl
     simp only
     by_cases cj:(m:Int)≤(j:Int)
     ·rw[if_pos cj,if_pos (by omega)]
     ·rw[if_neg cj,if_neg (by omega)])
  ⟨rfl,by simp only;omega,by simp only;omega⟩ (by show (7:Nat)<2 ^ 62;decide)
 unfold ψ2e.f φz
 rw[key,bS]
 cases hr:rvT 7 true s with
 | none=>rfl
 | some p=>
  obtain ⟨n,k⟩:=p
  have hs:=φ4g 7 true s n k hr
  simp only
  rw[if_pos (by omega)];rfl
theorem φ8B (s:List UInt8) (hl:s.length<2 ^ 62):ψm.f s=some (φz s):=by
 have key:=φj (step:=ψm.l0) (fun i (a:Nat)=>(s,(a:Int),(i:Int))) 7 (fun i a=>match rvT (7 - i) (decide (i=0)) (s.drop i) with
   | some (n,k)=>.inr (((a+128 ^ i * n:Nat):Int),((i+k:Nat):Int))
   | none=>bif ((s.drop i).take (7 - i)).all (fun x=>decide (128≤x.toNat)) then .inl () else .inr (0,0)) (fun i a=>a<128 ^ i)
  (fun rec i a hi ha ih=>by
   have hpow:(128:Nat) ^ i≤128 ^ 7:=Nat.pow_le_pow_right (by omega) hi
   have ha7:a<562949953421312:=κG ha hpow
   rcases κ1 i 7 with h7 | h7
   rotate_left
   ·have:i=7:=by omega
    subst this
    simp[ψm.l0,rvT]
   have c7:(i:Int)<7:=by omega
   rcases κ1 i s.length with hs | hs
   rotate_left
   ·have c:¬(i:Int)<(s.length:Int):=by omega
    have e:s.drop i=[]:=by rw[List.drop_eq_nil_iff];exact hs
    have e7:7 - i=(6 - i)+1:=by omega
    simp only[ψm.l0,c7,c,dT,dF,cT,cF,e,e7,rvT]
    simp
   have cs:(i:Int)<(s.length:Int):=by omega
   have hx:=s[i].toNat_lt
   have e1:w64 (bAt s (i:Int))=((s[i].toNat:Nat):Int):=by rw[φ4q s i hs];exact φ3i (by omega)
   have e2:w64 (7 * (i:Int))=((7 * i:Nat):Int):=by rw[φH (by omega) (by omega)];omega
   have e3:(0:Int)≤((7 * i:Nat):Int):=by omega
   have e4:Int.tmod ((s[i].toNat:Nat):Int) 128=((s[i].toNat % 128:Nat):Int):=rfl
   have e5:((s[i].toNat % 128:Nat):Int) * 2 ^ (min ((7 * i:Nat):Int).toNat 64)=((s[i].toNat % 128 * 128 ^ i:Nat):Int):=by
    rw[tN,Nat.min_eq_left (by omega),show (2:Int) ^ (7 * i)=((128 ^ i:Nat):Int) by
     rw[show (128:Nat)=2 ^ 7 from rfl,←Nat.pow_mul,Int.natCast_pow];rfl]
    simp
   have hb6:(128:Nat) ^ i≤128 ^ 6:=Nat.pow_le_pow_right (by omega) (by omega)
   have hb6:(128:Nat) ^ i≤4398046511104:=hb6
   have hm:s[i].toNat % 128 * 128 ^ i≤127 * 128 ^ i:=Nat.mul_le_mul_right _ (by omega)
   have e6:w64 ((s[i].toNat % 128 * 128 ^ i:Nat):Int)=((s[i].toNat % 128 * 128 ^ i:Nat):Int):=φ3i (by omega)
   have e7:w64 ((a:Int)+((s[i].toNat % 128 * 128 ^ i:Nat):Int))=((a+s[i].toNat % 128 * 128 ^ i:Nat):Int):=by rw[φH (by omega) (by omega)];omega
   have e8:w64 ((i:Int)+1)=((i+1:Nat):Int):=φS (by omega)
   have e9:7 - i=(6 - i)+1:=by omega
   have e10:7 - (i+1)=6 - i:=by omega
   rw[dG hs,e9]
   by_cases cb:s[i].toNat<128
   ·have cb2:¬((s[i].toNat:Nat):Int)≥128:=by omega
    by_cases cz:s[i].toNat=0
    ·have cz2:(((s[i].toNat:Nat):Int)==0)=true:=by rw[cz];rfl
     by_cases ci:i=0
     ·subst ci
      have hi0:¬((0:Nat):Int) > 0:=by omega
      simp only[ψm.l0,c7,cs,dT,cT,φJ,hs,e1,e2,e3,e4,e5,e6,e7,e8,cb2,dF,cF,cz2,hi0,bS,φf]
      unfold rvT
      rw[if_pos cb,if_neg (by simp)]
      simp[cz]
     ·have hi0:(i:Int) > 0:=by omega
      have hd:decide (i=0)=false:=decide_eq_false ci
      simp only[ψm.l0,c7,cs,dT,cT,φJ,hs,e1,e2,e3,e4,e5,e6,e7,e8,cb2,dF,cF,cz2,hi0,bS,φq,hd]
      unfold rvT
      rw[if_pos cb,if_pos ⟨cz,rfl⟩]
      simp only[List.take_succ_cons]
      have hne:decide (128≤s[i].toNat)=false:=decide_eq_false (by omega)
      rw[List.all_cons,hne];rfl
    ·have cz2:(((s[i].toNat:Nat):Int)==0)=false:=by simp;omega
     simp only[ψm.l0,c7,cs,dT,cT,φJ,hs,e1,e2,e3,e4,e5,e6,e7,e8,cb2,dF,cF,cz2,bS,φf]
     unfold rvT
     rw[if_pos cb,if_neg (fun k=>cz k.1)]
     have e11:s[i].toNat % 128=s[i].toNat:=by omega
     simp only[e11]
     rw[Nat.mul_comm (128 ^ i)]
   ·have cb2:((s[i].toNat:Nat):Int)≥128:=by omega
    have hlt:a+s[i].toNat % 128 * 128 ^ i<128 ^ (i+1):=by rw[κa];omega
    have ih:=ih (a+s[i].toNat % 128 * 128 ^ i) h7 hlt
    rw[e10] at ih
    simp only[ψm.l0,c7,cs,dT,cT,φJ,hs,e1,e2,e3,e4,e5,e6,e7,e8,cb2,ih]
    rw[rvT,if_neg cb,show decide (i+1=0)=false from decide_eq_false (by omega)]
    cases hr:rvT (6 - i) false (s.drop (i+1)) with
    | none=>
     simp only[Option.map_none,List.take_succ_cons]
     have hge:decide (128≤s[i].toNat)=true:=decide_eq_true (by omega)
     rw[List.all_cons,hge,tA]
    | some p=>
     obtain ⟨n,k⟩:=p
     simp only[Option.map_some]
     congr 3
     ·rw[Nat.mul_add,κa,Nat.mul_comm (128 ^ i) (s[i].toNat % 128)]
      have:128 ^ i * (128 * n)=128 ^ i * 128 * n:=by rw[Nat.mul_assoc]
      omega
     ·omega)
  (by omega) 0 0 (κ4 _) (by simp)
 have key:lp ψm.l0 (s,0,0)=_:=key
 unfold ψm.f φz
 rw[key,bS]
 simp only[Nat.sub_zero,κC,dT]
 cases hr:rvT 7 true s with
 | none=>
  simp only
  cases (s.take 7).all (fun x=>decide (128≤x.toNat))<;>rfl
 | some p=>
  obtain ⟨n,k⟩:=p
  simp
def fixR (l:List UInt8):Nat:=l.foldl (fun n x=>n * 256+x.toNat) 0
theorem φ7y (l:List UInt8) (x:UInt8):fixR (l++[x])=fixR l * 256+x.toNat:=by
 unfold fixR;rw[κU];rfl
theorem φC3 (l:List UInt8):fixR l<256 ^ l.length:=by
 induction l using φ4u with
 | h0=>simp[fixR]
 | hs l x ih=>
  have:=x.toNat_lt
  rw[φ7y,lA,κA,κa];omega
theorem φIe (l:List UInt8):fixL (fixR l) l.length=l:=by
 induction l using φ4u with
 | h0=>rfl
 | hs l x ih=>
  have hx:=x.toNat_lt
  rw[φ7y,lA,κA,φ9M,show (fixR l * 256+x.toNat) / 256=fixR l by omega,ih]
  have:UInt8.ofNat (fixR l * 256+x.toNat)=x:=by
   have e:=UInt8.ofNat_mod_size (x:=fixR l * 256+x.toNat)
   have e2:(fixR l * 256+x.toNat) % 2 ^ 8=x.toNat:=by omega
   rw[e2] at e
   rw[←e];simp
  rw[this]
theorem φEc:∀(k n:Nat),n<256 ^ k→fixR (fixL n k)=n
 | 0,n,h=>by simp at h;subst h;rfl
 | k+1,n,h=>by
  rw[φ9M,φ7y,φEc k (n / 256) (by rw[Nat.div_lt_iff_lt_mul (by omega)];rw[κa] at h;exact h)]
  have:(UInt8.ofNat n).toNat=n % 256:=by simp
  rw[this];omega
def φ3q (s:List UInt8):Int×Bool:=if s.length<4 then (0,false) else (((fixR (s.take 4):Nat):Int),true)
theorem φDG (s:List UInt8) (n:Nat) (h:n<s.length):fixR (s.take (n+1))=fixR (s.take n) * 256+s[n].toNat:=by
 rw[κ3 h,φ7y]
theorem φFd (s:List UInt8) (hl:s.length<2 ^ 62):ψ2b.f s 4=some (φ3q s):=by
 unfold ψ2b.f φ3q
 have h0:decide ((1:Int)≤4∧(4:Int)≤7)=true:=by decide
 simp only[φ2U,bS,h0,nZ,cF]
 by_cases c:s.length<4
 ·have c1:(s.length:Int)<4:=by omega
  simp[c,c1]
 have c1:¬(s.length:Int)<4:=by omega
 have key:=φj (step:=ψ2b.l0) (fun n (_:Unit)=>(s,4,((fixR (s.take n):Nat):Int),(n:Int))) 4 (fun _ _=>((fixR (s.take 4):Nat):Int)) (fun _ _=>True)
  (fun rec n a hn _ ih=>by
   rcases κ1 n 4 with h | h
   ·have h4:(n:Int)<4:=by omega
    have hs:n<s.length:=by omega
    have hx:=s[n].toNat_lt
    have hlt:fixR (s.take n)<256 ^ 3:=κG (φC3 _) (Nat.pow_le_pow_right (by omega) (by rw[lT];omega))
    have hlt:fixR (s.take n)<16777216:=hlt
    have e1:w64 (((fixR (s.take n):Nat):Int) * 256)=((fixR (s.take n) * 256:Nat):Int):=by rw[φH (by omega) (by omega)];omega
    have e2:w64 (bAt s (n:Int))=((s[n].toNat:Nat):Int):=by rw[φ4q s n hs];exact φ3i (by omega)
    have e3:w64 (((fixR (s.take n) * 256:Nat):Int)+((s[n].toNat:Nat):Int))=((fixR (s.take (n+1)):Nat):Int):=by
     rw[φDG s n hs,φH (by omega) (by omega)];omega
    simp only[ψ2b.l0,h4,dT,cT,φJ,hs,e1,e2,e3,φS (show n+1<9223372036854775808 by omega),ih () h trivial]
   ·have:n=4:=by omega
    subst this
    simp[ψ2b.l0])
  (by omega) 0 () (κ4 _) trivial
 have key:lp ψ2b.l0 (s,4,0,0)=_:=key
 simp only[c,c1,dF,cF,key,bS,if_false]
theorem or64 (a b:Nat) (ha:a<2 ^ 32) (hb:b<256):bits (fun _ a b=>a ||| b) .i64 ((a * 256:Nat):Int) (b:Int)=((a * 256+b:Nat):Int):=by
 have e:(BitVec.ofInt 64 ((a * 256:Nat):Int) ||| BitVec.ofInt 64 (b:Int)).toNat=a * 256+b:=by
  rw[BitVec.ofInt_natCast,BitVec.ofInt_natCast,BitVec.toNat_or,BitVec.toNat_ofNat,BitVec.toNat_ofNat,κc (by omega),κc (by omega)]
  have:=Nat.shiftLeft_add_eq_or_of_lt (show b<2 ^ 8 from hb) a
  rw[Nat.shiftLeft_eq] at this
  exact this.symm
 show IntKind.wrap .i64 ((BitVec.ofInt 64 ((a * 256:Nat):Int) ||| BitVec.ofInt 64 (b:Int)).toNat:Int)=_
 rw[e]
 exact φAn (by omega)
theorem φ6s (s:List UInt8) (hl:s.length<2 ^ 62):ψi.f s 4=some (φ3q s):=by
 unfold ψi.f φ3q
 have h0:decide ((1:Int)≤4∧(4:Int)≤7)=true:=by decide
 simp only[φ1c,bS,h0,nZ,cF]
 by_cases c:s.length<4
 ·have c1:(s.length:Int)<4:=by omega
  simp[c,c1]
 have c1:¬(s.length:Int)<4:=by omega
 have key:=φj (step:=ψi.l0) (fun n (_:Unit)=>(s,((fixR (s.take n):Nat):Int),4,(n:Int))) 4 (fun _ _=>((fixR (s.take 4):Nat):Int)) (fun _ _=>True)
  (fun rec n a hn _ ih=>by
   rcases κ1 n 4 with h | h
   ·have h4:(n:Int)<4:=by omega
    have hs:n<s.length:=by omega
    have hx:=s[n].toNat_lt
    have hlt:fixR (s.take n)<256 ^ 3:=κG (φC3 _) (Nat.pow_le_pow_right (by omega) (by rw[lT];omega))
    have hlt:fixR (s.take n)<16777216:=hlt
    have e1:w64 (((fixR (s.take n):Nat):Int) * 2 ^ (min 8 64))=((fixR (s.take n) * 256:Nat):Int):=by
     show w64 (((fixR (s.take n):Nat):Int) * 256)=_
     rw[φH (by omega) (by omega)];omega
    have e2:w64 (bAt s (n:Int))=((s[n].toNat:Nat):Int):=by rw[φ4q s n hs];exact φ3i (by omega)
    have e3:=or64 (fixR (s.take n)) s[n].toNat (by omega) (by omega)
    rw[←φDG s n hs] at e3
    simp only[ψi.l0,h4,dT,cT,φJ,hs,e1,e2,e3,φS (show n+1<9223372036854775808 by omega),ih () h trivial]
   ·have:n=4:=by omega
    subst this
    simp[ψi.l0])
  (by omega) 0 () (κ4 _) trivial
 have key:lp ψi.l0 (s,0,4,0)=_:=key
 simp only[c,c1,dF,cF,key,bS,if_false]
def φP (s:List UInt8):List UInt8×Int:=
 if s.length<4 then ([],0) else
 match rvT 7 true (s.drop 4) with
 | none=>([],0)
 | some (n,k)=>if 200<n∨s.length<4+k+n then ([],0) else
  if frame ((s.take (4+k+n)).drop (4+k))=s.take (4+k+n) then ((s.take (4+k+n)).drop (4+k),((4+k+n:Nat):Int)) else ([],0)
theorem φ82 (s:List UInt8) (hl:s.length<1000000000000):ψ1E.f s=some (φP s):=by
 unfold ψ1E.f φP
 by_cases c:s.length<4
 ·have c1:(s.length:Int)<4:=by omega
  simp[c,c1]
 have c1:¬(s.length:Int)<4:=by omega
 have c2:(decide (0≤(4:Int)) && decide ((4:Int)≤(s.length:Int)))=true:=by simp;omega
 have hd:(s.drop 4).length<2 ^ 62:=by rw[lD];omega
 simp only[c,c1,dF,cF,c2,cT,φ8B (s.drop 4) hd,bS,if_false]
 unfold φz
 cases hr:rvT 7 true (s.drop 4) with
 | none=>simp
 | some p=>
  obtain ⟨n,k⟩:=p
  obtain ⟨q1,q2,q3,q4,q5⟩:=φ4g 7 true (s.drop 4) n k hr
  have q5:n<562949953421312:=q5
  rw[lD] at q3
  have d1:(((k:Nat):Int)==0)=false:=by simp;omega
  simp only[d1,cF]
  by_cases c3:200<n
  ·have c4:((n:Nat):Int) > 200:=by omega
   simp[c3,c4]
  have c4:¬((n:Nat):Int) > 200:=by omega
  have e1:w64 (w64 ((s.length:Int) - 4) - (k:Int))=(s.length:Int) - 4 - k:=by rw[φH (n:=(s.length:Int) - 4) (by omega) (by omega),φH (by omega) (by omega)]
  have e2:w64 (4+(k:Int))=((4+k:Nat):Int):=by rw[φH (by omega) (by omega)];omega
  have e3:w64 (((4+k:Nat):Int)+(n:Int))=((4+k+n:Nat):Int):=by rw[φH (by omega) (by omega)];omega
  by_cases c5:s.length<4+k+n
  ·have c6:((n:Nat):Int) > (s.length:Int) - 4 - k:=by omega
   simp[c3,c4,c5,c6,e1]
  have c6:¬((n:Nat):Int) > (s.length:Int) - 4 - k:=by omega
  have c7:(decide (0≤((4+k+n:Nat):Int)) && decide (((4+k+n:Nat):Int)≤(s.length:Int)))=true:=by simp;omega
  have c8:(decide (0≤((4+k:Nat):Int)) && decide (((4+k:Nat):Int)≤((4+k+n:Nat):Int)))=true:=by simp;omega
  have hl2:((s.take (4+k+n)).drop (4+k)).length<2 ^ 62:=by rw[lD,lT];omega
  simp only[c3,c4,c5,c6,e1,e2,e3,c7,c8,dF,cF,cT,tN,φ7x _ hl2,bS,or_self,if_false]
  by_cases c9:frame ((s.take (4+k+n)).drop (4+k))=s.take (4+k+n)
  ·have d9:(frame ((s.take (4+k+n)).drop (4+k))==s.take (4+k+n))=true:=by simpa using c9
   simp only[d9,nZ,cF]
   rw[if_pos c9]
  ·have d9:(frame ((s.take (4+k+n)).drop (4+k))==s.take (4+k+n))=false:=by simpa using c9
   simp only[d9,nF,cT]
   rw[if_neg c9]
theorem φ8Y (s:List UInt8) (hl:s.length<1000000000000):ψ2r.f s=some (φP s):=by
 unfold ψ2r.f φP
 by_cases c:s.length<5
 ·have c1:(s.length:Int)<5:=by omega
  by_cases c4:s.length<4
  ·simp[c4,c1]
  ·have e:s.drop 4=[]:=by rw[List.drop_eq_nil_iff];omega
   have e2:s.length=4:=by omega
   rcases κ1 s.length 4 with h | h
   ·exact absurd h c4
   ·have hn:rvT 7 true (s.drop 4)=none:=by
     cases hr:rvT 7 true (s.drop 4) with
     | none=>rfl
     | some p=>
      obtain ⟨n,k⟩:=p
      have q:=φ4g 7 true (s.drop 4) n k hr
      rw[lD] at q
      omega
    simp[c4,c1,hn]
 have c4:¬s.length<4:=by omega
 have c1:¬(s.length:Int)<5:=by omega
 have c2:(decide (0≤(4:Int)) && decide ((4:Int)≤(s.length:Int)))=true:=by simp;omega
 have hd:(s.drop 4).length<2 ^ 62:=by rw[lD];omega
 simp only[c4,c1,dF,cF,c2,cT,φ2r (s.drop 4) hd,bS,if_false]
 unfold φz
 cases hr:rvT 7 true (s.drop 4) with
 | none=>simp
 | some p=>
  obtain ⟨n,k⟩:=p
  obtain ⟨q1,q2,q3,q4,q5⟩:=φ4g 7 true (s.drop 4) n k hr
  have q5:n<562949953421312:=q5
  rw[lD] at q3
  have d1:(((k:Nat):Int)==0)=false:=by simp;omega
  simp only[d1,cF]
  by_cases c3:200<n
  ·have c4:((n:Nat):Int) > 200:=by omega
   simp[c3,c4]
  have c4:¬((n:Nat):Int) > 200:=by omega
  have e1:w64 (w64 ((s.length:Int) - 4) - (k:Int))=(s.length:Int) - 4 - k:=by rw[φH (n:=(s.length:Int) - 4) (by omega) (by omega),φH (by omega) (by omega)]
  have e2:w64 (4+(k:Int))=((4+k:Nat):Int):=by rw[φH (by omega) (by omega)];omega
  have e3:w64 (((4+k:Nat):Int)+(n:Int))=((4+k+n:Nat):Int):=by rw[φH (by omega) (by omega)];omega
  by_cases c5:s.length<4+k+n
  ·have c6:((n:Nat):Int) > (s.length:Int) - 4 - k:=by omega
   simp[c3,c4,c5,c6,e1]
  have c6:¬((n:Nat):Int) > (s.length:Int) - 4 - k:=by omega
  have c7:(decide (0≤((4+k+n:Nat):Int)) && decide (((4+k+n:Nat):Int)≤(s.length:Int)))=true:=by simp;omega
  have c8:(decide (0≤((4+k:Nat):Int)) && decide (((4+k:Nat):Int)≤((4+k+n:Nat):Int)))=true:=by simp;omega
  have hl2:((s.take (4+k+n)).drop (4+k)).length<2 ^ 62:=by rw[lD,lT];omega
  simp only[c3,c4,c5,c6,e1,e2,e3,c7,c8,dF,cF,cT,tN,φ98 _ hl2,bS,or_self,if_false]
  by_cases c9:frame ((s.take (4+k+n)).drop (4+k))=s.take (4+k+n)
  ·have d9:(s.take (4+k+n)==frame ((s.take (4+k+n)).drop (4+k)))=true:=by simpa using c9.symm
   simp only[d9,nZ,cF]
   rw[if_pos c9]
  ·have d9:(s.take (4+k+n)==frame ((s.take (4+k+n)).drop (4+k)))=false:=by simpa using fun e=>c9 e.symm
   simp only[d9,nF,cT]
   rw[if_neg c9]
abbrev φ49:=List UInt8×Bool
def φ1N (n:Int):Prop:=0≤n∧n≤562949953421311
theorem φIy {n:Int} (h:φ1N n):∃m:Nat,n=(m:Int)∧m<562949953421312∧varT n=varN m:=by
 unfold φ1N at h
 obtain ⟨m,rfl⟩:∃m:Nat,n=(m:Int):=⟨n.toNat,by omega⟩
 exact ⟨m,rfl,by omega,φ5I m (by omega)⟩
theorem φ44 {n:Int} (h:φ1N n) (r:List UInt8):φz (varT n++r)=(n,((varT n).length:Int))∧1≤(varT n).length:=by
 obtain ⟨m,rfl,hm,e⟩:=φIy h
 rw[e]
 have hb:=φ9B 7 true m r hm (by simp) (by omega)
 unfold φz
 rw[hb]
 exact ⟨rfl,(φ8w 6 m hm).1⟩
theorem φ2V {n:Int} (h:φ1N n) (r:List UInt8) (hl:(varT n++r).length<2 ^ 62):ψ1j.f (varT n++r,false)=some (n,(r,false)):=by
 obtain ⟨h1,h2⟩:=φ44 h r
 have d:((((varT n).length:Nat):Int)==0)=false:=by simp;intro e;rw[e] at h2;simp at h2
 have c:(decide (0≤(((varT n).length:Nat):Int)) && decide ((((varT n).length:Nat):Int)≤((varT n++r).length:Int)))=true:=by
  rw[lA];simp;omega
 unfold ψ1j.f
 simp only[φ8B _ hl,h1,bS,cF,d,c,cT,tN,κP]
theorem φ4z (s:List UInt8) (hl:s.length<2 ^ 62):(∃n r,ψ1j.f (s,false)=some (n,(r,false))∧s=varT n++r∧φ1N n)∨ψ1j.f (s,false)=some (0,(s,true)):=by
 rcases φBF s with h | ⟨n,k,_,h,h1,h2,h3,h4,h5⟩
 ·right
  unfold ψ1j.f
  simp only[φ8B s hl,h,bS,cF,show ((0:Int)==0)=true from rfl,cT]
 ·left
  have hn:φ1N (n:Int):=⟨by omega,by omega⟩
  have e:s=varT (n:Int)++s.drop k:=by rw[φ5I n (by omega),←h4,κE]
  have hb:=φ2V hn (s.drop k) (by rw[←e];exact hl)
  rw[←e] at hb
  exact ⟨(n:Int),s.drop k,hb,e,hn⟩
theorem φ6x (s:List UInt8) (hl:s.length<2 ^ 62):ψ1j.f (s,true)=some (0,(s,true)):=by
 unfold ψ1j.f
 simp only[φ8B s hl,bS,cT]
theorem φ6h (t r:List UInt8):ψ1i.f (t++r,false) (t.length:Int)=some (t,(r,false)):=by
 unfold ψ1i.f
 have c1:¬((t.length:Nat):Int) > ((t++r).length:Int):=by rw[lA];omega
 have c2:(decide (0≤((t.length:Nat):Int)) && decide (((t.length:Nat):Int)≤((t++r).length:Int)))=true:=by rw[lA];simp;omega
 simp only[cF,c1,dF,c2,cT,tN,List.take_left,κP]
theorem φAG (s:List UInt8) (n:Int) (hn:0≤n):(∃t r,ψ1i.f (s,false) n=some (t,(r,false))∧s=t++r∧(t.length:Int)=n)∨ψ1i.f (s,false) n=some ([],(s,true)):=by
 by_cases c:n > (s.length:Int)
 ·right
  unfold ψ1i.f
  simp only[cF,c,dT,cT]
 ·left
  have hl:((s.take n.toNat).length:Int)=n:=by rw[lT];omega
  have:=φ6h (s.take n.toNat) (s.drop n.toNat)
  rw[κE,hl] at this
  exact ⟨_,_,this,(κE _ _).symm,hl⟩
theorem φ9I (s:List UInt8) (n:Int):ψ1i.f (s,true) n=some ([],(s,true)):=by
 unfold ψ1i.f
 simp only[cT]
theorem φ9m (t r:List UInt8) (ht:φ1N (t.length:Int)) (hl:(varT (t.length:Int)++(t++r)).length<2 ^ 62):ψ1k.f (varT (t.length:Int)++(t++r),false)=some (t,(r,false)):=by
 unfold ψ1k.f
 simp only[φ2V ht (t++r) hl,bS,φ6h]
theorem φ8M (s:List UInt8) (hl:s.length<2 ^ 62):(∃t r,ψ1k.f (s,false)=some (t,(r,false))∧s=varT (t.length:Int)++(t++r)∧φ1N (t.length:Int))∨∃r,ψ1k.f (s,false)=some ([],(r,true))∧r.length≤s.length:=by
 unfold ψ1k.f
 rcases φ4z s hl with ⟨n,r,e,es,hn⟩ | e
 ·rw[e,bS]
  rcases φAG r n hn.1 with ⟨t,r2,e2,es2,ht⟩ | e2
  ·left
   refine ⟨t,r2,by simp only[e2,bS],?_,by rw[ht];exact hn⟩
   rw[ht,←es2];exact es
  ·right
   refine ⟨r,by simp only[e2,bS],?_⟩
   rw[es,lA];omega
 ·right
  refine ⟨s,?_,κ5 _⟩
  rw[e,bS]
  simp only[φ9I,bS]
theorem φ9H (s:List UInt8) (hl:s.length<2 ^ 62):ψ1k.f (s,true)=some ([],(s,true)):=by
 unfold ψ1k.f
 simp only[φ6x s hl,bS,φ9I]
theorem φ93 (t r:List UInt8) (ht:φ1N (t.length:Int)) (hl:(varT (t.length:Int)++(t++r)).length<1000000000000000):ψ3K.f (varT (t.length:Int)++(t++r))=some (t,r,true):=by
 obtain ⟨h1,h2⟩:=φ44 ht (t++r)
 have h3:=φk (t.length:Int)
 rw[lA,lA] at hl
 unfold ψ3K.f
 rw[φ2r _ (by rw[lA,lA];omega),h1,bS]
 generalize varT (t.length:Int)=v at *
 have d:(((v.length:Nat):Int)==0)=false:=by simp;intro e;rw[e] at h2;simp at h2
 have e1:w64 (((v++(t++r)).length:Int) - ((v.length:Nat):Int))=((t.length+r.length:Nat):Int):=by rw[lA,lA,φH (by omega) (by omega)];omega
 have c1:¬((t.length:Nat):Int) > ((t.length+r.length:Nat):Int):=by omega
 have e2:w64 (((v.length:Nat):Int)+((t.length:Nat):Int))=(((v++t).length:Nat):Int):=by rw[lA,φH (by omega) (by omega)];omega
 have c2:(decide (0≤(((v++t).length:Nat):Int)) && decide ((((v++t).length:Nat):Int)≤((v++(t++r)).length:Int)))=true:=by simp;omega
 have c3:(decide (0≤((v.length:Nat):Int)) && decide (((v.length:Nat):Int)≤(((v++t).length:Nat):Int)))=true:=by simp;omega
 have e3:(v++(t++r)).take (v++t).length=v++t:=by rw[←aA,List.take_left]
 have e4:(v++(t++r)).drop (v++t).length=r:=by rw[←aA,κP]
 simp only[d,cF,e1,c1,dF,e2,c2,c3,cT,tN,e3,e4,κP]
theorem φCG (s:List UInt8) (hl:s.length<1000000000000000):∃t r b,ψ3K.f s=some (t,r,b)∧t.length≤s.length∧r.length≤s.length:=by
 rcases φBF s with h | ⟨n,k,_,h,h1,h2,h3,h4,h5⟩
 ·refine ⟨[],[],false,?_,by simp,by simp⟩
  unfold ψ3K.f
  simp only[φ2r s (by omega),h,bS,show ((0:Int)==0)=true from rfl,cT]
 ·by_cases c:s.length<k+n
  ·refine ⟨[],[],false,?_,by simp,by simp⟩
   have d:(((k:Nat):Int)==0)=false:=by simp;omega
   have e1:w64 ((s.length:Int) - (k:Int))=(s.length:Int) - k:=φH (by omega) (by omega)
   have c1:((n:Nat):Int) > (s.length:Int) - k:=by omega
   unfold ψ3K.f
   simp only[φ2r s (by omega),h,bS,d,cF,e1,c1,dT,cT]
  ·have hn:φ1N (n:Int):=⟨by omega,by omega⟩
   have ht:(((s.drop k).take n).length:Int)=n:=by rw[lT,lD];omega
   have e:s=varT (((s.drop k).take n).length:Int)++((s.drop k).take n++(s.drop k).drop n):=by
    rw[ht,φ5I n (by omega),←h4,κE,κE]
   have hb:=φ93 ((s.drop k).take n) ((s.drop k).drop n) (by rw[ht];exact hn) (by rw[←e];exact hl)
   rw[←e] at hb
   exact ⟨_,_,_,hb,by rw[lT,lD];omega,by rw[lD,lD];omega⟩
def φ2z (s:List UInt8) (r:RecT):Prop:=φa r=true∧φ6 r=s
theorem φBb {r:RecT} (h:φa r=true):φ1N r.1∧φ1N r.2.1∧(r.1=1∨r.1=4→r.2.2.1.length≤8∧r.2.2.2.1.length≤24∧r.2.2.2.2.1=0∧r.2.2.2.2.2=0) ∧
  (r.1=2→r.2.2.1.length≤8∧r.2.2.2.1=[]∧r.2.2.2.2.1=0∧r.2.2.2.2.2=0) ∧
  (¬(r.1=1∨r.1=4)→¬r.1=2→r.2.2.1=[]∧r.2.2.2.1=[]∧φ1N r.2.2.2.2.1∧0≤r.2.2.2.2.2∧r.2.2.2.2.2≤4294967295):=by
 obtain ⟨k,b,ky,v,c,s⟩:=r
 unfold φa φ18 at h
 simp only[bA,decide_eq_true_eq] at h
 obtain ⟨⟨h1,_⟩,h⟩:=h
 unfold φ1N
 simp only
 by_cases c1:k=1∨k=4
 ·rw[if_pos c1] at h
  simp only[bA,decide_eq_true_eq,beq_iff_eq] at h
  exact ⟨by omega,by omega,fun _=>by omega,fun e=>by omega,fun e=>absurd c1 e⟩
 rw[if_neg c1] at h
 by_cases c2:k=2
 ·rw[if_pos c2] at h
  simp only[bA,decide_eq_true_eq,beq_iff_eq] at h
  exact ⟨by omega,by omega,fun e=>absurd e c1,fun _=>⟨by omega,h.2.1,h.2.2⟩,fun _ e=>absurd c2 e⟩
 rw[if_neg c2] at h
 by_cases c3:k=3
 ·rw[if_pos c3] at h
  simp only[bA,decide_eq_true_eq,beq_iff_eq] at h
  exact ⟨by omega,by omega,fun e=>absurd e c1,fun e=>absurd e c2,fun _ _=>⟨h.1,h.2.1,by omega,by omega,by omega⟩⟩
 rw[if_neg c3] at h
 by_cases c5:k=5
 ·rw[if_pos c5] at h
  simp only[bA,decide_eq_true_eq,beq_iff_eq] at h
  exact ⟨by omega,by omega,fun e=>absurd e c1,fun e=>absurd e c2,fun _ _=>⟨h.1,h.2.1,by omega,by omega,by omega⟩⟩
 ·rw[if_neg c5] at h;simp at h
theorem φ70 {n:Int} (h:0≤n∧n≤4294967295):(fix4 n).length=4:=by
 unfold fix4;rw[if_pos h,φA8]
theorem φE4 {n:Int} (h:0≤n∧n≤4294967295) (r:List UInt8):φ3q (fix4 n++r)=(n,true):=by
 have hl:=φ70 h
 unfold φ3q
 rw[if_neg (by rw[lA];omega)]
 have e:(fix4 n++r).take 4=fix4 n:=by rw[←hl,List.take_left]
 rw[e]
 unfold fix4
 rw[if_pos h,φEc 4 n.toNat (by show _<4294967296;omega)]
 congr 1;omega
theorem φNB (t:List UInt8) (h:t.length=4):fix4 (φ3q t).1=t∧0≤(φ3q t).1∧(φ3q t).1≤4294967295:=by
 have hlt:=φC3 t
 rw[h] at hlt
 have hlt:fixR t<4294967296:=hlt
 unfold φ3q
 rw[if_neg (by omega),show t.take 4=t by rw[←h,κW]]
 refine ⟨?_,by simp only;omega,by simp only;omega⟩
 unfold fix4
 rw[if_pos (by simp only;omega)]
 show fixL ((fixR t:Nat):Int).toNat 4=t
 rw[tN,←h,φIe]
theorem φ7m (k:Int) {α β γ:Type} (x:α) (y:β) (z:γ):(bif k==1 then some (x,y,z,k,k==1) else some (x,y,z,k,k==4))=some (x,y,z,k,decide (k=1∨k=4)):=by
 by_cases c1:k=1
 ·subst c1;rfl
 ·have b1:(k==1)=false:=by simpa using c1
  rw[b1,cF]
  by_cases c4:k=4
  ·subst c4;rfl
  ·have b4:(k==4)=false:=by simpa using c4
   rw[b4,decide_eq_false (by omega)]
theorem φ8T (k:Int) {α β γ δ:Type} (x:α) (y:β) (z:γ) (u:δ):(bif k==1 then some (x,y,z,u,k,k==1) else some (x,y,z,u,k,k==4))=some (x,y,z,u,k,decide (k=1∨k=4)):=by
 by_cases c1:k=1
 ·subst c1;rfl
 ·have b1:(k==1)=false:=by simpa using c1
  rw[b1,cF]
  by_cases c4:k=4
  ·subst c4;rfl
  ·have b4:(k==4)=false:=by simpa using c4
   rw[b4,decide_eq_false (by omega)]
theorem app3 {a b c:List UInt8} {n:Nat} (h:(a++(b++c)).length≤n):(b++c).length≤n∧c.length≤n:=by simp only[lA] at h ⊢;omega
theorem app2 {a b:List UInt8} {n:Nat} (h:(a++b).length≤n):b.length≤n:=by simp only[lA] at h;omega
theorem lt15 {a:List UInt8} (h:a.length≤60):a.length<1000000000000000:=by omega
theorem lt62 {a:List UInt8} (h:a.length≤60):a.length<2 ^ 62:=by omega
def φ37:RecT:=(0,0,[],[],0,0)
theorem φBI {s:List UInt8} {r:RecT} (h:φ2z s r):ψl.f s=some (r,true):=by
 obtain ⟨hok,rfl⟩:=h
 have hl:=φ3Z r
 obtain ⟨i1,i2,i3,i4,i5⟩:=φBb hok
 have hok2:¬φa r=false:=by rw[hok];simp
 obtain ⟨k,b,ky,v,c,sm⟩:=r
 simp only at i1 i2 i3 i4 i5
 by_cases c1:k=1∨k=4
 ·obtain ⟨j1,j2,rfl,rfl⟩:=i3 c1
  have es:φ6 (k,b,ky,v,0,0)=varT k++(varT b++(varT (ky.length:Int)++(ky++(varT (v.length:Int)++(v++[]))))):=by
   unfold φ6;rw[if_neg hok2,if_pos c1];simp[aA]
  rw[es] at hl ⊢
  have x2:=φ9m v [] ⟨by omega,by omega⟩ (lt62 (app3 (app3 hl).2).2)
  have x1:=φ9m ky (varT (v.length:Int)++(v++[])) ⟨by omega,by omega⟩ (lt62 (app3 hl).2)
  have n2:=φ2V i2 (varT (ky.length:Int)++(ky++(varT (v.length:Int)++(v++[])))) (lt62 (app2 hl))
  have n1:=φ2V i1 (varT b++(varT (ky.length:Int)++(ky++(varT (v.length:Int)++(v++[]))))) (lt62 hl)
  have hcd:decide (k=1∨k=4)=true:=decide_eq_true c1
  unfold ψl.f
  simp only[n1,n2,bS,φ7m,hcd,cT,x1,x2,cF,φ7f,hok,nZ]
  rfl
 have hcd:decide (k=1∨k=4)=false:=decide_eq_false c1
 by_cases c2:k=2
 ·obtain ⟨j1,rfl,rfl,rfl⟩:=i4 c2
  have es:φ6 (k,b,ky,[],0,0)=varT k++(varT b++(varT (ky.length:Int)++(ky++[]))):=by
   unfold φ6;rw[if_neg hok2,if_neg c1,if_pos c2];simp[aA]
  rw[es] at hl ⊢
  have x1:=φ9m ky [] ⟨by omega,by omega⟩ (lt62 (app3 hl).2)
  have n2:=φ2V i2 (varT (ky.length:Int)++(ky++[])) (lt62 (app2 hl))
  have n1:=φ2V i1 (varT b++(varT (ky.length:Int)++(ky++[]))) (lt62 hl)
  have b2:(k==2)=true:=by simpa using c2
  unfold ψl.f
  simp only[n1,n2,bS,φ7m,hcd,b2,cT,x1,cF,φ7f,hok,nZ]
  rfl
 ·obtain ⟨rfl,rfl,j3,j4⟩:=i5 c1 c2
  have l4:=φ70 j4
  have es:φ6 (k,b,[],[],c,sm)=varT k++(varT b++(varT c++(fix4 sm++[]))):=by
   unfold φ6;rw[if_neg hok2,if_neg c1,if_neg c2];simp[aA]
  rw[es] at hl ⊢
  have x1:=φ6h (fix4 sm) []
  rw[l4] at x1
  have x1:ψ1i.f (fix4 sm++[],false) 4=_:=x1
  have n3:=φ2V j3 (fix4 sm++[]) (lt62 (app3 hl).2)
  have n2:=φ2V i2 (varT c++(fix4 sm++[])) (lt62 (app2 hl))
  have n1:=φ2V i1 (varT b++(varT c++(fix4 sm++[]))) (lt62 hl)
  have b2:(k==2)=false:=by simpa using c2
  have f4:=φE4 j4 []
  rw[κ7] at f4
  unfold ψl.f
  simp only[n1,n2,n3,bS,φ7m,hcd,b2,cT,x1,cF,φ7f,hok,nZ,φ6s (fix4 sm) (show (fix4 sm).length<2 ^ 62 by omega),f4]
  rfl
theorem φLb {s:List UInt8} {r:RecT} (h:φ2z s r):ψ2d.f s=some (r,true):=by
 obtain ⟨hok,rfl⟩:=h
 have hl:=φ3Z r
 have hsh:=φ7n r
 obtain ⟨i1,i2,i3,i4,i5⟩:=φBb hok
 have hok2:¬φa r=false:=by rw[hok];simp
 obtain ⟨k,b,ky,v,c,sm⟩:=r
 simp only at i1 i2 i3 i4 i5
 have head:∀T:List UInt8,(varT k++(varT b++T)).length≤60→φ6 (k,b,ky,v,c,sm)=varT k++(varT b++T) →
   ∃a d:Nat,ψ2e.f (varT k++(varT b++T))=some (k,(a:Int))∧(decide (0≤(a:Int)) && decide ((a:Int)≤((varT k++(varT b++T)).length:Int)))=true∧(varT k++(varT b++T)).drop (a:Int).toNat=varT b++T ∧
    ψ2e.f (varT b++T)=some (b,(d:Int))∧((a:Int)==0)=false∧((d:Int)==0)=false∧(decide (0≤w64 ((a:Int)+(d:Int))) && decide (w64 ((a:Int)+(d:Int))≤((varT k++(varT b++T)).length:Int)))=true ∧
    (varT k++(varT b++T)).drop (w64 ((a:Int)+(d:Int))).toNat=T∧(varT k++(varT b++T)==[])=false:=by
  intro T hT _
  obtain ⟨p1,p2⟩:=φ44 i1 (varT b++T)
  obtain ⟨q1,q2⟩:=φ44 i2 T
  have hT2:=hT
  simp only[lA] at hT2
  have ew:w64 (((varT k).length:Int)+((varT b).length:Int))=(((varT k).length+(varT b).length:Nat):Int):=by rw[φH (by omega) (by omega)];omega
  refine ⟨(varT k).length,(varT b).length,?_,?_,?_,?_,?_,?_,?_,?_,?_⟩
  ·rw[φ2r _ (by omega),p1]
  ·simp only[lA];simp;omega
  ·rw[tN,κP]
  ·rw[φ2r _ (by simp only[lA];omega),q1]
  ·simp;intro e;rw[e] at p2;simp at p2
  ·simp;intro e;rw[e] at q2;simp at q2
  ·rw[ew];simp only[lA];simp;omega
  ·rw[ew,tN,←aA,←lA,κP]
  ·cases hv:varT k with
   | nil=>rw[hv] at p2;simp at p2
   | cons x l=>rfl
 by_cases c1:k=1∨k=4
 ·obtain ⟨j1,j2,rfl,rfl⟩:=i3 c1
  have hcd:decide (k=1∨k=4)=true:=decide_eq_true c1
  have es:φ6 (k,b,ky,v,0,0)=varT k++(varT b++(varT (ky.length:Int)++(ky++(varT (v.length:Int)++(v++[]))))):=by
   unfold φ6;rw[if_neg hok2,if_pos c1];simp[aA]
  rw[es] at hl hsh ⊢
  obtain ⟨a,d,e1,e2,e3,e4,e5,e6,e7,e8,e9⟩:=head _ hl es
  have x2:=φ93 v [] ⟨by omega,by omega⟩ (lt15 (app3 (app3 hl).2).2)
  have x1:=φ93 ky (varT (v.length:Int)++(v++[])) ⟨by omega,by omega⟩ (lt15 (app3 hl).2)
  unfold ψ2d.f
  simp only[e1,e2,e3,e4,e5,e6,e7,e8,e9,bS,φ8T,hcd,cT,x1,x2,cF,hsh,beq_self_eq_true,nZ]
 have hcd:decide (k=1∨k=4)=false:=decide_eq_false c1
 by_cases c2:k=2
 ·obtain ⟨j1,rfl,rfl,rfl⟩:=i4 c2
  have b2:(k==2)=true:=by simpa using c2
  have es:φ6 (k,b,ky,[],0,0)=varT k++(varT b++(varT (ky.length:Int)++(ky++[]))):=by
   unfold φ6;rw[if_neg hok2,if_neg c1,if_pos c2];simp[aA]
  rw[es] at hl hsh ⊢
  obtain ⟨a,d,e1,e2,e3,e4,e5,e6,e7,e8,e9⟩:=head _ hl es
  have x1:=φ93 ky [] ⟨by omega,by omega⟩ (lt15 (app3 hl).2)
  unfold ψ2d.f
  simp only[e1,e2,e3,e4,e5,e6,e7,e8,e9,bS,φ8T,hcd,b2,cT,x1,cF,hsh,beq_self_eq_true,nZ]
 ·obtain ⟨rfl,rfl,j3,j4⟩:=i5 c1 c2
  have b2:(k==2)=false:=by simpa using c2
  have l4:=φ70 j4
  have es:φ6 (k,b,[],[],c,sm)=varT k++(varT b++(varT c++(fix4 sm++[]))):=by
   unfold φ6;rw[if_neg hok2,if_neg c1,if_neg c2];simp[aA]
  rw[es] at hl hsh ⊢
  obtain ⟨a,d,e1,e2,e3,e4,e5,e6,e7,e8,e9⟩:=head _ hl es
  obtain ⟨p1,p2⟩:=φ44 j3 (fix4 sm++[])
  have hl3:=(app3 hl).2
  have r1:ψ2e.f (varT c++(fix4 sm++[]))=some (c,((varT c).length:Int)):=by rw[φ2r _ (lt62 hl3),p1]
  have r2:(decide (0≤((varT c).length:Int)) && decide (((varT c).length:Int)≤((varT c++(fix4 sm++[])).length:Int)))=true:=by simp only[lA];simp;omega
  have r3:(varT c++(fix4 sm++[])).drop (((varT c).length:Int)).toNat=fix4 sm++[]:=by rw[tN,κP]
  have r4:ψ2b.f (fix4 sm++[]) 4=some (sm,true):=by rw[φFd _ (lt62 (app2 hl3)),φE4 j4]
  unfold ψ2d.f
  simp only[e1,e2,e3,e4,e5,e6,e7,e8,e9,bS,φ8T,hcd,b2,cT,r1,r2,r3,r4,cF,hsh,beq_self_eq_true,nZ]
noncomputable def φ9R (k b:Int) (st:φ49):Option (RecT×Bool):=
 ((bif k==1 then some ((0,0,[],[],0,0),st,(k,b,[],[],0,0),k,k==1)
 else some ((0,0,[],[],0,0),st,(k,b,[],[],0,0),k,k==4):Option ((Int×Int×List UInt8×List UInt8×Int×Int)×(List UInt8×Bool)×(Int×Int×List UInt8×List UInt8×Int×Int)×Int×Bool)).bind (fun (x2,x4,x5,x16,x27)=>
 bif x27 then
 (ψ1k.f x4).bind fun (t3_0,t3_1)=>
 (ψ1k.f t3_1).bind fun (t4_0,t4_1)=>
 some (x2,t4_1,(x5.1,x5.2.1,t3_0,t4_0,x5.2.2.2.2))
 else
 (bif x16==2 then
 (ψ1k.f x4).bind fun (t5_0,t5_1)=>
 some (x2,t5_1,(x5.1,x5.2.1,t5_0,x5.2.2.2))
 else
 (ψ1j.f x4).bind fun (t6_0,t6_1)=>
 (ψ1i.f t6_1 4).bind fun (t7_0,t7_1)=>
 (ψi.f t7_0 4).bind fun (t8_0,t8_1)=>
 some (x2,t7_1,(x5.1,x5.2.1,x5.2.2.1,x5.2.2.2.1,t6_0,t8_0)):Option ((Int×Int×List UInt8×List UInt8×Int×Int)×(List UInt8×Bool)×Int×Int×List UInt8×List UInt8×Int×Int)).bind (fun (x2,x4,x5)=>
 some (x2,x4,x5))):Option ((Int×Int×List UInt8×List UInt8×Int×Int)×(List UInt8×Bool)×Int×Int×List UInt8×List UInt8×Int×Int)).bind (fun (x2,x4,x5)=>
 bif x4.2 then
 some ((0,0,[],[],0,0),false)
 else
 bif !(x4.1==[]) then
 some ((0,0,[],[],0,0),false)
 else
 (ψo.f x5).bind fun t9=>
 bif !t9 then
 some ((0,0,[],[],0,0),false)
 else
 some (x5,true))
theorem φMP (s:List UInt8):ψl.f s=(ψ1j.f (s,false)).bind fun p=>(ψ1j.f p.2).bind fun q=>φ9R p.1 q.1 q.2:=rfl
theorem φI4 (k b:Int) (s:List UInt8) (hl:s.length<2 ^ 62):φ9R k b (s,true)=some (φ37,false):=by
 have hf:ψi.f [] 4=some (0,false):=φ6s [] (by show 0<2 ^ 62;decide)
 unfold φ9R
 simp only[φ7m,bS]
 cases decide (k=1∨k=4)
 ·cases (k==2)
  ·simp only[cF,φ6x s hl,bS,φ9I,hf,cT];rfl
  ·simp only[cF,cT,φ9H s hl,bS];rfl
 ·simp only[cT,φ9H s hl,bS];rfl
theorem φBD (S:List UInt8) (r:RecT) (st:φ49) (h:st.2=false→st.1=[]→φa r=true→φ6 r=S) :
  ∃res:RecT×Bool,(bif st.2 then some (((0,0,[],[],0,0):RecT),false) else bif !(st.1==[]) then some ((0,0,[],[],0,0),false) else (ψo.f r).bind fun t9=>bif !t9 then some ((0,0,[],[],0,0),false) else some (r,true))=some res∧(res=(φ37,false)∨∃r,res=(r,true)∧φ2z S r):=by
 cases hb:st.2
 rotate_left
 ·exact ⟨(φ37,false),rfl,.inl rfl⟩
 simp only[cF]
 by_cases he:st.1=[]
 ·have he2:(st.1==[])=true:=by simpa using he
  simp only[he2,nZ,cF,φ7f,bS]
  cases hr:φa r
  ·exact ⟨(φ37,false),rfl,.inl rfl⟩
  ·exact ⟨(r,true),rfl,.inr ⟨r,rfl,hr,h hb he hr⟩⟩
 ·have he2:(st.1==[])=false:=by simpa using he
  simp only[he2,nF,cT]
  exact ⟨(φ37,false),rfl,.inl rfl⟩
theorem φKS (s:List UInt8) (hl:s.length<1000000000000):∃res:RecT×Bool,ψl.f s=some res∧(res=(φ37,false)∨∃r,res=(r,true)∧φ2z s r):=by
 rw[φMP]
 rcases φ4z s (by omega) with ⟨k,s1,e1,q1,i1⟩ | e1
 rotate_left
 ·rw[e1,bS]
  simp only[φ6x s (show s.length<2 ^ 62 by omega),bS,φI4 0 0 s (show s.length<2 ^ 62 by omega)]
  exact ⟨_,rfl,.inl rfl⟩
 have l1:s1.length≤s.length:=by rw[q1,lA];omega
 rw[e1,bS]
 rcases φ4z s1 (by omega) with ⟨b,s2,e2,q2,i2⟩ | e2
 rotate_left
 ·simp only[e2,bS,φI4 k 0 s1 (show s1.length<2 ^ 62 by omega)]
  exact ⟨_,rfl,.inl rfl⟩
 have l2:s2.length≤s.length:=by rw[q2,lA] at l1;omega
 simp only[e2,bS]
 unfold φ9R
 simp only[φ7m,bS]
 by_cases c1:k=1∨k=4
 ·have hcd:decide (k=1∨k=4)=true:=decide_eq_true c1
  simp only[hcd,cT]
  rcases φ8M s2 (by omega) with ⟨ky,s3,e3,q3,i3⟩ | ⟨s3,e3,l3⟩
  rotate_left
  ·simp only[e3,bS,φ9H s3 (show s3.length<2 ^ 62 by omega)]
   exact ⟨_,rfl,.inl rfl⟩
  have l3:s3.length≤s.length:=by rw[q3,lA,lA] at l2;omega
  rcases φ8M s3 (by omega) with ⟨v,s4,e4,q4,i4⟩ | ⟨s4,e4,l4⟩
  rotate_left
  ·simp only[e3,e4,bS]
   exact ⟨_,rfl,.inl rfl⟩
  simp only[e3,e4,bS]
  exact φBD s (k,b,ky,v,0,0) (s4,false) fun _ he hr=>by
   have he:s4=[]:=he
   subst he
   unfold φ6
   rw[if_neg (by rw[hr];simp),if_pos c1,q1,q2,q3,q4]
   simp[aA]
 have hcd:decide (k=1∨k=4)=false:=decide_eq_false c1
 by_cases c2:k=2
 ·have b2:(k==2)=true:=by simpa using c2
  simp only[hcd,b2,cT,cF]
  rcases φ8M s2 (by omega) with ⟨ky,s3,e3,q3,i3⟩ | ⟨s3,e3,l3⟩
  rotate_left
  ·simp only[e3,bS]
   exact ⟨_,rfl,.inl rfl⟩
  simp only[e3,bS]
  exact φBD s (k,b,ky,[],0,0) (s3,false) fun _ he hr=>by
   have he:s3=[]:=he
   subst he
   unfold φ6
   rw[if_neg (by rw[hr];simp),if_neg c1,if_pos c2,q1,q2,q3]
   simp[aA]
 ·have b2:(k==2)=false:=by simpa using c2
  simp only[hcd,b2,cF]
  rcases φ4z s2 (by omega) with ⟨c,s3,e3,q3,i3⟩ | e3
  rotate_left
  ·have hf:ψi.f [] 4=some (0,false):=φ6s [] (by show 0<2 ^ 62;decide)
   simp only[e3,bS,φ9I,hf]
   exact ⟨_,rfl,.inl rfl⟩
  rcases φAG s3 4 (by omega) with ⟨t,s4,e4,q4,i4⟩ | e4
  rotate_left
  ·have hf:ψi.f [] 4=some (0,false):=φ6s [] (by show 0<2 ^ 62;decide)
   simp only[e3,e4,bS,hf]
   exact ⟨_,rfl,.inl rfl⟩
  have ht:t.length=4:=by omega
  have hf:=φ6s t (by omega)
  obtain ⟨f1,f2,f3⟩:=φNB t ht
  simp only[e3,e4,bS,hf]
  exact φBD s (k,b,[],[],c,(φ3q t).1) (s4,false) fun _ he hr=>by
   have he:s4=[]:=he
   subst he
   unfold φ6
   rw[if_neg (by rw[hr];simp),if_neg c1,if_neg c2,q1,q2,q3,q4]
   simp only
   rw[f1]
   simp[aA]
theorem φAb (S:List UInt8) (r:RecT):∃res:RecT×Bool,((ψ2n.f r).bind fun t9=>bif !(t9==S) then some (((0,0,[],[],0,0):RecT),false) else bif S==[] then some ((0,0,[],[],0,0),false) else some (r,true))=some res∧(res=(φ37,false)∨∃r,res=(r,true)∧φ2z S r):=by
 rw[φ7n,bS]
 by_cases c:φ6 r=S
 ·have c1:(φ6 r==S)=true:=by simpa using c
  simp only[c1,nZ,cF]
  by_cases e:S=[]
  ·have e1:(S==[])=true:=by simpa using e
   simp only[e1,cT]
   exact ⟨_,rfl,.inl rfl⟩
  ·have e1:(S==[])=false:=by simpa using e
   simp only[e1,cF]
   refine ⟨_,rfl,.inr ⟨r,rfl,?_,c⟩⟩
   cases hr:φa r with
   | true=>rfl
   | false=>
    exfalso
    apply e
    rw[←c]
    unfold φ6
    rw[if_pos hr]
 ·have c1:(φ6 r==S)=false:=by simpa using c
  simp only[c1,nF,cT]
  exact ⟨_,rfl,.inl rfl⟩
theorem φ5z (s:List UInt8):0≤(φz s).2∧(φz s).2≤s.length∧(φz s).2≤7:=by
 rcases φBF s with h | ⟨n,k,_,h,h1,h2,h3,h4,h5⟩
 ·rw[h];simp
 ·rw[h];simp only;omega
theorem φIg (s:List UInt8) (hl:s.length<1000000000000):∃res:RecT×Bool,ψ2d.f s=some res∧(res=(φ37,false)∨∃r,res=(r,true)∧φ2z s r):=by
 unfold ψ2d.f
 rw[φ2r s (by omega),bS]
 obtain ⟨a1,a2,a3⟩:=φ5z s
 generalize φz s=p at *
 obtain ⟨k,a⟩:=p
 simp only at a1 a2 a3
 have c1:(decide (0≤a) && decide (a≤(s.length:Int)))=true:=by simp;omega
 have hd:(s.drop a.toNat).length=s.length - a.toNat:=lD
 simp only[c1,cT,φ2r (s.drop a.toNat) (show (s.drop a.toNat).length<2 ^ 62 by omega),bS]
 obtain ⟨b1,b2,b3⟩:=φ5z (s.drop a.toNat)
 generalize φz (s.drop a.toNat)=q at *
 obtain ⟨b,d⟩:=q
 simp only at b1 b2 b3 ⊢
 cases ea:(a==0)
 rotate_left
 ·simp only[cT];exact ⟨_,rfl,.inl rfl⟩
 cases ed:(d==0)
 rotate_left
 ·simp only[cT,cF];exact ⟨_,rfl,.inl rfl⟩
 have ew:w64 (a+d)=a+d:=φH (by omega) (by omega)
 have c2:(decide (0≤a+d) && decide (a+d≤(s.length:Int)))=true:=by simp;omega
 simp only[cF,ew,c2,cT,φ8T,bS]
 have hx:(s.drop (a+d).toNat).length≤s.length:=by rw[lD];omega
 generalize s.drop (a+d).toNat=x at *
 cases decide (k=1∨k=4)
 rotate_left
 ·obtain ⟨t,r,f,e1,l1,l2⟩:=φCG x (by omega)
  obtain ⟨t',r',f',e2,l3,l4⟩:=φCG r (by omega)
  simp only[cT,e1,e2,bS]
  exact φAb s (k,b,t,t',0,0)
 cases (k==2)
 rotate_left
 ·obtain ⟨t,r,f,e1,l1,l2⟩:=φCG x (by omega)
  simp only[cT,cF,e1,bS]
  exact φAb s (k,b,t,[],0,0)
 ·simp only[cF,φ2r x (show x.length<2 ^ 62 by omega),bS]
  obtain ⟨g1,g2,g3⟩:=φ5z x
  generalize φz x=u at *
  obtain ⟨c,g⟩:=u
  simp only at g1 g2 g3 ⊢
  have c3:(decide (0≤g) && decide (g≤(x.length:Int)))=true:=by simp;omega
  simp only[c3,cT,φFd (x.drop g.toNat) (show (x.drop g.toNat).length<2 ^ 62 by rw[lD];omega),bS]
  exact φAb s (k,b,[],[],c,(φ3q (x.drop g.toNat)).1)
noncomputable def φ1T (s:List UInt8):RecT×Bool:=@dite (RecT×Bool) (∃r,φ2z s r) (Classical.propDecidable _) (fun h=>(h.choose,true)) (fun _=>(φ37,false))
theorem φE1 {s:List UInt8} {o:Option (RecT×Bool)} (h1:∀r,φ2z s r→o=some (r,true)) (h2:∃res:RecT×Bool,o=some res∧(res=(φ37,false)∨∃r,res=(r,true)∧φ2z s r)):o=some (φ1T s):=by
 unfold φ1T
 by_cases h:∃r,φ2z s r
 ·rw[dif_pos h];exact h1 _ h.choose_spec
 ·rw[dif_neg h]
  obtain ⟨res,e,k | ⟨r,_,hr⟩⟩:=h2
  ·rw[e,k]
  ·exact absurd ⟨r,hr⟩ h
theorem φHf (s:List UInt8) (hl:s.length<1000000000000):ψl.f s=some (φ1T s):=φE1 (fun _ h=>φBI h) (φKS s hl)
theorem φDJ (s:List UInt8) (hl:s.length<1000000000000):ψ2d.f s=some (φ1T s):=φE1 (fun _ h=>φLb h) (φIg s hl)
theorem φ73 (s:List UInt8):φ1T s=(φ37,false)∧(¬∃r,φ2z s r)∨∃r,φ1T s=(r,true)∧φ2z s r:=by
 unfold φ1T
 by_cases h:∃r,φ2z s r
 ·rw[dif_pos h];exact .inr ⟨_,rfl,h.choose_spec⟩
 ·rw[dif_neg h];exact .inl ⟨rfl,h⟩
theorem φ6M (s:List UInt8):(φP s).1.length≤s.length:=by
 unfold φP
 split
 ·simp
 split
 ·simp
 ·split
  ·simp
  split
  ·simp only[lD,lT];omega
  ·simp
noncomputable def φ1K (s:List UInt8) (a n:Int):RecT×Bool:=
 if 0≤a∧a≤(s.length:Int)∧1≤n∧n≤(s.length:Int) - a then
  (if (φP ((s.take (a+n).toNat).drop a.toNat)).2=n then φ1T (φP ((s.take (a+n).toNat).drop a.toNat)).1 else (φ37,false))
 else (φ37,false)
theorem φGt (s:List UInt8) (a n:Int) (hl:s.length<1000000000):ψn.f s a n=some (φ1K s a n):=by
 unfold ψn.f φ1K
 rw[φ1c,bS]
 by_cases c1:0≤a∧a≤(s.length:Int)
 rotate_left
 ·simp only[c1,dF,nF,cT]
  rw[if_neg (fun k=>c1 ⟨k.1,k.2.1⟩)];rfl
 have ew:w64 ((s.length:Int) - a)=(s.length:Int) - a:=φH (by omega) (by omega)
 have c1b:decide (0≤a∧a≤(s.length:Int))=true:=decide_eq_true c1
 simp only[c1b,nZ,cF,φ1c,bS,ew]
 by_cases c2:0≤n∧n≤(s.length:Int) - a
 rotate_left
 ·simp only[c2,dF,nF,cT]
  rw[if_neg (fun k=>c2 ⟨by omega,k.2.2.2⟩)];rfl
 have e2:w64 (a+n)=a+n:=φH (by omega) (by omega)
 have c3:(decide (0≤a+n) && decide (a+n≤(s.length:Int)))=true:=by simp;omega
 have c4:(decide (0≤a) && decide (a≤a+n))=true:=by simp;omega
 have hlx:((s.take (a+n).toNat).drop a.toNat).length<1000000000:=by rw[lD,lT];omega
 have c2b:decide (0≤n∧n≤(s.length:Int) - a)=true:=decide_eq_true c2
 have hx0:n=0→(φP ((s.take (a+n).toNat).drop a.toNat)).2=0:=fun e=>by
  have:((s.take (a+n).toNat).drop a.toNat)=[]:=by rw[List.drop_eq_nil_iff,lT];omega
  rw[this];rfl
 have hlen:=φ6M ((s.take (a+n).toNat).drop a.toNat)
 have hun:=φ82 _ (show ((s.take (a+n).toNat).drop a.toNat).length<1000000000000 by omega)
 by_cases c5:n=0
 ·rw[if_neg (fun z=>by omega)]
  simp only[c2b,nZ,cF,e2,c3,c4,cT,hun,bS]
  have hk:=hx0 c5
  have d:((φP ((s.take (a+n).toNat).drop a.toNat)).2==0)=true:=by simpa using hk
  simp only[d,cT];rfl
 rw[if_pos ⟨c1.1,c1.2,by omega,c2.2⟩]
 simp only[c2b,nZ,cF,e2,c3,c4,cT,hun,bS]
 generalize φP ((s.take (a+n).toNat).drop a.toNat)=u at *
 obtain ⟨t,k⟩:=u
 simp only at hx0 hlen ⊢
 by_cases c6:k=n
 ·have d:(k==0)=false:=by simp;omega
  have d2:(k != n)=false:=by simpa using c6
  simp only[d,d2,cF,φHf t (show t.length<1000000000000 by omega),bS]
  rw[if_pos c6]
 ·have d2:(k != n)=true:=by simpa using c6
  rw[if_neg c6]
  cases d:(k==0)
  ·simp only[d2,cF,cT];rfl
  ·simp only[cT];rfl
theorem φEL (s:List UInt8) (a n:Int) (hl:s.length<1000000000):ψ2f.f s a n=some (φ1K s a n):=by
 unfold ψ2f.f φ1K
 rw[φ2U,bS]
 by_cases c1:0≤a∧a≤(s.length:Int)
 rotate_left
 ·simp only[c1,dF,nF,cT]
  rw[if_neg (fun k=>c1 ⟨k.1,k.2.1⟩)];rfl
 have ew:w64 ((s.length:Int) - a)=(s.length:Int) - a:=φH (by omega) (by omega)
 have c1b:decide (0≤a∧a≤(s.length:Int))=true:=decide_eq_true c1
 simp only[c1b,nZ,cF,φ2U,bS,ew]
 by_cases c2:1≤n∧n≤(s.length:Int) - a
 rotate_left
 ·rw[if_neg (fun k=>c2 ⟨k.2.2.1,k.2.2.2⟩)]
  simp only[c2,dF,nF,cT];rfl
 have e2:w64 (a+n)=a+n:=φH (by omega) (by omega)
 have c3:(decide (0≤a+n) && decide (a+n≤(s.length:Int)))=true:=by simp;omega
 have c4:(decide (0≤a) && decide (a≤a+n))=true:=by simp;omega
 have hlx:((s.take (a+n).toNat).drop a.toNat).length<1000000000:=by rw[lD,lT];omega
 have c2b:decide (1≤n∧n≤(s.length:Int) - a)=true:=decide_eq_true c2
 have hlen:=φ6M ((s.take (a+n).toNat).drop a.toNat)
 have hun:=φ8Y _ (show ((s.take (a+n).toNat).drop a.toNat).length<1000000000000 by omega)
 rw[if_pos ⟨c1.1,c1.2,c2.1,c2.2⟩]
 simp only[c2b,nZ,cF,e2,c3,c4,cT,hun,bS]
 generalize φP ((s.take (a+n).toNat).drop a.toNat)=u at *
 obtain ⟨t,k⟩:=u
 simp only at hlen ⊢
 rw[φDJ t (by omega),bS]
 by_cases c6:k=n
 ·have d2:(k != n)=false:=by simpa using c6
  rw[if_pos c6]
  simp only[d2,cF]
  rcases φ73 t with ⟨e,_⟩ | ⟨r,e,_⟩<;>rw[e]<;>rfl
 ·have d2:(k != n)=true:=by simpa using c6
  rw[if_neg c6]
  simp only[d2,cT];rfl
theorem φMU (a n:Int):φ1K [] a n=(φ37,false):=by
 unfold φ1K
 rw[if_neg]
 simp only[lN]
 omega
noncomputable def getP (s:φ7) (d:φ1) (key:List UInt8):φZ×Int:=
 if (φ22 s.2.1 key).2=false then (([],[],0),8) else
 let e:=(φ22 s.2.1 key).1
 let r:=φ1K (φ2 d (φ0 e.2.1)).1 e.2.2.1 e.2.2.2.1
 if r.2=true∧(r.1.1=1∨r.1.1=4)∧r.1.2.2.1=key then ((key,r.1.2.2.2.1,r.1.2.1),0) else (([],[],0),3)
theorem φE0 (s:φ7) (d:φ1) (key:List UInt8) (h:dlim d) (hu:φI d.1<1000000000) (hs:s.2.1.length<2 ^ 62):ψR.f s d key=some (getP s d key):=by
 unfold ψR.f getP
 rw[φEN s.2.1 key hs,bS]
 generalize φ22 s.2.1 key=g at *
 obtain ⟨e,is⟩:=g
 simp only
 cases is
 ·rfl
 have hl:=φ4X d (φ0 e.2.1) h
 simp only[nZ,cF,φ3D,bS,φ4j d _ h,φGt (φ2 d (φ0 e.2.1)).1 e.2.2.1 e.2.2.2.1 (show (φ2 d (φ0 e.2.1)).1.length<1000000000 by omega),κ8,if_false]
 generalize φ1K (φ2 d (φ0 e.2.1)).1 e.2.2.1 e.2.2.2.1=r at *
 obtain ⟨r,ok⟩:=r
 simp only
 cases ok
 ·simp
 simp only[nZ,cF,true_and]
 by_cases k:r.2.2.1=key
 ·have k2:(r.2.2.1==key)=true:=by simpa using k
  by_cases c1:r.1=1
  ·have d1:(r.1 != 1)=false:=by simpa using c1
   simp only[d1,k2,nZ,cF]
   rw[if_pos ⟨.inl c1,k⟩,k]
  ·have d1:(r.1 != 1)=true:=by simpa using c1
   by_cases c4:r.1=4
   ·have d4:(r.1 != 4)=false:=by simpa using c4
    simp only[d1,d4,k2,nZ,cF,cT]
    rw[if_pos ⟨.inr c4,k⟩,k]
   ·have d4:(r.1 != 4)=true:=by simpa using c4
    simp only[d1,d4,cT]
    rw[if_neg (by intro z;exact z.1.elim c1 c4)]
 ·have k2:(r.2.2.1==key)=false:=by simpa using k
  rw[if_neg (fun z=>k z.2)]
  cases (r.1 != 1)<;>cases (r.1 != 4)<;>simp only[k2,nF,cF,cT]
theorem φKw (s:φ7) (d:φ1) (key:List UInt8) (h:dlim d) (hu:φI d.1<1000000000) (hs:s.2.1.length<2 ^ 62):ψ2T.f s d key=some (getP s d key):=by
 unfold ψ2T.f getP
 rw[φO2 s.2.1 key hs,bS]
 generalize φ22 s.2.1 key=g at *
 obtain ⟨e,is⟩:=g
 simp only
 cases is
 ·rfl
 have hl:=φ4X d (φ0 e.2.1) h
 simp only[nZ,cF,φ4R,bS,φ9C d _ h,φEL (φ2 d (φ0 e.2.1)).1 e.2.2.1 e.2.2.2.1 (show (φ2 d (φ0 e.2.1)).1.length<1000000000 by omega),κ8,if_false]
 have hno:(φ2 d (φ0 e.2.1)).2=false→φ1K (φ2 d (φ0 e.2.1)).1 e.2.2.1 e.2.2.2.1=(φ37,false):=fun hf=>by
  have:(φ2 d (φ0 e.2.1)).1=[]:=by
   unfold φ2 at hf ⊢
   split
   ·rfl
   ·rename_i c
    rw[if_neg c] at hf
    split
    ·rename_i i hi;rw[hi] at hf;simp at hf
    ·rfl
  rw[this];exact φMU _ _
 generalize φ1K (φ2 d (φ0 e.2.1)).1 e.2.2.1 e.2.2.2.1=r at *
 cases hf:(φ2 d (φ0 e.2.1)).2
 ·rw[hno hf];simp
 obtain ⟨r,ok⟩:=r
 simp only[nZ,cF]
 cases ok
 ·simp
 simp only[nZ,cF,true_and]
 by_cases k:r.2.2.1=key
 ·have k2:(r.2.2.1==key)=true:=by simpa using k
  simp only[k2,nZ,cF]
  by_cases c1:r.1=1
  ·have d1:(r.1 != 1)=false:=by simpa using c1
   simp only[d1,cF]
   rw[if_pos ⟨.inl c1,k⟩]
  ·have d1:(r.1 != 1)=true:=by simpa using c1
   by_cases c4:r.1=4
   ·have d4:(r.1 != 4)=false:=by simpa using c4
    simp only[d1,d4,cF,cT]
    rw[if_pos ⟨.inr c4,k⟩]
   ·have d4:(r.1 != 4)=true:=by simpa using c4
    simp only[d1,d4,cT]
    rw[if_neg (by intro z;exact z.1.elim c1 c4)]
 ·have k2:(r.2.2.1==key)=false:=by simpa using k
  simp only[k2,nF,cT]
  rw[if_neg (fun z=>k z.2)]
abbrev φ1o:=Int×Int×RecT
theorem φ9Q (s:List UInt8):(φP s).2=0∨∃n:Nat,(φP s).2=(n:Int)∧5≤n∧n≤s.length:=by
 unfold φP
 split
 ·exact .inl rfl
 split
 ·exact .inl rfl
 ·rename_i n k hr
  obtain ⟨q1,q2,q3,q4,q5⟩:=φ4g 7 true (s.drop 4) n k hr
  split
  ·exact .inl rfl
  rename_i c
  split
  ·exact .inr ⟨4+k+n,rfl,by omega,by omega⟩
  ·exact .inl rfl
noncomputable def φ54:Nat→List UInt8→Nat→List φ1o×Nat
 | 0,_,a=>([],a)
 | f+1,s,a=>
  if (φP (s.drop a)).2=0∨(φ1T (φP (s.drop a)).1).2=false then ([],a) else
  (((a:Int),(φP (s.drop a)).2,(φ1T (φP (s.drop a)).1).1)::(φ54 f s (a+(φP (s.drop a)).2.toNat)).1,(φ54 f s (a+(φP (s.drop a)).2.toNat)).2)
theorem φDQ:∀(f g:Nat) (s:List UInt8) (a:Nat),a≤s.length→s.length<a+f→s.length<a+g→φ54 f s a=φ54 g s a
 | 0,_,s,a,ha,hf,_=>by omega
 | f+1,0,s,a,ha,_,hg=>by omega
 | f+1,g+1,s,a,ha,hf,hg=>by
  unfold φ54
  by_cases c:(φP (s.drop a)).2=0∨(φ1T (φP (s.drop a)).1).2=false
  ·rw[if_pos c,if_pos c]
  ·rw[if_neg c,if_neg c]
   rcases φ9Q (s.drop a) with h | ⟨n,h,h5,hn⟩
   ·exact absurd (.inl h) c
   ·rw[lD] at hn
    rw[h,tN,φDQ f g s (a+n) (by omega) (by omega) (by omega)]
noncomputable def φ2N (s:List UInt8) (a:Nat):List φ1o×Nat:=φ54 (s.length+1 - a) s a
noncomputable def scan (s:List UInt8):List φ1o×Nat:=φ2N s 0
theorem φ51 {s:List UInt8} {a:Nat} (ha:a≤s.length) (h:(φP (s.drop a)).2=0∨(φ1T (φP (s.drop a)).1).2=false):φ2N s a=([],a):=by
 unfold φ2N
 rw[show s.length+1 - a=(s.length - a)+1 by omega,φ54,if_pos h]
theorem φ5U {s:List UInt8} {a n:Nat} (hn:(φP (s.drop a)).2=(n:Int)) (h0:5≤n) (hl:a+n≤s.length) (hr:(φ1T (φP (s.drop a)).1).2=true) :
  φ2N s a=(((a:Int),(n:Int),(φ1T (φP (s.drop a)).1).1)::(φ2N s (a+n)).1,(φ2N s (a+n)).2):=by
 unfold φ2N
 rw[show s.length+1 - a=(s.length - a)+1 by omega,φ54,if_neg (by rw[hn,hr];simp;omega),hn,tN,φDQ (s.length - a) (s.length+1 - (a+n)) s (a+n) (by omega) (by omega) (by omega)]
theorem φ8E {s:List UInt8}:φ2N s s.length=([],s.length):=
 φ51 (κ5 _) (.inl (by rw[List.drop_length];rfl))
theorem φLX:∀(k:Nat) (s:List UInt8) (a:Nat),a≤s.length→s.length - a=k→(φ2N s a).2≤s.length∧a≤(φ2N s a).2∧(φ2N s a).1.length≤s.length - a:=by
 intro k
 induction k using Nat.strongRecOn with
 | ind k ih=>
  intro s a ha hk
  by_cases c:(φP (s.drop a)).2=0∨(φ1T (φP (s.drop a)).1).2=false
  ·rw[φ51 ha c];exact ⟨ha,κ5 _,by simp⟩
  ·rcases φ9Q (s.drop a) with h | ⟨n,h,h5,hn⟩
   ·exact absurd (.inl h) c
   ·rw[lD] at hn
    have hr:(φ1T (φP (s.drop a)).1).2=true:=by
     cases e:(φ1T (φP (s.drop a)).1).2 with
     | true=>rfl
     | false=>exact absurd (.inr e) c
    rw[φ5U h h5 (by omega) hr]
    have:=ih (s.length - (a+n)) (by omega) s (a+n) (by omega) rfl
    simp only[lC]
    omega
theorem φ6c (s:List UInt8):(scan s).2≤s.length∧(scan s).1.length≤s.length:=by
 have:=φLX s.length s 0 (κ4 _) (by omega)
 unfold scan
 omega
def φ32 (e:φD):Bool:=φ18 e.1 && (decide (1≤e.2.1∧e.2.1≤100000) && (decide (0≤e.2.2.1) && (decide (1≤e.2.2.2.1∧e.2.2.2.1≤210) && decide (1≤e.2.2.2.2∧e.2.2.2.2≤1000000))))
def φ2d:Option (List UInt8)→List φD→Bool
 | _,[]=>true
 | p,e::r=>φ32 e && ((match p with | none=>true | some q=>Op.bytesLess q e.1) && φ2d (some e.1) r)
def φ75 (l:List φD):Nat→Option (List UInt8)
 | 0=>none
 | n+1=>some (l.getD n ([],0,0,0,0)).1
theorem φ8D (l:List φD) (n:Nat) (h:n<l.length):φ75 l (n+1)=some l[n].1:=by
 show some (l.getD n ([],0,0,0,0)).1=_
 rw[φB h]
def φ1v (l:List φD):Bool:=φ2d none l && decide (l.length≤20)
theorem φGX {a:Nat} (h:a<1000000000001):(a+1) * 80≤140737488355328:=by omega
theorem φAE (s:List UInt8) (hl:s.length<1000000000):ψw.f s=some ((scan s).1,((scan s).2:Int)):=by
 have key:=φ72 (step:=ψw.l0) (a:=(s,([]:List φ1o),((0:Nat):Int))) (fun a=>(a.2.1++(φ2N s a.2.2.toNat).1,((φ2N s a.2.2.toNat).2:Int))) (fun a=>a.1=s∧∃n:Nat,a.2.2=(n:Int)∧n≤s.length∧a.2.1.length≤n) (fun a=>s.length - a.2.2.toNat)
  (fun rec a ha ih=>by
   obtain ⟨x,out,k⟩:=a
   obtain ⟨hx,n,hn,hle,hol⟩:=ha
   simp only at hx hn hol ih ⊢
   subst hx hn
   have c1:(decide (0≤(n:Int)) && decide ((n:Int)≤(x.length:Int)))=true:=by simp;omega
   have hd:(x.drop n).length<1000000000000:=by rw[lD];omega
   have hu:=φ6M (x.drop n)
   simp only[ψw.l0,c1,cT,tN,φ82 (x.drop n) hd,φHf (φP (x.drop n)).1 (show (φP (x.drop n)).1.length<1000000000000 by omega),bS]
   rcases φ9Q (x.drop n) with h | ⟨m,h,h5,hm⟩
   ·have d:((φP (x.drop n)).2==0)=true:=by simpa using h
    rw[φ51 hle (.inl h)]
    simp only[d,cT,κ7]
   have d:(((m:Nat):Int)==0)=false:=by simp;omega
   rw[lD] at hm
   cases hr:(φ1T (φP (x.drop n)).1).2
   ·rw[φ51 hle (.inr hr)]
    simp only[h,d,cF,nF,cT,κ7]
   ·have hb:∀{α:Type} (v:α),(out.length+[v].length) * 80≤140737488355328:=fun v=>φGX (by omega)
    have ew:w64 ((n:Int)+(m:Int))=((n+m:Nat):Int):=by rw[φH (by omega) (by omega)];omega
    have ih:=ih (x,out++[((n:Int),(m:Int),(φ1T (φP (x.drop n)).1).1)],((n+m:Nat):Int)) ⟨rfl,n+m,rfl,by omega,by simp only[lA,κA];omega⟩ (by simp only[tN];omega)
    simp only[tN] at ih
    rw[φ5U h h5 (by omega) hr]
    simp only[h,d,cF,nZ,hb,dT,cT,ew,ih]
    simp[aA])
  ⟨rfl,0,rfl,κ4 _,by simp⟩ (by simp only;omega)
 have key:lp ψw.l0 (s,[],0)=_:=key
 unfold ψw.f
 rw[key,bS]
 rfl
theorem φEQ (s:List UInt8) (hl:s.length<1000000000):ψ2j.f s=some ((scan s).1,((scan s).2:Int)):=by
 have key:=φ7S (step:=ψ2j.l0) (a:=(s,([]:List φ1o),((0:Nat):Int))) (fun a=>a.1=s∧∃n:Nat,a.2.2=(n:Int)∧n≤s.length∧a.2.1.length≤n∧scan s=(a.2.1++(φ2N s n).1,(φ2N s n).2)) (fun a=>s.length - a.2.2.toNat)
  (fun b=>b=.inl ((scan s).1,((scan s).2:Int))∨b=.inr ((scan s).1,((scan s).2:Int)))
  (fun rec a ha=>by
   obtain ⟨x,out,k⟩:=a
   obtain ⟨hx,n,hn,hle,hol,hs⟩:=ha
   simp only at hx hn hol hs
   subst hx hn
   rcases κ1 n x.length with hlt | hge
   rotate_left
   ·left
    have:n=x.length:=by omega
    subst this
    rw[φ8E] at hs
    refine ⟨_,?_,.inl rfl⟩
    rw[hs]
    simp[ψ2j.l0]
   have c0:(n:Int)<(x.length:Int):=by omega
   have c1:(decide (0≤(n:Int)) && decide ((n:Int)≤(x.length:Int)))=true:=by simp;omega
   have hd:(x.drop n).length<1000000000000:=by rw[lD];omega
   have hu:=φ6M (x.drop n)
   simp only[ψ2j.l0,c0,dT,c1,cT,tN,φ8Y (x.drop n) hd,φDJ (φP (x.drop n)).1 (show (φP (x.drop n)).1.length<1000000000000 by omega),bS]
   rcases φ9Q (x.drop n) with h | ⟨m,h,h5,hm⟩
   ·left
    have d:((φP (x.drop n)).2==0)=true:=by simpa using h
    rw[φ51 hle (.inl h)] at hs
    simp only[κ7] at hs
    exact ⟨.inr (out,(n:Int)),by simp only[d,cT],.inr (by rw[hs])⟩
   have d:(((m:Nat):Int)==0)=false:=by simp;omega
   rw[lD] at hm
   cases hr:(φ1T (φP (x.drop n)).1).2
   ·left
    rw[φ51 hle (.inr hr)] at hs
    simp only[κ7] at hs
    exact ⟨.inr (out,(n:Int)),by simp only[h,d,cF,nF,cT],.inr (by rw[hs])⟩
   ·right
    have hb:∀{α:Type} (v:α),(out.length+[v].length) * 80≤140737488355328:=fun v=>φGX (by omega)
    have ew:w64 ((n:Int)+(m:Int))=((n+m:Nat):Int):=by rw[φH (by omega) (by omega)];omega
    rw[φ5U h h5 (by omega) hr] at hs
    refine ⟨(x,out++[((n:Int),(m:Int),(φ1T (φP (x.drop n)).1).1)],((n+m:Nat):Int)),⟨rfl,n+m,rfl,by omega,by simp only[lA,κA];omega,by simpa [aA] using hs⟩,by simp only[tN];omega,?_⟩
    simp only[h,d,cF,nZ,hb,dT,cT,ew])
  ⟨rfl,0,rfl,κ4 _,by simp,by unfold scan;simp⟩ (by simp only;omega)
 obtain ⟨b,e,hb⟩:=key
 have e:lp ψ2j.l0 (s,[],0)=some b:=e
 unfold ψ2j.f
 rw[e,bS]
 rcases hb with rfl | rfl<;>rfl
theorem φKk (l:List φD) (hl:l.length<2 ^ 62):lp ψA.l0 (l,l,(l.length:Int),0)=some (if φ2d none l=true then .inl l else .inr false):=by
 have key:=φj (step:=ψA.l0) (fun n (_:Unit)=>(l,l,(l.length:Int),(n:Int))) l.length (fun n _=>if φ2d (φ75 l n) (l.drop n)=true then .inl l else .inr false) (fun _ _=>True)
  (fun rec n s hn' _ ih=>by
   rcases κ1 n l.length with h | h
   ·have hw:w64 ((n:Int)+1)=((n+1:Nat):Int):=φS (by omega)
    have ih2:=ih () h trivial
    rw[φ8D l n h] at ih2
    rw[dG h]
    simp only[φ2d,ψA.l0,oL,h,dT,cT,φJ,φN,φB h,bS,φ1c,φ6i]
    unfold φ32
    have hneg:decide (l[n].2.2.1<0)=!decide (0≤l[n].2.2.1):=by
     by_cases c:0≤l[n].2.2.1
     ·have:¬l[n].2.2.1<0:=by omega
      simp[c,this]
     ·have:l[n].2.2.1<0:=by omega
      simp[c,this]
    rw[hneg]
    rcases bE (φ18 l[n].1) with k1 | k1
    rotate_left
    ·simp[k1]
    rcases bE (decide (1≤l[n].2.1∧l[n].2.1≤100000)) with k2 | k2
    rotate_left
    ·simp only[k1,k2,nZ,nF,cF,cT,bS,φq];simp
    rcases bE (decide (0≤l[n].2.2.1)) with k3 | k3
    rotate_left
    ·simp only[k1,k2,k3,nZ,nF,cF,cT,bS,φq];simp
    rcases bE (decide (1≤l[n].2.2.2.1∧l[n].2.2.2.1≤210)) with k4 | k4
    rotate_left
    ·simp only[k1,k2,k3,k4,nZ,nF,cF,cT,bS,φq];simp
    rcases bE (decide (1≤l[n].2.2.2.2∧l[n].2.2.2.2≤1000000)) with k5 | k5
    rotate_left
    ·simp only[k1,k2,k3,k4,k5,nZ,nF,cF,cT,bS,φq];simp
    simp only[k1,k2,k3,k4,k5,nZ,cF,tA]
    cases n with
    | zero=>
     have z:¬((0:Nat):Int) > 0:=by omega
     simp only[z,dF,cF,bS,φf,hw,ih2,φ75,tA]
    | succ m=>
     have z:((m+1:Nat):Int) > 0:=by omega
     have hm:m<l.length:=by omega
     have z2:w64 (((m+1:Nat):Int) - 1)=(m:Int):=by rw[φH (by omega) (by omega)];omega
     rw[φ8D l m hm]
     simp only[z,dT,cT,z2,φJ,hm,φN,φB hm]
     rcases bE (Op.bytesLess l[m].1 l[m+1].1) with k6 | k6
     ·simp only[k6,nZ,cF,bS,φf,hw,ih2,tA]
     ·simp[k6]
   ·have:n=l.length:=by omega
    subst this
    simp[ψA.l0,φ2d])
  hl 0 () (κ4 _) trivial
 have key:lp ψA.l0 (l,l,(l.length:Int),0)=_:=key
 rw[key,κC];rfl
theorem φLr (a:Int):decide (a<0)=!decide (0≤a):=by
 by_cases c:0≤a
 ·have:¬a<0:=by omega
  simp[c,this]
 ·have:a<0:=by omega
  simp[c,this]
theorem φKh (l:List φD) (hl:l.length<2 ^ 62):lp ψ2M.l0 (l,0)=some (if φ2d none l=true then .inl () else .inr false):=by
 have key:=φj (step:=ψ2M.l0) (fun n (_:Unit)=>(l,(n:Int))) l.length (fun n _=>if φ2d (φ75 l n) (l.drop n)=true then .inl () else .inr false) (fun _ _=>True)
  (fun rec n s hn' _ ih=>by
   rcases κ1 n l.length with h | h
   ·have hw:w64 ((n:Int)+1)=((n+1:Nat):Int):=φS (by omega)
    have ih2:=ih () h trivial
    rw[φ8D l n h] at ih2
    rw[dG h]
    simp only[φ2d,ψ2M.l0,oL,h,dT,cT,φJ,φN,φB h,bS,φ2U,φG3]
    unfold φ32
    rw[φLr]
    rcases bE (φ18 l[n].1) with k1 | k1
    rotate_left
    ·simp[k1]
    rcases bE (decide (1≤l[n].2.1∧l[n].2.1≤100000)) with k2 | k2
    rotate_left
    ·simp only[k1,k2,nZ,nF,cF,cT,bS,φq];simp
    rcases bE (decide (0≤l[n].2.2.1)) with k3 | k3
    rotate_left
    ·simp only[k1,k2,k3,nZ,nF,cF,cT,bS,φq];simp
    rcases bE (decide (1≤l[n].2.2.2.1∧l[n].2.2.2.1≤210)) with k4 | k4
    rotate_left
    ·simp only[k1,k2,k3,k4,nZ,nF,cF,cT,bS,φq];simp
    rcases bE (decide (1≤l[n].2.2.2.2∧l[n].2.2.2.2≤1000000)) with k5 | k5
    rotate_left
    ·simp only[k1,k2,k3,k4,k5,nZ,nF,cF,cT,bS,φq];simp
    simp only[k1,k2,k3,k4,k5,nZ,cF,tA]
    cases n with
    | zero=>
     have z:¬((0:Nat):Int) > 0:=by omega
     simp only[z,dF,cF,bS,φf,hw,ih2,φ75,tA]
    | succ m=>
     have z:((m+1:Nat):Int) > 0:=by omega
     have hm:m<l.length:=by omega
     have z2:w64 (((m+1:Nat):Int) - 1)=(m:Int):=by rw[φH (by omega) (by omega)];omega
     have z3:(Op.bytesLess l[m+1].1 l[m].1 || l[m+1].1==l[m].1)=!Op.bytesLess l[m].1 l[m+1].1:=φ9Y _ _
     rw[φ8D l m hm]
     simp only[z,dT,cT,z2,φJ,hm,φN,φB hm,z3]
     rcases bE (Op.bytesLess l[m].1 l[m+1].1) with k6 | k6
     ·simp only[k6,nZ,cF,bS,φf,hw,ih2,tA]
     ·simp[k6]
   ·have:n=l.length:=by omega
    subst this
    simp[ψ2M.l0,φ2d])
  hl 0 () (κ4 _) trivial
 have key:lp ψ2M.l0 (l,0)=_:=key
 rw[key,κC];rfl
theorem φBW (l:List φD) (hl:l.length<2 ^ 62):ψA.f l=some (φ1v l):=by
 unfold ψA.f φ1v
 rw[φKk l hl,bS]
 have e:decide ((l.length:Int)≤20)=decide (l.length≤20):=decide_eq_decide.2 (by omega)
 cases φ2d none l<;>simp[e]
theorem φG1 (l:List φD) (hl:l.length<2 ^ 62):ψ2M.f l=some (φ1v l):=by
 unfold ψ2M.f φ1v
 rw[φKh l hl]
 by_cases c:l.length≤20
 ·have c1:¬(l.length:Int) > 20:=by omega
  simp only[c,c1,dT,dF,cF,κM,bS]
  cases φ2d none l<;>rfl
 ·have c1:(l.length:Int) > 20:=by omega
  simp[c,c1]
noncomputable def φ4f (d:φ1) (size:Int) (last:Bool) (id:Int):Bool:=
 (φ2 d (φ0 id)).2 && (decide ((scan (φ2 d (φ0 id)).1).2=(φ2 d (φ0 id)).1.length) && (!last || decide (size=((φ2 d (φ0 id)).1.length:Int))))
noncomputable def φ1e (d:φ1) (size:Int):List Int→Bool
 | []=>true
 | id::r=>φ4f d size r.isEmpty id && φ1e d size r
noncomputable def φ24 (d:φ1) (batch:Int) (e:φD):Bool:=
 let r:=φ1K (φ2 d (φ0 e.2.1)).1 e.2.2.1 e.2.2.2.1
 r.2 && ((r.1.1==1 || r.1.1==4) && (r.1.2.2.1==e.1 && (r.1.2.1==e.2.2.2.2 && !decide (e.2.2.2.2≥batch))))
noncomputable def φh (s:φ7) (d:φ1):Bool:=
 φ3 d && (φm s.1 && (φ1v s.2.1 && (decide (1≤s.2.2.1∧s.2.2.1≤1000001) && (φ1e d s.2.2.2.1 s.1.2 && s.2.1.all (φ24 d s.2.2.1)))))
theorem φOK (s:φ7) (d:φ1) (h:dlim d) (hu:φI d.1<1000000000) (hl:s.1.2.length<1000000000):lp ψ11.l0 (s,d,s.1.2,(s.1.2.length:Int),0)=some (if φ1e d s.2.2.2.1 s.1.2=true then .inl (s,d) else .inr false):=by
 have key:=φj (step:=ψ11.l0) (fun n (_:Unit)=>(s,d,s.1.2,(s.1.2.length:Int),(n:Int))) s.1.2.length (fun n _=>if φ1e d s.2.2.2.1 (s.1.2.drop n)=true then .inl (s,d) else .inr false) (fun _ _=>True)
  (fun rec n a hn _ ih=>by
   rcases κ1 n s.1.2.length with h1 | h1
   ·have hw:=φS (show n+1<9223372036854775808 by omega)
    have hw2:w64 ((s.1.2.length:Int) - 1)=(s.1.2.length:Int) - 1:=φH (by omega) (by omega)
    have hft:=φ4X d (φ0 s.1.2[n]) h
    have ih:=ih () h1 trivial
    rw[dG h1]
    have hlast:(s.1.2.drop (n+1)).isEmpty=((n:Int)==(s.1.2.length:Int) - 1):=by
     by_cases c:n+1=s.1.2.length
     ·have c1:((n:Int)==(s.1.2.length:Int) - 1)=true:=by simp;omega
      rw[c1,c,List.drop_length];rfl
     ·have c1:((n:Int)==(s.1.2.length:Int) - 1)=false:=by simp;omega
      rw[c1]
      cases e:s.1.2.drop (n+1) with
      | nil=>rw[List.drop_eq_nil_iff] at e;omega
      | cons x r=>rfl
    simp only[φ1e,hlast,ψ11.l0,oL,h1,dT,cT,φJ,φN,φB h1,φ3D,φ4j d _ h,φAE (φ2 d (φ0 s.1.2[n])).1 (show (φ2 d (φ0 s.1.2[n])).1.length<1000000000 by omega),bS,hw2]
    unfold φ4f
    cases hb:(φ2 d (φ0 s.1.2[n])).2
    ·simp
    simp only[nZ,cF,tA]
    by_cases c1:(scan (φ2 d (φ0 s.1.2[n])).1).2=(φ2 d (φ0 s.1.2[n])).1.length
    rotate_left
    ·have d1:(((scan (φ2 d (φ0 s.1.2[n])).1).2:Int) != ((φ2 d (φ0 s.1.2[n])).1.length:Int))=true:=by simp;omega
     simp only[d1,cT,bS,φq,c1,dF];simp
    have d1:(((scan (φ2 d (φ0 s.1.2[n])).1).2:Int) != ((φ2 d (φ0 s.1.2[n])).1.length:Int))=false:=by simp;omega
    simp only[c1,bne_self_eq_false,cF,dT,tA]
    cases hz:((n:Int)==(s.1.2.length:Int) - 1)
    ·simp only[cF,bS,φf,hw,ih,nF,Bool.true_or,tA]
    ·by_cases c2:s.2.2.2.1=((φ2 d (φ0 s.1.2[n])).1.length:Int)
     ·have d2:(s.2.2.2.1 != ((φ2 d (φ0 s.1.2[n])).1.length:Int))=false:=by simpa using c2
      simp only[cT,d2,cF,bS,φf,hw,ih,nZ,κS,decide_eq_true c2,tA]
     ·have d2:(s.2.2.2.1 != ((φ2 d (φ0 s.1.2[n])).1.length:Int))=true:=by simpa using c2
      simp only[cT,d2,bS,φq,nZ,κS,decide_eq_false c2,κD,κ2,if_false]
   ·have:n=s.1.2.length:=by omega
    subst this
    simp[ψ11.l0,φ1e])
  (by omega) 0 () (κ4 _) trivial
 have key:lp ψ11.l0 (s,d,s.1.2,(s.1.2.length:Int),0)=_:=key
 rw[key,κC]
theorem φMu (s:φ7) (d:φ1) (h:dlim d) (hu:φI d.1<1000000000) (hl:s.2.1.length<1000000000):lp ψ11.l2 (s,d,s.2.1,(s.2.1.length:Int),0)=some (if s.2.1.all (φ24 d s.2.2.1)=true then .inl () else .inr false):=by
 refine φ4Q (step:=ψ11.l2) s.2.1 (φ24 d s.2.2.1) (fun n=>(s,d,s.2.1,(s.2.1.length:Int),(n:Int))) () (by omega) ?_ ?_
 ·intro rec n hn
  have hw:=φS (show n+1<9223372036854775808 by omega)
  have hft:=φ4X d (φ0 s.2.1[n].2.1) h
  simp only[ψ11.l2,oL,hn,dT,cT,φJ,φN,φB hn,φ3D,φ4j d _ h,φGt (φ2 d (φ0 s.2.1[n].2.1)).1 _ _ (show (φ2 d (φ0 s.2.1[n].2.1)).1.length<1000000000 by omega),bS,hw,φ24]
  obtain ⟨r,hr⟩:∃r,φ1K (φ2 d (φ0 s.2.1[n].2.1)).1 s.2.1[n].2.2.1 s.2.1[n].2.2.2.1=r:=⟨_,rfl⟩
  simp only[hr]
  rcases bE r.2 with h1 | h1<;>rcases bE (r.1.1==1) with h2 | h2<;>rcases bE (r.1.1==4) with h3 | h3<;>rcases bE (r.1.2.2.1==s.2.1[n].1) with h4 | h4<;>rcases bE (r.1.2.1==s.2.1[n].2.2.2.2) with h5 | h5<;>rcases bE (decide (s.2.1[n].2.2.2.2≥s.2.2.1)) with h6 | h6<;>simp only[bne,h1,h2,h3,h4,h5,h6,φf,φq,nZ,nF,cT,cF,bS,tA,κD,κM,Bool.and_false,Bool.or_true,Bool.or_false,Bool.true_or,κS,if_true,if_false,κ2,hw]
 ·intro rec
  simp[ψ11.l2]
theorem φOP (s:φ7) (d:φ1) (h:dlim d) (hu:φI d.1<1000000000) (hl:s.2.1.length<1000000000):lp ψ2o.l2 (s,d,0)=some (if s.2.1.all (φ24 d s.2.2.1)=true then .inl () else .inr false):=by
 refine φ4Q (step:=ψ2o.l2) s.2.1 (φ24 d s.2.2.1) (fun n=>(s,d,(n:Int))) () (by omega) ?_ ?_
 ·intro rec n hn
  have hw:=φS (show n+1<9223372036854775808 by omega)
  have hft:=φ4X d (φ0 s.2.1[n].2.1) h
  simp only[ψ2o.l2,oL,hn,dT,cT,φJ,φN,φB hn,φ4R,φ9C d _ h,φEL (φ2 d (φ0 s.2.1[n].2.1)).1 _ _ (show (φ2 d (φ0 s.2.1[n].2.1)).1.length<1000000000 by omega),bS,hw,φ24]
  obtain ⟨r,hr⟩:∃r,φ1K (φ2 d (φ0 s.2.1[n].2.1)).1 s.2.1[n].2.2.1 s.2.1[n].2.2.2.1=r:=⟨_,rfl⟩
  simp only[hr]
  rcases bE r.2 with h1 | h1<;>rcases bE (r.1.1==1) with h2 | h2<;>rcases bE (r.1.1==4) with h3 | h3<;>rcases bE (r.1.2.2.1==s.2.1[n].1) with h4 | h4<;>rcases bE (r.1.2.1==s.2.1[n].2.2.2.2) with h5 | h5<;>rcases bE (decide (s.2.1[n].2.2.2.2≥s.2.2.1)) with h6 | h6<;>simp only[bne,h1,h2,h3,h4,h5,h6,φf,φq,nZ,nF,cT,cF,bS,tA,κD,κM,Bool.and_false,Bool.or_true,Bool.or_false,Bool.true_or,κS,if_true,if_false,κ2,hw]
 ·intro rec
  simp[ψ2o.l2]
theorem φLI (s:φ7) (d:φ1) (h:dlim d) (hu:φI d.1<1000000000) (hl:s.1.2.length<1000000000):lp ψ2o.l0 (s,d,0)=some (if φ1e d s.2.2.2.1 s.1.2=true then .inl (s,d) else .inr false):=by
 have key:=φj (step:=ψ2o.l0) (fun n (_:Unit)=>(s,d,(n:Int))) s.1.2.length (fun n _=>if φ1e d s.2.2.2.1 (s.1.2.drop n)=true then .inl (s,d) else .inr false) (fun _ _=>True)
  (fun rec n a hn _ ih=>by
   rcases κ1 n s.1.2.length with h1 | h1
   ·have hw:=φS (show n+1<9223372036854775808 by omega)
    have hft:=φ4X d (φ0 s.1.2[n]) h
    have hsl:=(φ6c (φ2 d (φ0 s.1.2[n])).1).1
    have ih:=ih () h1 trivial
    rw[dG h1]
    have hlast:(s.1.2.drop (n+1)).isEmpty=(((n+1:Nat):Int)==(s.1.2.length:Int)):=by
     by_cases c:n+1=s.1.2.length
     ·have c1:(((n+1:Nat):Int)==(s.1.2.length:Int))=true:=by simp;omega
      rw[c1,c,List.drop_length];rfl
     ·have c1:(((n+1:Nat):Int)==(s.1.2.length:Int))=false:=by simp;omega
      rw[c1]
      cases e:s.1.2.drop (n+1) with
      | nil=>rw[List.drop_eq_nil_iff] at e;omega
      | cons x r=>rfl
    simp only[φ1e,hlast,ψ2o.l0,oL,h1,dT,cT,φJ,φN,φB h1,φ4R,φ9C d _ h,φEQ (φ2 d (φ0 s.1.2[n])).1 (show (φ2 d (φ0 s.1.2[n])).1.length<1000000000 by omega),bS,hw]
    unfold φ4f
    cases hb:(φ2 d (φ0 s.1.2[n])).2
    ·simp
    simp only[nZ,cF,tA]
    by_cases c1:(scan (φ2 d (φ0 s.1.2[n])).1).2=(φ2 d (φ0 s.1.2[n])).1.length
    rotate_left
    ·have d1:(scan (φ2 d (φ0 s.1.2[n])).1).2<(φ2 d (φ0 s.1.2[n])).1.length:=by omega
     simp only[d1,dT,cT,bS,φq,c1,dF];simp
    simp only[c1,Nat.lt_irrefl,dF,cF,dT,tA]
    cases hz:(((n+1:Nat):Int)==(s.1.2.length:Int))
    ·simp only[cF,bS,φf,hw,ih,nF,Bool.true_or,tA]
    ·by_cases c2:s.2.2.2.1=((φ2 d (φ0 s.1.2[n])).1.length:Int)
     ·have d2:(s.2.2.2.1 != ((φ2 d (φ0 s.1.2[n])).1.length:Int))=false:=by simpa using c2
      simp only[cT,d2,cF,bS,φf,hw,ih,nZ,κS,decide_eq_true c2,tA]
     ·have d2:(s.2.2.2.1 != ((φ2 d (φ0 s.1.2[n])).1.length:Int))=true:=by simpa using c2
      simp only[cT,d2,bS,φq,nZ,κS,decide_eq_false c2,κD,κ2,if_false]
   ·have:n=s.1.2.length:=by omega
    subst this
    simp[ψ2o.l0,φ1e])
  (by omega) 0 () (κ4 _) trivial
 have key:lp ψ2o.l0 (s,d,0)=_:=key
 rw[key,κC]
theorem φG2 (s:φ7) (d:φ1) (h:dlim d) (hu:φI d.1<1000000000) (h1:s.1.2.length<1000000000) (h2:s.2.1.length<1000000000):ψ11.f s d=some (φh s d):=by
 unfold ψ11.f φh
 rw[φ5g d h,φ9U s.1 (by omega),φBW s.2.1 (by omega),φ1c,φOK s d h hu h1]
 simp only[bS]
 cases φ3 d<;>simp only[nZ,nF,cT,cF,tA,κD]
 cases φm s.1<;>simp only[nZ,nF,cT,cF,tA,κD]
 cases φ1v s.2.1<;>simp only[nZ,nF,cT,cF,tA,κD]
 cases decide (1≤s.2.2.1∧s.2.2.1≤1000001)<;>simp only[nZ,nF,cT,cF,tA,κD]
 cases φ1e d s.2.2.2.1 s.1.2<;>simp only[if_true,if_false,κ2,φf,φq,tA,κD]
 rw[φMu s d h hu h2,bS]
 cases s.2.1.all (φ24 d s.2.2.1)<;>simp only[if_true,if_false,κ2,φf,φq]
theorem φJD (s:φ7) (d:φ1) (h:dlim d) (hu:φI d.1<1000000000) (h1:s.1.2.length<1000000000) (h2:s.2.1.length<1000000000):ψ2o.f s d=some (φh s d):=by
 unfold ψ2o.f φh
 rw[φ8p d h,φ8G s.1 (by omega),φG1 s.2.1 (by omega),φ2U,φLI s d h hu h1]
 simp only[bS]
 cases φ3 d<;>simp only[nZ,nF,cT,cF,tA,κD]
 cases φm s.1<;>simp only[nZ,nF,cT,cF,tA,κD]
 cases φ1v s.2.1<;>simp only[nZ,nF,cT,cF,tA,κD]
 cases decide (1≤s.2.2.1∧s.2.2.1≤1000001)<;>simp only[nZ,nF,cT,cF,tA,κD]
 cases φ1e d s.2.2.2.1 s.1.2<;>simp only[if_true,if_false,κ2,φf,φq,tA,κD]
 rw[φOP s d h hu h2,bS]
 cases s.2.1.all (φ24 d s.2.2.1)<;>simp only[if_true,if_false,κ2,φf,φq]
theorem φHn:∀(l:List φ4) (p:List UInt8),(∀x∈l,Op.bytesLess p x.1=true)→srt l→φ3U (some p) l=true
 | [],_,_,_=>rfl
 | f::l,p,h,hs=>by
  simp only[φ3U,h f κ0,tA]
  have hs2:=κY.1 hs
  exact φHn l f.1 hs2.1 hs2.2
theorem φLh (l:List φ4) (hs:srt l):φ3U none l=true:=by
 cases l with
 | nil=>rfl
 | cons f l=>
  have hs2:=κY.1 hs
  exact φHn l f.1 hs2.1 hs2.2
def okF (cap:Int) (l:List φ4):Prop:=l.length≤130∧(φI l:Int)≤cap∧(∀f∈l,φ36 f=true)∧srt l
theorem φ3W (d:φ1):φ3 d=true↔(0≤d.2.1∧d.2.1≤100000)∧(-1≤d.2.2.1∧d.2.2.1≤100000)∧okF d.2.1 d.1:=by
 unfold φ3 okF φ5Z
 simp only[bA,decide_eq_true_eq,κT]
 constructor
 ·rintro ⟨h1,h2,h3,h4,h5,h6⟩
  exact ⟨h2,h3,h1,h4,h5,φHo _ h6⟩
 ·rintro ⟨h2,h3,h1,h4,h5,h6⟩
  exact ⟨h1,h2,h3,h4,h5,φLh _ h6⟩
theorem φJx {d:φ1} (h:φ3 d=true):φ3 (tick d)=true:=by
 rw[φ3W] at h ⊢
 obtain ⟨h1,h2,h3⟩:=h
 rw[φ9L,φ1Y]
 refine ⟨h1,?_,h3⟩
 unfold tick;split
 ·exact ⟨by show -1≤d.2.2.1 - 1;omega,by show d.2.2.1 - 1≤100000;omega⟩
 ·exact h2
theorem φ5w {d:φ1} {act:List φ4→Int×List φ4} (h:φ3 d=true) (ha:okF d.2.1 d.1→okF d.2.1 (act d.1).2):φ3 (φV d act).1=true:=by
 have ht:=φJx h
 rw[φ3W] at h ht
 unfold φV
 split
 ·rename_i k;rw[(φ3W d).2 h] at k;exact absurd k (by simp)
 ·split
  ·exact (φ3W _).2 h
  ·refine (φ3W _).2 ⟨?_,ht.2.1,?_⟩
   ·show 0≤(tick d).2.1∧(tick d).2.1≤100000
    exact ht.1
   ·show okF (tick d).2.1 (act d.1).2
    rw[φ9L];exact ha h.2.2
theorem φFm {cap:Int} {l m:List φ4} (h:okF cap l) (hs:m.Sublist l):okF cap m:=by
 have:=φ65 (fun f:φ4=>f.2.1.length) hs
 have:=hs.length_le
 have h2:=h.2.1
 refine ⟨by have:=h.1;omega,?_,fun f hf=>h.2.2.1 f (hs.subset hf),h.2.2.2.sublist hs⟩
 unfold φI at *;omega
theorem φAS (l:List φ4) (f:φ4):φI (insB l f)=φI l+f.2.1.length:=by
 unfold φI
 induction l with
 | nil=>simp[insB,sumN]
 | cons x l ih=>
  rw[φ6O]
  split
  ·simp only[sumN,ih];omega
  ·simp only[sumN];omega
theorem φA6 (l:List φ4) (i:Nat) (h:i<l.length):φI (φc l i)+l[i].2.1.length=φI l:=by
 unfold φI φc
 induction l generalizing i with
 | nil=>simp at h
 | cons x l ih=>
  cases i with
  | zero=>simp only[List.take_zero,List.drop_succ_cons,κC,κ9,List.getElem_cons_zero,sumN];omega
  | succ i=>
   have:=ih i (by simpa using h)
   simp only[List.take_succ_cons,List.drop_succ_cons,κF,sumN,List.getElem_cons_succ] at *
   omega
theorem φBK (l:List φ4) (i:Nat) (f:φ4) (h:i<l.length):φI (l.set i f)+l[i].2.1.length=φI l+f.2.1.length:=by
 unfold φI
 induction l generalizing i with
 | nil=>simp at h
 | cons x l ih=>
  cases i with
  | zero=>simp only[List.set_cons_zero,List.getElem_cons_zero,sumN];omega
  | succ i=>
   have:=ih i (by simpa using h)
   simp only[List.set_cons_succ,sumN,List.getElem_cons_succ] at *
   omega
theorem φMv {α:Type} {l:List (List UInt8×α)} (h:srt l) (i:Nat) (hi:i<l.length) (f:List UInt8×α) (hf:f.1=l[i].1):srt (l.set i f):=by
 unfold srt at *
 have e:(l.set i f).map (·.1)=l.map (·.1):=by
  apply List.ext_getElem
  ·simp
  ·intro n h1 h2
   simp only[List.getElem_map,List.getElem_set]
   split
   ·rename_i c;subst c;exact hf
   ·rfl
 have h2:(l.map (·.1)).Pairwise (fun a b=>Op.bytesLess a b=true):=List.pairwise_map.2 h
 rw[←e] at h2
 exact List.pairwise_map.1 h2
theorem φAd {cap:Int} {l:List φ4} (h:okF cap l) (i:Nat) (hi:i<l.length) (f:φ4) (hn:f.1=l[i].1) (hf:φ36 f=true) (hu:(φI l:Int)+f.2.1.length - l[i].2.1.length≤cap):okF cap (l.set i f):=by
 have:=φBK l i f hi
 refine ⟨by rw[List.length_set];exact h.1,by omega,fun g hg=>?_,φMv h.2.2.2 i hi f hn⟩
 rcases κd hg with hg | e
 ·exact h.2.2.1 g hg
 ·rw[e];exact hf
theorem φGi {cap:Int} {l:List φ4} (h:okF cap l) (f:φ4) (h1:l.length<130) (hne:∀x∈l,x.1≠f.1) (hf:φ36 f=true) (hu:(φI l:Int)+f.2.1.length≤cap):okF cap (insB l f):=by
 refine ⟨by rw[φ60];omega,by rw[φAS];omega,fun g hg=>?_,φ7w f l h.2.2.2 hne⟩
 rcases (φ3F g f l).1 hg with e | hg
 ·rw[e];exact hf
 ·exact h.2.2.1 g hg
theorem φ8L {d:φ1} (h:φ3 d=true) (n:List UInt8):φ3 (φ2x n d).1=true:=
 φ5w h fun k=>by
  unfold φ28;split
  ·exact φFm k (φ5Y _ _)
  ·exact k
theorem φ2O {d:φ1} (h:φ3 d=true) (n:List UInt8):φ3 (φC n d).1=true:=by
 unfold φC;split
 ·exact φ8L h n
 ·exact h
theorem φ2t {d:φ1} (h:φ3 d=true) (n:List UInt8):φ3 (φX n d).1=true:=
 φ5w h fun k=>by
  unfold φ2b;split
  ·exact k
  ·rename_i k1
   split
   ·exact k
   ·rename_i k2
    split
    ·exact k
    ·rename_i k3
     rcases φv d.1 n with ⟨e,hno⟩ | ⟨i,hi,e,_⟩
     ·refine φGi k _ (by omega) hno ?_ (by have:=k.2.1;simp;exact this)
      unfold φ36;simp at k1 ⊢;exact k1
     ·omega
theorem φ3M {d:φ1} (h:φ3 d=true) (n t:List UInt8):φ3 (φL n t d).1=true:=
 φ5w h fun k=>by
  unfold φ2Q
  rcases φv d.1 n with ⟨e,_⟩ | ⟨i,hi,e,_⟩
  ·rw[φ1E e];exact k
  ·rw[φ16 e]
   simp only
   split
   ·exact k
   ·rename_i k1
    rw[φB hi]
    refine φAd k i hi _ rfl ?_ ?_
    ·have:=k.2.2.1 _ (gM hi)
     unfold φ36 at *
     simp only[bA,decide_eq_true_eq,lA] at *
     exact ⟨this.1,by omega,by omega⟩
    ·simp only[lA];omega
theorem φ3I {d:φ1} (h:φ3 d=true) (n:List UInt8):φ3 (φG n d).1=true:=
 φ5w h fun k=>by
  unfold φ27
  rcases φv d.1 n with ⟨e,_⟩ | ⟨i,hi,e,_⟩
  ·rw[φ1E e];exact k
  ·rw[φ16 e]
   simp only
   rw[φB hi]
   refine φAd k i hi _ rfl ?_ ?_
   ·have:=k.2.2.1 _ (gM hi)
    unfold φ36 at *
    simp only[bA,decide_eq_true_eq] at *
    exact ⟨this.1,by omega,by omega⟩
   ·have:=k.2.1;simp only;omega
theorem φ6F {d:φ1} (h:φ3 d=true) (n:List UInt8) (z:Int):φ3 (φV d (φ3v n z)).1=true:=
 φ5w h fun k=>by
  unfold φ3v
  rcases φv d.1 n with ⟨e,_⟩ | ⟨i,hi,e,_⟩
  ·rw[φ1E e];exact k
  ·rw[φ16 e]
   simp only
   rw[φB hi]
   split
   ·rename_i k1
    refine φAd k i hi _ rfl ?_ ?_
    ·have:=k.2.2.1 _ (gM hi)
     unfold φ36 at *
     simp only[bA,decide_eq_true_eq,lT] at *
     exact ⟨this.1,by omega,by omega⟩
    ·have:=k.2.1
     simp only[lT];omega
   ·exact k
theorem φ8A {d:φ1} (h:φ3 d=true) (a b:List UInt8):φ3 (φ2W a b d).1=true:=
 φ5w h fun k=>by
  unfold φ2E
  split
  ·exact k
  ·rename_i k0
   rcases φv d.1 a with ⟨e,_⟩ | ⟨i,hi,e,_⟩
   ·rw[φ1E e];exact k
   ·rw[φ16 e]
    simp only
    split
    ·exact k
    ·rw[φB hi]
     have hs:(φ1b (φc d.1 i) b).Sublist d.1:=(φ9e _ _).trans (φ5Y _ _)
     have h2:=φA6 d.1 i hi
     have h3:=φ6a hi
     have h4:=φAN (φc d.1 i) b
     have h5:φI (φ1b (φc d.1 i) b)≤φI (φc d.1 i):=φ65 (fun f:φ4=>f.2.1.length) (φ9e _ _)
     have k1:=k.1
     have k2:=k.2.1
     refine φGi (φFm k hs) _ (by omega) (φDy (k.2.2.2.sublist (φ5Y d.1 i))) ?_ (by simp only;omega)
     have:=k.2.2.1 _ (gM hi)
     unfold φ36 at *
     simp only[bA,decide_eq_true_eq,Bool.not_eq_false] at *
     exact ⟨k0,this.2⟩
theorem φ1q {w:φE} {op:φ1→φ1×Int} (h:φ3 w.1=true) (ho:φ3 w.1=true→φ3 (op w.1).1=true):φ3 (φ9 op w).1=true:=by
 unfold φ9;split
 ·exact ho h
 ·exact h
theorem φ9b {w:φE} {op:φ1→φ1×Int} (h:φ3 w.1=true) (ho:φ3 w.1=true→φ3 (op w.1).1=true):φ3 (φ1B op w).1=true:=by
 unfold φ1B;split
 ·exact ho h
 ·exact h
theorem φ4k {w:φE} (h:φ3 w.1=true) (n t:List UInt8):φ3 (φ1R n t w).1=true:=
 φ1q (op:=φG n) (φ1q (op:=φL n t) (φ1q (op:=φX n) (φ1q (op:=φC n) h fun k=>φ2O k n) fun k=>φ2t k n) fun k=>φ3M k n t) fun k=>φ3I k n
theorem φ3n {w:φE} (h:φ3 w.1=true) (v:φQ):φ3 (sPut v w).1=true:=
 φ1q (op:=φ2W _ _) (φ4k h _ _) fun k=>φ8A k _ _
theorem φ13 {d:φ1} (h:φ3 d=true):dl 100001 d:=by
 rw[φ3W] at h
 obtain ⟨h1,h2,h3,h4,h5,h6⟩:=h
 refine ⟨by omega,by omega,fun f hf=>?_⟩
 have:=h5 f hf
 unfold φ36 at this
 simp only[bA] at this
 have:=φKg this.1
 omega
theorem φKe {a:Nat} (h:a<1000000000001):(a+1) * 16≤140737488355328:=by omega
theorem φG6 (l:List φD) (hl:l.length<1000000000):ψ9.f l=some (l.map (·.1)):=by
 have key:=φj (step:=ψ9.l0) (fun n (acc:List (List UInt8))=>(acc,l,(l.length:Int),(n:Int))) l.length (fun n acc=>acc++(l.drop n).map (·.1)) (fun n acc=>acc.length=n)
  (fun rec n acc hn ha ih=>by
   rcases κ1 n l.length with h | h
   ·have hw:=φS (show n+1<9223372036854775808 by omega)
    have hb:(acc.length+([l[n].1]:List (List UInt8)).length) * 16≤140737488355328:=φKe (by omega)
    have ih:=ih (acc++[l[n].1]) h (by rw[lA,ha];rfl)
    simp only[ψ9.l0,oL,h,dT,cT,φJ,φN,φB h,hb,hw,ih]
    rw[dG h,κ6,aA];rfl
   ·have:n=l.length:=by omega
    subst this
    simp[ψ9.l0])
  (by omega) 0 [] (κ4 _) rfl
 have key:lp ψ9.l0 ([],l,(l.length:Int),0)=_:=key
 unfold ψ9.f
 rw[key,bS]
 simp
noncomputable def φ1Z (s:φ7) (d:φ1):List φD→List φZ→List φZ×Int
 | [],acc=>(acc,0)
 | e::r,acc=>if (getP s d e.1).2≠0 then ([],(getP s d e.1).2) else φ1Z s d r (acc++[(getP s d e.1).1])
noncomputable def φW (s:φ7) (d:φ1):List φZ×Int:=φ1Z s d s.2.1 []
theorem φGL (s:φ7) (d:φ1):∀(l:List φD) (acc:List φZ),(φ1Z s d l acc).1.length≤acc.length+l.length
 | [],acc=>by simp[φ1Z]
 | e::r,acc=>by
  unfold φ1Z;split
  ·simp
  ·have:=φGL s d r (acc++[(getP s d e.1).1])
   simp only[lA,lC,lN] at *;omega
theorem φ8H (s:φ7) (d:φ1):(φW s d).1.length≤s.2.1.length:=by
 have:=φGL s d s.2.1 []
 unfold φW
 simpa using this
theorem φLB (s:φ7) (d:φ1) (h:dlim d) (hu:φI d.1<1000000000) (hs:s.2.1.length<1000000000):ψ2P.f s d=some (φW s d):=by
 have key:=φj (step:=ψ2P.l0) (fun n (acc:List φZ)=>(s,d,acc,(n:Int))) s.2.1.length (fun n acc=>if (φ1Z s d (s.2.1.drop n) acc).2=0 then .inl (φ1Z s d (s.2.1.drop n) acc).1 else .inr ([],(φ1Z s d (s.2.1.drop n) acc).2)) (fun n acc=>acc.length=n)
  (fun rec n acc hn ha ih=>by
   rcases κ1 n s.2.1.length with h1 | h1
   ·have hw:=φS (show n+1<9223372036854775808 by omega)
    rw[dG h1]
    simp only[ψ2P.l0,oL,h1,dT,cT,φJ,φN,φB h1,hw,φKw s d _ h hu (show s.2.1.length<2 ^ 62 by omega),bS,φ1Z]
    by_cases c:(getP s d (s.2.1[n]).1).2=0
    ·have c1:((getP s d (s.2.1[n]).1).2 != 0)=false:=by simpa using c
     have hb:(acc.length+([(getP s d (s.2.1[n]).1).1]:List φZ).length) * 40≤140737488355328:=φ5F (by omega)
     have ih:=ih (acc++[(getP s d (s.2.1[n]).1).1]) h1 (by rw[lA,ha];rfl)
     simp only[c1,cF,hb,dT,cT,ih,c,ne_eq,not_true_eq_false,if_false,bne_self_eq_false]
    ·have c1:((getP s d (s.2.1[n]).1).2 != 0)=true:=by simpa using c
     simp only[c1,cT,c,ne_eq,not_false_eq_true,if_true,if_false]
   ·have:n=s.2.1.length:=by omega
    subst this
    simp[ψ2P.l0,φ1Z])
  (by omega) 0 [] (κ4 _) rfl
 have key:lp ψ2P.l0 (s,d,[],0)=_:=key
 unfold ψ2P.f φW
 rw[key,bS,κC]
 have hz:∀(l:List φD) (acc:List φZ),(φ1Z s d l acc).2≠0→(φ1Z s d l acc).1=[]:=by
  intro l
  induction l with
  | nil=>intro acc hh;simp[φ1Z] at hh
  | cons e r ih=>
   intro acc hh
   unfold φ1Z at hh ⊢
   split
   ·rfl
   ·rename_i c;rw[if_neg c] at hh;exact ih _ hh
 have hz':=hz s.2.1 []
 generalize φ1Z s d s.2.1 []=R at hz' ⊢
 obtain ⟨L,c⟩:=R
 by_cases e:c=0
 ·subst e;rfl
 ·have:=hz' e
  simp only at this
  subst this
  simp[e]
theorem φKm (s:φ7) (d:φ1) (h:dlim d) (hu:φI d.1<1000000000) (hs:s.2.1.length<1000000000):ψG.f s d=some (φW s d):=by
 have hkl:(s.2.1.map (·.1)).length=s.2.1.length:=lM _
 have key:=φj (step:=ψG.l0) (fun n (acc:List φZ)=>(s,d,acc,s.2.1.map (·.1),((s.2.1.map (·.1)).length:Int),(n:Int))) s.2.1.length (fun n acc=>if (φ1Z s d (s.2.1.drop n) acc).2=0 then .inl (φ1Z s d (s.2.1.drop n) acc).1 else .inr ([],(φ1Z s d (s.2.1.drop n) acc).2)) (fun n acc=>acc.length=n)
  (fun rec n acc hn ha ih=>by
   rcases κ1 n s.2.1.length with h1 | h1
   ·have hw:=φS (show n+1<9223372036854775808 by omega)
    have h2:n<(s.2.1.map (·.1)).length:=by rw[hkl];exact h1
    rw[dG h1]
    simp only[ψG.l0,oL,h2,dT,cT,φJ,φN,φB h2,List.getElem_map,hw,φE0 s d _ h hu (show s.2.1.length<2 ^ 62 by omega),bS,φ1Z]
    by_cases c:(getP s d (s.2.1[n]).1).2=0
    ·have c1:((getP s d (s.2.1[n]).1).2 != 0)=false:=by simpa using c
     have hb:(acc.length+([(getP s d (s.2.1[n]).1).1]:List φZ).length) * 40≤140737488355328:=φ5F (by omega)
     have ih:=ih (acc++[(getP s d (s.2.1[n]).1).1]) h1 (by rw[lA,ha];rfl)
     simp only[c1,cF,hb,dT,cT,ih,c,ne_eq,not_true_eq_false,if_false,bne_self_eq_false]
    ·have c1:((getP s d (s.2.1[n]).1).2 != 0)=true:=by simpa using c
     simp only[c1,cT,c,ne_eq,not_false_eq_true,if_true,if_false]
   ·have:n=s.2.1.length:=by omega
    subst this
    simp[ψG.l0,φ1Z])
  (by omega) 0 [] (κ4 _) rfl
 have key:lp ψG.l0 (s,d,[],s.2.1.map (·.1),((s.2.1.map (·.1)).length:Int),0)=_:=key
 unfold ψG.f φW
 rw[φG6 _ hs,bS,key,bS,κC]
 have hz:∀(l:List φD) (acc:List φZ),(φ1Z s d l acc).2≠0→(φ1Z s d l acc).1=[]:=by
  intro l
  induction l with
  | nil=>intro acc hh;simp[φ1Z] at hh
  | cons e r ih=>
   intro acc hh
   unfold φ1Z at hh ⊢
   split
   ·rfl
   ·rename_i c;rw[if_neg c] at hh;exact ih _ hh
 have hz':=hz s.2.1 []
 generalize φ1Z s d s.2.1 []=R at hz' ⊢
 obtain ⟨L,c⟩:=R
 by_cases e:c=0
 ·subst e;rfl
 ·have:=hz' e
  simp only at this
  subst this
  simp[e]
theorem φFr {hi hi':Int} (x:Int) (h1:hi≤hi') (h2:1≤x∧x≤hi'):∀(l:List Int) (p:Option Int),φ1f hi p l=true→(∀y∈l,y<x)→(∀q,p=some q→q<x)→φ1f hi' p (l++[x])=true
 | [],p,_,_,hp=>by
  cases p with
  | none=>simp[φ1f,h2]
  | some q=>simp[φ1f,h2,hp q rfl]
 | y::l,p,h,hl,_=>by
  simp only[φ1f,bA,decide_eq_true_eq] at h
  have ih:=φFr x h1 h2 l (some y) h.2.2 (fun z hz=>hl z (mC _ hz)) (fun q hq=>by injection hq with hq;subst hq;exact hl y κ0)
  simp only[κF,φ1f,bA,decide_eq_true_eq]
  exact ⟨⟨h.1.1,by omega⟩,h.2.1,ih⟩
theorem φ3r {hi:Int}:∀(l:List Int) (p:Option Int),φ1f hi p l=true→∀y∈l,1≤y∧y≤hi
 | [],_,_,y,hy=>by simp at hy
 | x::l,p,h,y,hy=>by
  simp only[φ1f,bA,decide_eq_true_eq] at h
  rcases mc.1 hy with e | hy
  ·subst e;exact h.1
  ·exact φ3r l (some x) h.2.2 y hy
theorem φ12 (v:φQ):φm v=true↔φ1f (w64 (v.1 - 1)) none v.2=true∧(1≤v.1∧v.1≤100000)∧1≤v.2.length∧v.2.length≤60:=by
 unfold φm
 simp only[bA,decide_eq_true_eq]
 constructor
 ·rintro ⟨h1,h2,h3⟩;exact ⟨h1,h2,by omega,by omega⟩
 ·rintro ⟨h1,h2,h3⟩;exact ⟨h1,h2,by omega,by omega⟩
theorem φFU {v:φQ} (h:φm v=true) (h1:v.2.length<60) (h2:v.1<100000):φm (v.1+1,v.2++[v.1])=true:=by
 rw[φ12] at h ⊢
 obtain ⟨k1,k2,k3⟩:=h
 rw[φH (by omega) (by omega)] at k1
 have hm:=φ3r _ _ k1
 refine ⟨?_,by simp only;omega,by simp only[lA,lC,lN];omega⟩
 simp only
 rw[φH (by omega) (by omega)]
 exact φFr v.1 (by omega) (by omega) v.2 none k1 (fun y hy=>by have:=hm y hy;omega) (fun q hq=>by cases hq)
def φl (names:List (List UInt8)) (w:φE):φE:=names.foldl (fun w n=>φ9 (φC n) w) w
def φ4x (names:List (List UInt8)) (w:φE):φE:=names.foldl (fun w n=>φ1B (φC n) w) w
theorem φBQ (names:List (List UInt8)):∀w:φE,φ4x names (φA w)=φA (φl names w):=by
 induction names with
 | nil=>intro w;rfl
 | cons n l ih=>
  intro w
  show φ4x l (φ1B (φC n) (φA w))=φA (φl l (φ9 (φC n) w))
  rw[φ2q,ih]
theorem φFc (names:List (List UInt8)) {d:φ1} {c:Int} (h:c≠0):φl names (d,c)=(d,c):=by
 induction names with
 | nil=>rfl
 | cons n l ih=>show φl l (φ9 (φC n) (d,c))=_;rw[φ2p h,ih]
theorem φ4a (names:List (List UInt8)):∀{w:φE},φ3 w.1=true→φ3 (φl names w).1=true:=by
 induction names with
 | nil=>intro w h;exact h
 | cons n l ih=>intro w h;exact ih (φ1q (op:=φC n) h fun k=>φ2O k n)
def φ1h (names:List (List UInt8)) (w:φE):φE:=
 if w.2=2 then (if (φA (φl names (w.1,0))).2=0 then ((φA (φl names (w.1,0))).1,2) else φA (φl names (w.1,0))) else w
theorem φHZ (names:List (List UInt8)) {w:φE} (h:φ3 w.1=true):φ3 (φ1h names w).1=true:=by
 have:=φ4a names (w:=(w.1,0)) h
 unfold φ1h;split
 ·split
  ·exact this
  ·exact this
 ·exact h
theorem φDi (w:φE) (names:List (List UInt8)) (h:φ3 w.1=true) (hn:names.length<1000):ψ1x.f w names=some (φ1h names w):=by
 unfold ψ1x.f φ1h
 by_cases c:w.2=2
 rotate_left
 ·have c1:(w.2 != 2)=true:=by simpa using c
  simp[c,c1]
 have key:=φ3g (step:=ψ1x.l0) names (fun (w:φE) n=>φ1B (φC n) w) (fun n (a:φE)=>((([],w.1.2),w.2),a,names,(names.length:Int),(n:Int))) (fun a=>((([],w.1.2),w.2),a)) (fun _ a=>φ3 a.1=true) (by omega)
  (fun rec n a h1 ha=>by
   have hw:=φS (show n+1<9223372036854775808 by omega)
   simp only[ψ1x.l0,oL,h1,dT,cT,φJ,φN,φB h1,φ5M a names[n] (φ13 ha) (by omega),bS,hw])
  (fun n a h1 ha=>φ9b (op:=φC names[n]) ha fun k=>φ2O k _)
  (fun rec a ha=>by simp[ψ1x.l0])
  (w.1,0) h
 have key:lp ψ1x.l0 ((([],w.1.2),w.2),(w.1,0),names,(names.length:Int),0)=some ((([],w.1.2),w.2),φ4x names (w.1,0)):=key
 have e:φ4x names (w.1,0)=φA (φl names (w.1,0)):=φBQ names (w.1,0)
 have c1:(w.2 != 2)=false:=by simpa using c
 rw[c1,cF,key,bS,e]
 generalize φA (φl names (w.1,0))=r
 obtain ⟨x,k⟩:=r
 by_cases c2:k=0
 ·subst c2;simp[c]
 ·have c3:(k != 0)=true:=by simpa using c2
  simp[c,c2,c3]
theorem φAc (d:φ1) (names:List (List UInt8)) (h:φ3 d=true) (hn:names.length<1000):ψ2y.f d names=some (φl names (d,0)):=by
 have key:=φj (step:=ψ2y.l0) (fun n (a:φ1)=>(names,a,([],0,0,false),(n:Int))) names.length (fun n a=>if (φl (names.drop n) (a,0)).2=0 then .inl ((φl (names.drop n) (a,0)).1,([],0,0,false)) else .inr (φl (names.drop n) (a,0))) (fun _ a=>φ3 a=true)
  (fun rec n a hn' ha ih=>by
   rcases κ1 n names.length with h1 | h1
   ·have hw:=φS (show n+1<9223372036854775808 by omega)
    have hd:=φ1d (φ13 ha) (by omega)
    rw[dG h1]
    have es:φl (names[n]::names.drop (n+1)) (a,0)=φl (names.drop (n+1)) (φC names[n] a):=by
     show φl _ (φ9 (φC names[n]) (a,0))=_;rw[φ2R]
    simp only[es,ψ2y.l0,oL,h1,dT,cT,φJ,φN,φB h1,φ4m a names[n] (by have:=hd.1;omega),bS,hw]
    by_cases c2:φ1n a.1 names[n]≥0
    ·have c3:¬φ1n a.1 names[n]<0:=by omega
     have e:φC names[n] a=φ2x names[n] a:=by unfold φC;simp[c2]
     have er:ψ2h.f a names[n]=some (φ2x names[n] a):=φGm a names[n] hd
     have hk:=φ8L ha names[n]
     rw[e]
     simp only[c3,dF,cF,er,bS]
     generalize φ2x names[n] a=r at *
     obtain ⟨x,c⟩:=r
     by_cases c4:c=0
     ·subst c4
      simp only[bne_self_eq_false,cF,bS,φf,hw,ih x h1 hk]
     ·have c5:(c != 0)=true:=by simpa using c4
      simp only[c5,cT,bS,φq,φFc _ c4,c4,if_false]
    ·have c3:φ1n a.1 names[n]<0:=by omega
     have e:φC names[n] a=(a,0):=by unfold φC;simp[c2]
     rw[e]
     simp only[c3,dT,cT,bS,φf,hw,ih a h1 ha]
   ·have:n=names.length:=by omega
    subst this
    simp[ψ2y.l0,φl])
  (by omega) 0 d (κ4 _) h
 have key:lp ψ2y.l0 (names,d,([],0,0,false),0)=_:=key
 unfold ψ2y.f
 rw[key,bS,κC]
 generalize φl names (d,0)=r
 obtain ⟨x,c⟩:=r
 by_cases c4:c=0
 ·subst c4;rfl
 ·simp only[c4,if_false,φq]
def φM (l:List Int):Int:=l.getD (l.length - 1) 0
def actN (s:φ7):List UInt8:=φ0 (φM s.1.2)
theorem φAv {l:List Int} (h:1≤l.length) (hl:l.length<2 ^ 62):w64 ((l.length:Int) - 1)=((l.length - 1:Nat):Int)∧inB ((l.length - 1:Nat):Int) l.length=true∧rdA 0 l ((l.length - 1:Nat):Int)=φM l:=by
 refine ⟨by rw[φH (by omega) (by omega)];omega,?_,?_⟩
 ·rw[φJ];simp;omega
 ·rw[φN];rfl
theorem φAo (s:φ7) (h:1≤s.1.2.length) (hl:s.1.2.length<2 ^ 62):ψ12.f s=some (actN s,s):=by
 obtain ⟨e1,e2,e3⟩:=φAv h hl
 unfold ψ12.f actN
 simp only[e1,e2,e3,cT,φ3D,bS]
theorem lim8 {a:Nat} (h:a<1000000000001):(a+1) * 8≤140737488355328:=by omega
theorem φ9s {a:Nat} (h:a<1000000000001):(0+a) * 8≤140737488355328:=by omega
theorem φGa {a:Nat} (h:a<1000000000001):(0+a) * 48≤140737488355328:=by omega
theorem φFp (v:φQ) (h:v.2.length<1000000000):ψ1L.f v=some v:=by
 unfold ψ1L.f
 have:(([]:List Int).length+v.2.length) * 8≤140737488355328:=φ9s (by omega)
 simp only[this,dT,cT,κ9]
theorem φAP (v:List φD) (h:v.length<1000000000):ψ1I.f v=some v:=by
 unfold ψ1I.f
 have:(([]:List φD).length+v.length) * 48≤140737488355328:=φGa (by omega)
 simp only[this,dT,cT,κ9]
theorem φB0 (s:φ7) (h1:s.1.2.length<1000000000) (h2:s.2.1.length<1000000000):ψ1N.f s=some s:=by
 unfold ψ1N.f
 rw[φFp _ h1,bS,φAP _ h2];rfl
theorem φMe (s:φ7) (h1:s.1.2.length<1000000000) (h2:s.2.1.length<1000000000):ψ2x.f s=some s:=by
 unfold ψ2x.f
 have k1:(([]:List Int).length+s.1.2.length) * 8≤140737488355328:=φ9s (by omega)
 have k2:(([]:List φD).length+s.2.1.length) * 48≤140737488355328:=φGa (by omega)
 simp only[k1,k2,dT,cT,κ9]
def rotP (s:φ7) (d:φ1):φ7×φ1×Int:=
 if 60≤s.1.2.length∨100000≤s.1.1 then (s,d,5) else
 if (φG (actN s) d).2≠0 then (s,(φG (actN s) d).1,told (φG (actN s) d).2) else
 let w2:=φ9 (φX (φ0 s.1.1)) (φC (φ0 s.1.1) (φG (actN s) d).1)
 if w2.2≠0 then (((s.1.1+1,s.1.2),s.2),w2.1,told w2.2) else
 let w3:=φA (sPut (s.1.1+1,s.1.2++[s.1.1]) (w2.1,0))
 if w3.2≠0 then (((s.1.1+1,s.1.2),s.2),φ1h [[116,101,109,112],φ0 s.1.1] w3) else
 (((s.1.1+1,s.1.2++[s.1.1]),s.2.1,s.2.2.1,0,s.2.2.2.2),w3.1,0)
theorem φ6Z (c:Int):(told c != 0)=(c != 0):=by
 by_cases h:c=0
 ·subst h;rfl
 ·have h2:told c≠0:=fun e=>h ((φ1F c).1 e)
  rw[show (told c != 0)=true by simpa using h2,show (c != 0)=true by simpa using h]
theorem φJo (s:φ7) (d:φ1) (h:φ3 d=true) (hv:φm s.1=true):ψ16.f s (d,0)=some (rotP s d):=by
 obtain ⟨k1,k2,k3,k4⟩:=(φ12 s.1).1 hv
 unfold ψ16.f rotP
 by_cases c1:60≤s.1.2.length
 ·have d1:(s.1.2.length:Int)≥60:=by omega
  simp[c1,d1]
 have d1:¬(s.1.2.length:Int)≥60:=by omega
 by_cases c2:100000≤s.1.1
 ·have d2:s.1.1≥100000:=c2
  simp[c1,c2,d1,d2]
 have d2:¬s.1.1≥100000:=c2
 have hs:=φ3I h (actN s)
 have hg:=φ2O hs (φ0 s.1.1)
 have hc:φ3 (φ9 (φX (φ0 s.1.1)) (φC (φ0 s.1.1) (φG (actN s) d).1)).1=true:=φ1q (op:=φX _) hg fun k=>φ2t k _
 have hn:=φ4J s.1.1
 simp only[c1,c2,d1,d2,dF,cF,or_self,if_false,φAo s k3 (by omega),bS,φ7h (d,0) (actN s) (φ13 h) (by omega)]
 rw[show φ1B (φG (actN s)) (d,0)=φA (φG (actN s) d) by unfold φ1B;simp;rfl]
 generalize φG (actN s) d=r1 at *
 obtain ⟨x1,q1⟩:=r1
 show (bif told q1 != 0 then _ else _)=_
 rw[φ6Z]
 by_cases c3:q1=0
 rotate_left
 ·have d3:(q1 != 0)=true:=by simpa using c3
  simp only[d3,cT,c3,ne_eq,not_false_eq_true,if_true];rfl
 subst c3
 have e2:ψ1w.f (φA (x1,0)) (φ0 s.1.1)=some (φA (φ9 (φX (φ0 s.1.1)) (φC (φ0 s.1.1) x1))):=by
  unfold ψ1w.f
  have g1:φ3 (φ1B (φC (φ0 s.1.1)) (φA (x1,0))).1=true:=φ9b (op:=φC _) hs fun k=>φ2O k _
  rw[φ5M (φA (x1,0)) _ (φ13 hs) (by omega),bS,φ9P _ _ (φ13 g1) (by omega) (by omega),bS,φ2q,φ2q,φ2R]
 simp only[bne_self_eq_false,cF,ne_eq,not_true_eq_false,if_false,φ3D,bS,e2]
 generalize φ9 (φX (φ0 s.1.1)) (φC (φ0 s.1.1) x1)=r2 at *
 obtain ⟨x2,q2⟩:=r2
 show (bif told q2 != 0 then _ else _)=_
 rw[φ6Z,show w64 (s.1.1+1)=s.1.1+1 from φH (by omega) (by omega)]
 by_cases c4:q2=0
 rotate_left
 ·have d3:(q2 != 0)=true:=by simpa using c4
  simp only[d3,cT,c4,not_false_eq_true,if_true];rfl
 subst c4
 have hp:φ3 (φA (sPut (s.1.1+1,s.1.2++[s.1.1]) (x2,0))).1=true:=φ3n (w:=(x2,0)) hc _
 have e3:ψ26.f (φA (x2,0)) (s.1.1+1,s.1.2++[s.1.1])=some (φA (sPut (s.1.1+1,s.1.2++[s.1.1]) (x2,0))):=by
  rw[φBE (φA (x2,0)) (s.1.1+1,s.1.2++[s.1.1]) (φ13 hc) (by omega) (by simp only[lA,lC,lN];omega),φBz]
 have hb:(s.1.2.length+[s.1.1].length) * 8≤140737488355328:=lim8 (by omega)
 simp only[bne_self_eq_false,cF,not_true_eq_false,if_false,φFp (s.1.1+1,s.1.2) (show s.1.2.length<1000000000 by omega),bS,hb,dT,cT,e3]
 generalize φA (sPut (s.1.1+1,s.1.2++[s.1.1]) (x2,0))=r3 at *
 obtain ⟨x3,q3⟩:=r3
 by_cases c5:q3=0
 ·subst c5
  simp only[bne_self_eq_false,cF,not_true_eq_false,if_false]
 ·have d5:(q3 != 0)=true:=by simpa using c5
  simp only[d5,cT,c5,not_false_eq_true,if_true,φDi (x3,q3) [[116,101,109,112],φ0 s.1.1] hp (by simp),bS]
theorem φ5r {s:φ7} {d:φ1} (h:φh s d=true):φ3 d=true∧φm s.1=true∧φ1v s.2.1=true∧(1≤s.2.2.1∧s.2.2.1≤1000001)∧φ1e d s.2.2.2.1 s.1.2=true:=by
 unfold φh at h
 simp only[bA,decide_eq_true_eq] at h
 exact ⟨h.1,h.2.1,h.2.2.1,h.2.2.2.1,h.2.2.2.2.1⟩
theorem φ9k {s:φ7} {d:φ1} (h:φ3 d=true) (hv:φm s.1=true):φ3 (rotP s d).2.1=true∧(rotP s d).1.1.2.length≤s.1.2.length+1∧(rotP s d).1.2.1=s.2.1∧(rotP s d).1.2.2.1=s.2.2.1 ∧
  (((rotP s d).2.2=0→φm (rotP s d).1.1=true))∧((rotP s d).1.2.2.2.1=s.2.2.2.1∨(rotP s d).1.2.2.2.1=0):=by
 have hs:=φ3I h (actN s)
 have hc:φ3 (φ9 (φX (φ0 s.1.1)) (φC (φ0 s.1.1) (φG (actN s) d).1)).1=true:=φ1q (op:=φX _) (φ2O hs _) fun k=>φ2t k _
 unfold rotP
 split
 ·exact ⟨h,Nat.le_succ _,rfl,rfl,fun e=>absurd e (by simp),.inl rfl⟩
 rename_i c1
 split
 ·rename_i c2
  exact ⟨hs,Nat.le_succ _,rfl,rfl,fun e=>absurd ((φ1F _).1 e) c2,.inl rfl⟩
 simp only
 split
 ·rename_i c2
  exact ⟨hc,Nat.le_succ _,rfl,rfl,fun e=>absurd ((φ1F _).1 e) c2,.inl rfl⟩
 have hp:=φ3n (w:=((φ9 (φX (φ0 s.1.1)) (φC (φ0 s.1.1) (φG (actN s) d).1)).1,0)) hc (s.1.1+1,s.1.2++[s.1.1])
 split
 ·rename_i c3
  refine ⟨φHZ _ hp,Nat.le_succ _,rfl,rfl,fun e=>?_,.inl rfl⟩
  exfalso
  revert e
  unfold φ1h
  split
  ·split
   ·simp
   ·rename_i c4;exact c4
  ·exact c3
 ·refine ⟨hp,by simp,rfl,rfl,fun _=>φFU hv (by omega) (by omega),.inr rfl⟩
theorem φ5E {a:Nat} (h:a<1000000000001):(a+1) * 48≤140737488355328:=by omega
theorem φCX (l:List φD) (key:List UInt8) (hl:l.length<1000000000):ψ7.f l key=some (φ1C l key):=by
 have hk:=φ3g (step:=ψ7.l0) l (fun s x=>if (!(x.1==key))=true then s++[x] else s) (fun n (s:List φD)=>(key,s,l,(l.length:Int),(n:Int))) id (fun n s=>s.length≤n) (by omega)
  (fun rec n s h hi=>by
   have hb:(s.length+([(l[n].1,l[n].2.1,l[n].2.2.1,l[n].2.2.2.1,l[n].2.2.2.2)]:List φD).length) * 48≤140737488355328:=φ5E (by omega)
   have hw:=φS (show n+1<9223372036854775808 by omega)
   simp only[ψ7.l0,oL,h,dT,cT,φJ,φN,φB h,hb]
   cases l[n].1==key<;>simp only[nZ,nF,cT,cF,bS,hw,if_true,if_false,κ2])
  (fun n s h hi=>by
   have:∀b:Bool,(if b=true then s++[l[n]] else s).length≤n+1:=fun b=>by cases b<;>simp<;>omega
   exact this _)
  (fun rec s hi=>by simp[ψ7.l0]) [] (by simp)
 have hk:lp ψ7.l0 (key,[],l,(l.length:Int),0)=_:=hk
 unfold ψ7.f
 rw[hk,φF4];rfl
theorem φMy (rest:List φD) (p:φD) (hl:rest.length<2 ^ 62) :
  lp ψB.l0 (p,rest,0)=some (p,rest,((rest.takeWhile fun x=>leK x.1 p.1).length:Int)):=by
 have key:=φj (step:=ψB.l0) (fun n (_:Unit)=>(p,rest,(n:Int))) rest.length (fun n _=>(p,rest,((n+((rest.drop n).takeWhile fun x=>leK x.1 p.1).length:Nat):Int))) (fun _ _=>True)
  (fun rec n s hn _ ih=>by
   rcases κ1 n rest.length with h | h
   ·rw[φIB _ _ _ h]
    simp only[ψB.l0,oL,h,dT,cT,φJ,φN,φB h,φS (show n+1<9223372036854775808 by omega)]
    show (bif leK rest[n].1 p.1 then _ else _)=_
    cases leK rest[n].1 p.1
    ·simp
    ·simp only[cT,if_true]
     rw[ih () h trivial]
     congr 4;omega
   ·have:n=rest.length:=by omega
    subst this
    simp[ψB.l0])
  hl 0 () (κ4 _) trivial
 simpa using key
theorem φGH (l:List φD) (e:φD) (hl:l.length<1000000000):ψB.f l e=some (insB (φ1C l e.1) e):=by
 have hd:=φ8s l e.1
 have htw:((φ1C l e.1).takeWhile fun x=>leK x.1 e.1).length≤(φ1C l e.1).length:=(List.takeWhile_sublist _).length_le
 unfold ψB.f
 rw[φCX l e.1 hl,bS,φMy _ _ (by omega),bS]
 generalize hk:((φ1C l e.1).takeWhile fun x=>leK x.1 e.1).length=k at *
 have c1:(0:Int)≤(k:Int):=by omega
 have c2:(k:Int)≤((φ1C l e.1).length:Int):=by omega
 have c3:(List.take k (φ1C l e.1)).length<1000000000:=by simp;omega
 have c4:((List.take k (φ1C l e.1)).length+[e].length) * 48≤140737488355328:=φ5E (by omega)
 have c5:((List.take k (φ1C l e.1)++[e]).length+(List.drop k (φ1C l e.1)).length) * 48≤140737488355328:=by simp;omega
 have hins:insB (φ1C l e.1) e=List.take k (φ1C l e.1)++[e]++List.drop k (φ1C l e.1):=by
  unfold insB;simp only[hk]
 simp only[c1,c2,dT,Bool.and_self,cT,tN,φAP _ c3,bS,c4,c5,hins]
def φ2l (dir:List φD) (x:PutT×φD):List φD:=if x.1.2.1=true then φ1C dir x.1.1 else insB (φ1C dir x.2.1) x.2
def dirW (dir:List φD) (l:List (PutT×φD)):List φD:=l.foldl φ2l dir
theorem φIZ (dir:List φD) (x:PutT×φD):(φ2l dir x).length≤dir.length+1:=by
 unfold φ2l;split
 ·have:=φ8s dir x.1.1;omega
 ·rw[φ60];have:=φ8s dir x.2.1;omega
theorem φEU (step:((List φD×List φD×List PutT×Int×Int)→Option (List φD))→(List φD×List φD×List PutT×Int×Int)→Option (List φD)) (hst:step=ψ1Q.l0) (dir:List φD) (l:List PutT) (es:List φD) (h1:l.length≤es.length) (hd:dir.length<100000000) (hl:l.length<100000000) :
  lp step (dir,es,l,(l.length:Int),0)=some (dirW dir (l.zip es)):=by
 subst hst
 have hz:(l.zip es).length=l.length:=by rw[List.length_zip];omega
 have key:=φ3g (step:=ψ1Q.l0) (l.zip es) φ2l (fun n (s:List φD)=>(s,es,l,(l.length:Int),(n:Int))) id (fun n s=>s.length≤dir.length+n) (by omega)
  (fun rec n s h hi=>by
   have hn:n<l.length:=by omega
   have hn2:n<es.length:=by omega
   have hw:=φS (show n+1<9223372036854775808 by omega)
   simp only[ψ1Q.l0,oL,hn,hn2,dT,cT,φJ,φN,φB hn,φB hn2,φCX s l[n].1 (by omega),φGH s es[n] (by omega),bS,List.getElem_zip]
   unfold φ2l
   simp only
   cases l[n].2.1
   ·simp only[cF,bS,hw,κ2,if_false]
   ·simp only[cT,bS,hw,if_true])
  (fun n s h hi=>by have:=φIZ s (l.zip es)[n];have hi:s.length≤dir.length+n:=hi;show _≤_;omega)
  (fun rec s hi=>by simp only[hz,ψ1Q.l0];simp)
  dir (by simp)
 exact key
theorem φNT (dir:List φD) (l:List PutT) (es:List φD) (h1:l.length≤es.length) (hd:dir.length<100000000) (hl:l.length<100000000):ψ1Q.f dir l es=some (dirW dir (l.zip es)):=by
 unfold ψ1Q.f
 rw[φEU _ rfl dir l es h1 hd hl];rfl
theorem φO5 (dir:List φD) (l:List PutT) (es:List φD) (h1:l.length≤es.length) (hd:dir.length<100000000) (hl:l.length<100000000):ψ1R.f dir l es=some (dirW dir (l.zip es)):=by
 unfold ψ1R.f
 rw[φEU ψ1R.l0 rfl dir l es h1 hd hl];rfl
def φ4E (p:PutT):φD:=(p.1,0,0,0,0)
def φ2s (dir:List φD) (l:List PutT):Nat:=(dirW dir (l.zip (l.map φ4E))).length
theorem φLs (dir:List φD) (l:List PutT) (hd:dir.length<100000000) (hl:l.length<100000000):ψ1Y.f dir l=some (φ2s dir l:Int):=by
 have key:=φj (step:=ψ1Y.l0) (fun n (acc:List φD)=>(dir,l,acc,l,(l.length:Int),(n:Int))) l.length (fun n acc=>(dir,l,acc++(l.drop n).map φ4E)) (fun n acc=>acc.length=n)
  (fun rec n acc hn ha ih=>by
   rcases κ1 n l.length with h | h
   ·have hw:=φS (show n+1<9223372036854775808 by omega)
    have hb:∀{α:Type} (x:α),decide ((acc.length+[x].length) * 48≤140737488355328)=true:=fun x=>decide_eq_true (φ5E (by omega))
    have ih:=ih (acc++[(l[n].1,0,0,0,0)]) h (by rw[lA,ha];rfl)
    simp only[ψ1Y.l0,oL,h,dT,cT,φJ,φN,φB h]
    simp only[hb,cT,hw,ih]
    rw[dG h,κ6,aA];rfl
   ·have:n=l.length:=by omega
    subst this
    simp[ψ1Y.l0])
  (by omega) 0 [] (κ4 _) rfl
 have key:lp ψ1Y.l0 (dir,l,[],l,(l.length:Int),0)=_:=key
 unfold ψ1Y.f φ2s
 rw[key,bS,κC,κ9]
 simp only
 rw[φNT dir l _ (by rw[lM];exact κ5 _) hd hl];rfl
theorem φI8 (l:List PutT):l.zip (l.map φ4E)=l.map fun p=>(p,φ4E p):=by
 induction l with
 | nil=>rfl
 | cons x l ih=>simp[ih]
def φ1Q (b:Int) (p:PutT):RecT:=if p.2.1=true then (2,b,p.1,[],0,0) else (1,b,p.1,p.2.2,0,0)
def φ1r (b:Int) (l:List PutT):List RecT:=l.map (φ1Q b)++[(3,b,[],[],(l.length:Int),φ1l (l.map (φ1Q b)))]
theorem φ7Q {a:Nat} (h:a<1000000000001):(a+1) * 64≤140737488355328:=by omega
theorem φNa (l:List PutT) (b:Int) (hl:l.length<100000000):ψ1h.f l b=some (φ1r b l):=by
 have key:=φj (step:=ψ1h.l0) (fun n (acc:List RecT)=>(l,b,acc,l,(l.length:Int),(n:Int))) l.length (fun n acc=>(l,b,acc++(l.drop n).map (φ1Q b))) (fun n acc=>acc.length=n)
  (fun rec n acc hn ha ih=>by
   rcases κ1 n l.length with h | h
   ·have hw:=φS (show n+1<9223372036854775808 by omega)
    have hb:∀{α:Type} (x:α),decide ((acc.length+[x].length) * 64≤140737488355328)=true:=fun x=>decide_eq_true (φ7Q (by omega))
    have ih:=ih (acc++[φ1Q b l[n]]) h (by rw[lA,ha];rfl)
    have e:acc++List.map (φ1Q b) (List.drop n l)=acc++[φ1Q b l[n]]++List.map (φ1Q b) (List.drop (n+1) l):=by
     rw[dG h,κ6,aA];rfl
    rw[e]
    simp only[ψ1h.l0,oL,h,dT,cT,φJ,φN,φB h,hb]
    revert ih
    unfold φ1Q
    cases l[n].2.1
    ·intro ih;simp only[κ2,if_false] at ih ⊢;simp only[cF,bS,hw,ih]
    ·intro ih;simp only[if_true] at ih ⊢;simp only[cT,bS,hw,ih]
   ·have:n=l.length:=by omega
    subst this
    simp[ψ1h.l0])
  (by omega) 0 [] (κ4 _) rfl
 have key:lp ψ1h.l0 (l,b,[],l,(l.length:Int),0)=_:=key
 have hb:∀{α:Type} (x:α),decide (((l.map (φ1Q b)).length+[x].length) * 64≤140737488355328)=true:=fun x=>decide_eq_true (φ7Q (by rw[lM];omega))
 unfold ψ1h.f φ1r
 rw[key,bS,κC,κ9]
 simp only[φCU (l.map (φ1Q b)) (by rw[lM];omega),bS,hb,cT]
def addR (s:φ7) (d:φ1) (t:List UInt8):φ7×φ1×Int:=if s.2.2.2.1 > 0∧s.2.2.2.1+(t.length:Int) > 200 then rotP s d else (s,d,0)
def addP (s:φ7) (d:φ1) (r:RecT):φ7×φ1×Int×φD:=
 let R:=addR s d (frame (φ6 r))
 if R.2.2≠0 then (R.1,R.2.1,R.2.2,([],0,0,0,0)) else
 let w:=φL (actN R.1) (frame (φ6 r)) R.2.1
 let e:φD:=(r.2.2.1,φM R.1.1.2,R.1.2.2.2.1,((frame (φ6 r)).length:Int),r.2.1)
 if w.2≠0 then (R.1,w.1,told w.2,e) else ((R.1.1,R.1.2.1,R.1.2.2.1,R.1.2.2.2.1+((frame (φ6 r)).length:Int),R.1.2.2.2.2),w.1,0,e)
structure Good2 (k:Int) (s:φ7) (d:φ1):Prop where
 dk:φ3 d=true
 lv:φm s.1=true
 s0:0≤s.2.2.2.1
 s1:s.2.2.2.1≤k
theorem φFQ {s:φ7} {d:φ1} {k:Int} (h:Good2 k s d) (t:List UInt8):φ3 (addR s d t).2.1=true∧(addR s d t).1.1.2.length≤s.1.2.length+1∧(addR s d t).1.2.1=s.2.1∧((addR s d t).2.2=0→Good2 k (addR s d t).1 (addR s d t).2.1):=by
 unfold addR
 split
 ·obtain ⟨r1,r2,r3,r4,r5,r6⟩:=φ9k h.dk h.lv
  refine ⟨r1,r2,r3,fun e=>⟨r1,r5 e,?_,?_⟩⟩
  ·have:=h.s0;omega
  ·have:=h.s1;have:=h.s0;omega
 ·exact ⟨h.dk,Nat.le_succ _,rfl,fun _=>h⟩
theorem φHJ {s:φ7} {d:φ1} {k:Int} (h:Good2 k s d) (r:RecT):φ3 (addP s d r).2.1=true∧(addP s d r).1.1.2.length≤s.1.2.length+1∧(addP s d r).1.2.1=s.2.1∧((addP s d r).2.2.1=0→Good2 (k+211) (addP s d r).1 (addP s d r).2.1):=by
 obtain ⟨q1,q2,q3,q4⟩:=φFQ h (frame (φ6 r))
 have hf:=φ5C (φ6 r)
 unfold addP
 generalize addR s d (frame (φ6 r))=R at *
 simp only
 split
 ·rename_i c;exact ⟨q1,q2,q3,fun e=>absurd e c⟩
 rename_i c
 have c:R.2.2=0:=by simpa using c
 have g:=q4 c
 have ha:=φ3M q1 (actN R.1) (frame (φ6 r))
 split
 ·rename_i c2;exact ⟨ha,q2,q3,fun e=>absurd ((φ1F _).1 e) c2⟩
 ·refine ⟨ha,q2,q3,fun _=>⟨ha,g.lv,?_,?_⟩⟩
  ·have:=g.s0;show 0≤R.1.2.2.2.1+_;omega
  ·have:=g.s1;show R.1.2.2.2.1+_≤_;omega
theorem φKW {s:φ7} {d:φ1} {k:Int} (h:Good2 k s d) (hk:k≤1000000000000) (r:RecT):ψ13.f s (d,0) r=some ((addP s d r).2.2.2,(addP s d r).1,((addP s d r).2.1,(addP s d r).2.2.1)):=by
 have h0:=h.s0
 have h1:=h.s1
 have hf:=φ5C (φ6 r)
 have hsr:=φ3Z r
 obtain ⟨q1,q2,q3,q4⟩:=φFQ h (frame (φ6 r))
 have hw:w64 (s.2.2.2.1+((frame (φ6 r)).length:Int))=s.2.2.2.1+((frame (φ6 r)).length:Int):=φH (by omega) (by omega)
 have eR:(bif decide (s.2.2.2.1 > 0) then bif decide (s.2.2.2.1+((frame (φ6 r)).length:Int) > 200) then (ψ16.f s (d,0)).bind fun (t3_0,t3_1)=>some (t3_0,t3_1,r,(([],0,0,0,0):φD),frame (φ6 r)) else some (s,(d,0),r,([],0,0,0,0),frame (φ6 r)) else some (s,(d,0),r,([],0,0,0,0),frame (φ6 r))) =
   some ((addR s d (frame (φ6 r))).1,((addR s d (frame (φ6 r))).2.1,(addR s d (frame (φ6 r))).2.2),r,([],0,0,0,0),frame (φ6 r)):=by
  unfold addR
  rw[φJo s d h.dk h.lv]
  by_cases c1:s.2.2.2.1 > 0
  ·by_cases c2:s.2.2.2.1+((frame (φ6 r)).length:Int) > 200
   ·simp only[c1,c2,dT,cT,and_self,if_true,bS]
   ·simp only[c1,c2,dT,dF,cT,cF,and_false,if_false]
  ·simp only[c1,dF,cF,false_and,if_false]
 unfold ψ13.f addP
 simp only[φ9q r,φ7x (φ6 r) (show (φ6 r).length<2 ^ 62 by omega),bS,hw]
 rw[eR]
 generalize addR s d (frame (φ6 r))=R at *
 obtain ⟨S,D,c⟩:=R
 simp only[bS]
 by_cases c1:c=0
 rotate_left
 ·have d1:(c != 0)=true:=by simpa using c1
  simp only[d1,cT,c1,ne_eq,not_false_eq_true,if_true]
 subst c1
 have g:=q4 rfl
 have g0:0≤S.2.2.2.1:=g.s0
 have g1:S.2.2.2.1≤k:=g.s1
 have g2:φm S.1=true:=g.lv
 obtain ⟨k1,k2,k3,k4⟩:=(φ12 S.1).1 g2
 obtain ⟨l1,l2,l3⟩:=φAv k3 (by omega)
 have hw2:w64 (S.2.2.2.1+((frame (φ6 r)).length:Int))=S.2.2.2.1+((frame (φ6 r)).length:Int):=φH (by omega) (by omega)
 simp only[bne_self_eq_false,cF,ne_eq,not_true_eq_false,if_false,l1,l2,l3,cT,φAo S k3 (by omega),bS,φBv (D,0) (actN S) (frame (φ6 r)) (φ13 q1) (by omega) (by omega)]
 rw[show φ1B (φL (actN S) (frame (φ6 r))) (D,0)=φA (φL (actN S) (frame (φ6 r)) D) by unfold φ1B;simp;rfl]
 generalize φL (actN S) (frame (φ6 r)) D=w at *
 obtain ⟨x,c2⟩:=w
 by_cases c3:c2=0
 ·subst c3
  show (bif told 0==0 then _ else _)=_
  simp only[show (told 0==0)=true from rfl,cT,hw2,not_true_eq_false,if_false];rfl
 ·have c4:¬told c2=0:=fun e=>c3 ((φ1F c2).1 e)
  have d4:(told c2==0)=false:=by simpa using c4
  show (bif told c2==0 then _ else _)=_
  simp only[d4,cF,c3,not_false_eq_true,if_true];rfl
def φe:List RecT→φ7→φ1→φ7×φ1×Int×List φD
 | [],s,d=>(s,d,0,[])
 | r::rs,s,d=>if (addP s d r).2.2.1≠0 then ((addP s d r).1,(addP s d r).2.1,(addP s d r).2.2.1,[]) else
   let g:=φe rs (addP s d r).1 (addP s d r).2.1
   (g.1,g.2.1,g.2.2.1,(addP s d r).2.2.2::g.2.2.2)
theorem φHX:∀(rs:List RecT) (s:φ7) (d:φ1) (k:Int),Good2 k s d→φ3 (φe rs s d).2.1=true∧(φe rs s d).1.1.2.length≤61∧(φe rs s d).1.2.1=s.2.1 ∧
  ((φe rs s d).2.2.1=0→Good2 (k+211 * (rs.length:Int)) (φe rs s d).1 (φe rs s d).2.1∧(φe rs s d).2.2.2.length=rs.length)
 | [],s,d,k,h=>by
  have:=((φ12 _).1 h.lv).2.2.2
  refine ⟨h.dk,by show s.1.2.length≤61;omega,rfl,fun _=>⟨⟨h.dk,h.lv,h.s0,by have:=h.s1;show s.2.2.2.1≤_;simp;omega⟩,rfl⟩⟩
 | r::rs,s,d,k,h=>by
  obtain ⟨q1,q2,q3,q4⟩:=φHJ h r
  have:=((φ12 _).1 h.lv).2.2.2
  unfold φe
  split
  ·rename_i c
   exact ⟨q1,by show (addP s d r).1.1.2.length≤61;omega,q3,fun e=>absurd e c⟩
  ·rename_i c
   have c:(addP s d r).2.2.1=0:=by simpa using c
   obtain ⟨p1,p2,p3,p4⟩:=φHX rs _ _ _ (q4 c)
   refine ⟨p1,p2,by show (φe rs _ _).1.2.1=_;rw[p3,q3],fun e=>?_⟩
   obtain ⟨g,hl⟩:=p4 e
   refine ⟨⟨g.dk,g.lv,g.s0,?_⟩,by show _+1=_+1;rw[hl]⟩
   have:=g.s1
   simp only[lC]
   show (φe rs _ _).1.2.2.2.1≤_
   push_cast;omega
theorem φOC (p2:List PutT) (rs:List RecT) (s:φ7) (d:φ1) (k:Int) (h:Good2 k s d) (hk:k≤100000000000) (hr:rs.length<1000000) :
  lp ψ14.l0 (s,(d,0),p2,[],rs,(rs.length:Int),0)=some (if (φe rs s d).2.2.1=0 then .inl ((φe rs s d).1,((φe rs s d).2.1,0),p2,(φe rs s d).2.2.2) else .inr ((φe rs s d).1,((φe rs s d).2.1,(φe rs s d).2.2.1))):=by
 have key:=φj (step:=ψ14.l0) (fun n (a:φ7×φ1×List φD)=>(a.1,(a.2.1,0),p2,a.2.2,rs,(rs.length:Int),(n:Int))) rs.length
  (fun n a=>if (φe (rs.drop n) a.1 a.2.1).2.2.1=0 then .inl ((φe (rs.drop n) a.1 a.2.1).1,((φe (rs.drop n) a.1 a.2.1).2.1,0),p2,a.2.2++(φe (rs.drop n) a.1 a.2.1).2.2.2) else .inr ((φe (rs.drop n) a.1 a.2.1).1,((φe (rs.drop n) a.1 a.2.1).2.1,(φe (rs.drop n) a.1 a.2.1).2.2.1)))
  (fun n a=>Good2 (k+211 * (n:Int)) a.1 a.2.1∧a.2.2.length=n)
  (fun rec n a hn ha ih=>by
   obtain ⟨S,D,acc⟩:=a
   obtain ⟨ha,hacc⟩:=ha
   simp only at ha hacc
   rcases κ1 n rs.length with h1 | h1
   ·have hw:=φS (show n+1<9223372036854775808 by omega)
    obtain ⟨q1,q2,q3,q4⟩:=φHJ ha rs[n]
    have ea:ψ13.f S (D,0) (rs[n].1,rs[n].2.1,rs[n].2.2.1,rs[n].2.2.2.1,rs[n].2.2.2.2.1,rs[n].2.2.2.2.2)=_:=φKW ha (by omega) rs[n]
    have hb:∀{α:Type} (x:α),decide ((acc.length+[x].length) * 48≤140737488355328)=true:=fun x=>decide_eq_true (φ5E (by omega))
    rw[dG h1]
    simp only[φe,ψ14.l0,oL,h1,dT,cT,φJ,φN,φB h1,ea,bS,hb]
    by_cases c:(addP S D rs[n]).2.2.1=0
    ·have g:=q4 c
     have ih:=ih ((addP S D rs[n]).1,(addP S D rs[n]).2.1,acc++[(addP S D rs[n]).2.2.2]) h1 ⟨by
      refine ⟨g.dk,g.lv,g.s0,?_⟩
      have:=g.s1;simp only;push_cast;omega,by rw[lA,hacc];rfl⟩
     simp only at ih
     simp only[c,bne_self_eq_false,cF,ne_eq,not_true_eq_false,if_false,hw,ih,aA,List.singleton_append]
    ·have d1:((addP S D rs[n]).2.2.1 != 0)=true:=by simpa using c
     simp only[d1,cT,c,ne_eq,not_false_eq_true,if_true,if_false]
   ·have:n=rs.length:=by omega
    subst this
    simp[ψ14.l0,φe])
  (by omega) 0 (s,d,[]) (κ4 _) ⟨by simpa using h,rfl⟩
 have key:lp ψ14.l0 (s,(d,0),p2,[],rs,(rs.length:Int),0)=_:=key
 rw[key,κC,κ9]
def φ1P (s:φ7) (d:φ1) (l:List PutT):φ7×φ1×Int:=
 let g:=φe (φ1r s.2.2.1 l) (s.1,s.2.1,s.2.2.1+1,s.2.2.2) d
 if g.2.2.1≠0 then (g.1,g.2.1,g.2.2.1) else
 let w:=φG (actN g.1) g.2.1
 if w.2≠0 then (g.1,w.1,told w.2) else ((g.1.1,dirW g.1.2.1 (l.zip g.2.2.2),g.1.2.2),w.1,0)
theorem φ99 (b:Int) (l:List PutT):(φ1r b l).length=l.length+1:=by
 unfold φ1r;simp
theorem φN3 {s:φ7} {d:φ1} {k:Int} (h:Good2 k s d) (hk:k≤100000000) (l:List PutT) (hl:l.length≤8) (hb:0≤s.2.2.1∧s.2.2.1≤1000001) (hd:s.2.1.length≤1000000):ψ14.f s (d,0) l=some (φ1P s d l):=by
 have h':Good2 k (s.1,s.2.1,s.2.2.1+1,s.2.2.2) d:=⟨h.dk,h.lv,h.s0,h.s1⟩
 have hrl:=φ99 s.2.2.1 l
 obtain ⟨p1,p2,p3,p4⟩:=φHX (φ1r s.2.2.1 l) _ _ _ h'
 unfold ψ14.f φ1P
 simp only[show w64 (s.2.2.1+1)=s.2.2.1+1 from φH (by omega) (by omega),φNa l s.2.2.1 (by omega),bS,φOC l (φ1r s.2.2.1 l) (s.1,s.2.1,s.2.2.1+1,s.2.2.2) d k h' (by omega) (by omega)]
 generalize φe (φ1r s.2.2.1 l) (s.1,s.2.1,s.2.2.1+1,s.2.2.2) d=g at *
 obtain ⟨S,D,c,es⟩:=g
 by_cases c1:c=0
 rotate_left
 ·simp only[c1,if_false,φq,ne_eq,not_false_eq_true,if_true]
 subst c1
 obtain ⟨g,hes⟩:=p4 rfl
 have g0:φm S.1=true:=g.lv
 have g1:φ3 D=true:=g.dk
 have hes:es.length=(φ1r s.2.2.1 l).length:=hes
 have p3:S.2.1=s.2.1:=p3
 obtain ⟨k1,k2,k3,k4⟩:=(φ12 S.1).1 g0
 simp only[if_true,φf,ne_eq,not_true_eq_false,if_false,φAo S k3 (by omega),bS,φ7h (D,0) (actN S) (φ13 g1) (by omega)]
 rw[show φ1B (φG (actN S)) (D,0)=φA (φG (actN S) D) by unfold φ1B;simp;rfl]
 generalize φG (actN S) D=w at *
 obtain ⟨x,c2⟩:=w
 show (bif told c2==0 then _ else _)=_
 by_cases c3:c2=0
 ·subst c3
  simp only[show (told 0==0)=true from rfl,cT,not_true_eq_false,if_false,φO5 S.2.1 l es (by omega) (by rw[p3];omega) (by omega),bS];rfl
 ·have c4:¬told c2=0:=fun e=>c3 ((φ1F c2).1 e)
  have d4:(told c2==0)=false:=by simpa using c4
  simp only[d4,cF,c3,not_false_eq_true,if_true];rfl
theorem φDL {α β:Type}:∀(l:List α) (es x:List β),l.length≤es.length→l.zip (es++x)=l.zip es
 | [],_,_,_=>by simp
 | a::l,[],x,h=>by simp at h
 | a::l,e::es,x,h=>by
  rw[κF,List.zip_cons_cons,List.zip_cons_cons,φDL l es x (by simpa using h)]
theorem φHP {d:φ1} (hd:dlim d) {size:Int}:∀(l:List Int),l≠[]→φ1e d size l=true→0≤size∧size≤(φI d.1:Int)
 | [],h,_=>absurd rfl h
 | [id],_,h=>by
  unfold φ1e φ4f at h
  simp only[bA,List.isEmpty_nil,nZ,κS,decide_eq_true_eq] at h
  have:=φ4X d (φ0 id) hd
  have e:=h.1.2.2
  omega
 | id::id2::r,_,h=>by
  have h2:φ1e d size (id2::r)=true:=by
   unfold φ1e at h
   simp only[bA] at h
   exact h.2
  exact φHP hd (id2::r) (by simp) h2
theorem φ8b {s:φ7} {d:φ1} (h:φh s d=true):Good2 100000 s d:=by
 obtain ⟨q1,q2,q3,q4,q5⟩:=φ5r h
 have hl:=φ13 q1
 have hd:=φ1d hl (by omega)
 have k:=(φ12 s.1).1 q2
 have:=φHP hd s.1.2 (fun e=>by rw[e] at k;simp at k) q5
 have:=(φ8d q1)
 exact ⟨q1,q2,by omega,by omega⟩
theorem φ8Z (id:Int):ψU.f id=some (φK id):=by
 unfold ψU.f φK
 rw[φCp [104,105,110,116] id (by show 4≤100;decide),bS]
theorem φAk (id:Int):ψ2U.f id=some (φK id):=by
 unfold ψ2U.f φK φ2I
 rw[φ2U,bS]
 by_cases h:1≤id∧id≤100000
 ·obtain ⟨n,rfl⟩:∃n:Nat,id=(n:Int):=⟨id.toNat,by omega⟩
  have hl:=φ6Y 5 n (by show n<1000000;omega)
  have hb:([104,105,110,116]:List UInt8).length+(Lib.decDigits n).length≤9223372036854775807:=by show 4+_≤_;omega
  simp only[h,and_self,dT,nZ,cF,φGs n (by omega),bS,hb,cT,if_true,tN]
 ·simp[h]
theorem φCV (id:Int):(φK id).length≤10:=by
 unfold φK φ2I
 split
 ·have hl:=φ6Y 5 id.toNat (by show _<1000000;omega)
  rw[lA];show 4+_≤10;omega
 ·simp
abbrev φ1J:=Int×Int×List φD
def φ4S (h:φ1J) (e:φD):Bool:=!(e.2.1 != ((h.2.2.getD 0 ([],0,0,0,0)).2.1)) && !decide (e.2.2.1 > 100000)
def φ2Y (h:φ1J):Bool:=h.2.2.all (φ4S h) && (decide (0≤h.1∧h.1≤100000) && (decide (0≤h.2.1∧h.2.1≤1000000) && φ1v h.2.2))
theorem φBh (h:φ1J) (hl:h.2.2.length<1000000000):ψ1V.f h=some (φ2Y h):=by
 have key:=φ4Q (step:=ψ1V.l0) h.2.2 (φ4S h) (fun n=>(h,h.2.2,(h.2.2.length:Int),(n:Int))) h (by omega)
  (fun rec n h1=>by
   have hw:=φS (show n+1<9223372036854775808 by omega)
   have h0:inB 0 h.2.2.length=true:=by rw[show (0:Int)=((0:Nat):Int) from rfl,φJ];simp;omega
   have r0:rdA ([],0,0,0,0) h.2.2 0=h.2.2.getD 0 ([],0,0,0,0):=by rw[show (0:Int)=((0:Nat):Int) from rfl,φN]
   simp only[ψ1V.l0,oL,h1,dT,cT,φJ,φN,φB h1,h0,r0,hw]
   unfold φ4S
   cases (h.2.2[n].2.1 != (h.2.2.getD 0 ([],0,0,0,0)).2.1)<;>cases decide (h.2.2[n].2.2.1 > 100000)<;>rfl)
  (fun rec=>by simp[ψ1V.l0])
 have key:lp ψ1V.l0 (h,h.2.2,(h.2.2.length:Int),0)=_:=key
 unfold ψ1V.f φ2Y
 rw[key,bS]
 simp only[φ1c,φBW h.2.2 (by omega),bS]
 cases h.2.2.all (φ4S h)
 ·simp
 simp only[if_true,φf,tA]
 cases decide (0≤h.1∧h.1≤100000)<;>cases decide (0≤h.2.1∧h.2.1≤1000000)<;>simp[φBW h.2.2 (show h.2.2.length<2 ^ 62 by omega)]
theorem φKC (h:φ1J) (hl:h.2.2.length<1000000000):ψ2t.f h=some (φ2Y h):=by
 have key:=φ4Q (step:=ψ2t.l0) h.2.2 (φ4S h) (fun n=>(h,(n:Int))) () (by omega)
  (fun rec n h1=>by
   have hw:=φS (show n+1<9223372036854775808 by omega)
   have h0:inB 0 h.2.2.length=true:=by rw[show (0:Int)=((0:Nat):Int) from rfl,φJ];simp;omega
   have r0:rdA ([],0,0,0,0) h.2.2 0=h.2.2.getD 0 ([],0,0,0,0):=by rw[show (0:Int)=((0:Nat):Int) from rfl,φN]
   simp only[ψ2t.l0,oL,h1,dT,cT,φJ,φN,φB h1,h0,r0,hw]
   unfold φ4S
   cases (h.2.2[n].2.1 != (h.2.2.getD 0 ([],0,0,0,0)).2.1)<;>cases decide (h.2.2[n].2.2.1 > 100000)<;>rfl)
  (fun rec=>by simp[ψ2t.l0])
 have key:lp ψ2t.l0 (h,0)=_:=key
 unfold ψ2t.f φ2Y
 rw[key]
 simp only[φ2U,φG1 h.2.2 (by omega),bS]
 cases h.2.2.all (φ4S h)<;>cases decide (0≤h.1∧h.1≤100000)<;>cases decide (0≤h.2.1∧h.2.1≤1000000)<;>cases φ1v h.2.2<;>rfl
def entT (e:φD):List UInt8:=varT (e.1.length:Int)++e.1++varT e.2.1++varT e.2.2.1++varT e.2.2.2.1++varT e.2.2.2.2
def φ1w (h:φ1J):List UInt8:=varT h.1++varT h.2.1++varT (h.2.2.length:Int)++(h.2.2.map entT).flatten
def φ1W (h:φ1J):List UInt8:=if φ2Y h=false then [] else fix4 (crcT (φ1w h))++φ1w h
theorem φHw {e:φD} (h:φ32 e=true):e.1.length≤8:=by
 unfold φ32 φ18 at h
 simp only[bA,decide_eq_true_eq] at h
 omega
theorem φGB:∀(l:List φD) (p:Option (List UInt8)),φ2d p l=true→∀e∈l,φ32 e=true
 | [],_,_,e,he=>by simp at he
 | x::l,p,h,e,he=>by
  simp only[φ2d,bA] at h
  rcases mc.1 he with c | he
  ·subst c;exact h.1
  ·exact φGB l _ h.2.2 e he
theorem φ46 {l:List φD} (h:φ1v l=true):l.length≤20∧∀e∈l,φ32 e=true:=by
 unfold φ1v at h
 simp only[bA,decide_eq_true_eq] at h
 exact ⟨h.2,φGB l none h.1⟩
theorem φCa {e:φD} (h:e.1.length≤8):(entT e).length≤43:=by
 unfold entT
 have:=φk (e.1.length:Int)
 have:=φk e.2.1
 have:=φk e.2.2.1
 have:=φk e.2.2.2.1
 have:=φk e.2.2.2.2
 simp only[lA];omega
theorem φAB:∀{l:List φD},(∀e∈l,e.1.length≤8)→((l.map entT).flatten).length≤43 * l.length
 | [],_=>by simp
 | e::l,h=>by
  have h1:=φCa (h e κ0)
  have h2:=φAB (l:=l) fun x hx=>h x (mC _ hx)
  rw[κ6,List.flatten_cons,lA,lC];omega
theorem φAs {h:φ1J} (k:φ2Y h=true):h.2.2.length≤20∧∀e∈h.2.2,e.1.length≤8:=by
 unfold φ2Y at k
 simp only[bA] at k
 have:=φ46 k.2.2.2
 exact ⟨this.1,fun e he=>φHw (this.2 e he)⟩
theorem φ8g {h:φ1J} (k:φ2Y h=true):(φ1w h).length≤1000:=by
 obtain ⟨k1,k2⟩:=φAs k
 have:=φAB k2
 have:=φk h.1
 have:=φk h.2.1
 have:=φk (h.2.2.length:Int)
 unfold φ1w
 simp only[lA];omega
theorem φ83 (h:φ1J):(φ1W h).length≤1004:=by
 unfold φ1W;split
 ·simp
 ·rename_i k
  have:=φ8g (by simpa using k)
  have:=φ4U (crcT (φ1w h))
  rw[lA];omega
theorem φB4 (h:φ1J) (hl:h.2.2.length<1000000000):ψy.f h=some (φ1W h):=by
 unfold ψy.f φ1W
 rw[φBh h hl,bS]
 rcases bE (φ2Y h) with k | k
 rotate_left
 ·simp[k]
 obtain ⟨k1,k2⟩:=φAs k
 have hB:=φ8g k
 have hf:=φ4U (crcT (φ1w h))
 have v1:=φk h.1
 have v2:=φk h.2.1
 have v3:=φk (h.2.2.length:Int)
 have e0:ψ1v.f [h.1,h.2.1,(h.2.2.length:Int)]=some (varT h.1++varT h.2.1++varT (h.2.2.length:Int)):=by
  rw[φ7X _ (by simp)];simp
 have key:=φj (step:=ψy.l0) (fun n (acc:List UInt8)=>(acc,h.2.2,(h.2.2.length:Int),(n:Int))) h.2.2.length (fun n acc=>acc++((h.2.2.drop n).map entT).flatten) (fun n acc=>acc.length≤21+43 * n)
  (fun rec n acc hn ha ih=>by
   rcases κ1 n h.2.2.length with h1 | h1
   ·have hw:=φS (show n+1<9223372036854775808 by omega)
    have hk:=k2 _ (gM h1)
    have he:=φCa hk
    have ih:=ih (acc++entT h.2.2[n]) h1 (by rw[lA];omega)
    have e1:ψ1v.f [h.2.2[n].2.1,h.2.2[n].2.2.1,h.2.2[n].2.2.2.1,h.2.2[n].2.2.2.2]=some (varT h.2.2[n].2.1++varT h.2.2[n].2.2.1++varT h.2.2[n].2.2.2.1++varT h.2.2[n].2.2.2.2):=by
     rw[φ7X _ (by simp)];simp
    have e2:(varT (h.2.2[n].1.length:Int)++h.2.2[n].1)++(varT h.2.2[n].2.1++varT h.2.2[n].2.2.1++varT h.2.2[n].2.2.2.1++varT h.2.2[n].2.2.2.2)=entT h.2.2[n]:=by
     unfold entT;simp only[aA]
    have e3:(varT (h.2.2[n].1.length:Int)++h.2.2[n].1).length+(varT h.2.2[n].2.1++varT h.2.2[n].2.2.1++varT h.2.2[n].2.2.2.1++varT h.2.2[n].2.2.2.2).length≤1000000000000000:=by
     rw[←lA,e2];omega
    simp only[ψy.l0,oL,h1,dT,cT,φJ,φN,φB h1,φ7V h.2.2[n].1 (show h.2.2[n].1.length<2 ^ 62 by omega),e1,bS,φ1L e3,e2,φ1L (show acc.length+(entT h.2.2[n]).length≤1000000000000000 by omega),hw,ih]
    rw[dG h1,κ6,List.flatten_cons,aA]
   ·have:n=h.2.2.length:=by omega
    subst this
    simp[ψy.l0])
  (by omega) 0 (varT h.1++varT h.2.1++varT (h.2.2.length:Int)) (κ4 _) (by simp only[lA];omega)
 have key:lp ψy.l0 (varT h.1++varT h.2.1++varT (h.2.2.length:Int),h.2.2,(h.2.2.length:Int),0)=some (φ1w h):=by rw[show (0:Int)=((0:Nat):Int) from rfl,key];rfl
 simp only[k,nZ,cF,e0,bS,key,φCT (φ1w h) (by omega),φAF,φ1L (show (fix4 (crcT (φ1w h))).length+(φ1w h).length≤1000000000000000 by omega),cT,κ8,if_false]
theorem φLk (h:φ1J) (hl:h.2.2.length<1000000000):ψ2l.f h=some (φ1W h):=by
 unfold ψ2l.f φ1W
 rw[φKC h hl,bS]
 rcases bE (φ2Y h) with k | k
 rotate_left
 ·simp[k]
 obtain ⟨k1,k2⟩:=φAs k
 have hB:=φ8g k
 have hf:=φ4U (crcT (φ1w h))
 have hr:=φ4o (φ1w h)
 have v1:=φk h.1
 have v2:=φk h.2.1
 have v3:=φk (h.2.2.length:Int)
 have key:=φj (step:=ψ2l.l0) (fun n (acc:List UInt8)=>(h,acc,(n:Int))) h.2.2.length (fun n acc=>acc++((h.2.2.drop n).map entT).flatten) (fun n acc=>acc.length≤21+43 * n)
  (fun rec n acc hn ha ih=>by
   rcases κ1 n h.2.2.length with h1 | h1
   ·have hw:=φS (show n+1<9223372036854775808 by omega)
    have hk:=k2 _ (gM h1)
    have he:=φCa hk
    have ih:=ih (acc++entT h.2.2[n]) h1 (by rw[lA];omega)
    have w1:=φk (h.2.2[n].1.length:Int)
    have w2:=φk h.2.2[n].2.1
    have w3:=φk h.2.2[n].2.2.1
    have w4:=φk h.2.2[n].2.2.2.1
    have w5:=φk h.2.2[n].2.2.2.2
    have e2:acc++varT (h.2.2[n].1.length:Int)++h.2.2[n].1++varT h.2.2[n].2.1++varT h.2.2[n].2.2.1++varT h.2.2[n].2.2.2.1++varT h.2.2[n].2.2.2.2=acc++entT h.2.2[n]:=by
     unfold entT;simp only[aA]
    simp only[ψ2l.l0,oL,h1,dT,cT,φJ,φN,φB h1,φ5D,bS,
     φ1L (show acc.length+(varT (h.2.2[n].1.length:Int)).length≤1000000000000000 by omega),
     φ1L (show (acc++varT (h.2.2[n].1.length:Int)).length+h.2.2[n].1.length≤1000000000000000 by simp only[lA];omega),
     φ1L (show (acc++varT (h.2.2[n].1.length:Int)++h.2.2[n].1).length+(varT h.2.2[n].2.1).length≤1000000000000000 by simp only[lA];omega),
     φ1L (show (acc++varT (h.2.2[n].1.length:Int)++h.2.2[n].1++varT h.2.2[n].2.1).length+(varT h.2.2[n].2.2.1).length≤1000000000000000 by simp only[lA];omega),
     φ1L (show (acc++varT (h.2.2[n].1.length:Int)++h.2.2[n].1++varT h.2.2[n].2.1++varT h.2.2[n].2.2.1).length+(varT h.2.2[n].2.2.2.1).length≤1000000000000000 by simp only[lA];omega),
     φ1L (show (acc++varT (h.2.2[n].1.length:Int)++h.2.2[n].1++varT h.2.2[n].2.1++varT h.2.2[n].2.2.1++varT h.2.2[n].2.2.2.1).length+(varT h.2.2[n].2.2.2.2).length≤1000000000000000 by simp only[lA];omega),e2,hw,ih]
    rw[dG h1,κ6,List.flatten_cons,aA]
   ·have:n=h.2.2.length:=by omega
    subst this
    simp[ψ2l.l0])
  (by omega) 0 (varT h.1++varT h.2.1++varT (h.2.2.length:Int)) (κ4 _) (by simp only[lA];omega)
 have key:lp ψ2l.l0 (h,varT h.1++varT h.2.1++varT (h.2.2.length:Int),0)=some (φ1w h):=by rw[show (0:Int)=((0:Nat):Int) from rfl,key];rfl
 simp only[k,nZ,cF,φ5D,φ1L (show (varT h.1).length+(varT h.2.1).length≤1000000000000000 by omega),φ1L (show (varT h.1++varT h.2.1).length+(varT (h.2.2.length:Int)).length≤1000000000000000 by simp only[lA];omega),bS,key,φBw (φ1w h) (by omega),φBf _ (show crcT (φ1w h)<9223372036854775808 by omega),φ1L (show (fix4 (crcT (φ1w h))).length+(φ1w h).length≤1000000000000000 by omega),cT,κ8,if_false]
abbrev φF:=Int×φ1o
theorem φH3 (id:Int) (l:List φ1o) (hl:l.length<1000000000):ψ1e.f id l=some (l.map fun x=>((id,x):φF)):=by
 have key:=φj (step:=ψ1e.l0) (fun n (acc:List φF)=>(id,acc,l,(l.length:Int),(n:Int))) l.length (fun n acc=>acc++(l.drop n).map fun x=>((id,x):φF)) (fun n acc=>acc.length=n)
  (fun rec n acc hn ha ih=>by
   rcases κ1 n l.length with h | h
   ·have hw:=φS (show n+1<9223372036854775808 by omega)
    have hb:∀{α:Type} (x:α),decide ((acc.length+[x].length) * 88≤140737488355328)=true:=fun x=>decide_eq_true (by show (acc.length+1) * 88≤_;omega)
    have ih:=ih (acc++[(id,l[n])]) h (by rw[lA,ha];rfl)
    simp only[ψ1e.l0,oL,h,dT,cT,φJ,φN,φB h,hb,hw,ih]
    rw[dG h,κ6,aA];rfl
   ·have:n=l.length:=by omega
    subst this
    simp[ψ1e.l0])
  (by omega) 0 [] (κ4 _) rfl
 have key:lp ψ1e.l0 (id,[],l,(l.length:Int),0)=_:=key
 unfold ψ1e.f
 rw[key,bS]
 simp
def φ3S (r:RecT) (l:List RecT):Bool:=(r.2.2.2.2.1==(l.length:Int)) && (r.2.2.2.2.2==φ1l l)
theorem φFg (r:RecT) (l:List φF) (hl:l.length<1000000000):ψ1T.f r l=some (φ3S r (l.map (·.2.2.2))):=by
 have key:=φj (step:=ψ1T.l0) (fun n (acc:List RecT)=>(r,acc,l,(l.length:Int),(n:Int))) l.length (fun n acc=>(r,acc++(l.drop n).map (·.2.2.2))) (fun n acc=>acc.length=n)
  (fun rec n acc hn ha ih=>by
   rcases κ1 n l.length with h | h
   ·have hw:=φS (show n+1<9223372036854775808 by omega)
    have hb:∀{α:Type} (x:α),decide ((acc.length+[x].length) * 64≤140737488355328)=true:=fun x=>decide_eq_true (φ7Q (by omega))
    have ih:=ih (acc++[l[n].2.2.2]) h (by rw[lA,ha];rfl)
    simp only[ψ1T.l0,oL,h,dT,cT,φJ,φN,φB h,hb,hw,ih]
    rw[dG h,κ6,aA];rfl
   ·have:n=l.length:=by omega
    subst this
    simp[ψ1T.l0])
  (by omega) 0 [] (κ4 _) rfl
 have key:lp ψ1T.l0 (r,[],l,(l.length:Int),0)=_:=key
 unfold ψ1T.f φ3S
 rw[key,bS,κC,κ9]
 simp only[φCU (l.map (·.2.2.2)) (by rw[lM];omega),bS]
 cases (r.2.2.2.2.1==((l.map (·.2.2.2)).length:Int))<;>rfl
abbrev φ2L:φ1o:=(0,0,0,0,[],[],0,0)
def entS (id:Int) (x:φ1o):φD:=(x.2.2.2.2.1,id,x.1,x.2.1,x.2.2.2.1)
def φ2i (mark:Int):Option (List UInt8)→List φ1o→Bool
 | _,[]=>true
 | p,x::r=>(x.2.2.1==4) && (!decide (x.2.2.2.1 > mark) && ((match p with | none=>true | some q=>Op.bytesLess q x.2.2.2.2.1) && φ2i mark (some x.2.2.2.2.1) r))
def φ7B (l:List φ1o):Nat→Option (List UInt8)
 | 0=>none
 | n+1=>some (l.getD n φ2L).2.2.2.2.1
theorem φ8k (l:List φ1o) (n:Nat) (h:n<l.length):φ7B l (n+1)=some l[n].2.2.2.2.1:=by
 show some (l.getD n φ2L).2.2.2.2.1=_
 rw[φB h]
theorem φMV (id e mark:Int) (l:List φ1o) (k:Nat) (hk:k≤l.length) (hl:l.length<1000000000) :
  lp ψV.l0 (id,(0,0,[]),l,(e,mark,[]),l.take k,((l.take k).length:Int),0)=some (if φ2i mark none (l.take k)=true then .inl ((0,0,[]),(e,mark,(l.take k).map (entS id))) else .inr ((0,0,[]),false)):=by
 have hlen:(l.take k).length=k:=by rw[lT];omega
 have key:=φj (step:=ψV.l0) (fun n (acc:List φD)=>(id,(0,0,[]),l,(e,mark,acc),l.take k,((l.take k).length:Int),(n:Int))) k (fun n acc=>if φ2i mark (φ7B l n) ((l.take k).drop n)=true then .inl ((0,0,[]),(e,mark,acc++((l.take k).drop n).map (entS id))) else .inr ((0,0,[]),false)) (fun n acc=>acc.length=n)
  (fun rec n acc hn ha ih=>by
   rcases κ1 n k with h | h
   ·have hw:=φS (show n+1<9223372036854775808 by omega)
    have h1:n<(l.take k).length:=by omega
    have h2:n<l.length:=by omega
    have hx:(l.take k)[n]=l[n]:=List.getElem_take
    have hb:∀{α:Type} (x:α),decide ((acc.length+[x].length) * 48≤140737488355328)=true:=fun x=>decide_eq_true (φ5E (by omega))
    have ih:=ih (acc++[entS id l[n]]) h (by rw[lA,ha];rfl)
    rw[φ8k l n h2] at ih
    rw[dG h1,hx]
    simp only[φ2i,ψV.l0,oL,h1,dT,cT,φJ,φN,φB h1,hx]
    rcases bE (l[n].2.2.1==4) with k1 | k1
    rotate_left
    ·simp only[bne,k1,nF,cT,bS,φq,κD,κ2,if_false]
    rcases bE (decide (l[n].2.2.2.1 > mark)) with k2 | k2
    ·simp only[bne,k1,k2,nZ,nF,cF,cT,bS,φq,κD,tA,κ2,if_false]
    simp only[bne,k1,k2,nZ,nF,cF,tA,κ6]
    cases n with
    | zero=>
     have z:¬((0:Nat):Int) > 0:=by omega
     simp only[z,dF,cF,bS,φf,hb,cT,hw,φ7B,tA]
     rw[show acc++entS id l[0]::List.map (entS id) (List.drop (0+1) (List.take k l))=acc++[entS id l[0]]++List.map (entS id) (List.drop (0+1) (List.take k l)) by rw[aA];rfl]
     exact ih
    | succ m=>
     have z:((m+1:Nat):Int) > 0:=by omega
     have hm:m<l.length:=by omega
     have z2:w64 (((m+1:Nat):Int) - 1)=(m:Int):=by rw[φH (by omega) (by omega)];omega
     rw[φ8k l m hm]
     simp only[z,dT,cT,z2,φJ,hm,φN,φB hm]
     rcases bE (Op.bytesLess l[m].2.2.2.2.1 l[m+1].2.2.2.2.1) with k3 | k3
     ·simp only[k3,nZ,cF,bS,φf,hb,cT,hw,tA]
      rw[show acc++entS id l[m+1]::List.map (entS id) (List.drop (m+1+1) (List.take k l))=acc++[entS id l[m+1]]++List.map (entS id) (List.drop (m+1+1) (List.take k l)) by rw[aA];rfl]
      exact ih
     ·simp only[k3,nF,cT,bS,φq,κD,κ2,if_false]
   ·have:n=k:=by omega
    subst this
    have hd:(l.take n).drop n=[]:=by rw[List.drop_eq_nil_iff];omega
    rw[hd]
    simp[ψV.l0,φ2i,hlen])
  (by omega) 0 [] (κ4 _) rfl
 have key:lp ψV.l0 (id,(0,0,[]),l,(e,mark,[]),l.take k,((l.take k).length:Int),0)=_:=key
 rw[key,κC,κ9];rfl
theorem φL5 (id e mark:Int) (l:List φ1o) (h0:1≤l.length) (hl:l.length<1000000000) :
  lp ψ2V.l0 (id,(0,0,[]),l,(e,mark,[]),[],0)=some (if φ2i mark none (l.take (l.length - 1))=true then .inl ((0,0,[]),l,(e,mark,(l.take (l.length - 1)).map (entS id)),(l.take (l.length - 1)).map (·.2.2)) else .inr ((0,0,[]),false)):=by
 obtain ⟨k,hk⟩:∃k,l.length=k+1:=⟨l.length - 1,by omega⟩
 have e1:l.length - 1=k:=by omega
 rw[e1]
 have hlen:(l.take k).length=k:=by rw[lT];omega
 have key:=φj (step:=ψ2V.l0) (fun n (a:List φD×List RecT)=>(id,(0,0,[]),l,(e,mark,a.1),a.2,(n:Int))) k (fun n a=>if φ2i mark (φ7B l n) ((l.take k).drop n)=true then .inl ((0,0,[]),l,(e,mark,a.1++((l.take k).drop n).map (entS id)),a.2++((l.take k).drop n).map (·.2.2)) else .inr ((0,0,[]),false)) (fun n a=>a.1.length=n∧a.2.length=n)
  (fun rec n a hn ha ih=>by
   obtain ⟨acc,rs⟩:=a
   obtain ⟨ha,hr⟩:=ha
   simp only at ha hr
   rcases κ1 n k with h | h
   ·have hw:=φS (show n+1<9223372036854775808 by omega)
    have h1:n<(l.take k).length:=by omega
    have h2:n<l.length:=by omega
    have h3:n+1<l.length:=by omega
    have hx:(l.take k)[n]=l[n]:=List.getElem_take
    have hb:∀{α:Type} (x:α),decide ((acc.length+[x].length) * 48≤140737488355328)=true:=fun x=>decide_eq_true (φ5E (by omega))
    have hb2:∀{α:Type} (x:α),decide ((rs.length+[x].length) * 64≤140737488355328)=true:=fun x=>decide_eq_true (φ7Q (by omega))
    have ih:=ih (acc++[entS id l[n]],rs++[l[n].2.2]) h ⟨by rw[lA,ha];rfl,by rw[lA,hr];rfl⟩
    simp only at ih
    rw[φ8k l n h2] at ih
    rw[dG h1,hx]
    simp only[φ2i,ψ2V.l0,hw,oL,h2,h3,dT,cT,φJ,φN,φB h2]
    rcases bE (l[n].2.2.1==4) with k1 | k1
    rotate_left
    ·simp only[bne,k1,nF,cT,bS,φq,κD,κ2,if_false]
    rcases bE (decide (l[n].2.2.2.1 > mark)) with k2 | k2
    ·simp only[bne,k1,k2,nZ,nF,cF,cT,bS,φq,κD,tA,κ2,if_false]
    simp only[bne,k1,k2,nZ,nF,cF,tA,κ6]
    cases n with
    | zero=>
     have z:¬((0:Nat):Int) > 0:=by omega
     simp only[z,dF,cF,bS,φf,hb,hb2,cT,φJ,h2,dT,φN,φB h2,hw,φ7B,tA]
     rw[show acc++entS id l[0]::List.map (entS id) (List.drop (0+1) (List.take k l))=acc++[entS id l[0]]++List.map (entS id) (List.drop (0+1) (List.take k l)) by rw[aA];rfl,
      show rs++l[0].2.2::List.map (·.2.2) (List.drop (0+1) (List.take k l))=rs++[l[0].2.2]++List.map (·.2.2) (List.drop (0+1) (List.take k l)) by rw[aA];rfl]
     exact ih
    | succ m=>
     have z:((m+1:Nat):Int) > 0:=by omega
     have hm:m<l.length:=by omega
     have z2:w64 (((m+1:Nat):Int) - 1)=(m:Int):=by rw[φH (by omega) (by omega)];omega
     have hle:(Op.bytesLess l[m+1].2.2.2.2.1 l[m].2.2.2.2.1 || l[m+1].2.2.2.2.1==l[m].2.2.2.2.1)=!Op.bytesLess l[m].2.2.2.2.1 l[m+1].2.2.2.2.1:=φ9Y _ _
     rw[φ8k l m hm]
     simp only[z,dT,cT,z2,φJ,hm,φN,φB hm,hle]
     rcases bE (Op.bytesLess l[m].2.2.2.2.1 l[m+1].2.2.2.2.1) with k3 | k3
     ·simp only[k3,nZ,cF,bS,φf,hb,hb2,cT,φJ,h2,dT,φN,φB h2,hw,tA]
      rw[show acc++entS id l[m+1]::List.map (entS id) (List.drop (m+1+1) (List.take k l))=acc++[entS id l[m+1]]++List.map (entS id) (List.drop (m+1+1) (List.take k l)) by rw[aA];rfl,
       show rs++l[m+1].2.2::List.map (·.2.2) (List.drop (m+1+1) (List.take k l))=rs++[l[m+1].2.2]++List.map (·.2.2) (List.drop (m+1+1) (List.take k l)) by rw[aA];rfl]
      exact ih
     ·simp only[k3,nF,cT,bS,φq,κD,κ2,if_false]
   ·have:n=k:=by omega
    subst this
    have hd:(l.take n).drop n=[]:=by rw[List.drop_eq_nil_iff];omega
    have hw:=φS (show n+1<9223372036854775808 by omega)
    rw[hd]
    simp[ψ2V.l0,φ2i,hk,hw])
  (by omega) 0 ([],[]) (κ4 _) ⟨rfl,rfl⟩
 have key:lp ψ2V.l0 (id,(0,0,[]),l,(e,mark,[]),[],0)=_:=key
 rw[key,κC,κ9,κ9];rfl
noncomputable def φ14 (id:Int) (t:List UInt8):φ1J×Bool:=
 let l:=(scan t).1
 let z:=l.getD (l.length - 1) φ2L
 if l.length=0∨(scan t).2≠t.length∨¬(1≤id∧id≤100000)∨z.2.2.1≠5∨φ3S z.2.2 ((l.take (l.length - 1)).map (·.2.2))=false∨φ2i z.2.2.2.1 none (l.take (l.length - 1))=false then ((0,0,[]),false)
 else (((t.length:Int),z.2.2.2.1,(l.take (l.length - 1)).map (entS id)),true)
theorem φFv (id:Int) (t:List UInt8):(φ14 id t).1.2.2.length≤t.length:=by
 have:=(φ6c t).2
 unfold φ14
 simp only
 split
 ·simp
 ·simp only[lM,lT];omega
theorem φLZ (id:Int):(φ0 id==[])=!decide (1≤id∧id≤100000):=by
 unfold φ0 φ2I
 by_cases h:1≤id∧id≤100000
 ·simp[h]
 ·simp[h]
theorem φEP (id:Int) (t:List UInt8) (ht:t.length<100000000):ψV.f id t=some (φ14 id t):=by
 have hs:=φ6c t
 unfold ψV.f φ14
 rw[φAE t (by omega),bS]
 generalize (scan t).1=l at *
 generalize (scan t).2=e at *
 simp only
 rcases Nat.eq_zero_or_pos l.length with h0 | h0
 ·have:decide (w64 (((0:Nat):Int) - 1)<0)=true:=by decide
  simp only[h0,this,cT,true_or,if_true]
 obtain ⟨k,hk⟩:∃k,l.length=k+1:=⟨l.length - 1,by omega⟩
 have hw:w64 ((l.length:Int) - 1)=(k:Int):=by rw[φH (by omega) (by omega)];omega
 have e1:l.length - 1=k:=by omega
 have hkl:k<l.length:=by omega
 have n0:¬(k:Int)<0:=by omega
 have n1:(0:Int)≤(k:Int):=by omega
 have n2:(k:Int)≤(l.length:Int):=by omega
 have n3:¬l.length=0:=by omega
 rw[e1]
 simp only[hw,n0,n1,n2,n3,dF,dT,cF,Bool.and_self,cT,φ1c,bS,φJ,hkl,φN,tN,false_or]
 by_cases c1:e=t.length
 rotate_left
 ·have d1:((e:Int) != (t.length:Int))=true:=by simp;omega
  simp only[d1,cT,c1,ne_eq,not_false_eq_true,true_or,if_true]
 have d1:((e:Int) != (t.length:Int))=false:=by simp;omega
 by_cases c2:1≤id∧id≤100000
 rotate_left
 ·simp only[d1,cF,c2,dF,nF,cT,not_false_eq_true,true_or,or_true,if_true]
 by_cases c3:(l.getD k φ2L).2.2.1=5
 rotate_left
 ·have d3:((l.getD k φ2L).2.2.1 != 5)=true:=by simpa using c3
  simp only[d1,d3,cF,c2,dT,nZ,cT,and_self,c3,ne_eq,not_false_eq_true,true_or,or_true,if_true]
 have d3:((l.getD k φ2L).2.2.1 != 5)=false:=by simpa using c3
 have hpl:=φH3 id (l.take k) (by rw[lT];omega)
 have hft:=φFg (l.getD k φ2L).2.2 ((l.take k).map fun x=>((id,x):φF)) (by rw[lM,lT];omega)
 have hmm:((l.take k).map fun x=>((id,x):φF)).map (·.2.2.2)=(l.take k).map (·.2.2):=by rw[List.map_map];rfl
 rw[hmm] at hft
 subst c1
 simp only[d1,d3,cF,c2,dT,nZ,and_self,hpl,bS,hft]
 simp only[c3,ne_eq,not_true_eq_false,false_or]
 rcases bE (φ3S (l.getD k φ2L).2.2 ((l.take k).map (·.2.2))) with c4 | c4
 rotate_left
 ·simp only[c4,nF,cT,true_or,if_true]
 simp only[c4,nZ,cF,κ8,false_or,φMV id (t.length:Int) (l.getD k φ2L).2.2.2.1 l k (by omega) (by omega),bS]
 rcases bE (φ2i (l.getD k φ2L).2.2.2.1 none (l.take k)) with c5 | c5
 ·simp only[c5,if_true,φf,κ8,if_false]
 ·simp only[c5,κ2,if_false,φq,if_true]
theorem φNy (id:Int) (t:List UInt8) (ht:t.length<100000000):ψ2V.f id t=some (φ14 id t):=by
 have hs:=φ6c t
 unfold ψ2V.f φ14
 rw[φEQ t (by omega),bS]
 generalize (scan t).1=l at *
 generalize (scan t).2=e at *
 simp only
 by_cases c1:e=t.length
 rotate_left
 ·have d1:((e:Int) != (t.length:Int))=true:=by simp;omega
  simp only[d1,cT,c1,ne_eq,not_false_eq_true,true_or,or_true,if_true]
 have d1:((e:Int) != (t.length:Int))=false:=by simp;omega
 rcases Nat.eq_zero_or_pos l.length with h0 | h0
 ·have d2:(((0:Nat):Int)==0)=true:=rfl
  simp only[d1,h0,d2,cF,cT,true_or,if_true]
 obtain ⟨k,hk⟩:∃k,l.length=k+1:=⟨l.length - 1,by omega⟩
 have hw:w64 ((l.length:Int) - 1)=(k:Int):=by rw[φH (by omega) (by omega)];omega
 have e1:l.length - 1=k:=by omega
 have hkl:k<l.length:=by omega
 have n3:¬l.length=0:=by omega
 have d2:((l.length:Int)==0)=false:=beq_eq_false_iff_ne.2 (by omega)
 have hl0:=φL5 id (t.length:Int) (l.getD k φ2L).2.2.2.1 l (by omega) (by omega)
 rw[e1] at hl0 ⊢
 subst c1
 simp only[d1,d2,n3,cF,hw,φJ,hkl,dT,cT,φN,φ4R,φLZ,bS,false_or,ne_eq,not_true_eq_false]
 by_cases c3:(l.getD k φ2L).2.2.1=5
 rotate_left
 ·have d3:((l.getD k φ2L).2.2.1 != 5)=true:=by simpa using c3
  simp only[d3,cT,c3,not_false_eq_true,true_or,or_true,if_true]
 have d3:((l.getD k φ2L).2.2.1 != 5)=false:=by simpa using c3
 by_cases c2:1≤id∧id≤100000
 rotate_left
 ·simp only[d3,cF,c2,dF,nF,cT,not_false_eq_true,true_or,or_true,if_true]
 simp only[d3,cF,c2,dT,nZ,and_self,not_true_eq_false,false_or,hl0,bS]
 simp only[c3,not_true_eq_false,false_or]
 rcases bE (φ2i (l.getD k φ2L).2.2.2.1 none (l.take k)) with c5 | c5
 rotate_left
 ·simp only[c5,κ2,if_false,φq,or_true,if_true]
 have hlen:((l.take k).map (·.2.2)).length=k:=by rw[lM,lT];omega
 simp only[c5,if_true,φf,κ8,or_false,hw,φJ,hkl,dT,cT,φN,φDP ((l.take k).map (·.2.2)) (by omega),bS]
 unfold φ3S
 rcases bE ((l.getD k φ2L).2.2.2.2.2.2.1==(((l.take k).map (·.2.2)).length:Int)) with c6 | c6
 rotate_left
 ·simp only[bne,c6,nF,cT,κD,if_true]
 rcases bE ((l.getD k φ2L).2.2.2.2.2.2.2==φ1l ((l.take k).map (·.2.2))) with c7 | c7
 rotate_left
 ·simp only[bne,c6,c7,nF,nZ,cF,cT,tA,if_true]
 simp only[bne,c6,c7,nZ,cF,tA,κ8,if_false]
def sNew (n:List UInt8) (w:φE):φE:=φ9 (φX n) (φ9 (φC n) w)
theorem φ41 {w:φE} (h:φ3 w.1=true) (n:List UInt8):φ3 (sNew n w).1=true:=
 φ1q (op:=φX n) (φ1q (op:=φC n) h fun k=>φ2O k n) fun k=>φ2t k n
theorem φG4 (w:φE) (n:List UInt8) (h:φ3 w.1=true) (hn:n.length<1000):ψ1w.f (φA w) n=some (φA (sNew n w)):=by
 unfold ψ1w.f sNew
 have g1:φ3 (φ1B (φC n) (φA w)).1=true:=φ9b (op:=φC _) h fun k=>φ2O k _
 rw[φ5M (φA w) n (φ13 h) (by omega),bS,φ9P _ _ (φ13 g1) (by omega) (by omega),bS,φ2q,φ2q]
theorem φDc {d:φ1} {c:Int} (h:c≠0) (n:List UInt8):sNew n (d,c)=(d,c):=by
 unfold sNew;rw[φ2p h,φ2p h]
theorem φGy (d:φ1) (n:List UInt8) (h:φ3 d=true) (hn:n.length<1000):ψ2w.f d n=some (sNew n (d,0)):=by
 unfold sNew
 rw[φF6 d n (φ13 h) (by omega) (by omega),φ2R]
def sApp (n:List UInt8) (recs:List RecT) (w:φE):φE:=recs.foldl (fun w r=>φ9 (φL n (frame (φ6 r))) w) w
theorem φ7P (n:List UInt8) (recs:List RecT):∀{w:φE},φ3 w.1=true→φ3 (sApp n recs w).1=true:=by
 induction recs with
 | nil=>intro w h;exact h
 | cons r l ih=>intro w h;exact ih (φ1q (op:=φL n (frame (φ6 r))) h fun k=>φ3M k _ _)
theorem φAy (n:List UInt8) (recs:List RecT) {d:φ1} {c:Int} (h:c≠0):sApp n recs (d,c)=(d,c):=by
 induction recs with
 | nil=>rfl
 | cons r l ih=>show sApp n l (φ9 _ (d,c))=_;rw[φ2p h,ih]
theorem φDt (n:List UInt8) (recs:List RecT) (r:RecT) (w:φE):sApp n (recs++[r]) w=φ9 (φL n (frame (φ6 r))) (sApp n recs w):=by
 unfold sApp;rw[κU];rfl
def φw (m:Int):Int→List RecT→List φD
 | _,[]=>[]
 | a,r::rs=>if r.1=4 then (r.2.2.1,m,a,((frame (φ6 r)).length:Int),r.2.1)::φw m (a+((frame (φ6 r)).length:Int)) rs else φw m (a+((frame (φ6 r)).length:Int)) rs
theorem φ90 (m:Int) (r:RecT) (hr:r.1≠4):∀(recs:List RecT) (a:Int),φw m a (recs++[r])=φw m a recs
 | [],a=>by simp[φw,hr]
 | x::l,a=>by
  simp only[κF,φw]
  rw[φ90 m r hr l]
theorem φNo (m:Int) (recs:List RecT) (w:φE) (h:φ3 w.1=true) (hr:recs.length<1000000) :
  lp ψ2C.l0 (φA w,m,[],0,recs,(recs.length:Int),0)=some (φA (sApp (φ0 m) recs w),m,φw m 0 recs):=by
 have hsn:=φ4J m
 have key:=φj (step:=ψ2C.l0) (fun n (a:φE×List φD×Nat)=>(φA a.1,m,a.2.1,(a.2.2:Int),recs,(recs.length:Int),(n:Int))) recs.length (fun n a=>(φA (sApp (φ0 m) (recs.drop n) a.1),m,a.2.1++φw m (a.2.2:Int) (recs.drop n)))
  (fun n a=>φ3 a.1.1=true∧a.2.1.length≤n∧a.2.2≤211 * n)
  (fun rec n a hn ha ih=>by
   obtain ⟨W,acc,at_⟩:=a
   obtain ⟨ha,hacc,hat⟩:=ha
   simp only at ha hacc hat
   rcases κ1 n recs.length with h1 | h1
   ·have hw:=φS (show n+1<9223372036854775808 by omega)
    have hf:=φ5C (φ6 recs[n])
    have hsr:=φ3Z recs[n]
    have hb:∀{α:Type} (x:α),decide ((acc.length+[x].length) * 48≤140737488355328)=true:=fun x=>decide_eq_true (φ5E (by omega))
    have es:ψ10.f (recs[n].1,recs[n].2.1,recs[n].2.2.1,recs[n].2.2.2.1,recs[n].2.2.2.2.1,recs[n].2.2.2.2.2)=some (φ6 recs[n]):=φ9q recs[n]
    have ep:ψ25.f (φA W) (φ0 m) (frame (φ6 recs[n]))=some (φA (φ9 (φL (φ0 m) (frame (φ6 recs[n]))) W)):=by
     rw[φBv (φA W) (φ0 m) (frame (φ6 recs[n])) (φ13 ha) (by omega) (by omega),φ2q]
    have hd:φ3 (φ9 (φL (φ0 m) (frame (φ6 recs[n]))) W).1=true:=φ1q (op:=φL _ _) ha fun k=>φ3M k _ _
    have hw2:w64 ((at_:Int)+((frame (φ6 recs[n])).length:Int))=(at_:Int)+((frame (φ6 recs[n])).length:Int):=φH (by omega) (by omega)
    have hcast:((at_+(frame (φ6 recs[n])).length:Nat):Int)=(at_:Int)+((frame (φ6 recs[n])).length:Int):=by omega
    rw[dG h1]
    simp only[ψ2C.l0,oL,h1,dT,cT,φJ,φN,φB h1,es,φ7x (φ6 recs[n]) (show (φ6 recs[n]).length<2 ^ 62 by omega),φ3D,bS,ep,hb,hw2,hw,φw]
    by_cases c:recs[n].1=4
    ·have d1:(recs[n].1==4)=true:=by simpa using c
     have ih:=ih (φ9 (φL (φ0 m) (frame (φ6 recs[n]))) W,acc++[(recs[n].2.2.1,m,(at_:Int),((frame (φ6 recs[n])).length:Int),recs[n].2.1)],at_+(frame (φ6 recs[n])).length) h1 ⟨hd,by rw[lA];show _+1≤_;omega,by simp only;omega⟩
     simp only at ih
     rw[hcast] at ih
     simp only[c,beq_self_eq_true,cT,bS,hw2,hw,ih,if_true,aA,List.singleton_append];rfl
    ·have d1:(recs[n].1==4)=false:=by simpa using c
     have ih:=ih (φ9 (φL (φ0 m) (frame (φ6 recs[n]))) W,acc,at_+(frame (φ6 recs[n])).length) h1 ⟨hd,by simp only;omega,by simp only;omega⟩
     simp only at ih
     rw[hcast] at ih
     simp only[d1,cF,bS,hw2,hw,ih,c,if_false];rfl
   ·have:n=recs.length:=by omega
    subst this
    simp[ψ2C.l0,φw,sApp])
  (by omega) 0 (w,[],0) (κ4 _) ⟨h,κ4 _,κ4 _⟩
 have key:lp ψ2C.l0 (φA w,m,[],0,recs,(recs.length:Int),0)=_:=key
 rw[key,κC,κ9];rfl
def sWM (m:Int) (recs:List RecT) (w:φE):φE:=φ9 (φG (φ0 m)) (sApp (φ0 m) recs (sNew (φ0 m) w))
theorem φ6P (m:Int) (recs:List RecT) {w:φE} (h:φ3 w.1=true):φ3 (sWM m recs w).1=true:=
 φ1q (op:=φG _) (φ7P _ _ (φ41 h _)) fun k=>φ3I k _
theorem φMT (m:Int) (recs:List RecT) (w:φE) (h:φ3 w.1=true) (hr:recs.length<1000000) (hm:0≤m∧m≤100000) :
  ψ2C.f (φA w) m recs=some (φw m 0 recs,φA (sNew (φ0 (m+1)) (sWM m recs w))):=by
 have hsn:=φ4J m
 have hsn1:=φ4J (m+1)
 have h1:=φ41 h (φ0 m)
 have h2:=φ7P (φ0 m) recs h1
 have h3:=φ6P m recs h
 unfold ψ2C.f
 simp only[φ3D,bS,φG4 w (φ0 m) h (by omega),φNo m recs _ h1 hr,show w64 (m+1)=m+1 from φH (by omega) (by omega)]
 rw[φ7h (φA (sApp (φ0 m) recs (sNew (φ0 m) w))) (φ0 m) (φ13 h2) (by omega),φ2q,bS]
 show (ψ1w.f (φA (sWM m recs w)) (φ0 (m+1))).bind _=_
 rw[φG4 _ _ h3 (by omega)];rfl
def φ2B (m:Int):List φZ→List φD→φE→List RecT→Int→List φD×φE×List RecT
 | [],dir,w,recs,_=>(dir,w,recs)
 | p::ps,dir,w,recs,a=>if w.2≠0 then (dir,w,recs) else
   φ2B m ps (dir++[(p.1,m,a,((frame (φ6 (φR p))).length:Int),p.2.2)]) (φL (φ0 m) (frame (φ6 (φR p))) w.1) (recs++[φR p]) (a+((frame (φ6 (φR p))).length:Int))
theorem φF9 (m:Int):∀(l:List φZ) (dir:List φD) (w:φE) (recs:List RecT) (a:Int),(φ2B m l dir w recs a).2.1=sApp (φ0 m) (l.map φR) w ∧
  ((φ2B m l dir w recs a).2.1.2=0→(φ2B m l dir w recs a).1=dir++φw m a (l.map φR)∧(φ2B m l dir w recs a).2.2=recs++l.map φR)
 | [],dir,w,recs,a=>⟨rfl,fun _=>by simp[φ2B,φw]⟩
 | p::ps,dir,w,recs,a=>by
  unfold φ2B
  split
  ·rename_i c
   obtain ⟨d,k⟩:=w
   refine ⟨(φAy _ _ c).symm,fun e=>absurd e c⟩
  ·rename_i c
   have c:w.2=0:=by simpa using c
   obtain ⟨q1,q2⟩:=φF9 m ps (dir++[(p.1,m,a,((frame (φ6 (φR p))).length:Int),p.2.2)]) (φL (φ0 m) (frame (φ6 (φR p))) w.1) (recs++[φR p]) (a+((frame (φ6 (φR p))).length:Int))
   refine ⟨?_,fun e=>?_⟩
   ·rw[q1]
    show _=sApp _ (ps.map φR) (φ9 _ w)
    congr 1
    unfold φ9;rw[if_pos c]
   ·obtain ⟨e1,e2⟩:=q2 e
    rw[e1,e2]
    constructor
    ·rw[κ6,φw,if_pos (show (φR p).1=4 from rfl),aA];rfl
    ·rw[κ6,aA];rfl
end Go.Rf.G
