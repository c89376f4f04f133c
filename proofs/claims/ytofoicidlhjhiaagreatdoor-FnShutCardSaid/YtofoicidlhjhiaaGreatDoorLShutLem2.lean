import Derived.Test.YtofoicidlhjhiaaGreatDoorLShutLem1
open Option renaming bind_some→bS
open List renaming length_append→lA,append_assoc→aA,mem_cons_of_mem→mC,mem_append→mA,mem_append_right→mR,mem_append_left→mL,mem_cons→mc,drop_eq_getElem_cons→dG,length_take→lT,length_drop→lD,mem_map→mM,length_map→lM,length_cons→lC,length_nil→lN,getElem_mem→gM,map_append→mp,mem_singleton→mZ,mem_cons_self→κ1,take_succ_eq_append_getElem→κ3,length_singleton→κ5,append_nil→κ6,map_cons→κ8,nil_append→κA,drop_zero→κB,take_append_drop→κD,cons_append→κG,foldl_cons→κH,replicate→κI,flatMap_append→κK,nodup_append→κM,all_eq_true→κN,drop_left→κO,take_length→κQ,nodup_cons→κS,range'→κU,pairwise_cons→κZ,not_mem_nil→κc,flatten_cons→κd,foldl_append→κe
open Bool renaming and_eq_true→bA,eq_false_or_eq_true→bE,not_true→nZ,not_false→nF,true_and→tA,not_not→nn,false_eq_true→κ0,true_eq_false→κ7,false_and→κF,or_eq_false_iff→κJ,not_eq_true'→κL,and_true→κP,false_or→κR,or_eq_true→κY
open Int renaming toNat_natCast→tN,ofNat_lt→oL,le_refl→κT
open Nat renaming lt_or_ge→κ2,zero_le→κ4,le_refl→κ9,eq_of_beq_eq_true→κC,lt_of_lt_of_le→κE,zero_add→κV,pow_succ→κW,pow_le_pow_right→κX,mod_eq_of_lt→κb
open Array renaming length_toList→κa
set_option linter.unusedVariables false
set_option linter.unusedSimpArgs false
namespace Go.Rf.G
open Go Go.Rf
set_option synthInstance.maxSize 4000
theorem φ2V (s:List UInt8) (hl:s.length<2 ^ 62):ψ2o.f s=some (φk s):=by
 have key:=φ5l (step:=ψ2o.l0) (a:=(s,(1:Int))) (fun a=>match rvT 7 true s with
   | some (n,k)=>if a.2≤(k:Int) then .inr ((n:Int),(k:Int)) else .inl ()
   | none=>.inl ()) (fun a=>a.1=s∧1≤a.2∧a.2≤8) (fun a=>(8 - a.2).toNat)
  (fun rec a ha ih=>by
   obtain ⟨x,k⟩:=a
   obtain ⟨hx,h1,h2⟩:=ha
   simp only at hx h1 h2 ih ⊢
   subst hx
   obtain ⟨m,rfl⟩:∃m:Nat,k=(m:Int):=⟨k.toNat,by omega⟩
   have out:∀n j,rvT 7 true x=some (n,j)→j≤7∧j≤x.length:=fun n j hr=>by
    have:=φ4P 7 true x n j hr;exact ⟨this.2.1,this.2.2.1⟩
   by_cases c7:(m:Int)≤7
   rotate_left
   ·simp only[ψ2o.l0,c7,dF,cF]
    cases hr:rvT 7 true x with
    | none=>rfl
    | some p=>
     obtain ⟨n,j⟩:=p
     have:=(out n j hr).1
     simp only
     rw[if_neg (by omega)]
   by_cases cl:(m:Int)≤(x.length:Int)
   rotate_left
   ·simp only[ψ2o.l0,c7,cl,dT,dF,cT,cF]
    cases hr:rvT 7 true x with
    | none=>rfl
    | some p=>
     obtain ⟨n,j⟩:=p
     have:=(out n j hr).2
     simp only
     rw[if_neg (by omega)]
   have e1:w64 ((m:Int) - 1)=(m:Int) - 1:=φG (by omega) (by omega)
   have e2:=φJi x (m:Int) m (by omega) (by omega)
   have hv:decV (x.take m)<128 ^ 7:=κE (φET _) (κX (by omega) (by rw[lT];omega))
   have hv2:decV (x.take m)<562949953421312:=hv
   have c0:(0:Int)≤(m:Int):=by omega
   have e3:w64 ((m:Int)+1)=((m+1:Nat):Int):=φL (by omega)
   simp only[ψ2o.l0,c7,cl,dT,cT,e1,e2,bS,φ4s,φ55 _ (show decV (x.take m)≤562949953421311 by omega),c0,Bool.and_self,tN,e3]
   by_cases ck:varN (decV (x.take m))=x.take m
   ·have ck2:(varN (decV (x.take m))==x.take m)=true:=by simpa using ck
    have hr:rvT 7 true x=some (decV (x.take m),m):=by
     have hb:=φ7m 7 true (decV (x.take m)) (x.drop m) hv (by simp) (by omega)
     rw[ck,κD,lT,Nat.min_eq_left (by omega)] at hb
     exact hb
    simp only[ck2,cT,hr]
    rw[if_pos (κT _)]
   ·have ck2:(varN (decV (x.take m))==x.take m)=false:=by simpa using ck
    have ih:=ih (x,((m+1:Nat):Int)) ⟨rfl,by simp only;omega,by simp only;omega⟩ (by simp only;omega)
    simp only[ck2,cF,ih]
    cases hr:rvT 7 true x with
    | none=>rfl
    | some p=>
     obtain ⟨n,j⟩:=p
     have hs:=φ4P 7 true x n j hr
     have hne:j≠m:=fun e=>by
      subst e
      rw[hs.2.2.2.1,φGF 6 n hs.2.2.2.2] at ck
      exact ck rfl
     simp only
     by_cases cj:(m:Int)≤(j:Int)
     ·rw[if_pos cj,if_pos (by omega)]
     ·rw[if_neg cj,if_neg (by omega)])
  ⟨rfl,by simp only;omega,by simp only;omega⟩ (by show (7:Nat)<2 ^ 62;decide)
 unfold ψ2o.f φk
 rw[key,bS]
 cases hr:rvT 7 true s with
 | none=>rfl
 | some p=>
  obtain ⟨n,k⟩:=p
  have hs:=φ4P 7 true s n k hr
  simp only
  rw[if_pos (by omega)];rfl
theorem φ8n (s:List UInt8) (hl:s.length<2 ^ 62):ψj.f s=some (φk s):=by
 have key:=φd (step:=ψj.l0) (fun i (a:Nat)=>(s,(a:Int),(i:Int))) 7 (fun i a=>match rvT (7 - i) (decide (i=0)) (s.drop i) with
   | some (n,k)=>.inr (((a+128 ^ i * n:Nat):Int),((i+k:Nat):Int))
   | none=>bif ((s.drop i).take (7 - i)).all (fun x=>decide (128≤x.toNat)) then .inl () else .inr (0,0)) (fun i a=>a<128 ^ i)
  (fun rec i a hi ha ih=>by
   have hpow:(128:Nat) ^ i≤128 ^ 7:=κX (by omega) hi
   have ha7:a<562949953421312:=κE ha hpow
   rcases κ2 i 7 with h7 | h7
   rotate_left
   ·have:i=7:=by omega
    subst this
    simp[ψj.l0,rvT]
   have c7:(i:Int)<7:=by omega
   rcases κ2 i s.length with hs | hs
   rotate_left
   ·have c:¬(i:Int)<(s.length:Int):=by omega
    have e:s.drop i=[]:=by rw[List.drop_eq_nil_iff];exact hs
    have e7:7 - i=(6 - i)+1:=by omega
    simp only[ψj.l0,c7,c,dT,dF,cT,cF,e,e7,rvT]
    simp
   have cs:(i:Int)<(s.length:Int):=by omega
   have hx:=s[i].toNat_lt
   have e1:w64 (bAt s (i:Int))=((s[i].toNat:Nat):Int):=by rw[φ4b s i hs];exact φ3G (by omega)
   have e2:w64 (7 * (i:Int))=((7 * i:Nat):Int):=by rw[φG (by omega) (by omega)];omega
   have e3:(0:Int)≤((7 * i:Nat):Int):=by omega
   have e4:Int.tmod ((s[i].toNat:Nat):Int) 128=((s[i].toNat % 128:Nat):Int):=rfl
   have e5:((s[i].toNat % 128:Nat):Int) * 2 ^ (min ((7 * i:Nat):Int).toNat 64)=((s[i].toNat % 128 * 128 ^ i:Nat):Int):=by
    rw[tN,Nat.min_eq_left (by omega),show (2:Int) ^ (7 * i)=((128 ^ i:Nat):Int) by
     rw[show (128:Nat)=2 ^ 7 from rfl,←Nat.pow_mul,Int.natCast_pow];rfl]
    simp
   have hb6:(128:Nat) ^ i≤128 ^ 6:=κX (by omega) (by omega)
   have hb6:(128:Nat) ^ i≤4398046511104:=hb6
   have hm:s[i].toNat % 128 * 128 ^ i≤127 * 128 ^ i:=Nat.mul_le_mul_right _ (by omega)
   have e6:w64 ((s[i].toNat % 128 * 128 ^ i:Nat):Int)=((s[i].toNat % 128 * 128 ^ i:Nat):Int):=φ3G (by omega)
   have e7:w64 ((a:Int)+((s[i].toNat % 128 * 128 ^ i:Nat):Int))=((a+s[i].toNat % 128 * 128 ^ i:Nat):Int):=by rw[φG (by omega) (by omega)];omega
   have e8:w64 ((i:Int)+1)=((i+1:Nat):Int):=φL (by omega)
   have e9:7 - i=(6 - i)+1:=by omega
   have e10:7 - (i+1)=6 - i:=by omega
   rw[dG hs,e9]
   by_cases cb:s[i].toNat<128
   ·have cb2:¬((s[i].toNat:Nat):Int)≥128:=by omega
    by_cases cz:s[i].toNat=0
    ·have cz2:(((s[i].toNat:Nat):Int)==0)=true:=by rw[cz];rfl
     by_cases ci:i=0
     ·subst ci
      have hi0:¬((0:Nat):Int) > 0:=by omega
      simp only[ψj.l0,c7,cs,dT,cT,φD,hs,e1,e2,e3,e4,e5,e6,e7,e8,cb2,dF,cF,cz2,hi0,bS,φT]
      unfold rvT
      rw[if_pos cb,if_neg (by simp)]
      simp[cz]
     ·have hi0:(i:Int) > 0:=by omega
      have hd:decide (i=0)=false:=decide_eq_false ci
      simp only[ψj.l0,c7,cs,dT,cT,φD,hs,e1,e2,e3,e4,e5,e6,e7,e8,cb2,dF,cF,cz2,hi0,bS,φZ,hd]
      unfold rvT
      rw[if_pos cb,if_pos ⟨cz,rfl⟩]
      simp only[List.take_succ_cons]
      have hne:decide (128≤s[i].toNat)=false:=decide_eq_false (by omega)
      rw[List.all_cons,hne];rfl
    ·have cz2:(((s[i].toNat:Nat):Int)==0)=false:=by simp;omega
     simp only[ψj.l0,c7,cs,dT,cT,φD,hs,e1,e2,e3,e4,e5,e6,e7,e8,cb2,dF,cF,cz2,bS,φT]
     unfold rvT
     rw[if_pos cb,if_neg (fun k=>cz k.1)]
     have e11:s[i].toNat % 128=s[i].toNat:=by omega
     simp only[e11]
     rw[Nat.mul_comm (128 ^ i)]
   ·have cb2:((s[i].toNat:Nat):Int)≥128:=by omega
    have hlt:a+s[i].toNat % 128 * 128 ^ i<128 ^ (i+1):=by rw[κW];omega
    have ih:=ih (a+s[i].toNat % 128 * 128 ^ i) h7 hlt
    rw[e10] at ih
    simp only[ψj.l0,c7,cs,dT,cT,φD,hs,e1,e2,e3,e4,e5,e6,e7,e8,cb2,ih]
    rw[rvT,if_neg cb,show decide (i+1=0)=false from decide_eq_false (by omega)]
    cases hr:rvT (6 - i) false (s.drop (i+1)) with
    | none=>
     simp only[Option.map_none,List.take_succ_cons]
     have hge:decide (128≤s[i].toNat)=true:=decide_eq_true (by omega)
     rw[List.all_cons,hge,tA]
    | some p=>
     obtain ⟨n,k⟩:=p
     simp only[Option.map_some]
     congr 3
     ·rw[Nat.mul_add,κW,Nat.mul_comm (128 ^ i) (s[i].toNat % 128)]
      have:128 ^ i * (128 * n)=128 ^ i * 128 * n:=by rw[Nat.mul_assoc]
      omega
     ·omega)
  (by omega) 0 0 (κ4 _) (by simp)
 have key:lp ψj.l0 (s,0,0)=_:=key
 unfold ψj.f φk
 rw[key,bS]
 simp only[Nat.sub_zero,κB,dT]
 cases hr:rvT 7 true s with
 | none=>
  simp only
  cases (s.take 7).all (fun x=>decide (128≤x.toNat))<;>rfl
 | some p=>
  obtain ⟨n,k⟩:=p
  simp
def fixR (l:List UInt8):Nat:=l.foldl (fun n x=>n * 256+x.toNat) 0
theorem φ8R (l:List UInt8) (x:UInt8):fixR (l++[x])=fixR l * 256+x.toNat:=by
 unfold fixR;rw[κe];rfl
theorem φA2 (l:List UInt8):fixR l<256 ^ l.length:=by
 induction l using φ8W with
 | h0=>simp[fixR]
 | hs l x ih=>
  have:=x.toNat_lt
  rw[φ8R,lA,κ5,κW];omega
theorem φMi (l:List UInt8):fixL (fixR l) l.length=l:=by
 induction l using φ8W with
 | h0=>rfl
 | hs l x ih=>
  have hx:=x.toNat_lt
  rw[φ8R,lA,κ5,φ92,show (fixR l * 256+x.toNat) / 256=fixR l by omega,ih]
  have:UInt8.ofNat (fixR l * 256+x.toNat)=x:=by
   have e:=UInt8.ofNat_mod_size (x:=fixR l * 256+x.toNat)
   have e2:(fixR l * 256+x.toNat) % 2 ^ 8=x.toNat:=by omega
   rw[e2] at e
   rw[←e];simp
  rw[this]
theorem φC8:∀(k n:Nat),n<256 ^ k→fixR (fixL n k)=n
 | 0,n,h=>by simp at h;subst h;rfl
 | k+1,n,h=>by
  rw[φ92,φ8R,φC8 k (n / 256) (by rw[Nat.div_lt_iff_lt_mul (by omega)];rw[κW] at h;exact h)]
  have:(UInt8.ofNat n).toNat=n % 256:=by simp
  rw[this];omega
def φ3Z (s:List UInt8):Int×Bool:=if s.length<4 then (0,false) else (((fixR (s.take 4):Nat):Int),true)
theorem φGL (s:List UInt8) (n:Nat) (h:n<s.length):fixR (s.take (n+1))=fixR (s.take n) * 256+s[n].toNat:=by
 rw[κ3 h,φ8R]
theorem φGm (s:List UInt8) (hl:s.length<2 ^ 62):ψ2k.f s 4=some (φ3Z s):=by
 unfold ψ2k.f φ3Z
 have h0:decide ((1:Int)≤4∧(4:Int)≤7)=true:=by decide
 simp only[φ1u,bS,h0,nZ,cF]
 by_cases c:s.length<4
 ·have c1:(s.length:Int)<4:=by omega
  simp[c,c1]
 have c1:¬(s.length:Int)<4:=by omega
 have key:=φd (step:=ψ2k.l0) (fun n (_:Unit)=>(s,4,((fixR (s.take n):Nat):Int),(n:Int))) 4 (fun _ _=>((fixR (s.take 4):Nat):Int)) (fun _ _=>True)
  (fun rec n a hn _ ih=>by
   rcases κ2 n 4 with h | h
   ·have h4:(n:Int)<4:=by omega
    have hs:n<s.length:=by omega
    have hx:=s[n].toNat_lt
    have hlt:fixR (s.take n)<256 ^ 3:=κE (φA2 _) (κX (by omega) (by rw[lT];omega))
    have hlt:fixR (s.take n)<16777216:=hlt
    have e1:w64 (((fixR (s.take n):Nat):Int) * 256)=((fixR (s.take n) * 256:Nat):Int):=by rw[φG (by omega) (by omega)];omega
    have e2:w64 (bAt s (n:Int))=((s[n].toNat:Nat):Int):=by rw[φ4b s n hs];exact φ3G (by omega)
    have e3:w64 (((fixR (s.take n) * 256:Nat):Int)+((s[n].toNat:Nat):Int))=((fixR (s.take (n+1)):Nat):Int):=by
     rw[φGL s n hs,φG (by omega) (by omega)];omega
    simp only[ψ2k.l0,h4,dT,cT,φD,hs,e1,e2,e3,φL (show n+1<9223372036854775808 by omega),ih () h trivial]
   ·have:n=4:=by omega
    subst this
    simp[ψ2k.l0])
  (by omega) 0 () (κ4 _) trivial
 have key:lp ψ2k.l0 (s,4,0,0)=_:=key
 simp only[c,c1,dF,cF,key,bS,if_false]
theorem or64 (a b:Nat) (ha:a<2 ^ 32) (hb:b<256):bits (fun _ a b=>a ||| b) .i64 ((a * 256:Nat):Int) (b:Int)=((a * 256+b:Nat):Int):=by
 have e:(BitVec.ofInt 64 ((a * 256:Nat):Int) ||| BitVec.ofInt 64 (b:Int)).toNat=a * 256+b:=by
  rw[BitVec.ofInt_natCast,BitVec.ofInt_natCast,BitVec.toNat_or,BitVec.toNat_ofNat,BitVec.toNat_ofNat,κb (by omega),κb (by omega)]
  have:=Nat.shiftLeft_add_eq_or_of_lt (show b<2 ^ 8 from hb) a
  rw[Nat.shiftLeft_eq] at this
  exact this.symm
 show IntKind.wrap .i64 ((BitVec.ofInt 64 ((a * 256:Nat):Int) ||| BitVec.ofInt 64 (b:Int)).toNat:Int)=_
 rw[e]
 exact φBg (by omega)
theorem φ6e (s:List UInt8) (hl:s.length<2 ^ 62):ψf.f s 4=some (φ3Z s):=by
 unfold ψf.f φ3Z
 have h0:decide ((1:Int)≤4∧(4:Int)≤7)=true:=by decide
 simp only[φ1q,bS,h0,nZ,cF]
 by_cases c:s.length<4
 ·have c1:(s.length:Int)<4:=by omega
  simp[c,c1]
 have c1:¬(s.length:Int)<4:=by omega
 have key:=φd (step:=ψf.l0) (fun n (_:Unit)=>(s,((fixR (s.take n):Nat):Int),4,(n:Int))) 4 (fun _ _=>((fixR (s.take 4):Nat):Int)) (fun _ _=>True)
  (fun rec n a hn _ ih=>by
   rcases κ2 n 4 with h | h
   ·have h4:(n:Int)<4:=by omega
    have hs:n<s.length:=by omega
    have hx:=s[n].toNat_lt
    have hlt:fixR (s.take n)<256 ^ 3:=κE (φA2 _) (κX (by omega) (by rw[lT];omega))
    have hlt:fixR (s.take n)<16777216:=hlt
    have e1:w64 (((fixR (s.take n):Nat):Int) * 2 ^ (min 8 64))=((fixR (s.take n) * 256:Nat):Int):=by
     show w64 (((fixR (s.take n):Nat):Int) * 256)=_
     rw[φG (by omega) (by omega)];omega
    have e2:w64 (bAt s (n:Int))=((s[n].toNat:Nat):Int):=by rw[φ4b s n hs];exact φ3G (by omega)
    have e3:=or64 (fixR (s.take n)) s[n].toNat (by omega) (by omega)
    rw[←φGL s n hs] at e3
    simp only[ψf.l0,h4,dT,cT,φD,hs,e1,e2,e3,φL (show n+1<9223372036854775808 by omega),ih () h trivial]
   ·have:n=4:=by omega
    subst this
    simp[ψf.l0])
  (by omega) 0 () (κ4 _) trivial
 have key:lp ψf.l0 (s,0,4,0)=_:=key
 simp only[c,c1,dF,cF,key,bS,if_false]
def φP (s:List UInt8):List UInt8×Int:=
 if s.length<4 then ([],0) else
 match rvT 7 true (s.drop 4) with
 | none=>([],0)
 | some (n,k)=>if 200<n∨s.length<4+k+n then ([],0) else
  if frame ((s.take (4+k+n)).drop (4+k))=s.take (4+k+n) then ((s.take (4+k+n)).drop (4+k),((4+k+n:Nat):Int)) else ([],0)
theorem φ97 (s:List UInt8) (hl:s.length<1000000000000):ψ1A.f s=some (φP s):=by
 unfold ψ1A.f φP
 by_cases c:s.length<4
 ·have c1:(s.length:Int)<4:=by omega
  simp[c,c1]
 have c1:¬(s.length:Int)<4:=by omega
 have c2:(decide (0≤(4:Int)) && decide ((4:Int)≤(s.length:Int)))=true:=by simp;omega
 have hd:(s.drop 4).length<2 ^ 62:=by rw[lD];omega
 simp only[c,c1,dF,cF,c2,cT,φ8n (s.drop 4) hd,bS,if_false]
 unfold φk
 cases hr:rvT 7 true (s.drop 4) with
 | none=>simp
 | some p=>
  obtain ⟨n,k⟩:=p
  obtain ⟨q1,q2,q3,q4,q5⟩:=φ4P 7 true (s.drop 4) n k hr
  have q5:n<562949953421312:=q5
  rw[lD] at q3
  have d1:(((k:Nat):Int)==0)=false:=by simp;omega
  simp only[d1,cF]
  by_cases c3:200<n
  ·have c4:((n:Nat):Int) > 200:=by omega
   simp[c3,c4]
  have c4:¬((n:Nat):Int) > 200:=by omega
  have e1:w64 (w64 ((s.length:Int) - 4) - (k:Int))=(s.length:Int) - 4 - k:=by rw[φG (n:=(s.length:Int) - 4) (by omega) (by omega),φG (by omega) (by omega)]
  have e2:w64 (4+(k:Int))=((4+k:Nat):Int):=by rw[φG (by omega) (by omega)];omega
  have e3:w64 (((4+k:Nat):Int)+(n:Int))=((4+k+n:Nat):Int):=by rw[φG (by omega) (by omega)];omega
  by_cases c5:s.length<4+k+n
  ·have c6:((n:Nat):Int) > (s.length:Int) - 4 - k:=by omega
   simp[c3,c4,c5,c6,e1]
  have c6:¬((n:Nat):Int) > (s.length:Int) - 4 - k:=by omega
  have c7:(decide (0≤((4+k+n:Nat):Int)) && decide (((4+k+n:Nat):Int)≤(s.length:Int)))=true:=by simp;omega
  have c8:(decide (0≤((4+k:Nat):Int)) && decide (((4+k:Nat):Int)≤((4+k+n:Nat):Int)))=true:=by simp;omega
  have hl2:((s.take (4+k+n)).drop (4+k)).length<2 ^ 62:=by rw[lD,lT];omega
  simp only[c3,c4,c5,c6,e1,e2,e3,c7,c8,dF,cF,cT,tN,φ9h _ hl2,bS,or_self,if_false]
  by_cases c9:frame ((s.take (4+k+n)).drop (4+k))=s.take (4+k+n)
  ·have d9:(frame ((s.take (4+k+n)).drop (4+k))==s.take (4+k+n))=true:=by simpa using c9
   simp only[d9,nZ,cF]
   rw[if_pos c9]
  ·have d9:(frame ((s.take (4+k+n)).drop (4+k))==s.take (4+k+n))=false:=by simpa using c9
   simp only[d9,nF,cT]
   rw[if_neg c9]
theorem φ7o (s:List UInt8) (hl:s.length<1000000000000):ψ38.f s=some (φP s):=by
 unfold ψ38.f φP
 by_cases c:s.length<5
 ·have c1:(s.length:Int)<5:=by omega
  by_cases c4:s.length<4
  ·simp[c4,c1]
  ·have e:s.drop 4=[]:=by rw[List.drop_eq_nil_iff];omega
   have e2:s.length=4:=by omega
   rcases κ2 s.length 4 with h | h
   ·exact absurd h c4
   ·have hn:rvT 7 true (s.drop 4)=none:=by
     cases hr:rvT 7 true (s.drop 4) with
     | none=>rfl
     | some p=>
      obtain ⟨n,k⟩:=p
      have q:=φ4P 7 true (s.drop 4) n k hr
      rw[lD] at q
      omega
    simp[c4,c1,hn]
 have c4:¬s.length<4:=by omega
 have c1:¬(s.length:Int)<5:=by omega
 have c2:(decide (0≤(4:Int)) && decide ((4:Int)≤(s.length:Int)))=true:=by simp;omega
 have hd:(s.drop 4).length<2 ^ 62:=by rw[lD];omega
 simp only[c4,c1,dF,cF,c2,cT,φ2V (s.drop 4) hd,bS,if_false]
 unfold φk
 cases hr:rvT 7 true (s.drop 4) with
 | none=>simp
 | some p=>
  obtain ⟨n,k⟩:=p
  obtain ⟨q1,q2,q3,q4,q5⟩:=φ4P 7 true (s.drop 4) n k hr
  have q5:n<562949953421312:=q5
  rw[lD] at q3
  have d1:(((k:Nat):Int)==0)=false:=by simp;omega
  simp only[d1,cF]
  by_cases c3:200<n
  ·have c4:((n:Nat):Int) > 200:=by omega
   simp[c3,c4]
  have c4:¬((n:Nat):Int) > 200:=by omega
  have e1:w64 (w64 ((s.length:Int) - 4) - (k:Int))=(s.length:Int) - 4 - k:=by rw[φG (n:=(s.length:Int) - 4) (by omega) (by omega),φG (by omega) (by omega)]
  have e2:w64 (4+(k:Int))=((4+k:Nat):Int):=by rw[φG (by omega) (by omega)];omega
  have e3:w64 (((4+k:Nat):Int)+(n:Int))=((4+k+n:Nat):Int):=by rw[φG (by omega) (by omega)];omega
  by_cases c5:s.length<4+k+n
  ·have c6:((n:Nat):Int) > (s.length:Int) - 4 - k:=by omega
   simp[c3,c4,c5,c6,e1]
  have c6:¬((n:Nat):Int) > (s.length:Int) - 4 - k:=by omega
  have c7:(decide (0≤((4+k+n:Nat):Int)) && decide (((4+k+n:Nat):Int)≤(s.length:Int)))=true:=by simp;omega
  have c8:(decide (0≤((4+k:Nat):Int)) && decide (((4+k:Nat):Int)≤((4+k+n:Nat):Int)))=true:=by simp;omega
  have hl2:((s.take (4+k+n)).drop (4+k)).length<2 ^ 62:=by rw[lD,lT];omega
  simp only[c3,c4,c5,c6,e1,e2,e3,c7,c8,dF,cF,cT,tN,φ6s _ hl2,bS,or_self,if_false]
  by_cases c9:frame ((s.take (4+k+n)).drop (4+k))=s.take (4+k+n)
  ·have d9:(s.take (4+k+n)==frame ((s.take (4+k+n)).drop (4+k)))=true:=by simpa using c9.symm
   simp only[d9,nZ,cF]
   rw[if_pos c9]
  ·have d9:(s.take (4+k+n)==frame ((s.take (4+k+n)).drop (4+k)))=false:=by simpa using fun e=>c9 e.symm
   simp only[d9,nF,cT]
   rw[if_neg c9]
abbrev φ4F:=List UInt8×Bool
def φ1E (n:Int):Prop:=0≤n∧n≤562949953421311
theorem φHZ {n:Int} (h:φ1E n):∃m:Nat,n=(m:Int)∧m<562949953421312∧varT n=varN m:=by
 unfold φ1E at h
 obtain ⟨m,rfl⟩:∃m:Nat,n=(m:Int):=⟨n.toNat,by omega⟩
 exact ⟨m,rfl,by omega,φ55 m (by omega)⟩
theorem φ3F {n:Int} (h:φ1E n) (r:List UInt8):φk (varT n++r)=(n,((varT n).length:Int))∧1≤(varT n).length:=by
 obtain ⟨m,rfl,hm,e⟩:=φHZ h
 rw[e]
 have hb:=φ7m 7 true m r hm (by simp) (by omega)
 unfold φk
 rw[hb]
 exact ⟨rfl,(φ93 6 m hm).1⟩
theorem φ2I {n:Int} (h:φ1E n) (r:List UInt8) (hl:(varT n++r).length<2 ^ 62):ψ1d.f (varT n++r,false)=some (n,(r,false)):=by
 obtain ⟨h1,h2⟩:=φ3F h r
 have d:((((varT n).length:Nat):Int)==0)=false:=by simp;intro e;rw[e] at h2;simp at h2
 have c:(decide (0≤(((varT n).length:Nat):Int)) && decide ((((varT n).length:Nat):Int)≤((varT n++r).length:Int)))=true:=by
  rw[lA];simp;omega
 unfold ψ1d.f
 simp only[φ8n _ hl,h1,bS,cF,d,c,cT,tN,κO]
theorem φ54 (s:List UInt8) (hl:s.length<2 ^ 62):(∃n r,ψ1d.f (s,false)=some (n,(r,false))∧s=varT n++r∧φ1E n)∨ψ1d.f (s,false)=some (0,(s,true)):=by
 rcases φAp s with h | ⟨n,k,_,h,h1,h2,h3,h4,h5⟩
 ·right
  unfold ψ1d.f
  simp only[φ8n s hl,h,bS,cF,show ((0:Int)==0)=true from rfl,cT]
 ·left
  have hn:φ1E (n:Int):=⟨by omega,by omega⟩
  have e:s=varT (n:Int)++s.drop k:=by rw[φ55 n (by omega),←h4,κD]
  have hb:=φ2I hn (s.drop k) (by rw[←e];exact hl)
  rw[←e] at hb
  exact ⟨(n:Int),s.drop k,hb,e,hn⟩
theorem φ6f (s:List UInt8) (hl:s.length<2 ^ 62):ψ1d.f (s,true)=some (0,(s,true)):=by
 unfold ψ1d.f
 simp only[φ8n s hl,bS,cT]
theorem φ6L (t r:List UInt8):ψ1c.f (t++r,false) (t.length:Int)=some (t,(r,false)):=by
 unfold ψ1c.f
 have c1:¬((t.length:Nat):Int) > ((t++r).length:Int):=by rw[lA];omega
 have c2:(decide (0≤((t.length:Nat):Int)) && decide (((t.length:Nat):Int)≤((t++r).length:Int)))=true:=by rw[lA];simp;omega
 simp only[cF,c1,dF,c2,cT,tN,List.take_left,κO]
theorem φ9q (s:List UInt8) (n:Int) (hn:0≤n):(∃t r,ψ1c.f (s,false) n=some (t,(r,false))∧s=t++r∧(t.length:Int)=n)∨ψ1c.f (s,false) n=some ([],(s,true)):=by
 by_cases c:n > (s.length:Int)
 ·right
  unfold ψ1c.f
  simp only[cF,c,dT,cT]
 ·left
  have hl:((s.take n.toNat).length:Int)=n:=by rw[lT];omega
  have:=φ6L (s.take n.toNat) (s.drop n.toNat)
  rw[κD,hl] at this
  exact ⟨_,_,this,(κD _ _).symm,hl⟩
theorem φ8F (s:List UInt8) (n:Int):ψ1c.f (s,true) n=some ([],(s,true)):=by
 unfold ψ1c.f
 simp only[cT]
theorem φ9B (t r:List UInt8) (ht:φ1E (t.length:Int)) (hl:(varT (t.length:Int)++(t++r)).length<2 ^ 62):ψ1e.f (varT (t.length:Int)++(t++r),false)=some (t,(r,false)):=by
 unfold ψ1e.f
 simp only[φ2I ht (t++r) hl,bS,φ6L]
theorem φ8V (s:List UInt8) (hl:s.length<2 ^ 62):(∃t r,ψ1e.f (s,false)=some (t,(r,false))∧s=varT (t.length:Int)++(t++r)∧φ1E (t.length:Int))∨∃r,ψ1e.f (s,false)=some ([],(r,true))∧r.length≤s.length:=by
 unfold ψ1e.f
 rcases φ54 s hl with ⟨n,r,e,es,hn⟩ | e
 ·rw[e,bS]
  rcases φ9q r n hn.1 with ⟨t,r2,e2,es2,ht⟩ | e2
  ·left
   refine ⟨t,r2,by simp only[e2,bS],?_,by rw[ht];exact hn⟩
   rw[ht,←es2];exact es
  ·right
   refine ⟨r,by simp only[e2,bS],?_⟩
   rw[es,lA];omega
 ·right
  refine ⟨s,?_,κ9 _⟩
  rw[e,bS]
  simp only[φ8F,bS]
theorem φ8w (s:List UInt8) (hl:s.length<2 ^ 62):ψ1e.f (s,true)=some ([],(s,true)):=by
 unfold ψ1e.f
 simp only[φ6f s hl,bS,φ8F]
theorem φ6m (t r:List UInt8) (ht:φ1E (t.length:Int)) (hl:(varT (t.length:Int)++(t++r)).length<1000000000000000):ψ3r.f (varT (t.length:Int)++(t++r))=some (t,r,true):=by
 obtain ⟨h1,h2⟩:=φ3F ht (t++r)
 have h3:=φm (t.length:Int)
 rw[lA,lA] at hl
 unfold ψ3r.f
 rw[φ2V _ (by rw[lA,lA];omega),h1,bS]
 generalize varT (t.length:Int)=v at *
 have d:(((v.length:Nat):Int)==0)=false:=by simp;intro e;rw[e] at h2;simp at h2
 have e1:w64 (((v++(t++r)).length:Int) - ((v.length:Nat):Int))=((t.length+r.length:Nat):Int):=by rw[lA,lA,φG (by omega) (by omega)];omega
 have c1:¬((t.length:Nat):Int) > ((t.length+r.length:Nat):Int):=by omega
 have e2:w64 (((v.length:Nat):Int)+((t.length:Nat):Int))=(((v++t).length:Nat):Int):=by rw[lA,φG (by omega) (by omega)];omega
 have c2:(decide (0≤(((v++t).length:Nat):Int)) && decide ((((v++t).length:Nat):Int)≤((v++(t++r)).length:Int)))=true:=by simp;omega
 have c3:(decide (0≤((v.length:Nat):Int)) && decide (((v.length:Nat):Int)≤(((v++t).length:Nat):Int)))=true:=by simp;omega
 have e3:(v++(t++r)).take (v++t).length=v++t:=by rw[←aA,List.take_left]
 have e4:(v++(t++r)).drop (v++t).length=r:=by rw[←aA,κO]
 simp only[d,cF,e1,c1,dF,e2,c2,c3,cT,tN,e3,e4,κO]
theorem φ7r (s:List UInt8) (hl:s.length<1000000000000000):∃t r b,ψ3r.f s=some (t,r,b)∧t.length≤s.length∧r.length≤s.length:=by
 rcases φAp s with h | ⟨n,k,_,h,h1,h2,h3,h4,h5⟩
 ·refine ⟨[],[],false,?_,by simp,by simp⟩
  unfold ψ3r.f
  simp only[φ2V s (by omega),h,bS,show ((0:Int)==0)=true from rfl,cT]
 ·by_cases c:s.length<k+n
  ·refine ⟨[],[],false,?_,by simp,by simp⟩
   have d:(((k:Nat):Int)==0)=false:=by simp;omega
   have e1:w64 ((s.length:Int) - (k:Int))=(s.length:Int) - k:=φG (by omega) (by omega)
   have c1:((n:Nat):Int) > (s.length:Int) - k:=by omega
   unfold ψ3r.f
   simp only[φ2V s (by omega),h,bS,d,cF,e1,c1,dT,cT]
  ·have hn:φ1E (n:Int):=⟨by omega,by omega⟩
   have ht:(((s.drop k).take n).length:Int)=n:=by rw[lT,lD];omega
   have e:s=varT (((s.drop k).take n).length:Int)++((s.drop k).take n++(s.drop k).drop n):=by
    rw[ht,φ55 n (by omega),←h4,κD,κD]
   have hb:=φ6m ((s.drop k).take n) ((s.drop k).drop n) (by rw[ht];exact hn) (by rw[←e];exact hl)
   rw[←e] at hb
   exact ⟨_,_,_,hb,by rw[lT,lD];omega,by rw[lD,lD];omega⟩
def φ2s (s:List UInt8) (r:RecT):Prop:=φe r=true∧φ9 r=s
theorem φ9T {r:RecT} (h:φe r=true):φ1E r.1∧φ1E r.2.1∧(r.1=1∨r.1=4→r.2.2.1.length≤8∧r.2.2.2.1.length≤24∧r.2.2.2.2.1=0∧r.2.2.2.2.2=0) ∧
  (r.1=2→r.2.2.1.length≤8∧r.2.2.2.1=[]∧r.2.2.2.2.1=0∧r.2.2.2.2.2=0) ∧
  (¬(r.1=1∨r.1=4)→¬r.1=2→r.2.2.1=[]∧r.2.2.2.1=[]∧φ1E r.2.2.2.2.1∧0≤r.2.2.2.2.2∧r.2.2.2.2.2≤4294967295):=by
 obtain ⟨k,b,ky,v,c,s⟩:=r
 unfold φe φ1c at h
 simp only[bA,decide_eq_true_eq] at h
 obtain ⟨⟨h1,_⟩,h⟩:=h
 unfold φ1E
 simp only
 by_cases c1:k=1∨k=4
 ·rw[if_pos c1] at h
  simp only[bA,decide_eq_true_eq,beq_iff_eq] at h
  exact ⟨by omega,by omega,fun _=>by omega,fun e=>by omega,fun e=>absurd c1 e⟩
 rw[if_neg c1] at h
 by_cases c2:k=2
 ·rw[if_pos c2] at h
  simp only[bA,decide_eq_true_eq,beq_iff_eq] at h
  exact ⟨by omega,by omega,fun e=>absurd e c1,fun _=>⟨by omega,h.2.1,h.2.2⟩,fun _ e=>absurd c2 e⟩
 rw[if_neg c2] at h
 by_cases c3:k=3
 ·rw[if_pos c3] at h
  simp only[bA,decide_eq_true_eq,beq_iff_eq] at h
  exact ⟨by omega,by omega,fun e=>absurd e c1,fun e=>absurd e c2,fun _ _=>⟨h.1,h.2.1,by omega,by omega,by omega⟩⟩
 rw[if_neg c3] at h
 by_cases c5:k=5
 ·rw[if_pos c5] at h
  simp only[bA,decide_eq_true_eq,beq_iff_eq] at h
  exact ⟨by omega,by omega,fun e=>absurd e c1,fun e=>absurd e c2,fun _ _=>⟨h.1,h.2.1,by omega,by omega,by omega⟩⟩
 ·rw[if_neg c5] at h;simp at h
theorem φ78 {n:Int} (h:0≤n∧n≤4294967295):(fix4 n).length=4:=by
 unfold fix4;rw[if_pos h,φBP]
theorem φH5 {n:Int} (h:0≤n∧n≤4294967295) (r:List UInt8):φ3Z (fix4 n++r)=(n,true):=by
 have hl:=φ78 h
 unfold φ3Z
 rw[if_neg (by rw[lA];omega)]
 have e:(fix4 n++r).take 4=fix4 n:=by rw[←hl,List.take_left]
 rw[e]
 unfold fix4
 rw[if_pos h,φC8 4 n.toNat (by show _<4294967296;omega)]
 congr 1;omega
theorem φMs (t:List UInt8) (h:t.length=4):fix4 (φ3Z t).1=t∧0≤(φ3Z t).1∧(φ3Z t).1≤4294967295:=by
 have hlt:=φA2 t
 rw[h] at hlt
 have hlt:fixR t<4294967296:=hlt
 unfold φ3Z
 rw[if_neg (by omega),show t.take 4=t by rw[←h,κQ]]
 refine ⟨?_,by simp only;omega,by simp only;omega⟩
 unfold fix4
 rw[if_pos (by simp only;omega)]
 show fixL ((fixR t:Nat):Int).toNat 4=t
 rw[tN,←h,φMi]
theorem φ6Z (k:Int) {α β γ:Type} (x:α) (y:β) (z:γ):(bif k==1 then some (x,y,z,k,k==1) else some (x,y,z,k,k==4))=some (x,y,z,k,decide (k=1∨k=4)):=by
 by_cases c1:k=1
 ·subst c1;rfl
 ·have b1:(k==1)=false:=by simpa using c1
  rw[b1,cF]
  by_cases c4:k=4
  ·subst c4;rfl
  ·have b4:(k==4)=false:=by simpa using c4
   rw[b4,decide_eq_false (by omega)]
theorem φ7s (k:Int) {α β γ δ:Type} (x:α) (y:β) (z:γ) (u:δ):(bif k==1 then some (x,y,z,u,k,k==1) else some (x,y,z,u,k,k==4))=some (x,y,z,u,k,decide (k=1∨k=4)):=by
 by_cases c1:k=1
 ·subst c1;rfl
 ·have b1:(k==1)=false:=by simpa using c1
  rw[b1,cF]
  by_cases c4:k=4
  ·subst c4;rfl
  ·have b4:(k==4)=false:=by simpa using c4
   rw[b4,decide_eq_false (by omega)]
theorem app3 {a b c:List UInt8} {n:Nat} (h:(a++(b++c)).length≤n):(b++c).length≤n∧c.length≤n:=by simp only[lA] at h ⊢;omega
theorem app2 {a b:List UInt8} {n:Nat} (h:(a++b).length≤n):b.length≤n:=by simp only[lA] at h;omega
theorem lt15 {a:List UInt8} (h:a.length≤60):a.length<1000000000000000:=by omega
theorem lt62 {a:List UInt8} (h:a.length≤60):a.length<2 ^ 62:=by omega
def φ2o:RecT:=(0,0,[],[],0,0)
theorem φA9 {s:List UInt8} {r:RecT} (h:φ2s s r):ψi.f s=some (r,true):=by
 obtain ⟨hok,rfl⟩:=h
 have hl:=φ3P r
 obtain ⟨i1,i2,i3,i4,i5⟩:=φ9T hok
 have hok2:¬φe r=false:=by rw[hok];simp
 obtain ⟨k,b,ky,v,c,sm⟩:=r
 simp only at i1 i2 i3 i4 i5
 by_cases c1:k=1∨k=4
 ·obtain ⟨j1,j2,rfl,rfl⟩:=i3 c1
  have es:φ9 (k,b,ky,v,0,0)=varT k++(varT b++(varT (ky.length:Int)++(ky++(varT (v.length:Int)++(v++[]))))):=by
   unfold φ9;rw[if_neg hok2,if_pos c1];simp[aA]
  rw[es] at hl ⊢
  have x2:=φ9B v [] ⟨by omega,by omega⟩ (lt62 (app3 (app3 hl).2).2)
  have x1:=φ9B ky (varT (v.length:Int)++(v++[])) ⟨by omega,by omega⟩ (lt62 (app3 hl).2)
  have n2:=φ2I i2 (varT (ky.length:Int)++(ky++(varT (v.length:Int)++(v++[])))) (lt62 (app2 hl))
  have n1:=φ2I i1 (varT b++(varT (ky.length:Int)++(ky++(varT (v.length:Int)++(v++[]))))) (lt62 hl)
  have hcd:decide (k=1∨k=4)=true:=decide_eq_true c1
  unfold ψi.f
  simp only[n1,n2,bS,φ6Z,hcd,cT,x1,x2,cF,φ6w,hok,nZ]
  rfl
 have hcd:decide (k=1∨k=4)=false:=decide_eq_false c1
 by_cases c2:k=2
 ·obtain ⟨j1,rfl,rfl,rfl⟩:=i4 c2
  have es:φ9 (k,b,ky,[],0,0)=varT k++(varT b++(varT (ky.length:Int)++(ky++[]))):=by
   unfold φ9;rw[if_neg hok2,if_neg c1,if_pos c2];simp[aA]
  rw[es] at hl ⊢
  have x1:=φ9B ky [] ⟨by omega,by omega⟩ (lt62 (app3 hl).2)
  have n2:=φ2I i2 (varT (ky.length:Int)++(ky++[])) (lt62 (app2 hl))
  have n1:=φ2I i1 (varT b++(varT (ky.length:Int)++(ky++[]))) (lt62 hl)
  have b2:(k==2)=true:=by simpa using c2
  unfold ψi.f
  simp only[n1,n2,bS,φ6Z,hcd,b2,cT,x1,cF,φ6w,hok,nZ]
  rfl
 ·obtain ⟨rfl,rfl,j3,j4⟩:=i5 c1 c2
  have l4:=φ78 j4
  have es:φ9 (k,b,[],[],c,sm)=varT k++(varT b++(varT c++(fix4 sm++[]))):=by
   unfold φ9;rw[if_neg hok2,if_neg c1,if_neg c2];simp[aA]
  rw[es] at hl ⊢
  have x1:=φ6L (fix4 sm) []
  rw[l4] at x1
  have x1:ψ1c.f (fix4 sm++[],false) 4=_:=x1
  have n3:=φ2I j3 (fix4 sm++[]) (lt62 (app3 hl).2)
  have n2:=φ2I i2 (varT c++(fix4 sm++[])) (lt62 (app2 hl))
  have n1:=φ2I i1 (varT b++(varT c++(fix4 sm++[]))) (lt62 hl)
  have b2:(k==2)=false:=by simpa using c2
  have f4:=φH5 j4 []
  rw[κ6] at f4
  unfold ψi.f
  simp only[n1,n2,n3,bS,φ6Z,hcd,b2,cT,x1,cF,φ6w,hok,nZ,φ6e (fix4 sm) (show (fix4 sm).length<2 ^ 62 by omega),f4]
  rfl
theorem φIw {s:List UInt8} {r:RecT} (h:φ2s s r):ψ2n.f s=some (r,true):=by
 obtain ⟨hok,rfl⟩:=h
 have hl:=φ3P r
 have hsh:=φ6S r
 obtain ⟨i1,i2,i3,i4,i5⟩:=φ9T hok
 have hok2:¬φe r=false:=by rw[hok];simp
 obtain ⟨k,b,ky,v,c,sm⟩:=r
 simp only at i1 i2 i3 i4 i5
 have head:∀T:List UInt8,(varT k++(varT b++T)).length≤60→φ9 (k,b,ky,v,c,sm)=varT k++(varT b++T) →
   ∃a d:Nat,ψ2o.f (varT k++(varT b++T))=some (k,(a:Int))∧(decide (0≤(a:Int)) && decide ((a:Int)≤((varT k++(varT b++T)).length:Int)))=true∧(varT k++(varT b++T)).drop (a:Int).toNat=varT b++T ∧
    ψ2o.f (varT b++T)=some (b,(d:Int))∧((a:Int)==0)=false∧((d:Int)==0)=false∧(decide (0≤w64 ((a:Int)+(d:Int))) && decide (w64 ((a:Int)+(d:Int))≤((varT k++(varT b++T)).length:Int)))=true ∧
    (varT k++(varT b++T)).drop (w64 ((a:Int)+(d:Int))).toNat=T∧(varT k++(varT b++T)==[])=false:=by
  intro T hT _
  obtain ⟨p1,p2⟩:=φ3F i1 (varT b++T)
  obtain ⟨q1,q2⟩:=φ3F i2 T
  have hT2:=hT
  simp only[lA] at hT2
  have ew:w64 (((varT k).length:Int)+((varT b).length:Int))=(((varT k).length+(varT b).length:Nat):Int):=by rw[φG (by omega) (by omega)];omega
  refine ⟨(varT k).length,(varT b).length,?_,?_,?_,?_,?_,?_,?_,?_,?_⟩
  ·rw[φ2V _ (by omega),p1]
  ·simp only[lA];simp;omega
  ·rw[tN,κO]
  ·rw[φ2V _ (by simp only[lA];omega),q1]
  ·simp;intro e;rw[e] at p2;simp at p2
  ·simp;intro e;rw[e] at q2;simp at q2
  ·rw[ew];simp only[lA];simp;omega
  ·rw[ew,tN,←aA,←lA,κO]
  ·cases hv:varT k with
   | nil=>rw[hv] at p2;simp at p2
   | cons x l=>rfl
 by_cases c1:k=1∨k=4
 ·obtain ⟨j1,j2,rfl,rfl⟩:=i3 c1
  have hcd:decide (k=1∨k=4)=true:=decide_eq_true c1
  have es:φ9 (k,b,ky,v,0,0)=varT k++(varT b++(varT (ky.length:Int)++(ky++(varT (v.length:Int)++(v++[]))))):=by
   unfold φ9;rw[if_neg hok2,if_pos c1];simp[aA]
  rw[es] at hl hsh ⊢
  obtain ⟨a,d,e1,e2,e3,e4,e5,e6,e7,e8,e9⟩:=head _ hl es
  have x2:=φ6m v [] ⟨by omega,by omega⟩ (lt15 (app3 (app3 hl).2).2)
  have x1:=φ6m ky (varT (v.length:Int)++(v++[])) ⟨by omega,by omega⟩ (lt15 (app3 hl).2)
  unfold ψ2n.f
  simp only[e1,e2,e3,e4,e5,e6,e7,e8,e9,bS,φ7s,hcd,cT,x1,x2,cF,hsh,beq_self_eq_true,nZ]
 have hcd:decide (k=1∨k=4)=false:=decide_eq_false c1
 by_cases c2:k=2
 ·obtain ⟨j1,rfl,rfl,rfl⟩:=i4 c2
  have b2:(k==2)=true:=by simpa using c2
  have es:φ9 (k,b,ky,[],0,0)=varT k++(varT b++(varT (ky.length:Int)++(ky++[]))):=by
   unfold φ9;rw[if_neg hok2,if_neg c1,if_pos c2];simp[aA]
  rw[es] at hl hsh ⊢
  obtain ⟨a,d,e1,e2,e3,e4,e5,e6,e7,e8,e9⟩:=head _ hl es
  have x1:=φ6m ky [] ⟨by omega,by omega⟩ (lt15 (app3 hl).2)
  unfold ψ2n.f
  simp only[e1,e2,e3,e4,e5,e6,e7,e8,e9,bS,φ7s,hcd,b2,cT,x1,cF,hsh,beq_self_eq_true,nZ]
 ·obtain ⟨rfl,rfl,j3,j4⟩:=i5 c1 c2
  have b2:(k==2)=false:=by simpa using c2
  have l4:=φ78 j4
  have es:φ9 (k,b,[],[],c,sm)=varT k++(varT b++(varT c++(fix4 sm++[]))):=by
   unfold φ9;rw[if_neg hok2,if_neg c1,if_neg c2];simp[aA]
  rw[es] at hl hsh ⊢
  obtain ⟨a,d,e1,e2,e3,e4,e5,e6,e7,e8,e9⟩:=head _ hl es
  obtain ⟨p1,p2⟩:=φ3F j3 (fix4 sm++[])
  have hl3:=(app3 hl).2
  have r1:ψ2o.f (varT c++(fix4 sm++[]))=some (c,((varT c).length:Int)):=by rw[φ2V _ (lt62 hl3),p1]
  have r2:(decide (0≤((varT c).length:Int)) && decide (((varT c).length:Int)≤((varT c++(fix4 sm++[])).length:Int)))=true:=by simp only[lA];simp;omega
  have r3:(varT c++(fix4 sm++[])).drop (((varT c).length:Int)).toNat=fix4 sm++[]:=by rw[tN,κO]
  have r4:ψ2k.f (fix4 sm++[]) 4=some (sm,true):=by rw[φGm _ (lt62 (app2 hl3)),φH5 j4]
  unfold ψ2n.f
  simp only[e1,e2,e3,e4,e5,e6,e7,e8,e9,bS,φ7s,hcd,b2,cT,r1,r2,r3,r4,cF,hsh,beq_self_eq_true,nZ]
noncomputable def φ9E (k b:Int) (st:φ4F):Option (RecT×Bool):=
 ((bif k==1 then some ((0,0,[],[],0,0),st,(k,b,[],[],0,0),k,k==1)
 else some ((0,0,[],[],0,0),st,(k,b,[],[],0,0),k,k==4):Option ((Int×Int×List UInt8×List UInt8×Int×Int)×(List UInt8×Bool)×(Int×Int×List UInt8×List UInt8×Int×Int)×Int×Bool)).bind (fun (x2,x4,x5,x16,x27)=>
 bif x27 then
 (ψ1e.f x4).bind fun (t3_0,t3_1)=>
 (ψ1e.f t3_1).bind fun (t4_0,t4_1)=>
 some (x2,t4_1,(x5.1,x5.2.1,t3_0,t4_0,x5.2.2.2.2))
 else
 (bif x16==2 then
 (ψ1e.f x4).bind fun (t5_0,t5_1)=>
 some (x2,t5_1,(x5.1,x5.2.1,t5_0,x5.2.2.2))
 else
 (ψ1d.f x4).bind fun (t6_0,t6_1)=>
 (ψ1c.f t6_1 4).bind fun (t7_0,t7_1)=>
 (ψf.f t7_0 4).bind fun (t8_0,t8_1)=>
 some (x2,t7_1,(x5.1,x5.2.1,x5.2.2.1,x5.2.2.2.1,t6_0,t8_0)):Option ((Int×Int×List UInt8×List UInt8×Int×Int)×(List UInt8×Bool)×Int×Int×List UInt8×List UInt8×Int×Int)).bind (fun (x2,x4,x5)=>
 some (x2,x4,x5))):Option ((Int×Int×List UInt8×List UInt8×Int×Int)×(List UInt8×Bool)×Int×Int×List UInt8×List UInt8×Int×Int)).bind (fun (x2,x4,x5)=>
 bif x4.2 then
 some ((0,0,[],[],0,0),false)
 else
 bif !(x4.1==[]) then
 some ((0,0,[],[],0,0),false)
 else
 (ψl.f x5).bind fun t9=>
 bif !t9 then
 some ((0,0,[],[],0,0),false)
 else
 some (x5,true))
theorem φI8 (s:List UInt8):ψi.f s=(ψ1d.f (s,false)).bind fun p=>(ψ1d.f p.2).bind fun q=>φ9E p.1 q.1 q.2:=rfl
theorem φCi (k b:Int) (s:List UInt8) (hl:s.length<2 ^ 62):φ9E k b (s,true)=some (φ2o,false):=by
 have hf:ψf.f [] 4=some (0,false):=φ6e [] (by show 0<2 ^ 62;decide)
 unfold φ9E
 simp only[φ6Z,bS]
 cases decide (k=1∨k=4)
 ·cases (k==2)
  ·simp only[cF,φ6f s hl,bS,φ8F,hf,cT];rfl
  ·simp only[cF,cT,φ8w s hl,bS];rfl
 ·simp only[cT,φ8w s hl,bS];rfl
theorem φBx (S:List UInt8) (r:RecT) (st:φ4F) (h:st.2=false→st.1=[]→φe r=true→φ9 r=S) :
  ∃res:RecT×Bool,(bif st.2 then some (((0,0,[],[],0,0):RecT),false) else bif !(st.1==[]) then some ((0,0,[],[],0,0),false) else (ψl.f r).bind fun t9=>bif !t9 then some ((0,0,[],[],0,0),false) else some (r,true))=some res∧(res=(φ2o,false)∨∃r,res=(r,true)∧φ2s S r):=by
 cases hb:st.2
 rotate_left
 ·exact ⟨(φ2o,false),rfl,.inl rfl⟩
 simp only[cF]
 by_cases he:st.1=[]
 ·have he2:(st.1==[])=true:=by simpa using he
  simp only[he2,nZ,cF,φ6w,bS]
  cases hr:φe r
  ·exact ⟨(φ2o,false),rfl,.inl rfl⟩
  ·exact ⟨(r,true),rfl,.inr ⟨r,rfl,hr,h hb he hr⟩⟩
 ·have he2:(st.1==[])=false:=by simpa using he
  simp only[he2,nF,cT]
  exact ⟨(φ2o,false),rfl,.inl rfl⟩
theorem φL1 (s:List UInt8) (hl:s.length<1000000000000):∃res:RecT×Bool,ψi.f s=some res∧(res=(φ2o,false)∨∃r,res=(r,true)∧φ2s s r):=by
 rw[φI8]
 rcases φ54 s (by omega) with ⟨k,s1,e1,q1,i1⟩ | e1
 rotate_left
 ·rw[e1,bS]
  simp only[φ6f s (show s.length<2 ^ 62 by omega),bS,φCi 0 0 s (show s.length<2 ^ 62 by omega)]
  exact ⟨_,rfl,.inl rfl⟩
 have l1:s1.length≤s.length:=by rw[q1,lA];omega
 rw[e1,bS]
 rcases φ54 s1 (by omega) with ⟨b,s2,e2,q2,i2⟩ | e2
 rotate_left
 ·simp only[e2,bS,φCi k 0 s1 (show s1.length<2 ^ 62 by omega)]
  exact ⟨_,rfl,.inl rfl⟩
 have l2:s2.length≤s.length:=by rw[q2,lA] at l1;omega
 simp only[e2,bS]
 unfold φ9E
 simp only[φ6Z,bS]
 by_cases c1:k=1∨k=4
 ·have hcd:decide (k=1∨k=4)=true:=decide_eq_true c1
  simp only[hcd,cT]
  rcases φ8V s2 (by omega) with ⟨ky,s3,e3,q3,i3⟩ | ⟨s3,e3,l3⟩
  rotate_left
  ·simp only[e3,bS,φ8w s3 (show s3.length<2 ^ 62 by omega)]
   exact ⟨_,rfl,.inl rfl⟩
  have l3:s3.length≤s.length:=by rw[q3,lA,lA] at l2;omega
  rcases φ8V s3 (by omega) with ⟨v,s4,e4,q4,i4⟩ | ⟨s4,e4,l4⟩
  rotate_left
  ·simp only[e3,e4,bS]
   exact ⟨_,rfl,.inl rfl⟩
  simp only[e3,e4,bS]
  exact φBx s (k,b,ky,v,0,0) (s4,false) fun _ he hr=>by
   have he:s4=[]:=he
   subst he
   unfold φ9
   rw[if_neg (by rw[hr];simp),if_pos c1,q1,q2,q3,q4]
   simp[aA]
 have hcd:decide (k=1∨k=4)=false:=decide_eq_false c1
 by_cases c2:k=2
 ·have b2:(k==2)=true:=by simpa using c2
  simp only[hcd,b2,cT,cF]
  rcases φ8V s2 (by omega) with ⟨ky,s3,e3,q3,i3⟩ | ⟨s3,e3,l3⟩
  rotate_left
  ·simp only[e3,bS]
   exact ⟨_,rfl,.inl rfl⟩
  simp only[e3,bS]
  exact φBx s (k,b,ky,[],0,0) (s3,false) fun _ he hr=>by
   have he:s3=[]:=he
   subst he
   unfold φ9
   rw[if_neg (by rw[hr];simp),if_neg c1,if_pos c2,q1,q2,q3]
   simp[aA]
 ·have b2:(k==2)=false:=by simpa using c2
  simp only[hcd,b2,cF]
  rcases φ54 s2 (by omega) with ⟨c,s3,e3,q3,i3⟩ | e3
  rotate_left
  ·have hf:ψf.f [] 4=some (0,false):=φ6e [] (by show 0<2 ^ 62;decide)
   simp only[e3,bS,φ8F,hf]
   exact ⟨_,rfl,.inl rfl⟩
  rcases φ9q s3 4 (by omega) with ⟨t,s4,e4,q4,i4⟩ | e4
  rotate_left
  ·have hf:ψf.f [] 4=some (0,false):=φ6e [] (by show 0<2 ^ 62;decide)
   simp only[e3,e4,bS,hf]
   exact ⟨_,rfl,.inl rfl⟩
  have ht:t.length=4:=by omega
  have hf:=φ6e t (by omega)
  obtain ⟨f1,f2,f3⟩:=φMs t ht
  simp only[e3,e4,bS,hf]
  exact φBx s (k,b,[],[],c,(φ3Z t).1) (s4,false) fun _ he hr=>by
   have he:s4=[]:=he
   subst he
   unfold φ9
   rw[if_neg (by rw[hr];simp),if_neg c1,if_neg c2,q1,q2,q3,q4]
   simp only
   rw[f1]
   simp[aA]
theorem φB2 (S:List UInt8) (r:RecT):∃res:RecT×Bool,((ψ31.f r).bind fun t9=>bif !(t9==S) then some (((0,0,[],[],0,0):RecT),false) else bif S==[] then some ((0,0,[],[],0,0),false) else some (r,true))=some res∧(res=(φ2o,false)∨∃r,res=(r,true)∧φ2s S r):=by
 rw[φ6S,bS]
 by_cases c:φ9 r=S
 ·have c1:(φ9 r==S)=true:=by simpa using c
  simp only[c1,nZ,cF]
  by_cases e:S=[]
  ·have e1:(S==[])=true:=by simpa using e
   simp only[e1,cT]
   exact ⟨_,rfl,.inl rfl⟩
  ·have e1:(S==[])=false:=by simpa using e
   simp only[e1,cF]
   refine ⟨_,rfl,.inr ⟨r,rfl,?_,c⟩⟩
   cases hr:φe r with
   | true=>rfl
   | false=>
    exfalso
    apply e
    rw[←c]
    unfold φ9
    rw[if_pos hr]
 ·have c1:(φ9 r==S)=false:=by simpa using c
  simp only[c1,nF,cT]
  exact ⟨_,rfl,.inl rfl⟩
theorem φ5O (s:List UInt8):0≤(φk s).2∧(φk s).2≤s.length∧(φk s).2≤7:=by
 rcases φAp s with h | ⟨n,k,_,h,h1,h2,h3,h4,h5⟩
 ·rw[h];simp
 ·rw[h];simp only;omega
theorem φL5 (s:List UInt8) (hl:s.length<1000000000000):∃res:RecT×Bool,ψ2n.f s=some res∧(res=(φ2o,false)∨∃r,res=(r,true)∧φ2s s r):=by
 unfold ψ2n.f
 rw[φ2V s (by omega),bS]
 obtain ⟨a1,a2,a3⟩:=φ5O s
 generalize φk s=p at *
 obtain ⟨k,a⟩:=p
 simp only at a1 a2 a3
 have c1:(decide (0≤a) && decide (a≤(s.length:Int)))=true:=by simp;omega
 have hd:(s.drop a.toNat).length=s.length - a.toNat:=lD
 simp only[c1,cT,φ2V (s.drop a.toNat) (show (s.drop a.toNat).length<2 ^ 62 by omega),bS]
 obtain ⟨b1,b2,b3⟩:=φ5O (s.drop a.toNat)
 generalize φk (s.drop a.toNat)=q at *
 obtain ⟨b,d⟩:=q
 simp only at b1 b2 b3 ⊢
 cases ea:(a==0)
 rotate_left
 ·simp only[cT];exact ⟨_,rfl,.inl rfl⟩
 cases ed:(d==0)
 rotate_left
 ·simp only[cT,cF];exact ⟨_,rfl,.inl rfl⟩
 have ew:w64 (a+d)=a+d:=φG (by omega) (by omega)
 have c2:(decide (0≤a+d) && decide (a+d≤(s.length:Int)))=true:=by simp;omega
 simp only[cF,ew,c2,cT,φ7s,bS]
 have hx:(s.drop (a+d).toNat).length≤s.length:=by rw[lD];omega
 generalize s.drop (a+d).toNat=x at *
 cases decide (k=1∨k=4)
 rotate_left
 ·obtain ⟨t,r,f,e1,l1,l2⟩:=φ7r x (by omega)
  obtain ⟨t',r',f',e2,l3,l4⟩:=φ7r r (by omega)
  simp only[cT,e1,e2,bS]
  exact φB2 s (k,b,t,t',0,0)
 cases (k==2)
 rotate_left
 ·obtain ⟨t,r,f,e1,l1,l2⟩:=φ7r x (by omega)
  simp only[cT,cF,e1,bS]
  exact φB2 s (k,b,t,[],0,0)
 ·simp only[cF,φ2V x (show x.length<2 ^ 62 by omega),bS]
  obtain ⟨g1,g2,g3⟩:=φ5O x
  generalize φk x=u at *
  obtain ⟨c,g⟩:=u
  simp only at g1 g2 g3 ⊢
  have c3:(decide (0≤g) && decide (g≤(x.length:Int)))=true:=by simp;omega
  simp only[c3,cT,φGm (x.drop g.toNat) (show (x.drop g.toNat).length<2 ^ 62 by rw[lD];omega),bS]
  exact φB2 s (k,b,[],[],c,(φ3Z (x.drop g.toNat)).1)
noncomputable def φ1T (s:List UInt8):RecT×Bool:=@dite (RecT×Bool) (∃r,φ2s s r) (Classical.propDecidable _) (fun h=>(h.choose,true)) (fun _=>(φ2o,false))
theorem φD9 {s:List UInt8} {o:Option (RecT×Bool)} (h1:∀r,φ2s s r→o=some (r,true)) (h2:∃res:RecT×Bool,o=some res∧(res=(φ2o,false)∨∃r,res=(r,true)∧φ2s s r)):o=some (φ1T s):=by
 unfold φ1T
 by_cases h:∃r,φ2s s r
 ·rw[dif_pos h];exact h1 _ h.choose_spec
 ·rw[dif_neg h]
  obtain ⟨res,e,k | ⟨r,_,hr⟩⟩:=h2
  ·rw[e,k]
  ·exact absurd ⟨r,hr⟩ h
theorem φEq (s:List UInt8) (hl:s.length<1000000000000):ψi.f s=some (φ1T s):=φD9 (fun _ h=>φA9 h) (φL1 s hl)
theorem φCz (s:List UInt8) (hl:s.length<1000000000000):ψ2n.f s=some (φ1T s):=φD9 (fun _ h=>φIw h) (φL5 s hl)
theorem φ77 (s:List UInt8):φ1T s=(φ2o,false)∧(¬∃r,φ2s s r)∨∃r,φ1T s=(r,true)∧φ2s s r:=by
 unfold φ1T
 by_cases h:∃r,φ2s s r
 ·rw[dif_pos h];exact .inr ⟨_,rfl,h.choose_spec⟩
 ·rw[dif_neg h];exact .inl ⟨rfl,h⟩
theorem φ5n (s:List UInt8):(φP s).1.length≤s.length:=by
 unfold φP
 split
 ·simp
 split
 ·simp
 ·split
  ·simp
  split
  ·simp only[lD,lT];omega
  ·simp
noncomputable def φ1G (s:List UInt8) (a n:Int):RecT×Bool:=
 if 0≤a∧a≤(s.length:Int)∧1≤n∧n≤(s.length:Int) - a then
  (if (φP ((s.take (a+n).toNat).drop a.toNat)).2=n then φ1T (φP ((s.take (a+n).toNat).drop a.toNat)).1 else (φ2o,false))
 else (φ2o,false)
theorem φE8 (s:List UInt8) (a n:Int) (hl:s.length<1000000000):ψk.f s a n=some (φ1G s a n):=by
 unfold ψk.f φ1G
 rw[φ1q,bS]
 by_cases c1:0≤a∧a≤(s.length:Int)
 rotate_left
 ·simp only[c1,dF,nF,cT]
  rw[if_neg (fun k=>c1 ⟨k.1,k.2.1⟩)];rfl
 have ew:w64 ((s.length:Int) - a)=(s.length:Int) - a:=φG (by omega) (by omega)
 have c1b:decide (0≤a∧a≤(s.length:Int))=true:=decide_eq_true c1
 simp only[c1b,nZ,cF,φ1q,bS,ew]
 by_cases c2:0≤n∧n≤(s.length:Int) - a
 rotate_left
 ·simp only[c2,dF,nF,cT]
  rw[if_neg (fun k=>c2 ⟨by omega,k.2.2.2⟩)];rfl
 have e2:w64 (a+n)=a+n:=φG (by omega) (by omega)
 have c3:(decide (0≤a+n) && decide (a+n≤(s.length:Int)))=true:=by simp;omega
 have c4:(decide (0≤a) && decide (a≤a+n))=true:=by simp;omega
 have hlx:((s.take (a+n).toNat).drop a.toNat).length<1000000000:=by rw[lD,lT];omega
 have c2b:decide (0≤n∧n≤(s.length:Int) - a)=true:=decide_eq_true c2
 have hx0:n=0→(φP ((s.take (a+n).toNat).drop a.toNat)).2=0:=fun e=>by
  have:((s.take (a+n).toNat).drop a.toNat)=[]:=by rw[List.drop_eq_nil_iff,lT];omega
  rw[this];rfl
 have hlen:=φ5n ((s.take (a+n).toNat).drop a.toNat)
 have hun:=φ97 _ (show ((s.take (a+n).toNat).drop a.toNat).length<1000000000000 by omega)
 by_cases c5:n=0
 ·rw[if_neg (fun z=>by omega)]
  simp only[c2b,nZ,cF,e2,c3,c4,cT,hun,bS]
  have hk:=hx0 c5
  have d:((φP ((s.take (a+n).toNat).drop a.toNat)).2==0)=true:=by simpa using hk
  simp only[d,cT];rfl
 rw[if_pos ⟨c1.1,c1.2,by omega,c2.2⟩]
 simp only[c2b,nZ,cF,e2,c3,c4,cT,hun,bS]
 generalize φP ((s.take (a+n).toNat).drop a.toNat)=u at *
 obtain ⟨t,k⟩:=u
 simp only at hx0 hlen ⊢
 by_cases c6:k=n
 ·have d:(k==0)=false:=by simp;omega
  have d2:(k != n)=false:=by simpa using c6
  simp only[d,d2,cF,φEq t (show t.length<1000000000000 by omega),bS]
  rw[if_pos c6]
 ·have d2:(k != n)=true:=by simpa using c6
  rw[if_neg c6]
  cases d:(k==0)
  ·simp only[d2,cF,cT];rfl
  ·simp only[cT];rfl
theorem φCa (s:List UInt8) (a n:Int) (hl:s.length<1000000000):ψ2p.f s a n=some (φ1G s a n):=by
 unfold ψ2p.f φ1G
 rw[φ1u,bS]
 by_cases c1:0≤a∧a≤(s.length:Int)
 rotate_left
 ·simp only[c1,dF,nF,cT]
  rw[if_neg (fun k=>c1 ⟨k.1,k.2.1⟩)];rfl
 have ew:w64 ((s.length:Int) - a)=(s.length:Int) - a:=φG (by omega) (by omega)
 have c1b:decide (0≤a∧a≤(s.length:Int))=true:=decide_eq_true c1
 simp only[c1b,nZ,cF,φ1u,bS,ew]
 by_cases c2:1≤n∧n≤(s.length:Int) - a
 rotate_left
 ·rw[if_neg (fun k=>c2 ⟨k.2.2.1,k.2.2.2⟩)]
  simp only[c2,dF,nF,cT];rfl
 have e2:w64 (a+n)=a+n:=φG (by omega) (by omega)
 have c3:(decide (0≤a+n) && decide (a+n≤(s.length:Int)))=true:=by simp;omega
 have c4:(decide (0≤a) && decide (a≤a+n))=true:=by simp;omega
 have hlx:((s.take (a+n).toNat).drop a.toNat).length<1000000000:=by rw[lD,lT];omega
 have c2b:decide (1≤n∧n≤(s.length:Int) - a)=true:=decide_eq_true c2
 have hlen:=φ5n ((s.take (a+n).toNat).drop a.toNat)
 have hun:=φ7o _ (show ((s.take (a+n).toNat).drop a.toNat).length<1000000000000 by omega)
 rw[if_pos ⟨c1.1,c1.2,c2.1,c2.2⟩]
 simp only[c2b,nZ,cF,e2,c3,c4,cT,hun,bS]
 generalize φP ((s.take (a+n).toNat).drop a.toNat)=u at *
 obtain ⟨t,k⟩:=u
 simp only at hlen ⊢
 rw[φCz t (by omega),bS]
 by_cases c6:k=n
 ·have d2:(k != n)=false:=by simpa using c6
  rw[if_pos c6]
  simp only[d2,cF]
  rcases φ77 t with ⟨e,_⟩ | ⟨r,e,_⟩<;>rw[e]<;>rfl
 ·have d2:(k != n)=true:=by simpa using c6
  rw[if_neg c6]
  simp only[d2,cT];rfl
theorem φKM (a n:Int):φ1G [] a n=(φ2o,false):=by
 unfold φ1G
 rw[if_neg]
 simp only[lN]
 omega
noncomputable def getP (s:φA) (d:φ1) (key:List UInt8):φ1C×Int:=
 if (φ3L s.2.1 key).2=false then (([],[],0),8) else
 let e:=(φ3L s.2.1 key).1
 let r:=φ1G (φ2 d (φ0 e.2.1)).1 e.2.2.1 e.2.2.2.1
 if r.2=true∧(r.1.1=1∨r.1.1=4)∧r.1.2.2.1=key then ((key,r.1.2.2.2.1,r.1.2.1),0) else (([],[],0),3)
theorem φIU (s:φA) (d:φ1) (key:List UInt8) (h:dlim d) (hu:φQ d.1<1000000000) (hs:s.2.1.length<2 ^ 62):ψP.f s d key=some (getP s d key):=by
 unfold ψP.f getP
 rw[φKt s.2.1 key hs,bS]
 generalize φ3L s.2.1 key=g at *
 obtain ⟨e,is⟩:=g
 simp only
 cases is
 ·rfl
 have hl:=φ4O d (φ0 e.2.1) h
 simp only[nZ,cF,φ3b,bS,φ4T d _ h,φE8 (φ2 d (φ0 e.2.1)).1 e.2.2.1 e.2.2.2.1 (show (φ2 d (φ0 e.2.1)).1.length<1000000000 by omega),κ7,if_false]
 generalize φ1G (φ2 d (φ0 e.2.1)).1 e.2.2.1 e.2.2.2.1=r at *
 obtain ⟨r,ok⟩:=r
 simp only
 cases ok
 ·simp
 simp only[nZ,cF,true_and]
 by_cases k:r.2.2.1=key
 ·have k2:(r.2.2.1==key)=true:=by simpa using k
  by_cases c1:r.1=1
  ·have d1:(r.1 != 1)=false:=by simpa using c1
   simp only[d1,k2,nZ,cF]
   rw[if_pos ⟨.inl c1,k⟩,k]
  ·have d1:(r.1 != 1)=true:=by simpa using c1
   by_cases c4:r.1=4
   ·have d4:(r.1 != 4)=false:=by simpa using c4
    simp only[d1,d4,k2,nZ,cF,cT]
    rw[if_pos ⟨.inr c4,k⟩,k]
   ·have d4:(r.1 != 4)=true:=by simpa using c4
    simp only[d1,d4,cT]
    rw[if_neg (by intro z;exact z.1.elim c1 c4)]
 ·have k2:(r.2.2.1==key)=false:=by simpa using k
  rw[if_neg (fun z=>k z.2)]
  cases (r.1 != 1)<;>cases (r.1 != 4)<;>simp only[k2,nF,cF,cT]
theorem φDj (s:φA) (d:φ1) (key:List UInt8) (h:dlim d) (hu:φQ d.1<1000000000) (hs:s.2.1.length<2 ^ 62):ψ2U.f s d key=some (getP s d key):=by
 unfold ψ2U.f getP
 rw[φDV s.2.1 key hs,bS]
 generalize φ3L s.2.1 key=g at *
 obtain ⟨e,is⟩:=g
 simp only
 cases is
 ·rfl
 have hl:=φ4O d (φ0 e.2.1) h
 simp only[nZ,cF,φ2Q,bS,φ51 d _ h,φCa (φ2 d (φ0 e.2.1)).1 e.2.2.1 e.2.2.2.1 (show (φ2 d (φ0 e.2.1)).1.length<1000000000 by omega),κ7,if_false]
 have hno:(φ2 d (φ0 e.2.1)).2=false→φ1G (φ2 d (φ0 e.2.1)).1 e.2.2.1 e.2.2.2.1=(φ2o,false):=fun hf=>by
  have:(φ2 d (φ0 e.2.1)).1=[]:=by
   unfold φ2 at hf ⊢
   split
   ·rfl
   ·rename_i c
    rw[if_neg c] at hf
    split
    ·rename_i i hi;rw[hi] at hf;simp at hf
    ·rfl
  rw[this];exact φKM _ _
 generalize φ1G (φ2 d (φ0 e.2.1)).1 e.2.2.1 e.2.2.2.1=r at *
 cases hf:(φ2 d (φ0 e.2.1)).2
 ·rw[hno hf];simp
 obtain ⟨r,ok⟩:=r
 simp only[nZ,cF]
 cases ok
 ·simp
 simp only[nZ,cF,true_and]
 by_cases k:r.2.2.1=key
 ·have k2:(r.2.2.1==key)=true:=by simpa using k
  simp only[k2,nZ,cF]
  by_cases c1:r.1=1
  ·have d1:(r.1 != 1)=false:=by simpa using c1
   simp only[d1,cF]
   rw[if_pos ⟨.inl c1,k⟩]
  ·have d1:(r.1 != 1)=true:=by simpa using c1
   by_cases c4:r.1=4
   ·have d4:(r.1 != 4)=false:=by simpa using c4
    simp only[d1,d4,cF,cT]
    rw[if_pos ⟨.inr c4,k⟩]
   ·have d4:(r.1 != 4)=true:=by simpa using c4
    simp only[d1,d4,cT]
    rw[if_neg (by intro z;exact z.1.elim c1 c4)]
 ·have k2:(r.2.2.1==key)=false:=by simpa using k
  simp only[k2,nF,cT]
  rw[if_neg (fun z=>k z.2)]
abbrev φ1Z:=Int×Int×RecT
theorem φ89 (s:List UInt8):(φP s).2=0∨∃n:Nat,(φP s).2=(n:Int)∧5≤n∧n≤s.length:=by
 unfold φP
 split
 ·exact .inl rfl
 split
 ·exact .inl rfl
 ·rename_i n k hr
  obtain ⟨q1,q2,q3,q4,q5⟩:=φ4P 7 true (s.drop 4) n k hr
  split
  ·exact .inl rfl
  rename_i c
  split
  ·exact .inr ⟨4+k+n,rfl,by omega,by omega⟩
  ·exact .inl rfl
noncomputable def φ5B:Nat→List UInt8→Nat→List φ1Z×Nat
 | 0,_,a=>([],a)
 | f+1,s,a=>
  if (φP (s.drop a)).2=0∨(φ1T (φP (s.drop a)).1).2=false then ([],a) else
  (((a:Int),(φP (s.drop a)).2,(φ1T (φP (s.drop a)).1).1)::(φ5B f s (a+(φP (s.drop a)).2.toNat)).1,(φ5B f s (a+(φP (s.drop a)).2.toNat)).2)
theorem φEi:∀(f g:Nat) (s:List UInt8) (a:Nat),a≤s.length→s.length<a+f→s.length<a+g→φ5B f s a=φ5B g s a
 | 0,_,s,a,ha,hf,_=>by omega
 | f+1,0,s,a,ha,_,hg=>by omega
 | f+1,g+1,s,a,ha,hf,hg=>by
  unfold φ5B
  by_cases c:(φP (s.drop a)).2=0∨(φ1T (φP (s.drop a)).1).2=false
  ·rw[if_pos c,if_pos c]
  ·rw[if_neg c,if_neg c]
   rcases φ89 (s.drop a) with h | ⟨n,h,h5,hn⟩
   ·exact absurd (.inl h) c
   ·rw[lD] at hn
    rw[h,tN,φEi f g s (a+n) (by omega) (by omega) (by omega)]
noncomputable def φ2E (s:List UInt8) (a:Nat):List φ1Z×Nat:=φ5B (s.length+1 - a) s a
noncomputable def scan (s:List UInt8):List φ1Z×Nat:=φ2E s 0
theorem φ4p {s:List UInt8} {a:Nat} (ha:a≤s.length) (h:(φP (s.drop a)).2=0∨(φ1T (φP (s.drop a)).1).2=false):φ2E s a=([],a):=by
 unfold φ2E
 rw[show s.length+1 - a=(s.length - a)+1 by omega,φ5B,if_pos h]
theorem φ5b {s:List UInt8} {a n:Nat} (hn:(φP (s.drop a)).2=(n:Int)) (h0:5≤n) (hl:a+n≤s.length) (hr:(φ1T (φP (s.drop a)).1).2=true) :
  φ2E s a=(((a:Int),(n:Int),(φ1T (φP (s.drop a)).1).1)::(φ2E s (a+n)).1,(φ2E s (a+n)).2):=by
 unfold φ2E
 rw[show s.length+1 - a=(s.length - a)+1 by omega,φ5B,if_neg (by rw[hn,hr];simp;omega),hn,tN,φEi (s.length - a) (s.length+1 - (a+n)) s (a+n) (by omega) (by omega) (by omega)]
theorem φ8i {s:List UInt8}:φ2E s s.length=([],s.length):=
 φ4p (κ9 _) (.inl (by rw[List.drop_length];rfl))
theorem φHu:∀(k:Nat) (s:List UInt8) (a:Nat),a≤s.length→s.length - a=k→(φ2E s a).2≤s.length∧a≤(φ2E s a).2∧(φ2E s a).1.length≤s.length - a:=by
 intro k
 induction k using Nat.strongRecOn with
 | ind k ih=>
  intro s a ha hk
  by_cases c:(φP (s.drop a)).2=0∨(φ1T (φP (s.drop a)).1).2=false
  ·rw[φ4p ha c];exact ⟨ha,κ9 _,by simp⟩
  ·rcases φ89 (s.drop a) with h | ⟨n,h,h5,hn⟩
   ·exact absurd (.inl h) c
   ·rw[lD] at hn
    have hr:(φ1T (φP (s.drop a)).1).2=true:=by
     cases e:(φ1T (φP (s.drop a)).1).2 with
     | true=>rfl
     | false=>exact absurd (.inr e) c
    rw[φ5b h h5 (by omega) hr]
    have:=ih (s.length - (a+n)) (by omega) s (a+n) (by omega) rfl
    simp only[lC]
    omega
theorem φ4U (s:List UInt8):(scan s).2≤s.length∧(scan s).1.length≤s.length:=by
 have:=φHu s.length s 0 (κ4 _) (by omega)
 unfold scan
 omega
def φ2m (e:φB):Bool:=φ1c e.1 && (decide (1≤e.2.1∧e.2.1≤100000) && (decide (0≤e.2.2.1) && (decide (1≤e.2.2.2.1∧e.2.2.2.1≤210) && decide (1≤e.2.2.2.2∧e.2.2.2.2≤1000000))))
def φ2P:Option (List UInt8)→List φB→Bool
 | _,[]=>true
 | p,e::r=>φ2m e && ((match p with | none=>true | some q=>Op.bytesLess q e.1) && φ2P (some e.1) r)
def φ6a (l:List φB):Nat→Option (List UInt8)
 | 0=>none
 | n+1=>some (l.getD n ([],0,0,0,0)).1
theorem φ7w (l:List φB) (n:Nat) (h:n<l.length):φ6a l (n+1)=some l[n].1:=by
 show some (l.getD n ([],0,0,0,0)).1=_
 rw[φ8 h]
def φ1m (l:List φB):Bool:=φ2P none l && decide (l.length≤20)
theorem φCZ {a:Nat} (h:a<1000000000001):(a+1) * 80≤140737488355328:=by omega
theorem φBA (s:List UInt8) (hl:s.length<1000000000):ψs.f s=some ((scan s).1,((scan s).2:Int)):=by
 have key:=φ5l (step:=ψs.l0) (a:=(s,([]:List φ1Z),((0:Nat):Int))) (fun a=>(a.2.1++(φ2E s a.2.2.toNat).1,((φ2E s a.2.2.toNat).2:Int))) (fun a=>a.1=s∧∃n:Nat,a.2.2=(n:Int)∧n≤s.length∧a.2.1.length≤n) (fun a=>s.length - a.2.2.toNat)
  (fun rec a ha ih=>by
   obtain ⟨x,out,k⟩:=a
   obtain ⟨hx,n,hn,hle,hol⟩:=ha
   simp only at hx hn hol ih ⊢
   subst hx hn
   have c1:(decide (0≤(n:Int)) && decide ((n:Int)≤(x.length:Int)))=true:=by simp;omega
   have hd:(x.drop n).length<1000000000000:=by rw[lD];omega
   have hu:=φ5n (x.drop n)
   simp only[ψs.l0,c1,cT,tN,φ97 (x.drop n) hd,φEq (φP (x.drop n)).1 (show (φP (x.drop n)).1.length<1000000000000 by omega),bS]
   rcases φ89 (x.drop n) with h | ⟨m,h,h5,hm⟩
   ·have d:((φP (x.drop n)).2==0)=true:=by simpa using h
    rw[φ4p hle (.inl h)]
    simp only[d,cT,κ6]
   have d:(((m:Nat):Int)==0)=false:=by simp;omega
   rw[lD] at hm
   cases hr:(φ1T (φP (x.drop n)).1).2
   ·rw[φ4p hle (.inr hr)]
    simp only[h,d,cF,nF,cT,κ6]
   ·have hb:∀{α:Type} (v:α),(out.length+[v].length) * 80≤140737488355328:=fun v=>φCZ (by omega)
    have ew:w64 ((n:Int)+(m:Int))=((n+m:Nat):Int):=by rw[φG (by omega) (by omega)];omega
    have ih:=ih (x,out++[((n:Int),(m:Int),(φ1T (φP (x.drop n)).1).1)],((n+m:Nat):Int)) ⟨rfl,n+m,rfl,by omega,by simp only[lA,κ5];omega⟩ (by simp only[tN];omega)
    simp only[tN] at ih
    rw[φ5b h h5 (by omega) hr]
    simp only[h,d,cF,nZ,hb,dT,cT,ew,ih]
    simp[aA])
  ⟨rfl,0,rfl,κ4 _,by simp⟩ (by simp only;omega)
 have key:lp ψs.l0 (s,[],0)=_:=key
 unfold ψs.f
 rw[key,bS]
 rfl
theorem φ7Z (s:List UInt8) (hl:s.length<1000000000):ψ2x.f s=some ((scan s).1,((scan s).2:Int)):=by
 have key:=φ5a (step:=ψ2x.l0) (a:=(s,([]:List φ1Z),((0:Nat):Int))) (fun a=>a.1=s∧∃n:Nat,a.2.2=(n:Int)∧n≤s.length∧a.2.1.length≤n∧scan s=(a.2.1++(φ2E s n).1,(φ2E s n).2)) (fun a=>s.length - a.2.2.toNat)
  (fun b=>b=.inl ((scan s).1,((scan s).2:Int))∨b=.inr ((scan s).1,((scan s).2:Int)))
  (fun rec a ha=>by
   obtain ⟨x,out,k⟩:=a
   obtain ⟨hx,n,hn,hle,hol,hs⟩:=ha
   simp only at hx hn hol hs
   subst hx hn
   rcases κ2 n x.length with hlt | hge
   rotate_left
   ·left
    have:n=x.length:=by omega
    subst this
    rw[φ8i] at hs
    refine ⟨_,?_,.inl rfl⟩
    rw[hs]
    simp[ψ2x.l0]
   have c0:(n:Int)<(x.length:Int):=by omega
   have c1:(decide (0≤(n:Int)) && decide ((n:Int)≤(x.length:Int)))=true:=by simp;omega
   have hd:(x.drop n).length<1000000000000:=by rw[lD];omega
   have hu:=φ5n (x.drop n)
   simp only[ψ2x.l0,c0,dT,c1,cT,tN,φ7o (x.drop n) hd,φCz (φP (x.drop n)).1 (show (φP (x.drop n)).1.length<1000000000000 by omega),bS]
   rcases φ89 (x.drop n) with h | ⟨m,h,h5,hm⟩
   ·left
    have d:((φP (x.drop n)).2==0)=true:=by simpa using h
    rw[φ4p hle (.inl h)] at hs
    simp only[κ6] at hs
    exact ⟨.inr (out,(n:Int)),by simp only[d,cT],.inr (by rw[hs])⟩
   have d:(((m:Nat):Int)==0)=false:=by simp;omega
   rw[lD] at hm
   cases hr:(φ1T (φP (x.drop n)).1).2
   ·left
    rw[φ4p hle (.inr hr)] at hs
    simp only[κ6] at hs
    exact ⟨.inr (out,(n:Int)),by simp only[h,d,cF,nF,cT],.inr (by rw[hs])⟩
   ·right
    have hb:∀{α:Type} (v:α),(out.length+[v].length) * 80≤140737488355328:=fun v=>φCZ (by omega)
    have ew:w64 ((n:Int)+(m:Int))=((n+m:Nat):Int):=by rw[φG (by omega) (by omega)];omega
    rw[φ5b h h5 (by omega) hr] at hs
    refine ⟨(x,out++[((n:Int),(m:Int),(φ1T (φP (x.drop n)).1).1)],((n+m:Nat):Int)),⟨rfl,n+m,rfl,by omega,by simp only[lA,κ5];omega,by simpa [aA] using hs⟩,by simp only[tN];omega,?_⟩
    simp only[h,d,cF,nZ,hb,dT,cT,ew])
  ⟨rfl,0,rfl,κ4 _,by simp,by unfold scan;simp⟩ (by simp only;omega)
 obtain ⟨b,e,hb⟩:=key
 have e:lp ψ2x.l0 (s,[],0)=some b:=e
 unfold ψ2x.f
 rw[e,bS]
 rcases hb with rfl | rfl<;>rfl
theorem φJ2 (l:List φB) (hl:l.length<2 ^ 62):lp ψA.l0 (l,l,(l.length:Int),0)=some (if φ2P none l=true then .inl l else .inr false):=by
 have key:=φd (step:=ψA.l0) (fun n (_:Unit)=>(l,l,(l.length:Int),(n:Int))) l.length (fun n _=>if φ2P (φ6a l n) (l.drop n)=true then .inl l else .inr false) (fun _ _=>True)
  (fun rec n s hn' _ ih=>by
   rcases κ2 n l.length with h | h
   ·have hw:w64 ((n:Int)+1)=((n+1:Nat):Int):=φL (by omega)
    have ih2:=ih () h trivial
    rw[φ7w l n h] at ih2
    rw[dG h]
    simp only[φ2P,ψA.l0,oL,h,dT,cT,φD,φI,φ8 h,bS,φ1q,φ9t]
    unfold φ2m
    have hneg:decide (l[n].2.2.1<0)=!decide (0≤l[n].2.2.1):=by
     by_cases c:0≤l[n].2.2.1
     ·have:¬l[n].2.2.1<0:=by omega
      simp[c,this]
     ·have:l[n].2.2.1<0:=by omega
      simp[c,this]
    rw[hneg]
    rcases bE (φ1c l[n].1) with k1 | k1
    rotate_left
    ·simp[k1]
    rcases bE (decide (1≤l[n].2.1∧l[n].2.1≤100000)) with k2 | k2
    rotate_left
    ·simp only[k1,k2,nZ,nF,cF,cT,bS,φZ];simp
    rcases bE (decide (0≤l[n].2.2.1)) with k3 | k3
    rotate_left
    ·simp only[k1,k2,k3,nZ,nF,cF,cT,bS,φZ];simp
    rcases bE (decide (1≤l[n].2.2.2.1∧l[n].2.2.2.1≤210)) with k4 | k4
    rotate_left
    ·simp only[k1,k2,k3,k4,nZ,nF,cF,cT,bS,φZ];simp
    rcases bE (decide (1≤l[n].2.2.2.2∧l[n].2.2.2.2≤1000000)) with k5 | k5
    rotate_left
    ·simp only[k1,k2,k3,k4,k5,nZ,nF,cF,cT,bS,φZ];simp
    simp only[k1,k2,k3,k4,k5,nZ,cF,tA]
    cases n with
    | zero=>
     have z:¬((0:Nat):Int) > 0:=by omega
     simp only[z,dF,cF,bS,φT,hw,ih2,φ6a,tA]
    | succ m=>
     have z:((m+1:Nat):Int) > 0:=by omega
     have hm:m<l.length:=by omega
     have z2:w64 (((m+1:Nat):Int) - 1)=(m:Int):=by rw[φG (by omega) (by omega)];omega
     rw[φ7w l m hm]
     simp only[z,dT,cT,z2,φD,hm,φI,φ8 hm]
     rcases bE (Op.bytesLess l[m].1 l[m+1].1) with k6 | k6
     ·simp only[k6,nZ,cF,bS,φT,hw,ih2,tA]
     ·simp[k6]
   ·have:n=l.length:=by omega
    subst this
    simp[ψA.l0,φ2P])
  hl 0 () (κ4 _) trivial
 have key:lp ψA.l0 (l,l,(l.length:Int),0)=_:=key
 rw[key,κB];rfl
theorem φKE (a:Int):decide (a<0)=!decide (0≤a):=by
 by_cases c:0≤a
 ·have:¬a<0:=by omega
  simp[c,this]
 ·have:a<0:=by omega
  simp[c,this]
theorem φJN (l:List φB) (hl:l.length<2 ^ 62):lp ψ2I.l0 (l,0)=some (if φ2P none l=true then .inl () else .inr false):=by
 have key:=φd (step:=ψ2I.l0) (fun n (_:Unit)=>(l,(n:Int))) l.length (fun n _=>if φ2P (φ6a l n) (l.drop n)=true then .inl () else .inr false) (fun _ _=>True)
  (fun rec n s hn' _ ih=>by
   rcases κ2 n l.length with h | h
   ·have hw:w64 ((n:Int)+1)=((n+1:Nat):Int):=φL (by omega)
    have ih2:=ih () h trivial
    rw[φ7w l n h] at ih2
    rw[dG h]
    simp only[φ2P,ψ2I.l0,oL,h,dT,cT,φD,φI,φ8 h,bS,φ1u,φ7J]
    unfold φ2m
    rw[φKE]
    rcases bE (φ1c l[n].1) with k1 | k1
    rotate_left
    ·simp[k1]
    rcases bE (decide (1≤l[n].2.1∧l[n].2.1≤100000)) with k2 | k2
    rotate_left
    ·simp only[k1,k2,nZ,nF,cF,cT,bS,φZ];simp
    rcases bE (decide (0≤l[n].2.2.1)) with k3 | k3
    rotate_left
    ·simp only[k1,k2,k3,nZ,nF,cF,cT,bS,φZ];simp
    rcases bE (decide (1≤l[n].2.2.2.1∧l[n].2.2.2.1≤210)) with k4 | k4
    rotate_left
    ·simp only[k1,k2,k3,k4,nZ,nF,cF,cT,bS,φZ];simp
    rcases bE (decide (1≤l[n].2.2.2.2∧l[n].2.2.2.2≤1000000)) with k5 | k5
    rotate_left
    ·simp only[k1,k2,k3,k4,k5,nZ,nF,cF,cT,bS,φZ];simp
    simp only[k1,k2,k3,k4,k5,nZ,cF,tA]
    cases n with
    | zero=>
     have z:¬((0:Nat):Int) > 0:=by omega
     simp only[z,dF,cF,bS,φT,hw,ih2,φ6a,tA]
    | succ m=>
     have z:((m+1:Nat):Int) > 0:=by omega
     have hm:m<l.length:=by omega
     have z2:w64 (((m+1:Nat):Int) - 1)=(m:Int):=by rw[φG (by omega) (by omega)];omega
     have z3:(Op.bytesLess l[m+1].1 l[m].1 || l[m+1].1==l[m].1)=!Op.bytesLess l[m].1 l[m+1].1:=φ8L _ _
     rw[φ7w l m hm]
     simp only[z,dT,cT,z2,φD,hm,φI,φ8 hm,z3]
     rcases bE (Op.bytesLess l[m].1 l[m+1].1) with k6 | k6
     ·simp only[k6,nZ,cF,bS,φT,hw,ih2,tA]
     ·simp[k6]
   ·have:n=l.length:=by omega
    subst this
    simp[ψ2I.l0,φ2P])
  hl 0 () (κ4 _) trivial
 have key:lp ψ2I.l0 (l,0)=_:=key
 rw[key,κB];rfl
theorem φAr (l:List φB) (hl:l.length<2 ^ 62):ψA.f l=some (φ1m l):=by
 unfold ψA.f φ1m
 rw[φJ2 l hl,bS]
 have e:decide ((l.length:Int)≤20)=decide (l.length≤20):=decide_eq_decide.2 (by omega)
 cases φ2P none l<;>simp[e]
theorem φFy (l:List φB) (hl:l.length<2 ^ 62):ψ2I.f l=some (φ1m l):=by
 unfold ψ2I.f φ1m
 rw[φJN l hl]
 by_cases c:l.length≤20
 ·have c1:¬(l.length:Int) > 20:=by omega
  simp only[c,c1,dT,dF,cF,κP,bS]
  cases φ2P none l<;>rfl
 ·have c1:(l.length:Int) > 20:=by omega
  simp[c,c1]
noncomputable def φ4S (d:φ1) (size:Int) (last:Bool) (id:Int):Bool:=
 (φ2 d (φ0 id)).2 && (decide ((scan (φ2 d (φ0 id)).1).2=(φ2 d (φ0 id)).1.length) && (!last || decide (size=((φ2 d (φ0 id)).1.length:Int))))
noncomputable def φ1b (d:φ1) (size:Int):List Int→Bool
 | []=>true
 | id::r=>φ4S d size r.isEmpty id && φ1b d size r
noncomputable def φ1t (d:φ1) (batch:Int) (e:φB):Bool:=
 let r:=φ1G (φ2 d (φ0 e.2.1)).1 e.2.2.1 e.2.2.2.1
 r.2 && ((r.1.1==1 || r.1.1==4) && (r.1.2.2.1==e.1 && (r.1.2.1==e.2.2.2.2 && !decide (e.2.2.2.2≥batch))))
noncomputable def φs (s:φA) (d:φ1):Bool:=
 φ5 d && (φq s.1 && (φ1m s.2.1 && (decide (1≤s.2.2.1∧s.2.2.1≤1000001) && (φ1b d s.2.2.2.1 s.1.2 && s.2.1.all (φ1t d s.2.2.1)))))
theorem φKJ (s:φA) (d:φ1) (h:dlim d) (hu:φQ d.1<1000000000) (hl:s.1.2.length<1000000000):lp ψx.l0 (s,d,s.1.2,(s.1.2.length:Int),0)=some (if φ1b d s.2.2.2.1 s.1.2=true then .inl (s,d) else .inr false):=by
 have key:=φd (step:=ψx.l0) (fun n (_:Unit)=>(s,d,s.1.2,(s.1.2.length:Int),(n:Int))) s.1.2.length (fun n _=>if φ1b d s.2.2.2.1 (s.1.2.drop n)=true then .inl (s,d) else .inr false) (fun _ _=>True)
  (fun rec n a hn _ ih=>by
   rcases κ2 n s.1.2.length with h1 | h1
   ·have hw:=φL (show n+1<9223372036854775808 by omega)
    have hw2:w64 ((s.1.2.length:Int) - 1)=(s.1.2.length:Int) - 1:=φG (by omega) (by omega)
    have hft:=φ4O d (φ0 s.1.2[n]) h
    have ih:=ih () h1 trivial
    rw[dG h1]
    have hlast:(s.1.2.drop (n+1)).isEmpty=((n:Int)==(s.1.2.length:Int) - 1):=by
     by_cases c:n+1=s.1.2.length
     ·have c1:((n:Int)==(s.1.2.length:Int) - 1)=true:=by simp;omega
      rw[c1,c,List.drop_length];rfl
     ·have c1:((n:Int)==(s.1.2.length:Int) - 1)=false:=by simp;omega
      rw[c1]
      cases e:s.1.2.drop (n+1) with
      | nil=>rw[List.drop_eq_nil_iff] at e;omega
      | cons x r=>rfl
    simp only[φ1b,hlast,ψx.l0,oL,h1,dT,cT,φD,φI,φ8 h1,φ3b,φ4T d _ h,φBA (φ2 d (φ0 s.1.2[n])).1 (show (φ2 d (φ0 s.1.2[n])).1.length<1000000000 by omega),bS,hw2]
    unfold φ4S
    cases hb:(φ2 d (φ0 s.1.2[n])).2
    ·simp
    simp only[nZ,cF,tA]
    by_cases c1:(scan (φ2 d (φ0 s.1.2[n])).1).2=(φ2 d (φ0 s.1.2[n])).1.length
    rotate_left
    ·have d1:(((scan (φ2 d (φ0 s.1.2[n])).1).2:Int) != ((φ2 d (φ0 s.1.2[n])).1.length:Int))=true:=by simp;omega
     simp only[d1,cT,bS,φZ,c1,dF];simp
    have d1:(((scan (φ2 d (φ0 s.1.2[n])).1).2:Int) != ((φ2 d (φ0 s.1.2[n])).1.length:Int))=false:=by simp;omega
    simp only[c1,bne_self_eq_false,cF,dT,tA]
    cases hz:((n:Int)==(s.1.2.length:Int) - 1)
    ·simp only[cF,bS,φT,hw,ih,nF,Bool.true_or,tA]
    ·by_cases c2:s.2.2.2.1=((φ2 d (φ0 s.1.2[n])).1.length:Int)
     ·have d2:(s.2.2.2.1 != ((φ2 d (φ0 s.1.2[n])).1.length:Int))=false:=by simpa using c2
      simp only[cT,d2,cF,bS,φT,hw,ih,nZ,κR,decide_eq_true c2,tA]
     ·have d2:(s.2.2.2.1 != ((φ2 d (φ0 s.1.2[n])).1.length:Int))=true:=by simpa using c2
      simp only[cT,d2,bS,φZ,nZ,κR,decide_eq_false c2,κF,κ0,if_false]
   ·have:n=s.1.2.length:=by omega
    subst this
    simp[ψx.l0,φ1b])
  (by omega) 0 () (κ4 _) trivial
 have key:lp ψx.l0 (s,d,s.1.2,(s.1.2.length:Int),0)=_:=key
 rw[key,κB]
theorem φLP (s:φA) (d:φ1) (h:dlim d) (hu:φQ d.1<1000000000) (hl:s.2.1.length<1000000000):lp ψx.l2 (s,d,s.2.1,(s.2.1.length:Int),0)=some (if s.2.1.all (φ1t d s.2.2.1)=true then .inl () else .inr false):=by
 refine φ41 (step:=ψx.l2) s.2.1 (φ1t d s.2.2.1) (fun n=>(s,d,s.2.1,(s.2.1.length:Int),(n:Int))) () (by omega) ?_ ?_
 ·intro rec n hn
  have hw:=φL (show n+1<9223372036854775808 by omega)
  have hft:=φ4O d (φ0 s.2.1[n].2.1) h
  simp only[ψx.l2,oL,hn,dT,cT,φD,φI,φ8 hn,φ3b,φ4T d _ h,φE8 (φ2 d (φ0 s.2.1[n].2.1)).1 _ _ (show (φ2 d (φ0 s.2.1[n].2.1)).1.length<1000000000 by omega),bS,hw,φ1t]
  obtain ⟨r,hr⟩:∃r,φ1G (φ2 d (φ0 s.2.1[n].2.1)).1 s.2.1[n].2.2.1 s.2.1[n].2.2.2.1=r:=⟨_,rfl⟩
  simp only[hr]
  rcases bE r.2 with h1 | h1<;>rcases bE (r.1.1==1) with h2 | h2<;>rcases bE (r.1.1==4) with h3 | h3<;>rcases bE (r.1.2.2.1==s.2.1[n].1) with h4 | h4<;>rcases bE (r.1.2.1==s.2.1[n].2.2.2.2) with h5 | h5<;>rcases bE (decide (s.2.1[n].2.2.2.2≥s.2.2.1)) with h6 | h6<;>simp only[bne,h1,h2,h3,h4,h5,h6,φT,φZ,nZ,nF,cT,cF,bS,tA,κF,κP,Bool.and_false,Bool.or_true,Bool.or_false,Bool.true_or,κR,if_true,if_false,κ0,hw]
 ·intro rec
  simp[ψx.l2]
theorem φIN (s:φA) (d:φ1) (h:dlim d) (hu:φQ d.1<1000000000) (hl:s.2.1.length<1000000000):lp ψ32.l2 (s,d,0)=some (if s.2.1.all (φ1t d s.2.2.1)=true then .inl () else .inr false):=by
 refine φ41 (step:=ψ32.l2) s.2.1 (φ1t d s.2.2.1) (fun n=>(s,d,(n:Int))) () (by omega) ?_ ?_
 ·intro rec n hn
  have hw:=φL (show n+1<9223372036854775808 by omega)
  have hft:=φ4O d (φ0 s.2.1[n].2.1) h
  simp only[ψ32.l2,oL,hn,dT,cT,φD,φI,φ8 hn,φ2Q,φ51 d _ h,φCa (φ2 d (φ0 s.2.1[n].2.1)).1 _ _ (show (φ2 d (φ0 s.2.1[n].2.1)).1.length<1000000000 by omega),bS,hw,φ1t]
  obtain ⟨r,hr⟩:∃r,φ1G (φ2 d (φ0 s.2.1[n].2.1)).1 s.2.1[n].2.2.1 s.2.1[n].2.2.2.1=r:=⟨_,rfl⟩
  simp only[hr]
  rcases bE r.2 with h1 | h1<;>rcases bE (r.1.1==1) with h2 | h2<;>rcases bE (r.1.1==4) with h3 | h3<;>rcases bE (r.1.2.2.1==s.2.1[n].1) with h4 | h4<;>rcases bE (r.1.2.1==s.2.1[n].2.2.2.2) with h5 | h5<;>rcases bE (decide (s.2.1[n].2.2.2.2≥s.2.2.1)) with h6 | h6<;>simp only[bne,h1,h2,h3,h4,h5,h6,φT,φZ,nZ,nF,cT,cF,bS,tA,κF,κP,Bool.and_false,Bool.or_true,Bool.or_false,Bool.true_or,κR,if_true,if_false,κ0,hw]
 ·intro rec
  simp[ψ32.l2]
theorem φLx (s:φA) (d:φ1) (h:dlim d) (hu:φQ d.1<1000000000) (hl:s.1.2.length<1000000000):lp ψ32.l0 (s,d,0)=some (if φ1b d s.2.2.2.1 s.1.2=true then .inl (s,d) else .inr false):=by
 have key:=φd (step:=ψ32.l0) (fun n (_:Unit)=>(s,d,(n:Int))) s.1.2.length (fun n _=>if φ1b d s.2.2.2.1 (s.1.2.drop n)=true then .inl (s,d) else .inr false) (fun _ _=>True)
  (fun rec n a hn _ ih=>by
   rcases κ2 n s.1.2.length with h1 | h1
   ·have hw:=φL (show n+1<9223372036854775808 by omega)
    have hft:=φ4O d (φ0 s.1.2[n]) h
    have hsl:=(φ4U (φ2 d (φ0 s.1.2[n])).1).1
    have ih:=ih () h1 trivial
    rw[dG h1]
    have hlast:(s.1.2.drop (n+1)).isEmpty=(((n+1:Nat):Int)==(s.1.2.length:Int)):=by
     by_cases c:n+1=s.1.2.length
     ·have c1:(((n+1:Nat):Int)==(s.1.2.length:Int))=true:=by simp;omega
      rw[c1,c,List.drop_length];rfl
     ·have c1:(((n+1:Nat):Int)==(s.1.2.length:Int))=false:=by simp;omega
      rw[c1]
      cases e:s.1.2.drop (n+1) with
      | nil=>rw[List.drop_eq_nil_iff] at e;omega
      | cons x r=>rfl
    simp only[φ1b,hlast,ψ32.l0,oL,h1,dT,cT,φD,φI,φ8 h1,φ2Q,φ51 d _ h,φ7Z (φ2 d (φ0 s.1.2[n])).1 (show (φ2 d (φ0 s.1.2[n])).1.length<1000000000 by omega),bS,hw]
    unfold φ4S
    cases hb:(φ2 d (φ0 s.1.2[n])).2
    ·simp
    simp only[nZ,cF,tA]
    by_cases c1:(scan (φ2 d (φ0 s.1.2[n])).1).2=(φ2 d (φ0 s.1.2[n])).1.length
    rotate_left
    ·have d1:(scan (φ2 d (φ0 s.1.2[n])).1).2<(φ2 d (φ0 s.1.2[n])).1.length:=by omega
     simp only[d1,dT,cT,bS,φZ,c1,dF];simp
    simp only[c1,Nat.lt_irrefl,dF,cF,dT,tA]
    cases hz:(((n+1:Nat):Int)==(s.1.2.length:Int))
    ·simp only[cF,bS,φT,hw,ih,nF,Bool.true_or,tA]
    ·by_cases c2:s.2.2.2.1=((φ2 d (φ0 s.1.2[n])).1.length:Int)
     ·have d2:(s.2.2.2.1 != ((φ2 d (φ0 s.1.2[n])).1.length:Int))=false:=by simpa using c2
      simp only[cT,d2,cF,bS,φT,hw,ih,nZ,κR,decide_eq_true c2,tA]
     ·have d2:(s.2.2.2.1 != ((φ2 d (φ0 s.1.2[n])).1.length:Int))=true:=by simpa using c2
      simp only[cT,d2,bS,φZ,nZ,κR,decide_eq_false c2,κF,κ0,if_false]
   ·have:n=s.1.2.length:=by omega
    subst this
    simp[ψ32.l0,φ1b])
  (by omega) 0 () (κ4 _) trivial
 have key:lp ψ32.l0 (s,d,0)=_:=key
 rw[key,κB]
theorem φLO (s:φA) (d:φ1) (h:dlim d) (hu:φQ d.1<1000000000) (h1:s.1.2.length<1000000000) (h2:s.2.1.length<1000000000):ψx.f s d=some (φs s d):=by
 unfold ψx.f φs
 rw[φ6X d h,φ7e s.1 (by omega),φAr s.2.1 (by omega),φ1q,φKJ s d h hu h1]
 simp only[bS]
 cases φ5 d<;>simp only[nZ,nF,cT,cF,tA,κF]
 cases φq s.1<;>simp only[nZ,nF,cT,cF,tA,κF]
 cases φ1m s.2.1<;>simp only[nZ,nF,cT,cF,tA,κF]
 cases decide (1≤s.2.2.1∧s.2.2.1≤1000001)<;>simp only[nZ,nF,cT,cF,tA,κF]
 cases φ1b d s.2.2.2.1 s.1.2<;>simp only[if_true,if_false,κ0,φT,φZ,tA,κF]
 rw[φLP s d h hu h2,bS]
 cases s.2.1.all (φ1t d s.2.2.1)<;>simp only[if_true,if_false,κ0,φT,φZ]
theorem φDJ (s:φA) (d:φ1) (h:dlim d) (hu:φQ d.1<1000000000) (h1:s.1.2.length<1000000000) (h2:s.2.1.length<1000000000):ψ32.f s d=some (φs s d):=by
 unfold ψ32.f φs
 rw[φ5p d h,φ8K s.1 (by omega),φFy s.2.1 (by omega),φ1u,φLx s d h hu h1]
 simp only[bS]
 cases φ5 d<;>simp only[nZ,nF,cT,cF,tA,κF]
 cases φq s.1<;>simp only[nZ,nF,cT,cF,tA,κF]
 cases φ1m s.2.1<;>simp only[nZ,nF,cT,cF,tA,κF]
 cases decide (1≤s.2.2.1∧s.2.2.1≤1000001)<;>simp only[nZ,nF,cT,cF,tA,κF]
 cases φ1b d s.2.2.2.1 s.1.2<;>simp only[if_true,if_false,κ0,φT,φZ,tA,κF]
 rw[φIN s d h hu h2,bS]
 cases s.2.1.all (φ1t d s.2.2.1)<;>simp only[if_true,if_false,κ0,φT,φZ]
theorem φDP:∀(l:List φ6) (p:List UInt8),(∀x∈l,Op.bytesLess p x.1=true)→srt l→φ3T (some p) l=true
 | [],_,_,_=>rfl
 | f::l,p,h,hs=>by
  simp only[φ3T,h f κ1,tA]
  have hs2:=κZ.1 hs
  exact φDP l f.1 hs2.1 hs2.2
theorem φHl (l:List φ6) (hs:srt l):φ3T none l=true:=by
 cases l with
 | nil=>rfl
 | cons f l=>
  have hs2:=κZ.1 hs
  exact φDP l f.1 hs2.1 hs2.2
def okF (cap:Int) (l:List φ6):Prop:=l.length≤130∧(φQ l:Int)≤cap∧(∀f∈l,φ2x f=true)∧srt l
theorem φ3h (d:φ1):φ5 d=true↔(0≤d.2.1∧d.2.1≤100000)∧(-1≤d.2.2.1∧d.2.2.1≤100000)∧okF d.2.1 d.1:=by
 unfold φ5 okF φ5P
 simp only[bA,decide_eq_true_eq,κN]
 constructor
 ·rintro ⟨h1,h2,h3,h4,h5,h6⟩
  exact ⟨h2,h3,h1,h4,h5,φFa _ h6⟩
 ·rintro ⟨h2,h3,h1,h4,h5,h6⟩
  exact ⟨h1,h2,h3,h4,h5,φHl _ h6⟩
theorem φLk {d:φ1} (h:φ5 d=true):φ5 (tick d)=true:=by
 rw[φ3h] at h ⊢
 obtain ⟨h1,h2,h3⟩:=h
 rw[φ7y,φ1I]
 refine ⟨h1,?_,h3⟩
 unfold tick;split
 ·exact ⟨by show -1≤d.2.2.1 - 1;omega,by show d.2.2.1 - 1≤100000;omega⟩
 ·exact h2
theorem φ6O {d:φ1} {act:List φ6→Int×List φ6} (h:φ5 d=true) (ha:okF d.2.1 d.1→okF d.2.1 (act d.1).2):φ5 (φU d act).1=true:=by
 have ht:=φLk h
 rw[φ3h] at h ht
 unfold φU
 split
 ·rename_i k;rw[(φ3h d).2 h] at k;exact absurd k (by simp)
 ·split
  ·exact (φ3h _).2 h
  ·refine (φ3h _).2 ⟨?_,ht.2.1,?_⟩
   ·show 0≤(tick d).2.1∧(tick d).2.1≤100000
    exact ht.1
   ·show okF (tick d).2.1 (act d.1).2
    rw[φ7y];exact ha h.2.2
theorem φEO {cap:Int} {l m:List φ6} (h:okF cap l) (hs:m.Sublist l):okF cap m:=by
 have:=φ7M (fun f:φ6=>f.2.1.length) hs
 have:=hs.length_le
 have h2:=h.2.1
 refine ⟨by have:=h.1;omega,?_,fun f hf=>h.2.2.1 f (hs.subset hf),h.2.2.2.sublist hs⟩
 unfold φQ at *;omega
theorem φI6 (l:List φ6) (f:φ6):φQ (insB l f)=φQ l+f.2.1.length:=by
 unfold φQ
 induction l with
 | nil=>simp[insB,sumN]
 | cons x l ih=>
  rw[φ5u]
  split
  ·simp only[sumN,ih];omega
  ·simp only[sumN];omega
theorem φIH (l:List φ6) (i:Nat) (h:i<l.length):φQ (φo l i)+l[i].2.1.length=φQ l:=by
 unfold φQ φo
 induction l generalizing i with
 | nil=>simp at h
 | cons x l ih=>
  cases i with
  | zero=>simp only[List.take_zero,List.drop_succ_cons,κB,κA,List.getElem_cons_zero,sumN];omega
  | succ i=>
   have:=ih i (by simpa using h)
   simp only[List.take_succ_cons,List.drop_succ_cons,κG,sumN,List.getElem_cons_succ] at *
   omega
theorem φL7 (l:List φ6) (i:Nat) (f:φ6) (h:i<l.length):φQ (l.set i f)+l[i].2.1.length=φQ l+f.2.1.length:=by
 unfold φQ
 induction l generalizing i with
 | nil=>simp at h
 | cons x l ih=>
  cases i with
  | zero=>simp only[List.set_cons_zero,List.getElem_cons_zero,sumN];omega
  | succ i=>
   have:=ih i (by simpa using h)
   simp only[List.set_cons_succ,sumN,List.getElem_cons_succ] at *
   omega
theorem φHD {α:Type} {l:List (List UInt8×α)} (h:srt l) (i:Nat) (hi:i<l.length) (f:List UInt8×α) (hf:f.1=l[i].1):srt (l.set i f):=by
 unfold srt at *
 have e:(l.set i f).map (·.1)=l.map (·.1):=by
  apply List.ext_getElem
  ·simp
  ·intro n h1 h2
   simp only[List.getElem_map,List.getElem_set]
   split
   ·rename_i c;subst c;exact hf
   ·rfl
 have h2:(l.map (·.1)).Pairwise (fun a b=>Op.bytesLess a b=true):=List.pairwise_map.2 h
 rw[←e] at h2
 exact List.pairwise_map.1 h2
theorem φBN {cap:Int} {l:List φ6} (h:okF cap l) (i:Nat) (hi:i<l.length) (f:φ6) (hn:f.1=l[i].1) (hf:φ2x f=true) (hu:(φQ l:Int)+f.2.1.length - l[i].2.1.length≤cap):okF cap (l.set i f):=by
 have:=φL7 l i f hi
 refine ⟨by rw[List.length_set];exact h.1,by omega,fun g hg=>?_,φHD h.2.2.2 i hi f hn⟩
 rcases List.mem_or_eq_of_mem_set hg with hg | e
 ·exact h.2.2.1 g hg
 ·rw[e];exact hf
theorem φC3 {cap:Int} {l:List φ6} (h:okF cap l) (f:φ6) (h1:l.length<130) (hne:∀x∈l,x.1≠f.1) (hf:φ2x f=true) (hu:(φQ l:Int)+f.2.1.length≤cap):okF cap (insB l f):=by
 refine ⟨by rw[φ8u];omega,by rw[φI6];omega,fun g hg=>?_,φ9j f l h.2.2.2 hne⟩
 rcases (φ3j g f l).1 hg with e | hg
 ·rw[e];exact hf
 ·exact h.2.2.1 g hg
theorem φ9M {d:φ1} (h:φ5 d=true) (n:List UInt8):φ5 (φ26 n d).1=true:=
 φ6O h fun k=>by
  unfold φ2X;split
  ·exact φEO k (φ5L _ _)
  ·exact k
theorem φ2Y {d:φ1} (h:φ5 d=true) (n:List UInt8):φ5 (φH n d).1=true:=by
 unfold φH;split
 ·exact φ9M h n
 ·exact h
theorem φ39 {d:φ1} (h:φ5 d=true) (n:List UInt8):φ5 (φY n d).1=true:=
 φ6O h fun k=>by
  unfold φ2q;split
  ·exact k
  ·rename_i k1
   split
   ·exact k
   ·rename_i k2
    split
    ·exact k
    ·rename_i k3
     rcases φ12 d.1 n with ⟨e,hno⟩ | ⟨i,hi,e,_⟩
     ·refine φC3 k _ (by omega) hno ?_ (by have:=k.2.1;simp;exact this)
      unfold φ2x;simp at k1 ⊢;exact k1
     ·omega
theorem φ3p {d:φ1} (h:φ5 d=true) (n t:List UInt8):φ5 (φW n t d).1=true:=
 φ6O h fun k=>by
  unfold φ2e
  rcases φ12 d.1 n with ⟨e,_⟩ | ⟨i,hi,e,_⟩
  ·rw[φ1D e];exact k
  ·rw[φ17 e]
   simp only
   split
   ·exact k
   ·rename_i k1
    rw[φ8 hi]
    refine φBN k i hi _ rfl ?_ ?_
    ·have:=k.2.2.1 _ (gM hi)
     unfold φ2x at *
     simp only[bA,decide_eq_true_eq,lA] at *
     exact ⟨this.1,by omega,by omega⟩
    ·simp only[lA];omega
theorem φ3I {d:φ1} (h:φ5 d=true) (n:List UInt8):φ5 (φR n d).1=true:=
 φ6O h fun k=>by
  unfold φ2b
  rcases φ12 d.1 n with ⟨e,_⟩ | ⟨i,hi,e,_⟩
  ·rw[φ1D e];exact k
  ·rw[φ17 e]
   simp only
   rw[φ8 hi]
   refine φBN k i hi _ rfl ?_ ?_
   ·have:=k.2.2.1 _ (gM hi)
    unfold φ2x at *
    simp only[bA,decide_eq_true_eq] at *
    exact ⟨this.1,by omega,by omega⟩
   ·have:=k.2.1;simp only;omega
theorem φ5h {d:φ1} (h:φ5 d=true) (n:List UInt8) (z:Int):φ5 (φU d (φ3Y n z)).1=true:=
 φ6O h fun k=>by
  unfold φ3Y
  rcases φ12 d.1 n with ⟨e,_⟩ | ⟨i,hi,e,_⟩
  ·rw[φ1D e];exact k
  ·rw[φ17 e]
   simp only
   rw[φ8 hi]
   split
   ·rename_i k1
    refine φBN k i hi _ rfl ?_ ?_
    ·have:=k.2.2.1 _ (gM hi)
     unfold φ2x at *
     simp only[bA,decide_eq_true_eq,lT] at *
     exact ⟨this.1,by omega,by omega⟩
    ·have:=k.2.1
     simp only[lT];omega
   ·exact k
theorem φBE {d:φ1} (h:φ5 d=true) (a b:List UInt8):φ5 (φ36 a b d).1=true:=
 φ6O h fun k=>by
  unfold φ33
  split
  ·exact k
  ·rename_i k0
   rcases φ12 d.1 a with ⟨e,_⟩ | ⟨i,hi,e,_⟩
   ·rw[φ1D e];exact k
   ·rw[φ17 e]
    simp only
    split
    ·exact k
    ·rw[φ8 hi]
     have hs:(φ1l (φo d.1 i) b).Sublist d.1:=(φDt _ _).trans (φ5L _ _)
     have h2:=φIH d.1 i hi
     have h3:=φ8c hi
     have h4:=φAO (φo d.1 i) b
     have h5:φQ (φ1l (φo d.1 i) b)≤φQ (φo d.1 i):=φ7M (fun f:φ6=>f.2.1.length) (φDt _ _)
     have k1:=k.1
     have k2:=k.2.1
     refine φC3 (φEO k hs) _ (by omega) (φE3 (k.2.2.2.sublist (φ5L d.1 i))) ?_ (by simp only;omega)
     have:=k.2.2.1 _ (gM hi)
     unfold φ2x at *
     simp only[bA,decide_eq_true_eq,Bool.not_eq_false] at *
     exact ⟨k0,this.2⟩
theorem φ1j {w:φE} {op:φ1→φ1×Int} (h:φ5 w.1=true) (ho:φ5 w.1=true→φ5 (op w.1).1=true):φ5 (φK op w).1=true:=by
 unfold φK;split
 ·exact ho h
 ·exact h
theorem φAZ {w:φE} {op:φ1→φ1×Int} (h:φ5 w.1=true) (ho:φ5 w.1=true→φ5 (op w.1).1=true):φ5 (φ1P op w).1=true:=by
 unfold φ1P;split
 ·exact ho h
 ·exact h
theorem φ4g {w:φE} (h:φ5 w.1=true) (n t:List UInt8):φ5 (φ1k n t w).1=true:=
 φ1j (op:=φR n) (φ1j (op:=φW n t) (φ1j (op:=φY n) (φ1j (op:=φH n) h fun k=>φ2Y k n) fun k=>φ39 k n) fun k=>φ3p k n t) fun k=>φ3I k n
theorem φ4G {w:φE} (h:φ5 w.1=true) (v:φN):φ5 (sPut v w).1=true:=
 φ1j (op:=φ36 _ _) (φ4g h _ _) fun k=>φBE k _ _
theorem φn {d:φ1} (h:φ5 d=true):dl 100001 d:=by
 rw[φ3h] at h
 obtain ⟨h1,h2,h3,h4,h5,h6⟩:=h
 refine ⟨by omega,by omega,fun f hf=>?_⟩
 have:=h5 f hf
 unfold φ2x at this
 simp only[bA] at this
 have:=φHx this.1
 omega
theorem φKu {a:Nat} (h:a<1000000000001):(a+1) * 16≤140737488355328:=by omega
theorem φKi (l:List φB) (hl:l.length<1000000000):ψ9.f l=some (l.map (·.1)):=by
 have key:=φd (step:=ψ9.l0) (fun n (acc:List (List UInt8))=>(acc,l,(l.length:Int),(n:Int))) l.length (fun n acc=>acc++(l.drop n).map (·.1)) (fun n acc=>acc.length=n)
  (fun rec n acc hn ha ih=>by
   rcases κ2 n l.length with h | h
   ·have hw:=φL (show n+1<9223372036854775808 by omega)
    have hb:(acc.length+([l[n].1]:List (List UInt8)).length) * 16≤140737488355328:=φKu (by omega)
    have ih:=ih (acc++[l[n].1]) h (by rw[lA,ha];rfl)
    simp only[ψ9.l0,oL,h,dT,cT,φD,φI,φ8 h,hb,hw,ih]
    rw[dG h,κ8,aA];rfl
   ·have:n=l.length:=by omega
    subst this
    simp[ψ9.l0])
  (by omega) 0 [] (κ4 _) rfl
 have key:lp ψ9.l0 ([],l,(l.length:Int),0)=_:=key
 unfold ψ9.f
 rw[key,bS]
 simp
noncomputable def φ1Y (s:φA) (d:φ1):List φB→List φ1C→List φ1C×Int
 | [],acc=>(acc,0)
 | e::r,acc=>if (getP s d e.1).2≠0 then ([],(getP s d e.1).2) else φ1Y s d r (acc++[(getP s d e.1).1])
noncomputable def φV (s:φA) (d:φ1):List φ1C×Int:=φ1Y s d s.2.1 []
theorem φCE (s:φA) (d:φ1):∀(l:List φB) (acc:List φ1C),(φ1Y s d l acc).1.length≤acc.length+l.length
 | [],acc=>by simp[φ1Y]
 | e::r,acc=>by
  unfold φ1Y;split
  ·simp
  ·have:=φCE s d r (acc++[(getP s d e.1).1])
   simp only[lA,lC,lN] at *;omega
theorem φ7j (s:φA) (d:φ1):(φV s d).1.length≤s.2.1.length:=by
 have:=φCE s d s.2.1 []
 unfold φV
 simpa using this
theorem φF6 (s:φA) (d:φ1) (h:dlim d) (hu:φQ d.1<1000000000) (hs:s.2.1.length<1000000000):ψ2N.f s d=some (φV s d):=by
 have key:=φd (step:=ψ2N.l0) (fun n (acc:List φ1C)=>(s,d,acc,(n:Int))) s.2.1.length (fun n acc=>if (φ1Y s d (s.2.1.drop n) acc).2=0 then .inl (φ1Y s d (s.2.1.drop n) acc).1 else .inr ([],(φ1Y s d (s.2.1.drop n) acc).2)) (fun n acc=>acc.length=n)
  (fun rec n acc hn ha ih=>by
   rcases κ2 n s.2.1.length with h1 | h1
   ·have hw:=φL (show n+1<9223372036854775808 by omega)
    rw[dG h1]
    simp only[ψ2N.l0,oL,h1,dT,cT,φD,φI,φ8 h1,hw,φDj s d _ h hu (show s.2.1.length<2 ^ 62 by omega),bS,φ1Y]
    by_cases c:(getP s d (s.2.1[n]).1).2=0
    ·have c1:((getP s d (s.2.1[n]).1).2 != 0)=false:=by simpa using c
     have hb:(acc.length+([(getP s d (s.2.1[n]).1).1]:List φ1C).length) * 40≤140737488355328:=φ53 (by omega)
     have ih:=ih (acc++[(getP s d (s.2.1[n]).1).1]) h1 (by rw[lA,ha];rfl)
     simp only[c1,cF,hb,dT,cT,ih,c,ne_eq,not_true_eq_false,if_false,bne_self_eq_false]
    ·have c1:((getP s d (s.2.1[n]).1).2 != 0)=true:=by simpa using c
     simp only[c1,cT,c,ne_eq,not_false_eq_true,if_true,if_false]
   ·have:n=s.2.1.length:=by omega
    subst this
    simp[ψ2N.l0,φ1Y])
  (by omega) 0 [] (κ4 _) rfl
 have key:lp ψ2N.l0 (s,d,[],0)=_:=key
 unfold ψ2N.f φV
 rw[key,bS,κB]
 have hz:∀(l:List φB) (acc:List φ1C),(φ1Y s d l acc).2≠0→(φ1Y s d l acc).1=[]:=by
  intro l
  induction l with
  | nil=>intro acc hh;simp[φ1Y] at hh
  | cons e r ih=>
   intro acc hh
   unfold φ1Y at hh ⊢
   split
   ·rfl
   ·rename_i c;rw[if_neg c] at hh;exact ih _ hh
 have hz':=hz s.2.1 []
 generalize φ1Y s d s.2.1 []=R at hz' ⊢
 obtain ⟨L,c⟩:=R
 by_cases e:c=0
 ·subst e;rfl
 ·have:=hz' e
  simp only at this
  subst this
  simp[e]
theorem φCk (s:φA) (d:φ1) (h:dlim d) (hu:φQ d.1<1000000000) (hs:s.2.1.length<1000000000):ψF.f s d=some (φV s d):=by
 have hkl:(s.2.1.map (·.1)).length=s.2.1.length:=lM _
 have key:=φd (step:=ψF.l0) (fun n (acc:List φ1C)=>(s,d,acc,s.2.1.map (·.1),((s.2.1.map (·.1)).length:Int),(n:Int))) s.2.1.length (fun n acc=>if (φ1Y s d (s.2.1.drop n) acc).2=0 then .inl (φ1Y s d (s.2.1.drop n) acc).1 else .inr ([],(φ1Y s d (s.2.1.drop n) acc).2)) (fun n acc=>acc.length=n)
  (fun rec n acc hn ha ih=>by
   rcases κ2 n s.2.1.length with h1 | h1
   ·have hw:=φL (show n+1<9223372036854775808 by omega)
    have h2:n<(s.2.1.map (·.1)).length:=by rw[hkl];exact h1
    rw[dG h1]
    simp only[ψF.l0,oL,h2,dT,cT,φD,φI,φ8 h2,List.getElem_map,hw,φIU s d _ h hu (show s.2.1.length<2 ^ 62 by omega),bS,φ1Y]
    by_cases c:(getP s d (s.2.1[n]).1).2=0
    ·have c1:((getP s d (s.2.1[n]).1).2 != 0)=false:=by simpa using c
     have hb:(acc.length+([(getP s d (s.2.1[n]).1).1]:List φ1C).length) * 40≤140737488355328:=φ53 (by omega)
     have ih:=ih (acc++[(getP s d (s.2.1[n]).1).1]) h1 (by rw[lA,ha];rfl)
     simp only[c1,cF,hb,dT,cT,ih,c,ne_eq,not_true_eq_false,if_false,bne_self_eq_false]
    ·have c1:((getP s d (s.2.1[n]).1).2 != 0)=true:=by simpa using c
     simp only[c1,cT,c,ne_eq,not_false_eq_true,if_true,if_false]
   ·have:n=s.2.1.length:=by omega
    subst this
    simp[ψF.l0,φ1Y])
  (by omega) 0 [] (κ4 _) rfl
 have key:lp ψF.l0 (s,d,[],s.2.1.map (·.1),((s.2.1.map (·.1)).length:Int),0)=_:=key
 unfold ψF.f φV
 rw[φKi _ hs,bS,key,bS,κB]
 have hz:∀(l:List φB) (acc:List φ1C),(φ1Y s d l acc).2≠0→(φ1Y s d l acc).1=[]:=by
  intro l
  induction l with
  | nil=>intro acc hh;simp[φ1Y] at hh
  | cons e r ih=>
   intro acc hh
   unfold φ1Y at hh ⊢
   split
   ·rfl
   ·rename_i c;rw[if_neg c] at hh;exact ih _ hh
 have hz':=hz s.2.1 []
 generalize φ1Y s d s.2.1 []=R at hz' ⊢
 obtain ⟨L,c⟩:=R
 by_cases e:c=0
 ·subst e;rfl
 ·have:=hz' e
  simp only at this
  subst this
  simp[e]
theorem φGr {hi hi':Int} (x:Int) (h1:hi≤hi') (h2:1≤x∧x≤hi'):∀(l:List Int) (p:Option Int),φ1a hi p l=true→(∀y∈l,y<x)→(∀q,p=some q→q<x)→φ1a hi' p (l++[x])=true
 | [],p,_,_,hp=>by
  cases p with
  | none=>simp[φ1a,h2]
  | some q=>simp[φ1a,h2,hp q rfl]
 | y::l,p,h,hl,_=>by
  simp only[φ1a,bA,decide_eq_true_eq] at h
  have ih:=φGr x h1 h2 l (some y) h.2.2 (fun z hz=>hl z (mC _ hz)) (fun q hq=>by injection hq with hq;subst hq;exact hl y κ1)
  simp only[κG,φ1a,bA,decide_eq_true_eq]
  exact ⟨⟨h.1.1,by omega⟩,h.2.1,ih⟩
theorem φ3c {hi:Int}:∀(l:List Int) (p:Option Int),φ1a hi p l=true→∀y∈l,1≤y∧y≤hi
 | [],_,_,y,hy=>by simp at hy
 | x::l,p,h,y,hy=>by
  simp only[φ1a,bA,decide_eq_true_eq] at h
  rcases mc.1 hy with e | hy
  ·subst e;exact h.1
  ·exact φ3c l (some x) h.2.2 y hy
theorem φ1A (v:φN):φq v=true↔φ1a (w64 (v.1 - 1)) none v.2=true∧(1≤v.1∧v.1≤100000)∧1≤v.2.length∧v.2.length≤60:=by
 unfold φq
 simp only[bA,decide_eq_true_eq]
 constructor
 ·rintro ⟨h1,h2,h3⟩;exact ⟨h1,h2,by omega,by omega⟩
 ·rintro ⟨h1,h2,h3⟩;exact ⟨h1,h2,by omega,by omega⟩
theorem φBT {v:φN} (h:φq v=true) (h1:v.2.length<60) (h2:v.1<100000):φq (v.1+1,v.2++[v.1])=true:=by
 rw[φ1A] at h ⊢
 obtain ⟨k1,k2,k3⟩:=h
 rw[φG (by omega) (by omega)] at k1
 have hm:=φ3c _ _ k1
 refine ⟨?_,by simp only;omega,by simp only[lA,lC,lN];omega⟩
 simp only
 rw[φG (by omega) (by omega)]
 exact φGr v.1 (by omega) (by omega) v.2 none k1 (fun y hy=>by have:=hm y hy;omega) (fun q hq=>by cases hq)
def φi (names:List (List UInt8)) (w:φE):φE:=names.foldl (fun w n=>φK (φH n) w) w
def φ4l (names:List (List UInt8)) (w:φE):φE:=names.foldl (fun w n=>φ1P (φH n) w) w
theorem φB5 (names:List (List UInt8)):∀w:φE,φ4l names (φC w)=φC (φi names w):=by
 induction names with
 | nil=>intro w;rfl
 | cons n l ih=>
  intro w
  show φ4l l (φ1P (φH n) (φC w))=φC (φi l (φK (φH n) w))
  rw[φ35,ih]
theorem φAe (names:List (List UInt8)) {d:φ1} {c:Int} (h:c≠0):φi names (d,c)=(d,c):=by
 induction names with
 | nil=>rfl
 | cons n l ih=>show φi l (φK (φH n) (d,c))=_;rw[φ2L h,ih]
theorem φ4y (names:List (List UInt8)):∀{w:φE},φ5 w.1=true→φ5 (φi names w).1=true:=by
 induction names with
 | nil=>intro w h;exact h
 | cons n l ih=>intro w h;exact ih (φ1j (op:=φH n) h fun k=>φ2Y k n)
def φ1h (names:List (List UInt8)) (w:φE):φE:=
 if w.2=2 then (if (φC (φi names (w.1,0))).2=0 then ((φC (φi names (w.1,0))).1,2) else φC (φi names (w.1,0))) else w
theorem φE2 (names:List (List UInt8)) {w:φE} (h:φ5 w.1=true):φ5 (φ1h names w).1=true:=by
 have:=φ4y names (w:=(w.1,0)) h
 unfold φ1h;split
 ·split
  ·exact this
  ·exact this
 ·exact h
theorem φKS (w:φE) (names:List (List UInt8)) (h:φ5 w.1=true) (hn:names.length<1000):ψ1r.f w names=some (φ1h names w):=by
 unfold ψ1r.f φ1h
 by_cases c:w.2=2
 rotate_left
 ·have c1:(w.2 != 2)=true:=by simpa using c
  simp[c,c1]
 have key:=φ2U (step:=ψ1r.l0) names (fun (w:φE) n=>φ1P (φH n) w) (fun n (a:φE)=>((([],w.1.2),w.2),a,names,(names.length:Int),(n:Int))) (fun a=>((([],w.1.2),w.2),a)) (fun _ a=>φ5 a.1=true) (by omega)
  (fun rec n a h1 ha=>by
   have hw:=φL (show n+1<9223372036854775808 by omega)
   simp only[ψ1r.l0,oL,h1,dT,cT,φD,φI,φ8 h1,φ5f a names[n] (φn ha) (by omega),bS,hw])
  (fun n a h1 ha=>φAZ (op:=φH names[n]) ha fun k=>φ2Y k _)
  (fun rec a ha=>by simp[ψ1r.l0])
  (w.1,0) h
 have key:lp ψ1r.l0 ((([],w.1.2),w.2),(w.1,0),names,(names.length:Int),0)=some ((([],w.1.2),w.2),φ4l names (w.1,0)):=key
 have e:φ4l names (w.1,0)=φC (φi names (w.1,0)):=φB5 names (w.1,0)
 have c1:(w.2 != 2)=false:=by simpa using c
 rw[c1,cF,key,bS,e]
 generalize φC (φi names (w.1,0))=r
 obtain ⟨x,k⟩:=r
 by_cases c2:k=0
 ·subst c2;simp[c]
 ·have c3:(k != 0)=true:=by simpa using c2
  simp[c,c2,c3]
theorem φ7x (d:φ1) (names:List (List UInt8)) (h:φ5 d=true) (hn:names.length<1000):ψ3Q.f d names=some (φi names (d,0)):=by
 have key:=φd (step:=ψ3Q.l0) (fun n (a:φ1)=>(names,a,([],0,0,false),(n:Int))) names.length (fun n a=>if (φi (names.drop n) (a,0)).2=0 then .inl ((φi (names.drop n) (a,0)).1,([],0,0,false)) else .inr (φi (names.drop n) (a,0))) (fun _ a=>φ5 a=true)
  (fun rec n a hn' ha ih=>by
   rcases κ2 n names.length with h1 | h1
   ·have hw:=φL (show n+1<9223372036854775808 by omega)
    have hd:=φ1B (φn ha) (by omega)
    rw[dG h1]
    have es:φi (names[n]::names.drop (n+1)) (a,0)=φi (names.drop (n+1)) (φH names[n] a):=by
     show φi _ (φK (φH names[n]) (a,0))=_;rw[φ22]
    simp only[es,ψ3Q.l0,oL,h1,dT,cT,φD,φI,φ8 h1,φ4A a names[n] (by have:=hd.1;omega),bS,hw]
    by_cases c2:φ1g a.1 names[n]≥0
    ·have c3:¬φ1g a.1 names[n]<0:=by omega
     have e:φH names[n] a=φ26 names[n] a:=by unfold φH;simp[c2]
     have er:ψ2s.f a names[n]=some (φ26 names[n] a):=φAn a names[n] hd
     have hk:=φ9M ha names[n]
     rw[e]
     simp only[c3,dF,cF,er,bS]
     generalize φ26 names[n] a=r at *
     obtain ⟨x,c⟩:=r
     by_cases c4:c=0
     ·subst c4
      simp only[bne_self_eq_false,cF,bS,φT,hw,ih x h1 hk]
     ·have c5:(c != 0)=true:=by simpa using c4
      simp only[c5,cT,bS,φZ,φAe _ c4,c4,if_false]
    ·have c3:φ1g a.1 names[n]<0:=by omega
     have e:φH names[n] a=(a,0):=by unfold φH;simp[c2]
     rw[e]
     simp only[c3,dT,cT,bS,φT,hw,ih a h1 ha]
   ·have:n=names.length:=by omega
    subst this
    simp[ψ3Q.l0,φi])
  (by omega) 0 d (κ4 _) h
 have key:lp ψ3Q.l0 (names,d,([],0,0,false),0)=_:=key
 unfold ψ3Q.f
 rw[key,bS,κB]
 generalize φi names (d,0)=r
 obtain ⟨x,c⟩:=r
 by_cases c4:c=0
 ·subst c4;rfl
 ·simp only[c4,if_false,φZ]
def φF (l:List Int):Int:=l.getD (l.length - 1) 0
def actN (s:φA):List UInt8:=φ0 (φF s.1.2)
theorem φ7f {l:List Int} (h:1≤l.length) (hl:l.length<2 ^ 62):w64 ((l.length:Int) - 1)=((l.length - 1:Nat):Int)∧inB ((l.length - 1:Nat):Int) l.length=true∧rdA 0 l ((l.length - 1:Nat):Int)=φF l:=by
 refine ⟨by rw[φG (by omega) (by omega)];omega,?_,?_⟩
 ·rw[φD];simp;omega
 ·rw[φI];rfl
theorem φAg (s:φA) (h:1≤s.1.2.length) (hl:s.1.2.length<2 ^ 62):ψ3K.f s=some (actN s):=by
 obtain ⟨e1,e2,e3⟩:=φ7f h hl
 unfold ψ3K.f actN
 simp only[e1,e2,e3,cT,φ2Q,bS]
theorem lim8 {a:Nat} (h:a<1000000000001):(a+1) * 8≤140737488355328:=by omega
theorem φ8Z {a:Nat} (h:a<1000000000001):(0+a) * 8≤140737488355328:=by omega
theorem φ8E {a:Nat} (h:a<1000000000001):(0+a) * 48≤140737488355328:=by omega
theorem φLc (v:φN) (h:v.2.length<1000000000):ψ1G.f v=some v:=by
 unfold ψ1G.f
 have:(([]:List Int).length+v.2.length) * 8≤140737488355328:=φ8Z (by omega)
 simp only[this,dT,cT,κA]
theorem φAc (v:List φB) (h:v.length<1000000000):ψ1D.f v=some v:=by
 unfold ψ1D.f
 have:(([]:List φB).length+v.length) * 48≤140737488355328:=φ8E (by omega)
 simp only[this,dT,cT,κA]
theorem φE7 (s:φA) (h1:s.1.2.length<1000000000) (h2:s.2.1.length<1000000000):ψ1I.f s=some s:=by
 unfold ψ1I.f
 rw[φLc _ h1,bS,φAc _ h2];rfl
theorem φ9k (s:φA) (h1:s.1.2.length<1000000000) (h2:s.2.1.length<1000000000):ψ3O.f s=some s:=by
 unfold ψ3O.f
 have k1:(([]:List Int).length+s.1.2.length) * 8≤140737488355328:=φ8Z (by omega)
 have k2:(([]:List φB).length+s.2.1.length) * 48≤140737488355328:=φ8E (by omega)
 simp only[k1,k2,dT,cT,κA]
def rotP (s:φA) (d:φ1):φA×φ1×Int:=
 if 60≤s.1.2.length∨100000≤s.1.1 then (s,d,5) else
 if (φR (actN s) d).2≠0 then (s,(φR (actN s) d).1,told (φR (actN s) d).2) else
 let w2:=φK (φY (φ0 s.1.1)) (φH (φ0 s.1.1) (φR (actN s) d).1)
 if w2.2≠0 then (((s.1.1+1,s.1.2),s.2),w2.1,told w2.2) else
 let w3:=φC (sPut (s.1.1+1,s.1.2++[s.1.1]) (w2.1,0))
 if w3.2≠0 then (((s.1.1+1,s.1.2),s.2),φ1h [[116,101,109,112],φ0 s.1.1] w3) else
 (((s.1.1+1,s.1.2++[s.1.1]),s.2.1,s.2.2.1,0,s.2.2.2.2),w3.1,0)
theorem φ5G (c:Int):(told c != 0)=(c != 0):=by
 by_cases h:c=0
 ·subst h;rfl
 ·have h2:told c≠0:=fun e=>h ((φ1R c).1 e)
  rw[show (told c != 0)=true by simpa using h2,show (c != 0)=true by simpa using h]
theorem φJk (s:φA) (d:φ1) (h:φ5 d=true) (hv:φq s.1=true):ψ3P.f s d=some (rotP s d):=by
 obtain ⟨k1,k2,k3,k4⟩:=(φ1A s.1).1 hv
 unfold ψ3P.f rotP
 by_cases c1:60≤s.1.2.length
 ·have d1:(s.1.2.length:Int)≥60:=by omega
  simp[c1,d1]
 have d1:¬(s.1.2.length:Int)≥60:=by omega
 by_cases c2:100000≤s.1.1
 ·have d2:s.1.1≥100000:=c2
  simp[c1,c2,d1,d2]
 have d2:¬s.1.1≥100000:=c2
 have hm:=φBT hv (by omega) (by omega)
 have hs:=φ3I h (actN s)
 have hg:=φ2Y hs (φ0 s.1.1)
 have hc:φ5 (φK (φY (φ0 s.1.1)) (φH (φ0 s.1.1) (φR (actN s) d).1)).1=true:=φ1j (op:=φY _) hg fun k=>φ39 k _
 have hn:=φ4C s.1.1
 have es:ψ34.f d (actN s)=some (φR (actN s) d):=φ7F d (actN s) (φ1B (φn h) (by omega))
 simp only[c1,c2,d1,d2,dF,cF,or_self,if_false,φAg s k3 (by omega),bS,es]
 generalize φR (actN s) d=r1 at *
 obtain ⟨x1,q1⟩:=r1
 by_cases c3:q1=0
 rotate_left
 ·have d3:(q1 != 0)=true:=by simpa using c3
  simp only[d3,cT,c3,ne_eq,not_false_eq_true,if_true,φ2T,bS]
 subst c3
 simp only[bne_self_eq_false,cF,ne_eq,not_true_eq_false,if_false,φ2Q,bS,φAF x1 (φ0 s.1.1) (φn hs) (by omega) (by omega)]
 generalize φK (φY (φ0 s.1.1)) (φH (φ0 s.1.1) x1)=r2 at *
 obtain ⟨x2,q2⟩:=r2
 rw[show w64 (s.1.1+1)=s.1.1+1 from φG (by omega) (by omega)]
 by_cases c4:q2=0
 rotate_left
 ·have d3:(q2 != 0)=true:=by simpa using c4
  simp only[d3,cT,c4,not_false_eq_true,if_true,φ2T,bS]
 subst c4
 have hp:φ5 (φC (sPut (s.1.1+1,s.1.2++[s.1.1]) (x2,0))).1=true:=φ4G (w:=(x2,0)) hc _
 have e3:ψ2h.f x2 (s.1.1+1,s.1.2++[s.1.1])=some (φC (sPut (s.1.1+1,s.1.2++[s.1.1]) (x2,0))):=by
  rw[φBe _ _ (φn hc) (by omega) (by simp only[lA,lC,lN];omega)]
  unfold φ71
  rw[if_neg (by rw[hm,show φ5 x2=true from hc];simp)]
 have hb:(s.1.2.length+[s.1.1].length) * 8≤140737488355328:=lim8 (by omega)
 have hb0:(([]:List Int).length+s.1.2.length) * 8≤140737488355328:=φ8Z (by omega)
 simp only[bne_self_eq_false,cF,not_true_eq_false,if_false,hb0,κA,bS,hb,dT,cT,e3]
 generalize φC (sPut (s.1.1+1,s.1.2++[s.1.1]) (x2,0))=r3 at *
 obtain ⟨x3,q3⟩:=r3
 by_cases c5:q3=0
 ·subst c5
  simp only[show ((0:Int)==2)=false from rfl,bne_self_eq_false,cF,not_true_eq_false,if_false]
 ·have d5:(q3 != 0)=true:=by simpa using c5
  unfold φ1h
  by_cases c6:q3=2
  ·have d6:(q3==2)=true:=by simpa using c6
   simp only[c6,if_true,show ((2:Int)==2)=true from rfl,cT,φ7x x3 [[116,101,109,112],φ0 s.1.1] hp (by simp),bS,φ2T,show ¬(2:Int)=0 by decide,not_false_eq_true]
   generalize φi [[116,101,109,112],φ0 s.1.1] (x3,0)=r4
   obtain ⟨x4,q4⟩:=r4
   by_cases c7:q4=0
   ·subst c7;rfl
   ·have d7:(q4 != 0)=true:=by simpa using c7
    have c8:¬told q4=0:=fun e=>c7 ((φ1R q4).1 e)
    show _=some (_,if told q4=0 then _ else _)
    rw[if_neg c8]
    simp only[d7,cT];rfl
  ·have d6:(q3==2)=false:=by simpa using c6
   simp only[d6,d5,cF,cT,c5,c6,not_false_eq_true,if_true,if_false]
theorem φ5H {s:φA} {d:φ1} (h:φs s d=true):φ5 d=true∧φq s.1=true∧φ1m s.2.1=true∧(1≤s.2.2.1∧s.2.2.1≤1000001)∧φ1b d s.2.2.2.1 s.1.2=true:=by
 unfold φs at h
 simp only[bA,decide_eq_true_eq] at h
 exact ⟨h.1,h.2.1,h.2.2.1,h.2.2.2.1,h.2.2.2.2.1⟩
theorem φ9D {s:φA} {d:φ1} (h:φ5 d=true) (hv:φq s.1=true):φ5 (rotP s d).2.1=true∧(rotP s d).1.1.2.length≤s.1.2.length+1∧(rotP s d).1.2.1=s.2.1∧(rotP s d).1.2.2.1=s.2.2.1 ∧
  (((rotP s d).2.2=0→φq (rotP s d).1.1=true))∧((rotP s d).1.2.2.2.1=s.2.2.2.1∨(rotP s d).1.2.2.2.1=0):=by
 have hs:=φ3I h (actN s)
 have hc:φ5 (φK (φY (φ0 s.1.1)) (φH (φ0 s.1.1) (φR (actN s) d).1)).1=true:=φ1j (op:=φY _) (φ2Y hs _) fun k=>φ39 k _
 unfold rotP
 split
 ·exact ⟨h,Nat.le_succ _,rfl,rfl,fun e=>absurd e (by simp),.inl rfl⟩
 rename_i c1
 split
 ·rename_i c2
  exact ⟨hs,Nat.le_succ _,rfl,rfl,fun e=>absurd ((φ1R _).1 e) c2,.inl rfl⟩
 simp only
 split
 ·rename_i c2
  exact ⟨hc,Nat.le_succ _,rfl,rfl,fun e=>absurd ((φ1R _).1 e) c2,.inl rfl⟩
 have hp:=φ4G (w:=((φK (φY (φ0 s.1.1)) (φH (φ0 s.1.1) (φR (actN s) d).1)).1,0)) hc (s.1.1+1,s.1.2++[s.1.1])
 split
 ·rename_i c3
  refine ⟨φE2 _ hp,Nat.le_succ _,rfl,rfl,fun e=>?_,.inl rfl⟩
  exfalso
  revert e
  unfold φ1h
  split
  ·split
   ·simp
   ·rename_i c4;exact c4
  ·exact c3
 ·refine ⟨hp,by simp,rfl,rfl,fun _=>φBT hv (by omega) (by omega),.inr rfl⟩
theorem φ3s {a:Nat} (h:a<1000000000001):(a+1) * 48≤140737488355328:=by omega
theorem φH8 (l:List φB) (key:List UInt8) (hl:l.length<1000000000):ψ7.f l key=some (φp l key):=by
 have hk:=φ2U (step:=ψ7.l0) l (fun s x=>if (!(x.1==key))=true then s++[x] else s) (fun n (s:List φB)=>(key,s,l,(l.length:Int),(n:Int))) id (fun n s=>s.length≤n) (by omega)
  (fun rec n s h hi=>by
   have hb:(s.length+([(l[n].1,l[n].2.1,l[n].2.2.1,l[n].2.2.2.1,l[n].2.2.2.2)]:List φB).length) * 48≤140737488355328:=φ3s (by omega)
   have hw:=φL (show n+1<9223372036854775808 by omega)
   simp only[ψ7.l0,oL,h,dT,cT,φD,φI,φ8 h,hb]
   cases l[n].1==key<;>simp only[nZ,nF,cT,cF,bS,hw,if_true,if_false,κ0])
  (fun n s h hi=>by
   have:∀b:Bool,(if b=true then s++[l[n]] else s).length≤n+1:=fun b=>by cases b<;>simp<;>omega
   exact this _)
  (fun rec s hi=>by simp[ψ7.l0]) [] (by simp)
 have hk:lp ψ7.l0 (key,[],l,(l.length:Int),0)=_:=hk
 unfold ψ7.f
 rw[hk,φAm];rfl
theorem φGZ (l:List φB) (key:List UInt8) (hl:l.length<1000000000):ψ2F.f l key=some (φp l key):=by
 have hk:=φ2U (step:=ψ2F.l0) l (fun s x=>if (!(x.1==key))=true then s++[x] else s) (fun n (s:List φB)=>(l,key,s,(n:Int))) id (fun n s=>s.length≤n) (by omega)
  (fun rec n s h hi=>by
   have hb:(s.length+([(l[n].1,l[n].2.1,l[n].2.2.1,l[n].2.2.2.1,l[n].2.2.2.2)]:List φB).length) * 48≤140737488355328:=φ3s (by omega)
   have hw:=φL (show n+1<9223372036854775808 by omega)
   simp only[ψ2F.l0,oL,h,dT,cT,φD,φI,φ8 h,hb]
   cases l[n].1==key<;>simp only[nZ,nF,cT,cF,bS,hw,if_true,if_false,κ0])
  (fun n s h hi=>by
   have:∀b:Bool,(if b=true then s++[l[n]] else s).length≤n+1:=fun b=>by cases b<;>simp<;>omega
   exact this _)
  (fun rec s hi=>by simp[ψ2F.l0]) [] (by simp)
 have hk:lp ψ2F.l0 (l,key,[],0)=_:=hk
 unfold ψ2F.f
 rw[hk,φAm];rfl
theorem φJ1 (rest:List φB) (p:φB) (hl:rest.length<2 ^ 62) :
  lp ψB.l0 (p,rest,0)=some (p,rest,((rest.takeWhile fun x=>leK x.1 p.1).length:Int)):=by
 have key:=φd (step:=ψB.l0) (fun n (_:Unit)=>(p,rest,(n:Int))) rest.length (fun n _=>(p,rest,((n+((rest.drop n).takeWhile fun x=>leK x.1 p.1).length:Nat):Int))) (fun _ _=>True)
  (fun rec n s hn _ ih=>by
   rcases κ2 n rest.length with h | h
   ·rw[φFg _ _ _ h]
    simp only[ψB.l0,oL,h,dT,cT,φD,φI,φ8 h,φL (show n+1<9223372036854775808 by omega)]
    show (bif leK rest[n].1 p.1 then _ else _)=_
    cases leK rest[n].1 p.1
    ·simp
    ·simp only[cT,if_true]
     rw[ih () h trivial]
     congr 4;omega
   ·have:n=rest.length:=by omega
    subst this
    simp[ψB.l0])
  hl 0 () (κ4 _) trivial
 simpa using key
theorem φKc (l:List φB) (e:φB) (hl:l.length<1000000000):ψB.f l e=some (insB (φp l e.1) e):=by
 have hd:=φ7z l e.1
 have htw:((φp l e.1).takeWhile fun x=>leK x.1 e.1).length≤(φp l e.1).length:=(List.takeWhile_sublist _).length_le
 unfold ψB.f
 rw[φH8 l e.1 hl,bS,φJ1 _ _ (by omega),bS]
 generalize hk:((φp l e.1).takeWhile fun x=>leK x.1 e.1).length=k at *
 have c1:(0:Int)≤(k:Int):=by omega
 have c2:(k:Int)≤((φp l e.1).length:Int):=by omega
 have c3:(List.take k (φp l e.1)).length<1000000000:=by simp;omega
 have c4:((List.take k (φp l e.1)).length+[e].length) * 48≤140737488355328:=φ3s (by omega)
 have c5:((List.take k (φp l e.1)++[e]).length+(List.drop k (φp l e.1)).length) * 48≤140737488355328:=by simp;omega
 have hins:insB (φp l e.1) e=List.take k (φp l e.1)++[e]++List.drop k (φp l e.1):=by
  unfold insB;simp only[hk]
 simp only[c1,c2,dT,Bool.and_self,cT,tN,φAc _ c3,bS,c4,c5,hins]
def setG {α:Type} (p:List UInt8×α) (s:List (List UInt8×α)×Bool) (x:List UInt8×α):List (List UInt8×α)×Bool:=
 if (x.1==p.1)=true then s else if s.2=false∧leK x.1 p.1=false then (s.1++[p]++[x],true) else (s.1++[x],s.2)
theorem φCo {α:Type} (p:List UInt8×α) (s:List (List UInt8×α)×Bool) (x:List UInt8×α):(setG p s x).1.length≤s.1.length+2:=by
 unfold setG;split
 ·omega
 ·split<;>simp<;>omega
theorem φBr {α:Type} (p:List UInt8×α):∀(l out:List (List UInt8×α)),l.foldl (setG p) (out,true)=(out++φp l p.1,true)
 | [],out=>by simp[φp]
 | x::l,out=>by
  rw[κH]
  by_cases h:(x.1==p.1)=true
  ·have e1:setG p (out,true) x=(out,true):=by unfold setG;rw[if_pos h]
   rw[e1,φBr p l]
   simp[φp,h]
  ·have e1:setG p (out,true) x=(out++[x],true):=by unfold setG;rw[if_neg h,if_neg (by simp)]
   rw[e1,φBr p l]
   simp[φp,h]
theorem φAA {α:Type} (p:List UInt8×α):∀(l out:List (List UInt8×α)),(let s:=l.foldl (setG p) (out,false);if s.2=true then s.1 else s.1++[p])=out++insB (φp l p.1) p
 | [],out=>by simp[φp,insB]
 | x::l,out=>by
  rw[κH]
  by_cases h:(x.1==p.1)=true
  ·have e1:setG p (out,false) x=(out,false):=by unfold setG;rw[if_pos h]
   have e2:φp (x::l) p.1=φp l p.1:=by simp[φp,h]
   rw[e1,e2];exact φAA p l out
  ·have e2:φp (x::l) p.1=x::φp l p.1:=by simp[φp,h]
   rw[e2]
   cases hk:leK x.1 p.1
   ·have e1:setG p (out,false) x=(out++[p]++[x],true):=by unfold setG;rw[if_neg h,if_pos ⟨rfl,hk⟩]
    rw[e1,φBr]
    simp[insB,hk]
   ·have e1:setG p (out,false) x=(out++[x],false):=by unfold setG;rw[if_neg h,if_neg (by simp[hk])]
    rw[e1,φAA p l (out++[x])]
    simp[insB,hk]
theorem φCx (l:List φB) (p:φB) (hl:l.length<1000000000):ψ2J.f l p=some (insB (φp l p.1) p):=by
 have hk:=φ2U (step:=ψ2J.l0) l (setG p) (fun n (s:List φB×Bool)=>(l,p,s.1,s.2,(n:Int))) (fun s=>(p,s.1,s.2)) (fun n s=>s.1.length≤2 * n) (by omega)
  (fun rec n s h hi=>by
   have hi:s.1.length≤2 * n:=hi
   have hq:s.1.length<1000000000000:=by omega
   have hb1:(s.1.length+[p].length) * 48≤140737488355328:=φ3s (Nat.lt_succ_of_lt hq)
   have hb2:(s.1.length+([(l[n].1,l[n].2.1,l[n].2.2.1,l[n].2.2.2.1,l[n].2.2.2.2)]:List φB).length) * 48≤140737488355328:=φ3s (Nat.lt_succ_of_lt hq)
   have hb3:((s.1++[p]).length+([(l[n].1,l[n].2.1,l[n].2.2.1,l[n].2.2.2.1,l[n].2.2.2.2)]:List φB).length) * 48≤140737488355328:=by rw[lA];exact φ3s (Nat.succ_lt_succ hq)
   have hw:=φL (show n+1<9223372036854775808 by omega)
   have hle:(Op.bytesLess l[n].1 p.1 || l[n].1==p.1)=leK l[n].1 p.1:=rfl
   simp only[ψ2J.l0,oL,h,dT,cT,φD,φI,φ8 h,hle]
   unfold setG
   rcases bE (l[n].1==p.1) with h1 | h1
   ·simp only[h1,cT,bS,hw,if_true]
   ·rcases bE s.2 with h2 | h2
    ·simp only[h1,h2,cF,nZ,bS,φD,φI,φ8 h,h,dT,cT,hb2,hw,κ0,κ7,false_and,if_false]
    ·rcases bE (leK l[n].1 p.1) with h3 | h3
     ·simp only[h1,h2,h3,cF,nZ,nF,cT,bS,φD,φI,φ8 h,h,dT,hb2,hw,κ0,κ7,and_false,if_false]
     ·simp only[h1,h2,h3,cF,nZ,nF,cT,bS,φD,φI,φ8 h,h,dT,hb1,hb3,hw,κ0,and_self,if_true,if_false])
  (fun n s h hi=>by have:=φCo p s l[n];have hi:s.1.length≤2 * n:=hi;show _≤2 * (n+1);omega)
  (fun rec s hi=>by simp[ψ2J.l0]) ([],false) (by simp)
 have hk:lp ψ2J.l0 (l,p,[],false,0)=_:=hk
 have hlen:∀(m:List φB) (s:List φB×Bool),(m.foldl (setG p) s).1.length≤s.1.length+2 * m.length:=by
  intro m
  induction m with
  | nil=>intro s;simp
  | cons x m ih=>intro s;rw[κH];have:=ih (setG p s x);have:=φCo p s x;simp only[lC];omega
 unfold ψ2J.f
 rw[hk,bS]
 have hf:=φAA p l []
 have hb:=hlen l ([],false)
 generalize l.foldl (setG p) ([],false)=s at *
 obtain ⟨s1,s2⟩:=s
 simp only[lN,κV] at hb
 have hb1:(s1.length+[p].length) * 48≤140737488355328:=φ3s (by omega)
 cases s2
 ·simp only[κ0,if_false,κA] at hf ⊢
  simp only[nF,cT,hb1,dT,hf]
 ·simp only[if_true,κA] at hf
  simp[hf]
def φ2O (dir:List φB) (x:PutT×φB):List φB:=if x.1.2.1=true then φp dir x.1.1 else insB (φp dir x.2.1) x.2
def dirW (dir:List φB) (l:List (PutT×φB)):List φB:=l.foldl φ2O dir
theorem φEe (dir:List φB) (x:PutT×φB):(φ2O dir x).length≤dir.length+1:=by
 unfold φ2O;split
 ·have:=φ7z dir x.1.1;omega
 ·rw[φ8u];have:=φ7z dir x.2.1;omega
def φ4d (p:PutT):φB:=(p.1,0,0,0,0)
def φ4M (dir:List φB) (l:List PutT):Nat:=(dirW dir (l.zip (l.map φ4d))).length
theorem φMb (l:List PutT):l.zip (l.map φ4d)=l.map fun p=>(p,φ4d p):=by
 induction l with
 | nil=>rfl
 | cons x l ih=>simp[ih]
theorem φKm (dir:List φB) (l:List PutT) (hd:dir.length<100000000) (hl:l.length<100000000):ψ3M.f dir l=some (φ4M dir l:Int):=by
 have key:=φ2U (step:=ψ3M.l0) l (fun s p=>φ2O s (p,φ4d p)) (fun n (s:List φB)=>(s,l,(n:Int))) id (fun n s=>s.length≤dir.length+n) (by omega)
  (fun rec n s h hi=>by
   have hi:s.length≤dir.length+n:=hi
   have hw:=φL (show n+1<9223372036854775808 by omega)
   simp only[ψ3M.l0,oL,h,dT,cT,φD,φI,φ8 h,φGZ s l[n].1 (by omega),bS]
   have e2:ψ2J.f s (l[n].1,0,0,0,0)=some (insB (φp s l[n].1) (l[n].1,0,0,0,0)):=φCx s (l[n].1,0,0,0,0) (by omega)
   simp only[e2,bS]
   unfold φ2O φ4d
   simp only
   cases l[n].2.1
   ·simp only[cF,bS,hw,κ0,if_false]
   ·simp only[cT,bS,hw,if_true])
  (fun n s h hi=>by have:=φEe s (l[n],φ4d l[n]);have hi:s.length≤dir.length+n:=hi;show _≤_;omega)
  (fun rec s hi=>by simp[ψ3M.l0])
  dir (by simp)
 have key:lp ψ3M.l0 (dir,l,0)=_:=key
 unfold ψ3M.f φ4M dirW
 rw[key,bS,φMb,List.foldl_map];rfl
def φa (b:Int) (p:PutT):RecT:=if p.2.1=true then (2,b,p.1,[],0,0) else (1,b,p.1,p.2.2,0,0)
def φ3N (b:Int) (l:List PutT):List RecT:=l.map (φa b)++[(3,b,[],[],(l.length:Int),φ1L (l.map (φa b)))]
theorem φ6n {a:Nat} (h:a<1000000000001):(a+1) * 64≤140737488355328:=by omega
def addR (s:φA) (d:φ1) (t:List UInt8):φA×φ1×Int:=if s.2.2.2.1 > 0∧s.2.2.2.1+(t.length:Int) > 200 then rotP s d else (s,d,0)
def addP (s:φA) (d:φ1) (r:RecT):φA×φ1×Int×φB:=
 let R:=addR s d (frame (φ9 r))
 if R.2.2≠0 then (R.1,R.2.1,R.2.2,([],0,0,0,0)) else
 let w:=φW (actN R.1) (frame (φ9 r)) R.2.1
 let e:φB:=(r.2.2.1,φF R.1.1.2,R.1.2.2.2.1,((frame (φ9 r)).length:Int),r.2.1)
 if w.2≠0 then (R.1,w.1,told w.2,e) else ((R.1.1,R.1.2.1,R.1.2.2.1,R.1.2.2.2.1+((frame (φ9 r)).length:Int),R.1.2.2.2.2),w.1,0,e)
structure Good2 (k:Int) (s:φA) (d:φ1):Prop where
 dk:φ5 d=true
 lv:φq s.1=true
 s0:0≤s.2.2.2.1
 s1:s.2.2.2.1≤k
theorem φH7 {s:φA} {d:φ1} {k:Int} (h:Good2 k s d) (t:List UInt8):φ5 (addR s d t).2.1=true∧(addR s d t).1.1.2.length≤s.1.2.length+1∧(addR s d t).1.2.1=s.2.1∧((addR s d t).2.2=0→Good2 k (addR s d t).1 (addR s d t).2.1):=by
 unfold addR
 split
 ·obtain ⟨r1,r2,r3,r4,r5,r6⟩:=φ9D h.dk h.lv
  refine ⟨r1,r2,r3,fun e=>⟨r1,r5 e,?_,?_⟩⟩
  ·have:=h.s0;omega
  ·have:=h.s1;have:=h.s0;omega
 ·exact ⟨h.dk,Nat.le_succ _,rfl,fun _=>h⟩
theorem φ9u {s:φA} {d:φ1} {k:Int} (h:Good2 k s d) (r:RecT):φ5 (addP s d r).2.1=true∧(addP s d r).1.1.2.length≤s.1.2.length+1∧(addP s d r).1.2.1=s.2.1∧((addP s d r).2.2.1=0→Good2 (k+211) (addP s d r).1 (addP s d r).2.1):=by
 obtain ⟨q1,q2,q3,q4⟩:=φH7 h (frame (φ9 r))
 have hf:=φ57 (φ9 r)
 unfold addP
 generalize addR s d (frame (φ9 r))=R at *
 simp only
 split
 ·rename_i c;exact ⟨q1,q2,q3,fun e=>absurd e c⟩
 rename_i c
 have c:R.2.2=0:=by simpa using c
 have g:=q4 c
 have ha:=φ3p q1 (actN R.1) (frame (φ9 r))
 split
 ·rename_i c2;exact ⟨ha,q2,q3,fun e=>absurd ((φ1R _).1 e) c2⟩
 ·refine ⟨ha,q2,q3,fun _=>⟨ha,g.lv,?_,?_⟩⟩
  ·have:=g.s0;show 0≤R.1.2.2.2.1+_;omega
  ·have:=g.s1;show R.1.2.2.2.1+_≤_;omega
theorem φCJ {s:φA} {d:φ1} {k:Int} (h:Good2 k s d) (hk:k≤1000000000000) (r:RecT):∃p,ψ3L.f s d r=some ((addP s d r).1,(addP s d r).2.1,p,(addP s d r).2.2.1) ∧
  ((addP s d r).2.2.1=0→p=((addP s d r).2.2.2.2.1,(addP s d r).2.2.2.2.2.1,(addP s d r).2.2.2.2.2.2.1,r)∧(addP s d r).2.2.2.1=r.2.2.1∧(addP s d r).2.2.2.2.2.2.2=r.2.1):=by
 have h0:=h.s0
 have h1:=h.s1
 have hf:=φ57 (φ9 r)
 have hsr:=φ3P r
 obtain ⟨q1,q2,q3,q4⟩:=φH7 h (frame (φ9 r))
 have hw:w64 (s.2.2.2.1+((frame (φ9 r)).length:Int))=s.2.2.2.1+((frame (φ9 r)).length:Int):=φG (by omega) (by omega)
 unfold ψ3L.f addP
 simp only[φ6S r,φ6s (φ9 r) (show (φ9 r).length<2 ^ 62 by omega),bS,hw,φJk s d h.dk h.lv]
 obtain ⟨X,hX⟩:∃X,addR s d (frame (φ9 r))=X:=⟨_,rfl⟩
 have eX:∀{β:Type} (f:_→Option β) (g:_→Option β),((bif decide (s.2.2.2.1 > 0) then bif decide (s.2.2.2.1+((frame (φ9 r)).length:Int) > 200) then (bif (rotP s d).2.2 != 0 then some (Sum.inr ((rotP s d).1,(rotP s d).2.1,((0,0,0,0,0,[],[],0,0):Int×Int×Int×RecT),(rotP s d).2.2)) else some (Sum.inl ((rotP s d).1,(rotP s d).2.1,r,(((0,[]),[],0,0,0):φA),(([],0,0,false):φ1),((0,0,0,0,0,[],[],0,0):Int×Int×Int×RecT),frame (φ9 r)))) else some (Sum.inl (s,d,r,((0,[]),[],0,0,0),([],0,0,false),(0,0,0,0,0,[],[],0,0),frame (φ9 r))) else some (Sum.inl (s,d,r,((0,[]),[],0,0,0),([],0,0,false),(0,0,0,0,0,[],[],0,0),frame (φ9 r)))).bind fun o4=>φM o4 f g) =
   if X.2.2≠0 then g (X.1,X.2.1,(0,0,0,0,0,[],[],0,0),X.2.2) else f (X.1,X.2.1,r,((0,[]),[],0,0,0),([],0,0,false),(0,0,0,0,0,[],[],0,0),frame (φ9 r)):=by
  intro β f g
  rw[←hX]
  unfold addR
  by_cases c1:s.2.2.2.1 > 0
  ·by_cases c2:s.2.2.2.1+((frame (φ9 r)).length:Int) > 200
   ·by_cases c3:(rotP s d).2.2=0
    ·simp only[c1,c2,dT,cT,and_self,if_true,c3,bne_self_eq_false,cF,bS,φT,ne_eq,not_true_eq_false,if_false]
    ·have d3:((rotP s d).2.2 != 0)=true:=by simpa using c3
     simp only[c1,c2,dT,cT,and_self,if_true,c3,d3,bS,φZ,ne_eq,not_false_eq_true]
   ·simp only[c1,c2,dT,dF,cT,cF,and_false,if_false,bS,φT,ne_eq,not_true_eq_false]
  ·simp only[c1,dF,cF,false_and,if_false,bS,φT,ne_eq,not_true_eq_false]
 rw[eX]
 rw[hX] at q1 q2 q3 q4 ⊢
 obtain ⟨S,D,c⟩:=X
 simp only at q1 q2 q3 q4 ⊢
 by_cases c1:c=0
 rotate_left
 ·simp only[c1,ne_eq,not_false_eq_true,if_true]
  exact ⟨_,rfl,fun e=>e.elim⟩
 subst c1
 have g:=q4 rfl
 have g0:0≤S.2.2.2.1:=g.s0
 have g1:S.2.2.2.1≤k:=g.s1
 have g2:φq S.1=true:=g.lv
 obtain ⟨k1,k2,k3,k4⟩:=(φ1A S.1).1 g2
 obtain ⟨l1,l2,l3⟩:=φ7f k3 (by omega)
 have hw2:w64 (S.2.2.2.1+((frame (φ9 r)).length:Int))=S.2.2.2.1+((frame (φ9 r)).length:Int):=φG (by omega) (by omega)
 have ea:ψ2A.f D (actN S) (frame (φ9 r))=some (φW (actN S) (frame (φ9 r)) D):=φ8z D (actN S) (frame (φ9 r)) (φ1B (φn q1) (by omega)) (by omega)
 simp only[ne_eq,not_true_eq_false,if_false,l1,l2,l3,cT,φAg S k3 (by omega),bS,ea]
 generalize φW (actN S) (frame (φ9 r)) D=w at *
 obtain ⟨x,c2⟩:=w
 by_cases c3:c2=0
 ·subst c3
  simp only[bne_self_eq_false,cF,not_true_eq_false,if_false,hw2]
  refine ⟨_,rfl,fun _=>?_⟩
  simp
 ·have c4:¬told c2=0:=fun e=>c3 ((φ1R c2).1 e)
  have d4:(c2 != 0)=true:=by simpa using c3
  simp only[d4,cT,c3,not_false_eq_true,if_true,φ2T,bS]
  exact ⟨_,rfl,fun e=>absurd e c4⟩
def φX:List RecT→φA→φ1→φA×φ1×Int×List φB
 | [],s,d=>(s,d,0,[])
 | r::rs,s,d=>if (addP s d r).2.2.1≠0 then ((addP s d r).1,(addP s d r).2.1,(addP s d r).2.2.1,[]) else
   let g:=φX rs (addP s d r).1 (addP s d r).2.1
   (g.1,g.2.1,g.2.2.1,(addP s d r).2.2.2::g.2.2.2)
theorem φG0:∀(rs:List RecT) (s:φA) (d:φ1) (k:Int),Good2 k s d→φ5 (φX rs s d).2.1=true∧(φX rs s d).1.1.2.length≤61∧(φX rs s d).1.2.1=s.2.1 ∧
  ((φX rs s d).2.2.1=0→Good2 (k+211 * (rs.length:Int)) (φX rs s d).1 (φX rs s d).2.1∧(φX rs s d).2.2.2.length=rs.length)
 | [],s,d,k,h=>by
  have:=((φ1A _).1 h.lv).2.2.2
  refine ⟨h.dk,by show s.1.2.length≤61;omega,rfl,fun _=>⟨⟨h.dk,h.lv,h.s0,by have:=h.s1;show s.2.2.2.1≤_;simp;omega⟩,rfl⟩⟩
 | r::rs,s,d,k,h=>by
  obtain ⟨q1,q2,q3,q4⟩:=φ9u h r
  have:=((φ1A _).1 h.lv).2.2.2
  unfold φX
  split
  ·rename_i c
   exact ⟨q1,by show (addP s d r).1.1.2.length≤61;omega,q3,fun e=>absurd e c⟩
  ·rename_i c
   have c:(addP s d r).2.2.1=0:=by simpa using c
   obtain ⟨p1,p2,p3,p4⟩:=φG0 rs _ _ _ (q4 c)
   refine ⟨p1,p2,by show (φX rs _ _).1.2.1=_;rw[p3,q3],fun e=>?_⟩
   obtain ⟨g,hl⟩:=p4 e
   refine ⟨⟨g.dk,g.lv,g.s0,?_⟩,by show _+1=_+1;rw[hl]⟩
   have:=g.s1
   simp only[lC]
   show (φX rs _ _).1.2.2.2.1≤_
   push_cast;omega
theorem φED (x:RecT):∀(rs:List RecT) (s:φA) (d:φ1),φX (rs++[x]) s d =
  if (φX rs s d).2.2.1≠0 then φX rs s d else
  if (addP (φX rs s d).1 (φX rs s d).2.1 x).2.2.1≠0 then ((addP (φX rs s d).1 (φX rs s d).2.1 x).1,(addP (φX rs s d).1 (φX rs s d).2.1 x).2.1,(addP (φX rs s d).1 (φX rs s d).2.1 x).2.2.1,(φX rs s d).2.2.2) else
  ((addP (φX rs s d).1 (φX rs s d).2.1 x).1,(addP (φX rs s d).1 (φX rs s d).2.1 x).2.1,0,(φX rs s d).2.2.2++[(addP (φX rs s d).1 (φX rs s d).2.1 x).2.2.2])
 | [],s,d=>by
  show (if (addP s d x).2.2.1≠0 then _ else _)=if (0:Int)≠0 then _ else if (addP s d x).2.2.1≠0 then _ else _
  rw[if_neg (show ¬(0:Int)≠0 by simp)]
  by_cases c:(addP s d x).2.2.1=0
  ·simp only[c,ne_eq,not_true_eq_false,if_false];rfl
  ·simp only[c,ne_eq,not_false_eq_true,if_true];rfl
 | r::rs,s,d=>by
  have ih:=φED x rs (addP s d r).1 (addP s d r).2.1
  simp only[κG,φX]
  by_cases c:(addP s d r).2.2.1=0
  rotate_left
  ·simp only[c,ne_eq,not_false_eq_true,if_true]
  simp only[c,ne_eq,not_true_eq_false,if_false]
  rw[ih]
  by_cases c2:(φX rs (addP s d r).1 (addP s d r).2.1).2.2.1=0
  rotate_left
  ·simp only[c2,ne_eq,not_false_eq_true,if_true]
  simp only[c2,ne_eq,not_true_eq_false,if_false]
  split<;>rfl
def φ23 (s:φA) (d:φ1) (l:List PutT):φA×φ1×Int:=
 let g:=φX (φ3N s.2.2.1 l) (s.1,s.2.1,s.2.2.1+1,s.2.2.2) d
 if g.2.2.1≠0 then (g.1,g.2.1,g.2.2.1) else
 let w:=φR (actN g.1) g.2.1
 if w.2≠0 then (g.1,w.1,told w.2) else ((g.1.1,dirW g.1.2.1 (l.zip g.2.2.2),g.1.2.2),w.1,0)
theorem φCp (b:Int) (l:List PutT):(φ3N b l).length=l.length+1:=by
 unfold φ3N;simp
theorem φD8 (dir:List φB) (p:Int×Int×Int×RecT) (hd:dir.length<100000000):ψ3v.f dir p=some (if p.2.2.2.1=2 then φp dir p.2.2.2.2.2.1 else insB (φp dir p.2.2.2.2.2.1) (p.2.2.2.2.2.1,p.1,p.2.1,p.2.2.1,p.2.2.2.2.1)):=by
 unfold ψ3v.f
 by_cases c:p.2.2.2.1=2
 ·have d:(p.2.2.2.1==2)=true:=by simpa using c
  simp only[d,cT,c,if_true,beq_self_eq_true,φGZ dir _ (show dir.length<1000000000 by omega),bS]
 ·have d:(p.2.2.2.1==2)=false:=by simpa using c
  simp only[d,cF,c,if_false,φCx dir (p.2.2.2.2.2.1,p.1,p.2.1,p.2.2.1,p.2.2.2.2.1) (show dir.length<1000000000 by omega),bS]
theorem φJ7 (l:List PutT) (hp:φ2K l=true) (b:Int) (dir:List φB) (s:φA) (d:φ1) (k:Int) (h:Good2 k s d) (hk:k≤100000000000) (hr:l.length<1000000) (hd:dir.length≤1000000) :
  lp ψ3N.l0 (l,s,d,((0,[]),[],0,0,0),([],0,0,false),b,[],dir,0)=some (if (φX (l.map (φa b)) s d).2.2.1=0 then .inl ((φX (l.map (φa b)) s d).1,(φX (l.map (φa b)) s d).2.1,((0,[]),[],0,0,0),([],0,0,false),b,l.map (φa b),dirW dir (l.zip (φX (l.map (φa b)) s d).2.2.2)) else .inr ((φX (l.map (φa b)) s d).1,(φX (l.map (φa b)) s d).2.1,(φX (l.map (φa b)) s d).2.2.1)):=by
 have key:=φd (step:=ψ3N.l0) (fun n (a:φA×φ1×List RecT×List φB)=>(l,a.1,a.2.1,((0,[]),[],0,0,0),([],0,0,false),b,a.2.2.1,a.2.2.2,(n:Int))) l.length
  (fun n a=>if (φX ((l.drop n).map (φa b)) a.1 a.2.1).2.2.1=0 then .inl ((φX ((l.drop n).map (φa b)) a.1 a.2.1).1,(φX ((l.drop n).map (φa b)) a.1 a.2.1).2.1,((0,[]),[],0,0,0),([],0,0,false),b,a.2.2.1++(l.drop n).map (φa b),dirW a.2.2.2 ((l.drop n).zip (φX ((l.drop n).map (φa b)) a.1 a.2.1).2.2.2)) else .inr ((φX ((l.drop n).map (φa b)) a.1 a.2.1).1,(φX ((l.drop n).map (φa b)) a.1 a.2.1).2.1,(φX ((l.drop n).map (φa b)) a.1 a.2.1).2.2.1))
  (fun n a=>Good2 (k+211 * (n:Int)) a.1 a.2.1∧a.2.2.1.length=n∧a.2.2.2.length≤1000000+n)
  (fun rec n a hn ha ih=>by
   obtain ⟨S,D,acc,dr⟩:=a
   obtain ⟨ha,hacc,hdr⟩:=ha
   simp only at ha hacc hdr
   rcases κ2 n l.length with h1 | h1
   ·have hw:=φL (show n+1<9223372036854775808 by omega)
    have hpn:φ3R l[n]=true:=by
     unfold φ2K at hp
     simp only[bA,κN] at hp
     exact hp.2 _ (gM h1)
    obtain ⟨q1,q2,q3,q4⟩:=φ9u ha (φa b l[n])
    obtain ⟨pl,ea,epl⟩:=φCJ ha (by omega) (φa b l[n])
    have hb:∀{α:Type} (x:α),decide ((acc.length+[x].length) * 64≤140737488355328)=true:=fun x=>decide_eq_true (φ6n (by omega))
    have er:(bif l[n].2.1 then some (l,S,D,(((0,[]),[],0,0,0):φA),(([],0,0,false):φ1),b,acc,dr,(n:Int),(2,b,l[n].1,l[n].2.2,0,0)) else some (l,S,D,((0,[]),[],0,0,0),([],0,0,false),b,acc,dr,(n:Int),(1,b,l[n].1,l[n].2.2,0,0)))=some (l,S,D,((0,[]),[],0,0,0),([],0,0,false),b,acc,dr,(n:Int),φa b l[n]):=by
     unfold φa
     unfold φ3R at hpn
     revert hpn
     cases hdel:l[n].2.1
     ·intro _;simp
     ·intro hpn;simp at hpn;simp[hpn]
    rw[dG h1]
    simp only[κ8,φX,ψ3N.l0,oL,h1,dT,cT,φD,φI,φ8 h1,er,bS,ea,hb]
    by_cases c:(addP S D (φa b l[n])).2.2.1=0
    ·have g:=q4 c
     obtain ⟨e1,e2,e3⟩:=epl c
     have ed:ψ3v.f dr pl=some (φ2O dr (l[n],(addP S D (φa b l[n])).2.2.2)):=by
      rw[φD8 dr pl (by omega),e1]
      unfold φ2O
      simp only
      congr 1
      have k1:(φa b l[n]).2.2.1=l[n].1:=by unfold φa;split<;>rfl
      have k2:((φa b l[n]).1=2)↔l[n].2.1=true:=by
       unfold φa;split
       ·rename_i z;simp[z]
       ·rename_i z;simp[z]
      by_cases z:l[n].2.1=true
      ·rw[if_pos (k2.2 z),if_pos z,k1]
      ·rw[if_neg (fun y=>z (k2.1 y)),if_neg z,e2,←e2,←e3]
     have hds:=φEe dr (l[n],(addP S D (φa b l[n])).2.2.2)
     have ih:=ih ((addP S D (φa b l[n])).1,(addP S D (φa b l[n])).2.1,acc++[φa b l[n]],φ2O dr (l[n],(addP S D (φa b l[n])).2.2.2)) h1 ⟨by
      refine ⟨g.dk,g.lv,g.s0,?_⟩
      have:=g.s1;simp only;push_cast;omega,by rw[lA,hacc];rfl,by simp only;omega⟩
     simp only at ih
     simp only[c,bne_self_eq_false,cF,ed,bS,ne_eq,not_true_eq_false,if_false,hw,ih,aA,List.singleton_append,List.zip_cons_cons];rfl
    ·have d1:((addP S D (φa b l[n])).2.2.1 != 0)=true:=by simpa using c
     simp only[d1,cT,c,ne_eq,not_false_eq_true,if_true,if_false]
   ·have:n=l.length:=by omega
    subst this
    simp[ψ3N.l0,φX,dirW])
  (by omega) 0 (s,d,[],dir) (κ4 _) ⟨by simpa using h,rfl,by simpa using hd⟩
 have key:lp ψ3N.l0 (l,s,d,((0,[]),[],0,0,0),([],0,0,false),b,[],dir,0)=_:=key
 rw[key,κB,κA]
theorem φBD {α β:Type}:∀(l:List α) (es x:List β),l.length≤es.length→l.zip (es++x)=l.zip es
 | [],_,_,_=>by simp
 | a::l,[],x,h=>by simp at h
 | a::l,e::es,x,h=>by
  rw[κG,List.zip_cons_cons,List.zip_cons_cons,φBD l es x (by simpa using h)]
theorem φJj {s:φA} {d:φ1} {k:Int} (h:Good2 k s d) (hk:k≤100000000) (l:List PutT) (hl:l.length≤8) (hp:φ2K l=true) (hb:0≤s.2.2.1∧s.2.2.1≤1000001) (hd:s.2.1.length≤1000000):ψ3N.f s d l=some (φ23 s d l):=by
 have h':Good2 k (s.1,s.2.1,s.2.2.1+1,s.2.2.2) d:=⟨h.dk,h.lv,h.s0,h.s1⟩
 obtain ⟨p1,p2,p3,p4⟩:=φG0 (l.map (φa s.2.2.1)) _ _ _ h'
 have hb48:(([]:List φB).length+s.2.1.length) * 48≤140737488355328:=φ8E (by omega)
 have hml:(l.map (φa s.2.2.1)).length=l.length:=lM _
 unfold ψ3N.f φ23
 rw[show φ3N s.2.2.1 l=l.map (φa s.2.2.1)++[(3,s.2.2.1,[],[],(l.length:Int),φ1L (l.map (φa s.2.2.1)))] from rfl,φED]
 simp only[show w64 (s.2.2.1+1)=s.2.2.1+1 from φG (by omega) (by omega),hb48,dT,cT,κA,φJ7 l hp s.2.2.1 s.2.1 (s.1,s.2.1,s.2.2.1+1,s.2.2.2) d k h' (by omega) (by omega) hd,bS]
 generalize φX (l.map (φa s.2.2.1)) (s.1,s.2.1,s.2.2.1+1,s.2.2.2) d=g at *
 obtain ⟨S,D,c,es⟩:=g
 by_cases c1:c=0
 rotate_left
 ·simp only[c1,if_false,φZ,ne_eq,not_false_eq_true,if_true]
 subst c1
 obtain ⟨g,hes⟩:=p4 rfl
 have hes:es.length=(l.map (φa s.2.2.1)).length:=hes
 have p3:S.2.1=s.2.1:=p3
 have g':Good2 (k+211 * ((l.map (φa s.2.2.1)).length:Int)) S D:=g
 have esl:ψ3x.f (l.map (φa s.2.2.1)) s.2.2.1 3=some (3,s.2.2.1,[],[],(l.length:Int),φ1L (l.map (φa s.2.2.1))):=by
  unfold ψ3x.f
  rw[φ8a _ (by omega),bS,hml]
 obtain ⟨pl,ea,_⟩:=φCJ g' (by omega) (3,s.2.2.1,[],[],(l.length:Int),φ1L (l.map (φa s.2.2.1)))
 obtain ⟨a1,a2,a3,a4⟩:=φ9u g' (3,s.2.2.1,[],[],(l.length:Int),φ1L (l.map (φa s.2.2.1)))
 simp only[if_true,φT,ne_eq,not_true_eq_false,if_false,esl,bS,ea]
 generalize addP S D (3,s.2.2.1,[],[],(l.length:Int),φ1L (l.map (φa s.2.2.1)))=A at *
 obtain ⟨S2,D2,c2,e2⟩:=A
 by_cases c3:c2=0
 rotate_left
 ·have d3:(c2 != 0)=true:=by simpa using c3
  simp only[d3,cT,c3,not_false_eq_true,if_true]
 subst c3
 have g3:=a4 rfl
 have g4:φq S2.1=true:=g3.lv
 have g5:φ5 D2=true:=g3.dk
 have a3:S2.2.1=S.2.1:=a3
 obtain ⟨k1,k2,k3,k4⟩:=(φ1A S2.1).1 g4
 have ey:ψ34.f D2 (actN S2)=some (φR (actN S2) D2):=φ7F D2 (actN S2) (φ1B (φn g5) (by omega))
 simp only[bne_self_eq_false,cF,not_true_eq_false,if_false,φAg S2 k3 (by omega),bS,ey]
 generalize φR (actN S2) D2=w at *
 obtain ⟨x,c4⟩:=w
 by_cases c5:c4=0
 ·subst c5
  have ez:l.zip (es++[e2])=l.zip es:=φBD l es [e2] (by omega)
  simp only[bne_self_eq_false,cF,not_true_eq_false,if_false,ez,a3,p3]
 ·have d5:(c4 != 0)=true:=by simpa using c5
  simp only[d5,cT,c5,not_false_eq_true,if_true,φ2T,bS]
theorem φDM {d:φ1} (hd:dlim d) {size:Int}:∀(l:List Int),l≠[]→φ1b d size l=true→0≤size∧size≤(φQ d.1:Int)
 | [],h,_=>absurd rfl h
 | [id],_,h=>by
  unfold φ1b φ4S at h
  simp only[bA,List.isEmpty_nil,nZ,κR,decide_eq_true_eq] at h
  have:=φ4O d (φ0 id) hd
  have e:=h.1.2.2
  omega
 | id::id2::r,_,h=>by
  have h2:φ1b d size (id2::r)=true:=by
   unfold φ1b at h
   simp only[bA] at h
   exact h.2
  exact φDM hd (id2::r) (by simp) h2
theorem φDm {s:φA} {d:φ1} (h:φs s d=true):Good2 100000 s d:=by
 obtain ⟨q1,q2,q3,q4,q5⟩:=φ5H h
 have hl:=φn q1
 have hd:=φ1B hl (by omega)
 have k:=(φ1A s.1).1 q2
 have:=φDM hd s.1.2 (fun e=>by rw[e] at k;simp at k) q5
 have:=(φ7a q1)
 exact ⟨q1,q2,by omega,by omega⟩
theorem φ8f (id:Int):ψS.f id=some (φJ id):=by
 unfold ψS.f φJ
 rw[φGS [104,105,110,116] id (by show 4≤100;decide),bS]
theorem φ6o (id:Int):ψ2W.f id=some (φJ id):=by
 unfold ψ2W.f φJ φ1y
 rw[φ1u,bS]
 by_cases h:1≤id∧id≤100000
 ·obtain ⟨n,rfl⟩:∃n:Nat,id=(n:Int):=⟨id.toNat,by omega⟩
  have hl:=φ4k 5 n (by show n<1000000;omega)
  have hb:([104,105,110,116]:List UInt8).length+(Lib.decDigits n).length≤9223372036854775807:=by show 4+_≤_;omega
  simp only[h,and_self,dT,nZ,cF,φ9Y n (by omega),bS,hb,cT,if_true,tN]
 ·simp[h]
theorem φEg (id:Int):(φJ id).length≤10:=by
 unfold φJ φ1y
 split
 ·have hl:=φ4k 5 id.toNat (by show _<1000000;omega)
  rw[lA];show 4+_≤10;omega
 ·simp
abbrev φ13:=Int×Int×List φB
def φ4V (h:φ13) (e:φB):Bool:=!(e.2.1 != ((h.2.2.getD 0 ([],0,0,0,0)).2.1)) && !decide (e.2.2.1 > 100000)
def φ2H (h:φ13):Bool:=h.2.2.all (φ4V h) && (decide (0≤h.1∧h.1≤100000) && (decide (0≤h.2.1∧h.2.1≤1000000) && φ1m h.2.2))
theorem φ9p (h:φ13) (hl:h.2.2.length<1000000000):ψ1Q.f h=some (φ2H h):=by
 have key:=φ41 (step:=ψ1Q.l0) h.2.2 (φ4V h) (fun n=>(h,h.2.2,(h.2.2.length:Int),(n:Int))) h (by omega)
  (fun rec n h1=>by
   have hw:=φL (show n+1<9223372036854775808 by omega)
   have h0:inB 0 h.2.2.length=true:=by rw[show (0:Int)=((0:Nat):Int) from rfl,φD];simp;omega
   have r0:rdA ([],0,0,0,0) h.2.2 0=h.2.2.getD 0 ([],0,0,0,0):=by rw[show (0:Int)=((0:Nat):Int) from rfl,φI]
   simp only[ψ1Q.l0,oL,h1,dT,cT,φD,φI,φ8 h1,h0,r0,hw]
   unfold φ4V
   cases (h.2.2[n].2.1 != (h.2.2.getD 0 ([],0,0,0,0)).2.1)<;>cases decide (h.2.2[n].2.2.1 > 100000)<;>rfl)
  (fun rec=>by simp[ψ1Q.l0])
 have key:lp ψ1Q.l0 (h,h.2.2,(h.2.2.length:Int),0)=_:=key
 unfold ψ1Q.f φ2H
 rw[key,bS]
 simp only[φ1q,φAr h.2.2 (by omega),bS]
 cases h.2.2.all (φ4V h)
 ·simp
 simp only[if_true,φT,tA]
 cases decide (0≤h.1∧h.1≤100000)<;>cases decide (0≤h.2.1∧h.2.1≤1000000)<;>simp[φAr h.2.2 (show h.2.2.length<2 ^ 62 by omega)]
theorem φKx (h:φ13) (hl:h.2.2.length<1000000000):ψ3C.f h=some (φ2H h):=by
 have key:=φ41 (step:=ψ3C.l0) h.2.2 (φ4V h) (fun n=>(h,(n:Int))) () (by omega)
  (fun rec n h1=>by
   have hw:=φL (show n+1<9223372036854775808 by omega)
   have h0:inB 0 h.2.2.length=true:=by rw[show (0:Int)=((0:Nat):Int) from rfl,φD];simp;omega
   have r0:rdA ([],0,0,0,0) h.2.2 0=h.2.2.getD 0 ([],0,0,0,0):=by rw[show (0:Int)=((0:Nat):Int) from rfl,φI]
   simp only[ψ3C.l0,oL,h1,dT,cT,φD,φI,φ8 h1,h0,r0,hw]
   unfold φ4V
   cases (h.2.2[n].2.1 != (h.2.2.getD 0 ([],0,0,0,0)).2.1)<;>cases decide (h.2.2[n].2.2.1 > 100000)<;>rfl)
  (fun rec=>by simp[ψ3C.l0])
 have key:lp ψ3C.l0 (h,0)=_:=key
 unfold ψ3C.f φ2H
 rw[key]
 simp only[φ1u,φFy h.2.2 (by omega),bS]
 cases h.2.2.all (φ4V h)<;>cases decide (0≤h.1∧h.1≤100000)<;>cases decide (0≤h.2.1∧h.2.1≤1000000)<;>cases φ1m h.2.2<;>rfl
def entT (e:φB):List UInt8:=varT (e.1.length:Int)++e.1++varT e.2.1++varT e.2.2.1++varT e.2.2.2.1++varT e.2.2.2.2
def φ1e (h:φ13):List UInt8:=varT h.1++varT h.2.1++varT (h.2.2.length:Int)++(h.2.2.map entT).flatten
def φ1K (h:φ13):List UInt8:=if φ2H h=false then [] else fix4 (crcT (φ1e h))++φ1e h
theorem φFr {e:φB} (h:φ2m e=true):e.1.length≤8:=by
 unfold φ2m φ1c at h
 simp only[bA,decide_eq_true_eq] at h
 omega
theorem φD7:∀(l:List φB) (p:Option (List UInt8)),φ2P p l=true→∀e∈l,φ2m e=true
 | [],_,_,e,he=>by simp at he
 | x::l,p,h,e,he=>by
  simp only[φ2P,bA] at h
  rcases mc.1 he with c | he
  ·subst c;exact h.1
  ·exact φD7 l _ h.2.2 e he
theorem φ46 {l:List φB} (h:φ1m l=true):l.length≤20∧∀e∈l,φ2m e=true:=by
 unfold φ1m at h
 simp only[bA,decide_eq_true_eq] at h
 exact ⟨h.2,φD7 l none h.1⟩
theorem φAf {e:φB} (h:e.1.length≤8):(entT e).length≤43:=by
 unfold entT
 have:=φm (e.1.length:Int)
 have:=φm e.2.1
 have:=φm e.2.2.1
 have:=φm e.2.2.2.1
 have:=φm e.2.2.2.2
 simp only[lA];omega
theorem φB8:∀{l:List φB},(∀e∈l,e.1.length≤8)→((l.map entT).flatten).length≤43 * l.length
 | [],_=>by simp
 | e::l,h=>by
  have h1:=φAf (h e κ1)
  have h2:=φB8 (l:=l) fun x hx=>h x (mC _ hx)
  rw[κ8,κd,lA,lC];omega
theorem φA3 {h:φ13} (k:φ2H h=true):h.2.2.length≤20∧∀e∈h.2.2,e.1.length≤8:=by
 unfold φ2H at k
 simp only[bA] at k
 have:=φ46 k.2.2.2
 exact ⟨this.1,fun e he=>φFr (this.2 e he)⟩
theorem φ6z {h:φ13} (k:φ2H h=true):(φ1e h).length≤1000:=by
 obtain ⟨k1,k2⟩:=φA3 k
 have:=φB8 k2
 have:=φm h.1
 have:=φm h.2.1
 have:=φm (h.2.2.length:Int)
 unfold φ1e
 simp only[lA];omega
theorem φGT (h:φ13):(φ1K h).length≤1004:=by
 unfold φ1K;split
 ·simp
 ·rename_i k
  have:=φ6z (by simpa using k)
  have:=φ4Y (crcT (φ1e h))
  rw[lA];omega
theorem φ9s (h:φ13) (hl:h.2.2.length<1000000000):ψu.f h=some (φ1K h):=by
 unfold ψu.f φ1K
 rw[φ9p h hl,bS]
 rcases bE (φ2H h) with k | k
 rotate_left
 ·simp[k]
 obtain ⟨k1,k2⟩:=φA3 k
 have hB:=φ6z k
 have hf:=φ4Y (crcT (φ1e h))
 have v1:=φm h.1
 have v2:=φm h.2.1
 have v3:=φm (h.2.2.length:Int)
 have e0:ψ1p.f [h.1,h.2.1,(h.2.2.length:Int)]=some (varT h.1++varT h.2.1++varT (h.2.2.length:Int)):=by
  rw[φ6d _ (by simp)];simp
 have key:=φd (step:=ψu.l0) (fun n (acc:List UInt8)=>(acc,h.2.2,(h.2.2.length:Int),(n:Int))) h.2.2.length (fun n acc=>acc++((h.2.2.drop n).map entT).flatten) (fun n acc=>acc.length≤21+43 * n)
  (fun rec n acc hn ha ih=>by
   rcases κ2 n h.2.2.length with h1 | h1
   ·have hw:=φL (show n+1<9223372036854775808 by omega)
    have hk:=k2 _ (gM h1)
    have he:=φAf hk
    have ih:=ih (acc++entT h.2.2[n]) h1 (by rw[lA];omega)
    have e1:ψ1p.f [h.2.2[n].2.1,h.2.2[n].2.2.1,h.2.2[n].2.2.2.1,h.2.2[n].2.2.2.2]=some (varT h.2.2[n].2.1++varT h.2.2[n].2.2.1++varT h.2.2[n].2.2.2.1++varT h.2.2[n].2.2.2.2):=by
     rw[φ6d _ (by simp)];simp
    have e2:(varT (h.2.2[n].1.length:Int)++h.2.2[n].1)++(varT h.2.2[n].2.1++varT h.2.2[n].2.2.1++varT h.2.2[n].2.2.2.1++varT h.2.2[n].2.2.2.2)=entT h.2.2[n]:=by
     unfold entT;simp only[aA]
    have e3:(varT (h.2.2[n].1.length:Int)++h.2.2[n].1).length+(varT h.2.2[n].2.1++varT h.2.2[n].2.2.1++varT h.2.2[n].2.2.2.1++varT h.2.2[n].2.2.2.2).length≤1000000000000000:=by
     rw[←lA,e2];omega
    simp only[ψu.l0,oL,h1,dT,cT,φD,φI,φ8 h1,φ6l h.2.2[n].1 (show h.2.2[n].1.length<2 ^ 62 by omega),e1,bS,φ1F e3,e2,φ1F (show acc.length+(entT h.2.2[n]).length≤1000000000000000 by omega),hw,ih]
    rw[dG h1,κ8,κd,aA]
   ·have:n=h.2.2.length:=by omega
    subst this
    simp[ψu.l0])
  (by omega) 0 (varT h.1++varT h.2.1++varT (h.2.2.length:Int)) (κ4 _) (by simp only[lA];omega)
 have key:lp ψu.l0 (varT h.1++varT h.2.1++varT (h.2.2.length:Int),h.2.2,(h.2.2.length:Int),0)=some (φ1e h):=by rw[show (0:Int)=((0:Nat):Int) from rfl,key];rfl
 simp only[k,nZ,cF,e0,bS,key,φ9V (φ1e h) (by omega),φAY,φ1F (show (fix4 (crcT (φ1e h))).length+(φ1e h).length≤1000000000000000 by omega),cT,κ7,if_false]
theorem φAN (h:φ13) (hl:h.2.2.length<1000000000):ψ2z.f h=some (φ1K h):=by
 unfold ψ2z.f φ1K
 rw[φKx h hl,bS]
 rcases bE (φ2H h) with k | k
 rotate_left
 ·simp[k]
 obtain ⟨k1,k2⟩:=φA3 k
 have hB:=φ6z k
 have hf:=φ4Y (crcT (φ1e h))
 have hr:=φ5A (φ1e h)
 have v1:=φm h.1
 have v2:=φm h.2.1
 have v3:=φm (h.2.2.length:Int)
 have key:=φd (step:=ψ2z.l0) (fun n (acc:List UInt8)=>(h,acc,(n:Int))) h.2.2.length (fun n acc=>acc++((h.2.2.drop n).map entT).flatten) (fun n acc=>acc.length≤21+43 * n)
  (fun rec n acc hn ha ih=>by
   rcases κ2 n h.2.2.length with h1 | h1
   ·have hw:=φL (show n+1<9223372036854775808 by omega)
    have hk:=k2 _ (gM h1)
    have he:=φAf hk
    have ih:=ih (acc++entT h.2.2[n]) h1 (by rw[lA];omega)
    have w1:=φm (h.2.2[n].1.length:Int)
    have w2:=φm h.2.2[n].2.1
    have w3:=φm h.2.2[n].2.2.1
    have w4:=φm h.2.2[n].2.2.2.1
    have w5:=φm h.2.2[n].2.2.2.2
    have e2:acc++varT (h.2.2[n].1.length:Int)++h.2.2[n].1++varT h.2.2[n].2.1++varT h.2.2[n].2.2.1++varT h.2.2[n].2.2.2.1++varT h.2.2[n].2.2.2.2=acc++entT h.2.2[n]:=by
     unfold entT;simp only[aA]
    simp only[ψ2z.l0,oL,h1,dT,cT,φD,φI,φ8 h1,φ4s,bS,
     φ1F (show acc.length+(varT (h.2.2[n].1.length:Int)).length≤1000000000000000 by omega),
     φ1F (show (acc++varT (h.2.2[n].1.length:Int)).length+h.2.2[n].1.length≤1000000000000000 by simp only[lA];omega),
     φ1F (show (acc++varT (h.2.2[n].1.length:Int)++h.2.2[n].1).length+(varT h.2.2[n].2.1).length≤1000000000000000 by simp only[lA];omega),
     φ1F (show (acc++varT (h.2.2[n].1.length:Int)++h.2.2[n].1++varT h.2.2[n].2.1).length+(varT h.2.2[n].2.2.1).length≤1000000000000000 by simp only[lA];omega),
     φ1F (show (acc++varT (h.2.2[n].1.length:Int)++h.2.2[n].1++varT h.2.2[n].2.1++varT h.2.2[n].2.2.1).length+(varT h.2.2[n].2.2.2.1).length≤1000000000000000 by simp only[lA];omega),
     φ1F (show (acc++varT (h.2.2[n].1.length:Int)++h.2.2[n].1++varT h.2.2[n].2.1++varT h.2.2[n].2.2.1++varT h.2.2[n].2.2.2.1).length+(varT h.2.2[n].2.2.2.2).length≤1000000000000000 by simp only[lA];omega),e2,hw,ih]
    rw[dG h1,κ8,κd,aA]
   ·have:n=h.2.2.length:=by omega
    subst this
    simp[ψ2z.l0])
  (by omega) 0 (varT h.1++varT h.2.1++varT (h.2.2.length:Int)) (κ4 _) (by simp only[lA];omega)
 have key:lp ψ2z.l0 (h,varT h.1++varT h.2.1++varT (h.2.2.length:Int),0)=some (φ1e h):=by rw[show (0:Int)=((0:Nat):Int) from rfl,key];rfl
 simp only[k,nZ,cF,φ4s,φ1F (show (varT h.1).length+(varT h.2.1).length≤1000000000000000 by omega),φ1F (show (varT h.1++varT h.2.1).length+(varT (h.2.2.length:Int)).length≤1000000000000000 by simp only[lA];omega),bS,key,φAd (φ1e h) (by omega),φ9S _ (show crcT (φ1e h)<9223372036854775808 by omega),φ1F (show (fix4 (crcT (φ1e h))).length+(φ1e h).length≤1000000000000000 by omega),cT,κ7,if_false]
abbrev φ7:=Int×φ1Z
theorem φC5 (id:Int) (l:List φ1Z) (hl:l.length<1000000000):ψ1Y.f id l=some (l.map fun x=>((id,x):φ7)):=by
 have key:=φd (step:=ψ1Y.l0) (fun n (acc:List φ7)=>(id,acc,l,(l.length:Int),(n:Int))) l.length (fun n acc=>acc++(l.drop n).map fun x=>((id,x):φ7)) (fun n acc=>acc.length=n)
  (fun rec n acc hn ha ih=>by
   rcases κ2 n l.length with h | h
   ·have hw:=φL (show n+1<9223372036854775808 by omega)
    have hb:∀{α:Type} (x:α),decide ((acc.length+[x].length) * 88≤140737488355328)=true:=fun x=>decide_eq_true (by show (acc.length+1) * 88≤_;omega)
    have ih:=ih (acc++[(id,l[n])]) h (by rw[lA,ha];rfl)
    simp only[ψ1Y.l0,oL,h,dT,cT,φD,φI,φ8 h,hb,hw,ih]
    rw[dG h,κ8,aA];rfl
   ·have:n=l.length:=by omega
    subst this
    simp[ψ1Y.l0])
  (by omega) 0 [] (κ4 _) rfl
 have key:lp ψ1Y.l0 (id,[],l,(l.length:Int),0)=_:=key
 unfold ψ1Y.f
 rw[key,bS]
 simp
def φ2c (r:RecT) (l:List RecT):Bool:=(r.2.2.2.2.1==(l.length:Int)) && (r.2.2.2.2.2==φ1L l)
theorem φDn (r:RecT) (l:List φ7) (hl:l.length<1000000000):ψ1O.f r l=some (φ2c r (l.map (·.2.2.2))):=by
 have key:=φd (step:=ψ1O.l0) (fun n (acc:List RecT)=>(r,acc,l,(l.length:Int),(n:Int))) l.length (fun n acc=>(r,acc++(l.drop n).map (·.2.2.2))) (fun n acc=>acc.length=n)
  (fun rec n acc hn ha ih=>by
   rcases κ2 n l.length with h | h
   ·have hw:=φL (show n+1<9223372036854775808 by omega)
    have hb:∀{α:Type} (x:α),decide ((acc.length+[x].length) * 64≤140737488355328)=true:=fun x=>decide_eq_true (φ6n (by omega))
    have ih:=ih (acc++[l[n].2.2.2]) h (by rw[lA,ha];rfl)
    simp only[ψ1O.l0,oL,h,dT,cT,φD,φI,φ8 h,hb,hw,ih]
    rw[dG h,κ8,aA];rfl
   ·have:n=l.length:=by omega
    subst this
    simp[ψ1O.l0])
  (by omega) 0 [] (κ4 _) rfl
 have key:lp ψ1O.l0 (r,[],l,(l.length:Int),0)=_:=key
 unfold ψ1O.f φ2c
 rw[key,bS,κB,κA]
 simp only[φGQ (l.map (·.2.2.2)) (by rw[lM];omega),bS]
 cases (r.2.2.2.2.1==((l.map (·.2.2.2)).length:Int))<;>rfl
abbrev φ28:φ1Z:=(0,0,0,0,[],[],0,0)
def entS (id:Int) (x:φ1Z):φB:=(x.2.2.2.2.1,id,x.1,x.2.1,x.2.2.2.1)
def φ2a (mark:Int):Option (List UInt8)→List φ1Z→Bool
 | _,[]=>true
 | p,x::r=>(x.2.2.1==4) && (!decide (x.2.2.2.1 > mark) && ((match p with | none=>true | some q=>Op.bytesLess q x.2.2.2.2.1) && φ2a mark (some x.2.2.2.2.1) r))
def φ6p (l:List φ1Z):Nat→Option (List UInt8)
 | 0=>none
 | n+1=>some (l.getD n φ28).2.2.2.2.1
theorem φ9G (l:List φ1Z) (n:Nat) (h:n<l.length):φ6p l (n+1)=some l[n].2.2.2.2.1:=by
 show some (l.getD n φ28).2.2.2.2.1=_
 rw[φ8 h]
theorem φJO (id e mark:Int) (l:List φ1Z) (k:Nat) (hk:k≤l.length) (hl:l.length<1000000000) :
  lp ψT.l0 (id,(0,0,[]),l,(e,mark,[]),l.take k,((l.take k).length:Int),0)=some (if φ2a mark none (l.take k)=true then .inl ((0,0,[]),(e,mark,(l.take k).map (entS id))) else .inr ((0,0,[]),false)):=by
 have hlen:(l.take k).length=k:=by rw[lT];omega
 have key:=φd (step:=ψT.l0) (fun n (acc:List φB)=>(id,(0,0,[]),l,(e,mark,acc),l.take k,((l.take k).length:Int),(n:Int))) k (fun n acc=>if φ2a mark (φ6p l n) ((l.take k).drop n)=true then .inl ((0,0,[]),(e,mark,acc++((l.take k).drop n).map (entS id))) else .inr ((0,0,[]),false)) (fun n acc=>acc.length=n)
  (fun rec n acc hn ha ih=>by
   rcases κ2 n k with h | h
   ·have hw:=φL (show n+1<9223372036854775808 by omega)
    have h1:n<(l.take k).length:=by omega
    have h2:n<l.length:=by omega
    have hx:(l.take k)[n]=l[n]:=List.getElem_take
    have hb:∀{α:Type} (x:α),decide ((acc.length+[x].length) * 48≤140737488355328)=true:=fun x=>decide_eq_true (φ3s (by omega))
    have ih:=ih (acc++[entS id l[n]]) h (by rw[lA,ha];rfl)
    rw[φ9G l n h2] at ih
    rw[dG h1,hx]
    simp only[φ2a,ψT.l0,oL,h1,dT,cT,φD,φI,φ8 h1,hx]
    rcases bE (l[n].2.2.1==4) with k1 | k1
    rotate_left
    ·simp only[bne,k1,nF,cT,bS,φZ,κF,κ0,if_false]
    rcases bE (decide (l[n].2.2.2.1 > mark)) with k2 | k2
    ·simp only[bne,k1,k2,nZ,nF,cF,cT,bS,φZ,κF,tA,κ0,if_false]
    simp only[bne,k1,k2,nZ,nF,cF,tA,κ8]
    cases n with
    | zero=>
     have z:¬((0:Nat):Int) > 0:=by omega
     simp only[z,dF,cF,bS,φT,hb,cT,hw,φ6p,tA]
     rw[show acc++entS id l[0]::List.map (entS id) (List.drop (0+1) (List.take k l))=acc++[entS id l[0]]++List.map (entS id) (List.drop (0+1) (List.take k l)) by rw[aA];rfl]
     exact ih
    | succ m=>
     have z:((m+1:Nat):Int) > 0:=by omega
     have hm:m<l.length:=by omega
     have z2:w64 (((m+1:Nat):Int) - 1)=(m:Int):=by rw[φG (by omega) (by omega)];omega
     rw[φ9G l m hm]
     simp only[z,dT,cT,z2,φD,hm,φI,φ8 hm]
     rcases bE (Op.bytesLess l[m].2.2.2.2.1 l[m+1].2.2.2.2.1) with k3 | k3
     ·simp only[k3,nZ,cF,bS,φT,hb,cT,hw,tA]
      rw[show acc++entS id l[m+1]::List.map (entS id) (List.drop (m+1+1) (List.take k l))=acc++[entS id l[m+1]]++List.map (entS id) (List.drop (m+1+1) (List.take k l)) by rw[aA];rfl]
      exact ih
     ·simp only[k3,nF,cT,bS,φZ,κF,κ0,if_false]
   ·have:n=k:=by omega
    subst this
    have hd:(l.take n).drop n=[]:=by rw[List.drop_eq_nil_iff];omega
    rw[hd]
    simp[ψT.l0,φ2a,hlen])
  (by omega) 0 [] (κ4 _) rfl
 have key:lp ψT.l0 (id,(0,0,[]),l,(e,mark,[]),l.take k,((l.take k).length:Int),0)=_:=key
 rw[key,κB,κA];rfl
theorem φMl (id e mark:Int) (l:List φ1Z) (h0:1≤l.length) (hl:l.length<1000000000) :
  lp ψ2X.l0 (id,(0,0,[]),l,(e,mark,[]),[],0)=some (if φ2a mark none (l.take (l.length - 1))=true then .inl ((0,0,[]),l,(e,mark,(l.take (l.length - 1)).map (entS id)),(l.take (l.length - 1)).map (·.2.2)) else .inr ((0,0,[]),false)):=by
 obtain ⟨k,hk⟩:∃k,l.length=k+1:=⟨l.length - 1,by omega⟩
 have e1:l.length - 1=k:=by omega
 rw[e1]
 have hlen:(l.take k).length=k:=by rw[lT];omega
 have key:=φd (step:=ψ2X.l0) (fun n (a:List φB×List RecT)=>(id,(0,0,[]),l,(e,mark,a.1),a.2,(n:Int))) k (fun n a=>if φ2a mark (φ6p l n) ((l.take k).drop n)=true then .inl ((0,0,[]),l,(e,mark,a.1++((l.take k).drop n).map (entS id)),a.2++((l.take k).drop n).map (·.2.2)) else .inr ((0,0,[]),false)) (fun n a=>a.1.length=n∧a.2.length=n)
  (fun rec n a hn ha ih=>by
   obtain ⟨acc,rs⟩:=a
   obtain ⟨ha,hr⟩:=ha
   simp only at ha hr
   rcases κ2 n k with h | h
   ·have hw:=φL (show n+1<9223372036854775808 by omega)
    have h1:n<(l.take k).length:=by omega
    have h2:n<l.length:=by omega
    have h3:n+1<l.length:=by omega
    have hx:(l.take k)[n]=l[n]:=List.getElem_take
    have hb:∀{α:Type} (x:α),decide ((acc.length+[x].length) * 48≤140737488355328)=true:=fun x=>decide_eq_true (φ3s (by omega))
    have hb2:∀{α:Type} (x:α),decide ((rs.length+[x].length) * 64≤140737488355328)=true:=fun x=>decide_eq_true (φ6n (by omega))
    have ih:=ih (acc++[entS id l[n]],rs++[l[n].2.2]) h ⟨by rw[lA,ha];rfl,by rw[lA,hr];rfl⟩
    simp only at ih
    rw[φ9G l n h2] at ih
    rw[dG h1,hx]
    simp only[φ2a,ψ2X.l0,hw,oL,h2,h3,dT,cT,φD,φI,φ8 h2]
    rcases bE (l[n].2.2.1==4) with k1 | k1
    rotate_left
    ·simp only[bne,k1,nF,cT,bS,φZ,κF,κ0,if_false]
    rcases bE (decide (l[n].2.2.2.1 > mark)) with k2 | k2
    ·simp only[bne,k1,k2,nZ,nF,cF,cT,bS,φZ,κF,tA,κ0,if_false]
    simp only[bne,k1,k2,nZ,nF,cF,tA,κ8]
    cases n with
    | zero=>
     have z:¬((0:Nat):Int) > 0:=by omega
     simp only[z,dF,cF,bS,φT,hb,hb2,cT,φD,h2,dT,φI,φ8 h2,hw,φ6p,tA]
     rw[show acc++entS id l[0]::List.map (entS id) (List.drop (0+1) (List.take k l))=acc++[entS id l[0]]++List.map (entS id) (List.drop (0+1) (List.take k l)) by rw[aA];rfl,
      show rs++l[0].2.2::List.map (·.2.2) (List.drop (0+1) (List.take k l))=rs++[l[0].2.2]++List.map (·.2.2) (List.drop (0+1) (List.take k l)) by rw[aA];rfl]
     exact ih
    | succ m=>
     have z:((m+1:Nat):Int) > 0:=by omega
     have hm:m<l.length:=by omega
     have z2:w64 (((m+1:Nat):Int) - 1)=(m:Int):=by rw[φG (by omega) (by omega)];omega
     have hle:(Op.bytesLess l[m+1].2.2.2.2.1 l[m].2.2.2.2.1 || l[m+1].2.2.2.2.1==l[m].2.2.2.2.1)=!Op.bytesLess l[m].2.2.2.2.1 l[m+1].2.2.2.2.1:=φ8L _ _
     rw[φ9G l m hm]
     simp only[z,dT,cT,z2,φD,hm,φI,φ8 hm,hle]
     rcases bE (Op.bytesLess l[m].2.2.2.2.1 l[m+1].2.2.2.2.1) with k3 | k3
     ·simp only[k3,nZ,cF,bS,φT,hb,hb2,cT,φD,h2,dT,φI,φ8 h2,hw,tA]
      rw[show acc++entS id l[m+1]::List.map (entS id) (List.drop (m+1+1) (List.take k l))=acc++[entS id l[m+1]]++List.map (entS id) (List.drop (m+1+1) (List.take k l)) by rw[aA];rfl,
       show rs++l[m+1].2.2::List.map (·.2.2) (List.drop (m+1+1) (List.take k l))=rs++[l[m+1].2.2]++List.map (·.2.2) (List.drop (m+1+1) (List.take k l)) by rw[aA];rfl]
      exact ih
     ·simp only[k3,nF,cT,bS,φZ,κF,κ0,if_false]
   ·have:n=k:=by omega
    subst this
    have hd:(l.take n).drop n=[]:=by rw[List.drop_eq_nil_iff];omega
    have hw:=φL (show n+1<9223372036854775808 by omega)
    rw[hd]
    simp[ψ2X.l0,φ2a,hk,hw])
  (by omega) 0 ([],[]) (κ4 _) ⟨rfl,rfl⟩
 have key:lp ψ2X.l0 (id,(0,0,[]),l,(e,mark,[]),[],0)=_:=key
 rw[key,κB,κA,κA];rfl
noncomputable def φ19 (id:Int) (t:List UInt8):φ13×Bool:=
 let l:=(scan t).1
 let z:=l.getD (l.length - 1) φ28
 if l.length=0∨(scan t).2≠t.length∨¬(1≤id∧id≤100000)∨z.2.2.1≠5∨φ2c z.2.2 ((l.take (l.length - 1)).map (·.2.2))=false∨φ2a z.2.2.2.1 none (l.take (l.length - 1))=false then ((0,0,[]),false)
 else (((t.length:Int),z.2.2.2.1,(l.take (l.length - 1)).map (entS id)),true)
theorem φBR (id:Int) (t:List UInt8):(φ19 id t).1.2.2.length≤t.length:=by
 have:=(φ4U t).2
 unfold φ19
 simp only
 split
 ·simp
 ·simp only[lM,lT];omega
theorem φJv (id:Int):(φ0 id==[])=!decide (1≤id∧id≤100000):=by
 unfold φ0 φ1y
 by_cases h:1≤id∧id≤100000
 ·simp[h]
 ·simp[h]
theorem φD4 (id:Int) (t:List UInt8) (ht:t.length<100000000):ψT.f id t=some (φ19 id t):=by
 have hs:=φ4U t
 unfold ψT.f φ19
 rw[φBA t (by omega),bS]
 generalize (scan t).1=l at *
 generalize (scan t).2=e at *
 simp only
 rcases Nat.eq_zero_or_pos l.length with h0 | h0
 ·have:decide (w64 (((0:Nat):Int) - 1)<0)=true:=by decide
  simp only[h0,this,cT,true_or,if_true]
 obtain ⟨k,hk⟩:∃k,l.length=k+1:=⟨l.length - 1,by omega⟩
 have hw:w64 ((l.length:Int) - 1)=(k:Int):=by rw[φG (by omega) (by omega)];omega
 have e1:l.length - 1=k:=by omega
 have hkl:k<l.length:=by omega
 have n0:¬(k:Int)<0:=by omega
 have n1:(0:Int)≤(k:Int):=by omega
 have n2:(k:Int)≤(l.length:Int):=by omega
 have n3:¬l.length=0:=by omega
 rw[e1]
 simp only[hw,n0,n1,n2,n3,dF,dT,cF,Bool.and_self,cT,φ1q,bS,φD,hkl,φI,tN,false_or]
 by_cases c1:e=t.length
 rotate_left
 ·have d1:((e:Int) != (t.length:Int))=true:=by simp;omega
  simp only[d1,cT,c1,ne_eq,not_false_eq_true,true_or,if_true]
 have d1:((e:Int) != (t.length:Int))=false:=by simp;omega
 by_cases c2:1≤id∧id≤100000
 rotate_left
 ·simp only[d1,cF,c2,dF,nF,cT,not_false_eq_true,true_or,or_true,if_true]
 by_cases c3:(l.getD k φ28).2.2.1=5
 rotate_left
 ·have d3:((l.getD k φ28).2.2.1 != 5)=true:=by simpa using c3
  simp only[d1,d3,cF,c2,dT,nZ,cT,and_self,c3,ne_eq,not_false_eq_true,true_or,or_true,if_true]
 have d3:((l.getD k φ28).2.2.1 != 5)=false:=by simpa using c3
 have hpl:=φC5 id (l.take k) (by rw[lT];omega)
 have hft:=φDn (l.getD k φ28).2.2 ((l.take k).map fun x=>((id,x):φ7)) (by rw[lM,lT];omega)
 have hmm:((l.take k).map fun x=>((id,x):φ7)).map (·.2.2.2)=(l.take k).map (·.2.2):=by rw[List.map_map];rfl
 rw[hmm] at hft
 subst c1
 simp only[d1,d3,cF,c2,dT,nZ,and_self,hpl,bS,hft]
 simp only[c3,ne_eq,not_true_eq_false,false_or]
 rcases bE (φ2c (l.getD k φ28).2.2 ((l.take k).map (·.2.2))) with c4 | c4
 rotate_left
 ·simp only[c4,nF,cT,true_or,if_true]
 simp only[c4,nZ,cF,κ7,false_or,φJO id (t.length:Int) (l.getD k φ28).2.2.2.1 l k (by omega) (by omega),bS]
 rcases bE (φ2a (l.getD k φ28).2.2.2.1 none (l.take k)) with c5 | c5
 ·simp only[c5,if_true,φT,κ7,if_false]
 ·simp only[c5,κ0,if_false,φZ,if_true]
theorem φFE (id:Int) (t:List UInt8) (ht:t.length<100000000):ψ2X.f id t=some (φ19 id t):=by
 have hs:=φ4U t
 unfold ψ2X.f φ19
 rw[φ7Z t (by omega),bS]
 generalize (scan t).1=l at *
 generalize (scan t).2=e at *
 simp only
 by_cases c1:e=t.length
 rotate_left
 ·have d1:((e:Int) != (t.length:Int))=true:=by simp;omega
  simp only[d1,cT,c1,ne_eq,not_false_eq_true,true_or,or_true,if_true]
 have d1:((e:Int) != (t.length:Int))=false:=by simp;omega
 rcases Nat.eq_zero_or_pos l.length with h0 | h0
 ·have d2:(((0:Nat):Int)==0)=true:=rfl
  simp only[d1,h0,d2,cF,cT,true_or,if_true]
 obtain ⟨k,hk⟩:∃k,l.length=k+1:=⟨l.length - 1,by omega⟩
 have hw:w64 ((l.length:Int) - 1)=(k:Int):=by rw[φG (by omega) (by omega)];omega
 have e1:l.length - 1=k:=by omega
 have hkl:k<l.length:=by omega
 have n3:¬l.length=0:=by omega
 have d2:((l.length:Int)==0)=false:=beq_eq_false_iff_ne.2 (by omega)
 have hl0:=φMl id (t.length:Int) (l.getD k φ28).2.2.2.1 l (by omega) (by omega)
 rw[e1] at hl0 ⊢
 subst c1
 simp only[d1,d2,n3,cF,hw,φD,hkl,dT,cT,φI,φ2Q,φJv,bS,false_or,ne_eq,not_true_eq_false]
 by_cases c3:(l.getD k φ28).2.2.1=5
 rotate_left
 ·have d3:((l.getD k φ28).2.2.1 != 5)=true:=by simpa using c3
  simp only[d3,cT,c3,not_false_eq_true,true_or,or_true,if_true]
 have d3:((l.getD k φ28).2.2.1 != 5)=false:=by simpa using c3
 by_cases c2:1≤id∧id≤100000
 rotate_left
 ·simp only[d3,cF,c2,dF,nF,cT,not_false_eq_true,true_or,or_true,if_true]
 simp only[d3,cF,c2,dT,nZ,and_self,not_true_eq_false,false_or,hl0,bS]
 simp only[c3,not_true_eq_false,false_or]
 rcases bE (φ2a (l.getD k φ28).2.2.2.1 none (l.take k)) with c5 | c5
 rotate_left
 ·simp only[c5,κ0,if_false,φZ,or_true,if_true]
 have hlen:((l.take k).map (·.2.2)).length=k:=by rw[lM,lT];omega
 simp only[c5,if_true,φT,κ7,or_false,hw,φD,hkl,dT,cT,φI,φ8a ((l.take k).map (·.2.2)) (by omega),bS]
 unfold φ2c
 rcases bE ((l.getD k φ28).2.2.2.2.2.2.1==(((l.take k).map (·.2.2)).length:Int)) with c6 | c6
 rotate_left
 ·simp only[bne,c6,nF,cT,κF,if_true]
 rcases bE ((l.getD k φ28).2.2.2.2.2.2.2==φ1L ((l.take k).map (·.2.2))) with c7 | c7
 rotate_left
 ·simp only[bne,c6,c7,nF,nZ,cF,cT,tA,if_true]
 simp only[bne,c6,c7,nZ,cF,tA,κ7,if_false]
def sNew (n:List UInt8) (w:φE):φE:=φK (φY n) (φK (φH n) w)
theorem φ42 {w:φE} (h:φ5 w.1=true) (n:List UInt8):φ5 (sNew n w).1=true:=
 φ1j (op:=φY n) (φ1j (op:=φH n) h fun k=>φ2Y k n) fun k=>φ39 k n
theorem φGJ (w:φE) (n:List UInt8) (h:φ5 w.1=true) (hn:n.length<1000):ψ1q.f (φC w) n=some (φC (sNew n w)):=by
 unfold ψ1q.f sNew
 have g1:φ5 (φ1P (φH n) (φC w)).1=true:=φAZ (op:=φH _) h fun k=>φ2Y k _
 rw[φ5f (φC w) n (φn h) (by omega),bS,φB0 _ _ (φn g1) (by omega) (by omega),bS,φ35,φ35]
theorem φMU {d:φ1} {c:Int} (h:c≠0) (n:List UInt8):sNew n (d,c)=(d,c):=by
 unfold sNew;rw[φ2L h,φ2L h]
theorem φGk (d:φ1) (n:List UInt8) (h:φ5 d=true) (hn:n.length<1000):ψ3H.f d n=some (sNew n (d,0)):=by
 unfold sNew
 rw[φAF d n (φn h) (by omega) (by omega),φ22]
def sApp (n:List UInt8) (recs:List RecT) (w:φE):φE:=recs.foldl (fun w r=>φK (φW n (frame (φ9 r))) w) w
theorem φ79 (n:List UInt8) (recs:List RecT):∀{w:φE},φ5 w.1=true→φ5 (sApp n recs w).1=true:=by
 induction recs with
 | nil=>intro w h;exact h
 | cons r l ih=>intro w h;exact ih (φ1j (op:=φW n (frame (φ9 r))) h fun k=>φ3p k _ _)
theorem φAE (n:List UInt8) (recs:List RecT) {d:φ1} {c:Int} (h:c≠0):sApp n recs (d,c)=(d,c):=by
 induction recs with
 | nil=>rfl
 | cons r l ih=>show sApp n l (φK _ (d,c))=_;rw[φ2L h,ih]
theorem φF7 (n:List UInt8) (recs:List RecT) (r:RecT) (w:φE):sApp n (recs++[r]) w=φK (φW n (frame (φ9 r))) (sApp n recs w):=by
 unfold sApp;rw[κe];rfl
def φy (m:Int):Int→List RecT→List φB
 | _,[]=>[]
 | a,r::rs=>if r.1=4 then (r.2.2.1,m,a,((frame (φ9 r)).length:Int),r.2.1)::φy m (a+((frame (φ9 r)).length:Int)) rs else φy m (a+((frame (φ9 r)).length:Int)) rs
theorem φ8I (m:Int) (r:RecT) (hr:r.1≠4):∀(recs:List RecT) (a:Int),φy m a (recs++[r])=φy m a recs
 | [],a=>by simp[φy,hr]
 | x::l,a=>by
  simp only[κG,φy]
  rw[φ8I m r hr l]
theorem φKD (m:Int) (recs:List RecT) (w:φE) (h:φ5 w.1=true) (hr:recs.length<1000000) :
  lp ψ26.l0 (φC w,m,[],0,recs,(recs.length:Int),0)=some (φC (sApp (φ0 m) recs w),m,φy m 0 recs):=by
 have hsn:=φ4C m
 have key:=φd (step:=ψ26.l0) (fun n (a:φE×List φB×Nat)=>(φC a.1,m,a.2.1,(a.2.2:Int),recs,(recs.length:Int),(n:Int))) recs.length (fun n a=>(φC (sApp (φ0 m) (recs.drop n) a.1),m,a.2.1++φy m (a.2.2:Int) (recs.drop n)))
  (fun n a=>φ5 a.1.1=true∧a.2.1.length≤n∧a.2.2≤211 * n)
  (fun rec n a hn ha ih=>by
   obtain ⟨W,acc,at_⟩:=a
   obtain ⟨ha,hacc,hat⟩:=ha
   simp only at ha hacc hat
   rcases κ2 n recs.length with h1 | h1
   ·have hw:=φL (show n+1<9223372036854775808 by omega)
    have hf:=φ57 (φ9 recs[n])
    have hsr:=φ3P recs[n]
    have hb:∀{α:Type} (x:α),decide ((acc.length+[x].length) * 48≤140737488355328)=true:=fun x=>decide_eq_true (φ3s (by omega))
    have es:ψw.f (recs[n].1,recs[n].2.1,recs[n].2.2.1,recs[n].2.2.2.1,recs[n].2.2.2.2.1,recs[n].2.2.2.2.2)=some (φ9 recs[n]):=φDs recs[n]
    have ep:ψ1z.f (φC W) (φ0 m) (frame (φ9 recs[n]))=some (φC (φK (φW (φ0 m) (frame (φ9 recs[n]))) W)):=by
     rw[φFY (φC W) (φ0 m) (frame (φ9 recs[n])) (φn ha) (by omega) (by omega),φ35]
    have hd:φ5 (φK (φW (φ0 m) (frame (φ9 recs[n]))) W).1=true:=φ1j (op:=φW _ _) ha fun k=>φ3p k _ _
    have hw2:w64 ((at_:Int)+((frame (φ9 recs[n])).length:Int))=(at_:Int)+((frame (φ9 recs[n])).length:Int):=φG (by omega) (by omega)
    have hcast:((at_+(frame (φ9 recs[n])).length:Nat):Int)=(at_:Int)+((frame (φ9 recs[n])).length:Int):=by omega
    rw[dG h1]
    simp only[ψ26.l0,oL,h1,dT,cT,φD,φI,φ8 h1,es,φ9h (φ9 recs[n]) (show (φ9 recs[n]).length<2 ^ 62 by omega),φ3b,bS,ep,hb,hw2,hw,φy]
    by_cases c:recs[n].1=4
    ·have d1:(recs[n].1==4)=true:=by simpa using c
     have ih:=ih (φK (φW (φ0 m) (frame (φ9 recs[n]))) W,acc++[(recs[n].2.2.1,m,(at_:Int),((frame (φ9 recs[n])).length:Int),recs[n].2.1)],at_+(frame (φ9 recs[n])).length) h1 ⟨hd,by rw[lA];show _+1≤_;omega,by simp only;omega⟩
     simp only at ih
     rw[hcast] at ih
     simp only[c,beq_self_eq_true,cT,bS,hw2,hw,ih,if_true,aA,List.singleton_append];rfl
    ·have d1:(recs[n].1==4)=false:=by simpa using c
     have ih:=ih (φK (φW (φ0 m) (frame (φ9 recs[n]))) W,acc,at_+(frame (φ9 recs[n])).length) h1 ⟨hd,by simp only;omega,by simp only;omega⟩
     simp only at ih
     rw[hcast] at ih
     simp only[d1,cF,bS,hw2,hw,ih,c,if_false];rfl
   ·have:n=recs.length:=by omega
    subst this
    simp[ψ26.l0,φy,sApp])
  (by omega) 0 (w,[],0) (κ4 _) ⟨h,κ4 _,κ4 _⟩
 have key:lp ψ26.l0 (φC w,m,[],0,recs,(recs.length:Int),0)=_:=key
 rw[key,κB,κA];rfl
end Go.Rf.G
