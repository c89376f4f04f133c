import Derived.Test.YtaijadchooalpaaGreatDoorXEngineMapLem1
open Option renaming bind_some→bS
open List renaming length_append→lA,append_assoc→aA,mem_cons_of_mem→mC,mem_append→mA,mem_append_right→mR,mem_append_left→mL,mem_cons→mc,drop_eq_getElem_cons→dG,length_take→lT,length_drop→lD,mem_map→mM,length_map→lM,length_cons→lC,length_nil→lN,getElem_mem→gM,map_append→mp,mem_singleton→mZ,append_nil→κ3,nodup_append→κ4,mem_cons_self→κ5,take_append_drop→κ7,take_succ_eq_append_getElem→κ8,flatMap_append→κ9,map_cons→κC,nodup_cons→κE,range'→κF,cons_append→κH,replicate→κI
open Bool renaming and_eq_true→bA,eq_false_or_eq_true→bE,not_true→nZ,not_false→nF,true_and→tA,not_not→nn,or_eq_false_iff→κ6
open Int renaming toNat_natCast→tN,ofNat_lt→oL
open Nat renaming eq_of_beq_eq_true→κ0,lt_or_ge→κ1,lt_of_lt_of_le→κ2,le_of_ble_eq_true→κA,zero_le→κB,le_refl→κD,pow_succ→κJ
open Array renaming length_toList→κG
set_option linter.unusedVariables false
set_option linter.unusedSimpArgs false
namespace Go.Rf.G
open Go Go.Rf
set_option synthInstance.maxSize 4000
theorem φBc (s:List UInt8) (hl:s.length<1000000000000):∃res:RecT×Bool,ψ1e.f s=some res∧(res=(φ12,false)∨∃r,res=(r,true)∧φ1G s r):=by
 unfold ψ1e.f
 rw[φ1p s (by omega),bS]
 obtain ⟨a1,a2,a3⟩:=φ68 s
 generalize φq s=p at *
 obtain ⟨k,a⟩:=p
 simp only at a1 a2 a3
 have c1:(decide (0≤a) && decide (a≤(s.length:Int)))=true:=by simp;omega
 have hd:(s.drop a.toNat).length=s.length - a.toNat:=lD
 simp only[c1,cT,φ1p (s.drop a.toNat) (show (s.drop a.toNat).length<2 ^ 62 by omega),bS]
 obtain ⟨b1,b2,b3⟩:=φ68 (s.drop a.toNat)
 generalize φq (s.drop a.toNat)=q at *
 obtain ⟨b,d⟩:=q
 simp only at b1 b2 b3 ⊢
 cases ea:(a==0)
 rotate_left
 ·simp only[cT];exact ⟨_,rfl,.inl rfl⟩
 cases ed:(d==0)
 rotate_left
 ·simp only[cT,cF];exact ⟨_,rfl,.inl rfl⟩
 have ew:w64 (a+d)=a+d:=φ2 (by omega) (by omega)
 have c2:(decide (0≤a+d) && decide (a+d≤(s.length:Int)))=true:=by simp;omega
 simp only[cF,ew,c2,cT,φ44,bS]
 have hx:(s.drop (a+d).toNat).length≤s.length:=by rw[lD];omega
 generalize s.drop (a+d).toNat=x at *
 cases decide (k=1∨k=4)
 rotate_left
 ·obtain ⟨t,r,f,e1,l1,l2⟩:=φ5v x (by omega)
  obtain ⟨t',r',f',e2,l3,l4⟩:=φ5v r (by omega)
  simp only[cT,e1,e2,bS]
  exact φ4x s (k,b,t,t',0,0)
 cases (k==2)
 rotate_left
 ·obtain ⟨t,r,f,e1,l1,l2⟩:=φ5v x (by omega)
  simp only[cT,cF,e1,bS]
  exact φ4x s (k,b,t,[],0,0)
 ·simp only[cF,φ1p x (show x.length<2 ^ 62 by omega),bS]
  obtain ⟨g1,g2,g3⟩:=φ68 x
  generalize φq x=u at *
  obtain ⟨c,g⟩:=u
  simp only at g1 g2 g3 ⊢
  have c3:(decide (0≤g) && decide (g≤(x.length:Int)))=true:=by simp;omega
  simp only[c3,cT,φ7F (x.drop g.toNat) (show (x.drop g.toNat).length<2 ^ 62 by rw[lD];omega),bS]
  exact φ4x s (k,b,[],[],c,(φ1S (x.drop g.toNat)).1)
noncomputable def φ2L (s:List UInt8):RecT×Bool:=@dite (RecT×Bool) (∃r,φ1G s r) (Classical.propDecidable _) (fun h=>(h.choose,true)) (fun _=>(φ12,false))
theorem φ6H {s:List UInt8} {o:Option (RecT×Bool)} (h1:∀r,φ1G s r→o=some (r,true)) (h2:∃res:RecT×Bool,o=some res∧(res=(φ12,false)∨∃r,res=(r,true)∧φ1G s r)):o=some (φ2L s):=by
 unfold φ2L
 by_cases h:∃r,φ1G s r
 ·rw[dif_pos h];exact h1 _ h.choose_spec
 ·rw[dif_neg h]
  obtain ⟨res,e,k | ⟨r,_,hr⟩⟩:=h2
  ·rw[e,k]
  ·exact absurd ⟨r,hr⟩ h
theorem φCD (s:List UInt8) (hl:s.length<1000000000000):ψE.f s=some (φ2L s):=φ6H (fun _ h=>φCB h) (φBo s hl)
theorem φAf (s:List UInt8) (hl:s.length<1000000000000):ψ1e.f s=some (φ2L s):=φ6H (fun _ h=>φB4 h) (φBc s hl)
theorem φ9b (s:List UInt8):φ2L s=(φ12,false)∧(¬∃r,φ1G s r)∨∃r,φ2L s=(r,true)∧φ1G s r:=by
 unfold φ2L
 by_cases h:∃r,φ1G s r
 ·rw[dif_pos h];exact .inr ⟨_,rfl,h.choose_spec⟩
 ·rw[dif_neg h];exact .inl ⟨rfl,h⟩
theorem φ8D (s:List UInt8):(φ1X s).1.length≤s.length:=by
 unfold φ1X
 split
 ·simp
 split
 ·simp
 ·split
  ·simp
  split
  ·simp only[lD,lT];omega
  ·simp
noncomputable def φ1n (s:List UInt8) (a n:Int):RecT×Bool:=
 if 0≤a∧a≤(s.length:Int)∧1≤n∧n≤(s.length:Int) - a then
  (if (φ1X ((s.take (a+n).toNat).drop a.toNat)).2=n then φ2L (φ1X ((s.take (a+n).toNat).drop a.toNat)).1 else (φ12,false))
 else (φ12,false)
theorem φBh (s:List UInt8) (a n:Int) (hl:s.length<1000000000):ψG.f s a n=some (φ1n s a n):=by
 unfold ψG.f φ1n
 rw[φ1K,bS]
 by_cases c1:0≤a∧a≤(s.length:Int)
 rotate_left
 ·simp only[c1,dF,nF,cT]
  rw[if_neg (fun k=>c1 ⟨k.1,k.2.1⟩)];rfl
 have ew:w64 ((s.length:Int) - a)=(s.length:Int) - a:=φ2 (by omega) (by omega)
 have c1b:decide (0≤a∧a≤(s.length:Int))=true:=decide_eq_true c1
 simp only[c1b,nZ,cF,φ1K,bS,ew]
 by_cases c2:0≤n∧n≤(s.length:Int) - a
 rotate_left
 ·simp only[c2,dF,nF,cT]
  rw[if_neg (fun k=>c2 ⟨by omega,k.2.2.2⟩)];rfl
 have e2:w64 (a+n)=a+n:=φ2 (by omega) (by omega)
 have c3:(decide (0≤a+n) && decide (a+n≤(s.length:Int)))=true:=by simp;omega
 have c4:(decide (0≤a) && decide (a≤a+n))=true:=by simp;omega
 have hlx:((s.take (a+n).toNat).drop a.toNat).length<1000000000:=by rw[lD,lT];omega
 have c2b:decide (0≤n∧n≤(s.length:Int) - a)=true:=decide_eq_true c2
 have hx0:n=0→(φ1X ((s.take (a+n).toNat).drop a.toNat)).2=0:=fun e=>by
  have:((s.take (a+n).toNat).drop a.toNat)=[]:=by rw[List.drop_eq_nil_iff,lT];omega
  rw[this];rfl
 have hlen:=φ8D ((s.take (a+n).toNat).drop a.toNat)
 have hun:=φBu _ (show ((s.take (a+n).toNat).drop a.toNat).length<1000000000000 by omega)
 by_cases c5:n=0
 ·rw[if_neg (fun z=>by omega)]
  simp only[c2b,nZ,cF,e2,c3,c4,cT,hun,bS]
  have hk:=hx0 c5
  have d:((φ1X ((s.take (a+n).toNat).drop a.toNat)).2==0)=true:=by simpa using hk
  simp only[d,cT];rfl
 rw[if_pos ⟨c1.1,c1.2,by omega,c2.2⟩]
 simp only[c2b,nZ,cF,e2,c3,c4,cT,hun,bS]
 generalize φ1X ((s.take (a+n).toNat).drop a.toNat)=u at *
 obtain ⟨t,k⟩:=u
 simp only at hx0 hlen ⊢
 by_cases c6:k=n
 ·have d:(k==0)=false:=by simp;omega
  have d2:(k != n)=false:=by simpa using c6
  simp only[d,d2,cF,φCD t (show t.length<1000000000000 by omega),bS]
  rw[if_pos c6]
 ·have d2:(k != n)=true:=by simpa using c6
  rw[if_neg c6]
  cases d:(k==0)
  ·simp only[d2,cF,cT];rfl
  ·simp only[cT];rfl
theorem φ9l (s:List UInt8) (a n:Int) (hl:s.length<1000000000):ψ1g.f s a n=some (φ1n s a n):=by
 unfold ψ1g.f φ1n
 rw[φ1L,bS]
 by_cases c1:0≤a∧a≤(s.length:Int)
 rotate_left
 ·simp only[c1,dF,nF,cT]
  rw[if_neg (fun k=>c1 ⟨k.1,k.2.1⟩)];rfl
 have ew:w64 ((s.length:Int) - a)=(s.length:Int) - a:=φ2 (by omega) (by omega)
 have c1b:decide (0≤a∧a≤(s.length:Int))=true:=decide_eq_true c1
 simp only[c1b,nZ,cF,φ1L,bS,ew]
 by_cases c2:1≤n∧n≤(s.length:Int) - a
 rotate_left
 ·rw[if_neg (fun k=>c2 ⟨k.2.2.1,k.2.2.2⟩)]
  simp only[c2,dF,nF,cT];rfl
 have e2:w64 (a+n)=a+n:=φ2 (by omega) (by omega)
 have c3:(decide (0≤a+n) && decide (a+n≤(s.length:Int)))=true:=by simp;omega
 have c4:(decide (0≤a) && decide (a≤a+n))=true:=by simp;omega
 have hlx:((s.take (a+n).toNat).drop a.toNat).length<1000000000:=by rw[lD,lT];omega
 have c2b:decide (1≤n∧n≤(s.length:Int) - a)=true:=decide_eq_true c2
 have hlen:=φ8D ((s.take (a+n).toNat).drop a.toNat)
 have hun:=φAm _ (show ((s.take (a+n).toNat).drop a.toNat).length<1000000000000 by omega)
 rw[if_pos ⟨c1.1,c1.2,c2.1,c2.2⟩]
 simp only[c2b,nZ,cF,e2,c3,c4,cT,hun,bS]
 generalize φ1X ((s.take (a+n).toNat).drop a.toNat)=u at *
 obtain ⟨t,k⟩:=u
 simp only at hlen ⊢
 rw[φAf t (by omega),bS]
 by_cases c6:k=n
 ·have d2:(k != n)=false:=by simpa using c6
  rw[if_pos c6]
  simp only[d2,cF]
  rcases φ9b t with ⟨e,_⟩ | ⟨r,e,_⟩<;>rw[e]<;>rfl
 ·have d2:(k != n)=true:=by simpa using c6
  rw[if_neg c6]
  simp only[d2,cT];rfl
theorem φ9B (a n:Int):φ1n [] a n=(φ12,false):=by
 unfold φ1n
 rw[if_neg]
 simp only[lN]
 omega
noncomputable def getP (s:φ1E) (d:φN) (key:List UInt8):φ1R×Int:=
 if (φ2O s.2.1 key).2=false then (([],[],0),8) else
 let e:=(φ2O s.2.1 key).1
 let r:=φ1n (φm d (φs e.2.1)).1 e.2.2.1 e.2.2.2.1
 if r.2=true∧(r.1.1=1∨r.1.1=4)∧r.1.2.2.1=key then ((key,r.1.2.2.2.1,r.1.2.1),0) else (([],[],0),3)
theorem φ9S (s:φ1E) (d:φN) (key:List UInt8) (h:dlim d) (hu:φJ d.1<1000000000) (hs:s.2.1.length<2 ^ 62):ψA.f s d key=some (getP s d key):=by
 unfold ψA.f getP
 rw[φ9e s.2.1 key hs,bS]
 generalize φ2O s.2.1 key=g at *
 obtain ⟨e,is⟩:=g
 simp only
 cases is
 ·rfl
 have hl:=φ6d d (φs e.2.1) h
 simp only[nZ,cF,φAC,bS,φBW d _ h,φBh (φm d (φs e.2.1)).1 e.2.2.1 e.2.2.2.1 (show (φm d (φs e.2.1)).1.length<1000000000 by omega),Bool.true_eq_false,if_false]
 generalize φ1n (φm d (φs e.2.1)).1 e.2.2.1 e.2.2.2.1=r at *
 obtain ⟨r,ok⟩:=r
 simp only
 cases ok
 ·simp
 simp only[nZ,cF,true_and]
 by_cases k:r.2.2.1=key
 ·have k2:(r.2.2.1==key)=true:=by simpa using k
  by_cases c1:r.1=1
  ·have d1:(r.1 != 1)=false:=by simpa using c1
   simp only[d1,k2,nZ,cF]
   rw[if_pos ⟨.inl c1,k⟩,k]
  ·have d1:(r.1 != 1)=true:=by simpa using c1
   by_cases c4:r.1=4
   ·have d4:(r.1 != 4)=false:=by simpa using c4
    simp only[d1,d4,k2,nZ,cF,cT]
    rw[if_pos ⟨.inr c4,k⟩,k]
   ·have d4:(r.1 != 4)=true:=by simpa using c4
    simp only[d1,d4,cT]
    rw[if_neg (by intro z;exact z.1.elim c1 c4)]
 ·have k2:(r.2.2.1==key)=false:=by simpa using k
  rw[if_neg (fun z=>k z.2)]
  cases (r.1 != 1)<;>cases (r.1 != 4)<;>simp only[k2,nF,cF,cT]
theorem φ8g (s:φ1E) (d:φN) (key:List UInt8) (h:dlim d) (hu:φJ d.1<1000000000) (hs:s.2.1.length<2 ^ 62):ψ1a.f s d key=some (getP s d key):=by
 unfold ψ1a.f getP
 rw[φBC s.2.1 key hs,bS]
 generalize φ2O s.2.1 key=g at *
 obtain ⟨e,is⟩:=g
 simp only
 cases is
 ·rfl
 have hl:=φ6d d (φs e.2.1) h
 simp only[nZ,cF,φAH,bS,φAQ d _ h,φ9l (φm d (φs e.2.1)).1 e.2.2.1 e.2.2.2.1 (show (φm d (φs e.2.1)).1.length<1000000000 by omega),Bool.true_eq_false,if_false]
 have hno:(φm d (φs e.2.1)).2=false→φ1n (φm d (φs e.2.1)).1 e.2.2.1 e.2.2.2.1=(φ12,false):=fun hf=>by
  have:(φm d (φs e.2.1)).1=[]:=by
   unfold φm at hf ⊢
   split
   ·rfl
   ·rename_i c
    rw[if_neg c] at hf
    split
    ·rename_i i hi;rw[hi] at hf;simp at hf
    ·rfl
  rw[this];exact φ9B _ _
 generalize φ1n (φm d (φs e.2.1)).1 e.2.2.1 e.2.2.2.1=r at *
 cases hf:(φm d (φs e.2.1)).2
 ·rw[hno hf];simp
 obtain ⟨r,ok⟩:=r
 simp only[nZ,cF]
 cases ok
 ·simp
 simp only[nZ,cF,true_and]
 by_cases k:r.2.2.1=key
 ·have k2:(r.2.2.1==key)=true:=by simpa using k
  simp only[k2,nZ,cF]
  by_cases c1:r.1=1
  ·have d1:(r.1 != 1)=false:=by simpa using c1
   simp only[d1,cF]
   rw[if_pos ⟨.inl c1,k⟩]
  ·have d1:(r.1 != 1)=true:=by simpa using c1
   by_cases c4:r.1=4
   ·have d4:(r.1 != 4)=false:=by simpa using c4
    simp only[d1,d4,cF,cT]
    rw[if_pos ⟨.inr c4,k⟩]
   ·have d4:(r.1 != 4)=true:=by simpa using c4
    simp only[d1,d4,cT]
    rw[if_neg (by intro z;exact z.1.elim c1 c4)]
 ·have k2:(r.2.2.1==key)=false:=by simpa using k
  simp only[k2,nF,cT]
  rw[if_neg (fun z=>k z.2)]
theorem φA3 {x1:φN} (hb:φr x1≤1048576):φJ x1.1<1000000000:=by
 have h1:φJ x1.1≤sumN φg x1.1:=φ4a (fun f=>by unfold φg;omega) _
 unfold φr φB at hb
 omega
theorem φAt {a:Nat} (h:a<1000000000001):(a+1) * 16≤140737488355328:=by omega
theorem φBE (l:List φ1o) (hl:l.length<1000000000):ψ3.f l=some (l.map (·.1)):=by
 have key:=φa (step:=ψ3.l0) (fun n (acc:List (List UInt8))=>(acc,l,(l.length:Int),(n:Int))) l.length (fun n acc=>acc++(l.drop n).map (·.1)) (fun n acc=>acc.length=n)
  (fun rec n acc hn ha ih=>by
   rcases κ1 n l.length with h | h
   ·have hw:=φC (show n+1<9223372036854775808 by omega)
    have hb:(acc.length+([l[n].1]:List (List UInt8)).length) * 16≤140737488355328:=φAt (by omega)
    have ih:=ih (acc++[l[n].1]) h (by rw[lA,ha];rfl)
    simp only[ψ3.l0,oL,h,dT,cT,φ8,φH,φ6 h,hb,hw,ih]
    rw[dG h,κC,aA];rfl
   ·have:n=l.length:=by omega
    subst this
    simp[ψ3.l0])
  (by omega) 0 [] (κB _) rfl
 have key:lp ψ3.l0 ([],l,(l.length:Int),0)=_:=key
 unfold ψ3.f
 rw[key,bS]
 simp
noncomputable def φT (s:φ1E) (d:φN):List φ1o→List φ1R→List φ1R×Int
 | [],acc=>(acc,0)
 | e::r,acc=>if (getP s d e.1).2≠0 then ([],(getP s d e.1).2) else φT s d r (acc++[(getP s d e.1).1])
noncomputable def φ2Z (s:φ1E) (d:φN):List φ1R×Int:=φT s d s.2.1 []
theorem φ6F (s:φ1E) (d:φN):∀(l:List φ1o) (acc:List φ1R),(φT s d l acc).1.length≤acc.length+l.length
 | [],acc=>by simp[φT]
 | e::r,acc=>by
  unfold φT;split
  ·simp
  ·have:=φ6F s d r (acc++[(getP s d e.1).1])
   simp only[lA,lC,lN] at *;omega
theorem φBt (s:φ1E) (d:φN):(φ2Z s d).1.length≤s.2.1.length:=by
 have:=φ6F s d s.2.1 []
 unfold φ2Z
 simpa using this
theorem φ91 (s:φ1E) (d:φN) (h:dlim d) (hu:φJ d.1<1000000000) (hs:s.2.1.length<1000000000):ψ1V.f s d=some (φ2Z s d):=by
 have key:=φa (step:=ψ1V.l0) (fun n (acc:List φ1R)=>(s,d,acc,(n:Int))) s.2.1.length (fun n acc=>if (φT s d (s.2.1.drop n) acc).2=0 then .inl (φT s d (s.2.1.drop n) acc).1 else .inr ([],(φT s d (s.2.1.drop n) acc).2)) (fun n acc=>acc.length=n)
  (fun rec n acc hn ha ih=>by
   rcases κ1 n s.2.1.length with h1 | h1
   ·have hw:=φC (show n+1<9223372036854775808 by omega)
    rw[dG h1]
    simp only[ψ1V.l0,oL,h1,dT,cT,φ8,φH,φ6 h1,hw,φ8g s d _ h hu (show s.2.1.length<2 ^ 62 by omega),bS,φT]
    by_cases c:(getP s d (s.2.1[n]).1).2=0
    ·have c1:((getP s d (s.2.1[n]).1).2 != 0)=false:=by simpa using c
     have hb:(acc.length+([(getP s d (s.2.1[n]).1).1]:List φ1R).length) * 40≤140737488355328:=φ8U (by omega)
     have ih:=ih (acc++[(getP s d (s.2.1[n]).1).1]) h1 (by rw[lA,ha];rfl)
     simp only[c1,cF,hb,dT,cT,ih,c,ne_eq,not_true_eq_false,if_false,bne_self_eq_false]
    ·have c1:((getP s d (s.2.1[n]).1).2 != 0)=true:=by simpa using c
     simp only[c1,cT,c,ne_eq,not_false_eq_true,if_true,if_false]
   ·have:n=s.2.1.length:=by omega
    subst this
    simp[ψ1V.l0,φT])
  (by omega) 0 [] (κB _) rfl
 have key:lp ψ1V.l0 (s,d,[],0)=_:=key
 unfold ψ1V.f φ2Z
 rw[key,bS,List.drop_zero]
 have hz:∀(l:List φ1o) (acc:List φ1R),(φT s d l acc).2≠0→(φT s d l acc).1=[]:=by
  intro l
  induction l with
  | nil=>intro acc hh;simp[φT] at hh
  | cons e r ih=>
   intro acc hh
   unfold φT at hh ⊢
   split
   ·rfl
   ·rename_i c;rw[if_neg c] at hh;exact ih _ hh
 have hz':=hz s.2.1 []
 generalize φT s d s.2.1 []=R at hz' ⊢
 obtain ⟨L,c⟩:=R
 by_cases e:c=0
 ·subst e;rfl
 ·have:=hz' e
  simp only at this
  subst this
  simp[e]
theorem φ8d (s:φ1E) (d:φN) (h:dlim d) (hu:φJ d.1<1000000000) (hs:s.2.1.length<1000000000):ψ5.f s d=some (φ2Z s d):=by
 have hkl:(s.2.1.map (·.1)).length=s.2.1.length:=lM _
 have key:=φa (step:=ψ5.l0) (fun n (acc:List φ1R)=>(s,d,acc,s.2.1.map (·.1),((s.2.1.map (·.1)).length:Int),(n:Int))) s.2.1.length (fun n acc=>if (φT s d (s.2.1.drop n) acc).2=0 then .inl (φT s d (s.2.1.drop n) acc).1 else .inr ([],(φT s d (s.2.1.drop n) acc).2)) (fun n acc=>acc.length=n)
  (fun rec n acc hn ha ih=>by
   rcases κ1 n s.2.1.length with h1 | h1
   ·have hw:=φC (show n+1<9223372036854775808 by omega)
    have h2:n<(s.2.1.map (·.1)).length:=by rw[hkl];exact h1
    rw[dG h1]
    simp only[ψ5.l0,oL,h2,dT,cT,φ8,φH,φ6 h2,List.getElem_map,hw,φ9S s d _ h hu (show s.2.1.length<2 ^ 62 by omega),bS,φT]
    by_cases c:(getP s d (s.2.1[n]).1).2=0
    ·have c1:((getP s d (s.2.1[n]).1).2 != 0)=false:=by simpa using c
     have hb:(acc.length+([(getP s d (s.2.1[n]).1).1]:List φ1R).length) * 40≤140737488355328:=φ8U (by omega)
     have ih:=ih (acc++[(getP s d (s.2.1[n]).1).1]) h1 (by rw[lA,ha];rfl)
     simp only[c1,cF,hb,dT,cT,ih,c,ne_eq,not_true_eq_false,if_false,bne_self_eq_false]
    ·have c1:((getP s d (s.2.1[n]).1).2 != 0)=true:=by simpa using c
     simp only[c1,cT,c,ne_eq,not_false_eq_true,if_true,if_false]
   ·have:n=s.2.1.length:=by omega
    subst this
    simp[ψ5.l0,φT])
  (by omega) 0 [] (κB _) rfl
 have key:lp ψ5.l0 (s,d,[],s.2.1.map (·.1),((s.2.1.map (·.1)).length:Int),0)=_:=key
 unfold ψ5.f φ2Z
 rw[φBE _ hs,bS,key,bS,List.drop_zero]
 have hz:∀(l:List φ1o) (acc:List φ1R),(φT s d l acc).2≠0→(φT s d l acc).1=[]:=by
  intro l
  induction l with
  | nil=>intro acc hh;simp[φT] at hh
  | cons e r ih=>
   intro acc hh
   unfold φT at hh ⊢
   split
   ·rfl
   ·rename_i c;rw[if_neg c] at hh;exact ih _ hh
 have hz':=hz s.2.1 []
 generalize φT s d s.2.1 []=R at hz' ⊢
 obtain ⟨L,c⟩:=R
 by_cases e:c=0
 ·subst e;rfl
 ·have:=hz' e
  simp only at this
  subst this
  simp[e]
structure SD (x0:φ1E) (x1:φN):Prop where
 l1:x1.1.length≤1048576
 l2:x0.1.2.length≤1048576
 l3:x0.2.1.length≤1048576
 hd:dlim x1
 hu:φJ x1.1<1000000000
 dl:dl 1048577 x1
 xs:φ4b x0
 xd:φ3u x1
 ms:φ2f x0
 md:φ3H x1
 c0:1+((φt x0:Nat):Int)<1000000000000
 c1:1+((φt x0:Nat):Int)+((φ1Z x1:Nat):Int)<1000000000000
theorem φAp {x0:φ1E} {x1:φN} (k1:φ2F x1) (hb:φ15 x0≤1048576) (hb1:φr x1≤1048576):SD x0 x1:=by
 have l1:x1.1.length≤1048576:=by unfold φr φB at hb1;omega
 have l2:x0.1.2.length≤1048576:=by unfold φ15 φ21 φB at hb;omega
 have l3:x0.2.1.length≤1048576:=by unfold φ15 φB at hb;omega
 have hm:φ2f x0:=by constructor<;>first | omega | (show _<_;omega)
 refine ⟨l1,l2,l3,φA9 k1 hb1,φA3 hb1,φB6 hb1,by constructor<;>first | omega | (show _<_;omega),show _<_ by omega,hm,show _<_ by omega,?_,?_⟩
 ·unfold φt φ1d;omega
 ·unfold φt φ1d φ1Z;omega
structure RS (y0:φ1E) (y1:φN):Prop where
 xs:φ4b y0
 xd:φ3u y1
 ms:φ2f y0
 md:φ3H y1
 c0:1+((φt y0:Nat):Int)<1000000000000
 c1:1+((φt y0:Nat):Int)+((φ1Z y1:Nat):Int)<1000000000000
theorem φBQ {y0:φ1E} {y1:φN} (l1:y1.1.length≤100000000) (l2:y0.1.2.length≤100000000) (l3:y0.2.1.length≤100000000):RS y0 y1:=by
 have hm:φ2f y0:=by constructor<;>first | omega | (show _<_;omega)
 refine ⟨by constructor<;>first | omega | (show _<_;omega),show _<_ by omega,hm,show _<_ by omega,?_,?_⟩
 ·unfold φt φ1d;omega
 ·unfold φt φ1d φ1Z;omega
abbrev EngT:=Bool×φ1E×φN×List TxnT
noncomputable def mapE (e:EngT):List φ1R×Int:=bif !e.1 then ([],6) else φ2Z e.2.1 e.2.2.1
def sumC {X:Type} (c:X→Nat):List X→Nat
 | []=>0
 | x::r=>c x+sumC c r
def φ1f {X:Type} (mk:Int→X→X) (c:X→Nat):List X→Int→List X
 | [],_=>[]
 | x::r,k=>mk k x::φ1f mk c r (k+(c x:Int))
theorem φ4F {X:Type} (mk:Int→X→X) (c:X→Nat):∀(l:List X) (k:Int),(φ1f mk c l k).length=l.length
 | [],_=>rfl
 | x::r,k=>by simp[φ1f,φ4F mk c r]
theorem φ5R {X:Type} (c:X→Nat):∀(l:List X) (n:Nat) (h:n<l.length),sumC c (l.take (n+1))=sumC c (l.take n)+c l[n]
 | [],n,h=>by simp at h
 | x::r,0,h=>by simp[sumC]
 | x::r,n+1,h=>by
  have:=φ5R c r n (by simpa using h)
  simp only[List.take_succ_cons,sumC,List.getElem_cons_succ,this]
  omega
theorem φ88 {X:Type} (c:X→Nat):∀(l:List X) (n:Nat),sumC c (l.take n)≤sumC c l
 | [],n=>by simp
 | x::r,0=>by simp[sumC]
 | x::r,n+1=>by
  have:=φ88 c r n
  simp only[List.take_succ_cons,sumC]
  omega
theorem φ7z {X:Type} (mk:Int→X→X) (c:X→Nat):∀(l:List X) (k:Int) (n:Nat) (h:n<l.length),(φ1f mk c l k)[n]'(by rw[φ4F];exact h)=mk (k+(sumC c (l.take n):Nat)) l[n]
 | [],k,n,h=>by simp at h
 | x::r,k,0,h=>by simp[φ1f,sumC]
 | x::r,k,n+1,h=>by
  have:=φ7z mk c r (k+(c x:Int)) n (by simpa using h)
  simp only[φ1f,List.getElem_cons_succ,this,List.take_succ_cons,sumC]
  congr 1
  omega
theorem φCE {X:Type} {step:(List X×Int×Int→Option (List X×Int))→List X×Int×Int→Option (List X×Int)} (mk:Int→X→X) (c:X→Nat) (P:X→Prop) (l:List X) (hl:l.length<2 ^ 62) (hP:∀x∈l,P x)
  (hs:∀rec (r:List X) (k:Int) (n:Nat),r.length=l.length→(h:n<r.length)→P r[n]→0<k→k+(c r[n]:Int)<1000000000000→step rec (r,k,(n:Int))=rec (r.set n (mk k r[n]),k+(c r[n]:Int),((n+1:Nat):Int)))
  (he:∀rec (r:List X) (k:Int),r.length=l.length→step rec (r,k,(l.length:Int))=some (r,k)) (k:Int) (h0:0<k) (h1:k+(sumC c l:Nat)<1000000000000) :
  lp step (l,k,0)=some (φ1f mk c l k,k+(sumC c l:Nat)):=by
 have key:=φa (step:=step) (fun n (s:List X×Int)=>(s.1,s.2,(n:Int))) l.length (fun n s=>(φ1f mk c l k,k+(sumC c l:Nat)))
  (fun n s=>s.1.length=l.length∧s.2=k+(sumC c (l.take n):Nat)∧s.1.take n=(φ1f mk c l k).take n∧s.1.drop n=l.drop n)
  (fun rec n s hn hi ih=>by
   obtain ⟨i1,i2,i3,i4⟩:=hi
   rcases κ1 n l.length with h | h
   ·have hg:s.1[n]'(by omega)=l[n]:=by
     have:=i4
     rw[dG (by omega),dG h,List.cons.injEq] at this
     exact this.1
    have hb:=φ88 c l (n+1)
    rw[φ5R c l n h] at hb
    rw[hs rec s.1 s.2 n i1 (by omega) (by rw[hg];exact hP _ (gM h)) (by omega) (by rw[hg];omega)]
    refine ih (s.1.set n (mk s.2 (s.1[n]'(by omega))),s.2+(c (s.1[n]'(by omega)):Int)) h ⟨by simp[i1],?_,?_,?_⟩
    ·show s.2+_=_;rw[hg,i2,φ5R c l n h];omega
    ·show (s.1.set n _).take (n+1)=_
     rw[κ8 (by simp;omega),κ8 (by rw[φ4F];omega),List.take_set_of_le (κD _),i3,φ7z mk c l k n h]
     simp[i2,hg]
    ·show (s.1.set n _).drop (n+1)=_
     rw[List.drop_set_of_lt (by omega)]
     have:=i4
     rw[dG (by omega),dG h,List.cons.injEq] at this
     exact this.2
   ·have:n=l.length:=by omega
    subst this
    rw[he rec s.1 s.2 i1,i2,List.take_length]
    rw[←i1,List.take_length,i1,←φ4F mk c l k,List.take_length] at i3
    rw[i3])
  hl 0 (l,k) (κB _) ⟨rfl,by simp[sumC],by simp,by simp⟩
 simpa using key
theorem φ9f (l:List (Bool×List (List UInt8×Int)×List (List UInt8×Bool×List UInt8))) (left:Int) (h0:0≤left) (h1:left≤1048576) (hx:okL φ26 l):ψ1B.f l left=some (szr (φB φO l) left):=by
 have hl:=φo hx.1
 unfold ψ1B.f
 simp only[Bool.cond_decide]
 rw[φ2 (by omega) (by omega)]
 by_cases c:left - (l.length:Int)<0
 ·rw[if_pos c];unfold szr φB;rw[if_neg (by omega)]
 rw[if_neg c,φ3R φO l (by omega) (fun rec n s hn i0 i1=>?_) (fun rec s=>?_) _ (by omega) (by omega)]
 ·rw[bS];unfold szr φB
  by_cases d:(sumN φO l:Int)≤left - l.length
  ·rw[if_pos d,if_pos (by omega)];show some _=some _;congr 1;omega
  ·rw[if_neg d,if_neg (by omega)];rfl
 ·have hb:=hx.2 l[n] (gM hn)
  simp only[ψ1B.l0,oL,hn,dT,cT,φ8,φH,φ6 hn,φC (show n+1<9223372036854775808 by omega),φp,φAe _ s i0 i1 hb,bS,φ13]
  by_cases d:(φO l[n]:Int)≤s
  ·simp only[d,dT,nZ,cF,if_true,φ1A d]
  ·simp only[d,dF,nF,cT,if_false]
 ·simp[ψ1B.l0]
theorem φ9X (l:List (Bool×List (List UInt8×Int)×List (List UInt8×Bool×List UInt8))) (hx:okL φ26 l) (hs:φB φO l≤1048576):ψ1Q.f l=some l:=by
 have hl:=φo hx.1
 unfold ψ1Q.f
 have hs2:=hs
 unfold φB at hs2
 rw[φ2z,φ2x (by omega) (by omega)]
 simp only[]
 rw[φ2u l (by omega) (fun rec r n h1 h2=>?_) (fun rec r=>?_) _ (by simp)]
 ·rfl
 ·have h3:n<r.length:=by omega
  simp only[ψ1Q.l0,oL,h1,h3,dT,cT,φ8,φH,φ6 h1,φC (show n+1<9223372036854775808 by omega),tN,φp,φ8n _ (hx.2 l[n] (gM h1)) (Nat.le_trans (φ3k φO (gM h1)) (by omega)),bS]
 ·simp[ψ1Q.l0]
theorem φC2 (x:Bool×((Int×List (Int))×List (List UInt8×Int×Int×Int×Int)×Int×Int×Int)×(List (List UInt8×List UInt8×Int)×Int×Int×Bool)×List (Bool×List (List UInt8×Int)×List (List UInt8×Bool×List UInt8))) (left:Int) (h0:0≤left) (h1:left≤1048576) (hx:φ3M x):ψy.f x left=some (szr (φ1t x) left):=by
 unfold φ3M at hx
 unfold ψy.f φ1t
 rw[φ8a (x.2.1) left (by omega) (by omega) hx.1,bS,φ13]
 by_cases c0:((φ15 x.2.1:Nat):Int)≤left
 rotate_left
 ·simp only[c0,dF,nF,cT]
  all_goals (unfold szr;rw[if_neg (by omega)])
 simp only[c0,dT,nZ,cF]
 all_goals (rw[φ1A c0])
 rw[φ8o (x.2.2.1) (left - ((φ15 x.2.1:Nat):Int)) (by omega) (by omega) hx.2.1,bS,φ13]
 by_cases c1:((φr x.2.2.1:Nat):Int)≤left - ((φ15 x.2.1:Nat):Int)
 rotate_left
 ·simp only[c1,dF,nF,cT]
  all_goals (unfold szr;rw[if_neg (by omega)])
 simp only[c1,dT,nZ,cF]
 all_goals (rw[φ1A c1])
 rw[φ9f (x.2.2.2) (left - ((φ15 x.2.1:Nat):Int) - ((φr x.2.2.1:Nat):Int)) (by omega) (by omega) hx.2.2,bS,φ13]
 by_cases c2:((φB φO x.2.2.2:Nat):Int)≤left - ((φ15 x.2.1:Nat):Int) - ((φr x.2.2.1:Nat):Int)
 rotate_left
 ·simp only[c2,dF,nF,cT]
  all_goals (unfold szr;rw[if_neg (by omega)])
 simp only[c2,dT,nZ,cF]
 all_goals (rw[φ1A c2])
 all_goals (unfold szr;rw[if_pos (by omega)])
 all_goals first | done | (congr 1;omega)
theorem φBa (x:Bool×((Int×List (Int))×List (List UInt8×Int×Int×Int×Int)×Int×Int×Int)×(List (List UInt8×List UInt8×Int)×Int×Int×Bool)×List (Bool×List (List UInt8×Int)×List (List UInt8×Bool×List UInt8))) (hx:φ3M x) (hs:φ1t x≤1048576):ψ1D.f x=some x:=by
 unfold φ3M at hx
 unfold φ1t at hs
 unfold ψ1D.f
 simp only[φAB (x.2.1) hx.1 (by omega),φ8w (x.2.2.1) hx.2.1 (by omega),φ9X (x.2.2.2) hx.2.2 (by first | omega | (unfold φB at hs;omega)),bS]
def φ7G (x:Bool×((Int×List (Int))×List (List UInt8×Int×Int×Int×Int)×Int×Int×Int)×(List (List UInt8×List UInt8×Int)×Int×Int×Bool)×List (Bool×List (List UInt8×Int)×List (List UInt8×Bool×List UInt8))):Prop:=φ4b (x.2.1)∧φ3u (x.2.2.1)∧(x.2.2.2.length<2 ^ 62∧∀y∈x.2.2.2,φ4y y)
theorem φ9i (x y:Bool×((Int×List (Int))×List (List UInt8×Int×Int×Int×Int)×Int×Int×Int)×(List (List UInt8×List UInt8×Int)×Int×Int×Bool)×List (Bool×List (List UInt8×Int)×List (List UInt8×Bool×List UInt8))) (hx:φ7G x):ψU.f x y=some (decide (x=y)):=by
 obtain ⟨h1,h2,h3⟩:=hx
 obtain ⟨a0,a1,a2,a3⟩:=x
 obtain ⟨b0,b1,b2,b3⟩:=y
 unfold ψU.f
 simp only[φ9E a1 b1 h1,φ9M a2 b2 h2,φBX a3 b3 h3.1 h3.2,bS]
 by_cases e0:a0=b0
 rotate_left
 ·have d2:(a0==b0)=false:=by simpa using e0
  have d3:(a0 != b0)=true:=by simpa using e0
  simp[e0,d2,d3]
 by_cases e1:a1=b1
 rotate_left
 ·simp[e1]
 by_cases e2:a2=b2
 rotate_left
 ·simp[e2]
 by_cases e3:a3=b3
 rotate_left
 ·simp[e3]
 simp[e0,e1,e2,e3]
noncomputable def φ3y (k:Int) (x:TxnT):TxnT:=(Int.tmod k 3==0,φU φ5e 2 x.2.1 (k+1),φU φ67 3 x.2.2 (k+1+2 * (x.2.1.length:Int)))
def φ22 (x:TxnT):Nat:=1+2 * x.2.1.length+3 * x.2.2.length
theorem φB5 (l:List TxnT) (k:Int) (hl:l.length<2 ^ 62) (hP:∀x∈l,φ4D x) (h0:0<k) (h1:k+(sumC φ22 l:Nat)<1000000000000):ψw.f l k=some (k+(sumC φ22 l:Nat),φ1f φ3y φ22 l k):=by
 unfold ψw.f
 rw[φCE φ3y φ22 φ4D l hl hP (fun rec r k n hr h hp h0 h1=>?_) (fun rec r k hr=>?_) k h0 h1]
 ·rfl
 ·have hn:n<4611686018427387904:=by omega
  have h1':k+((1+2 * r[n].2.1.length+3 * r[n].2.2.length:Nat):Int)<1000000000000:=h1
  have e1:w64 (k+1)=k+1:=by rw[φ2 (by omega) (by omega)]
  have e2:k+((1+2 * r[n].2.1.length+3 * r[n].2.2.length:Nat):Int)=k+1+2 * (r[n].2.1.length:Int)+3 * (r[n].2.2.length:Int):=by omega
  have m1:=φAU r[n].2.1 (k+1) hp.1 (by omega) (by omega)
  have m2:=φB2 r[n].2.2 (k+1+2 * (r[n].2.1.length:Int)) hp.2 (by omega) (by omega)
  show _=rec (_,k+((1+2 * r[n].2.1.length+3 * r[n].2.2.length:Nat):Int),_)
  rw[e2]
  simp only[ψw.l0,oL,h,dT,cT,φ8,List.length_set,tN,φ2i h,φH,φ6 h,List.set_set,φC (show n+1<9223372036854775808 by omega),e1,m1,m2,bS,φ3y]
 ·simp[ψw.l0,hr]
noncomputable def φAZ (k:Int) (x:EngT):EngT:=(x.1,φ5d k x.2.1,φ62 (k+((φt x.2.1:Nat):Int)) x.2.2.1,φ1f φ3y φ22 x.2.2.2 (k+((φt x.2.1:Nat):Int)+((φ1Z x.2.2.1:Nat):Int)))
def φ3e (x:EngT):Nat:=φt x.2.1+φ1Z x.2.2.1+sumC φ22 x.2.2.2
structure EL (x:EngT):Prop where
 lim:φ7G x
 ms:φ2f x.2.1
 md:φ3H x.2.2.1
 tl:x.2.2.2.length<2 ^ 62
 tm:∀t∈x.2.2.2,φ4D t
 cc:1+((φ3e x:Nat):Int)<1000000000000
theorem φ9Y {x:EngT} (l1:x.2.2.1.1.length≤100000000) (l2:x.2.1.1.2.length≤100000000) (l3:x.2.1.2.1.length≤100000000) (l4:x.2.2.2.length≤100000000) (l5:∀t∈x.2.2.2,φ4D t) (l6:sumC φ22 x.2.2.2≤1000000000):EL x:=by
 have R:=φBQ (y0:=x.2.1) (y1:=x.2.2.1) l1 l2 l3
 refine ⟨⟨R.xs,R.xd,by omega,l5⟩,R.ms,R.md,by omega,l5,?_⟩
 unfold φ3e φt φ1d φ1Z;omega
theorem φ8Y {x:EngT} (h:EL x):ψm.f x 1=some (1+((φ3e x:Nat):Int),φAZ 1 x):=by
 have hc:=h.cc
 unfold φ3e at hc ⊢
 unfold ψm.f
 rw[φ9s x.2.1 1 h.ms (by omega) (by omega),bS]
 simp only
 rw[φ9u x.2.2.1 (1+((φt x.2.1:Nat):Int)) h.md (by omega) (by omega),bS]
 simp only
 rw[φB5 x.2.2.2 (1+((φt x.2.1:Nat):Int)+((φ1Z x.2.2.1:Nat):Int)) h.tl h.tm (by omega) (by omega),bS]
 exact congrArg some (Prod.ext (by simp only;omega) rfl)
theorem φ6W:∀l:List TxnT,sumC φ22 l≤l.length+3 * sumN φO l
 | []=>κB _
 | x::l=>by
  have:=φ6W l
  have h:2 * x.2.1.length+3 * x.2.2.length≤3 * φO x:=by unfold φO φB;omega
  show (1+2 * x.2.1.length+3 * x.2.2.length)+sumC φ22 l≤(l.length+1)+3 * (φO x+sumN φO l)
  omega
theorem φAE {l:List TxnT} {x:TxnT} (h:x∈l):x.2.1.length≤sumN φO l∧x.2.2.length≤sumN φO l:=by
 induction l with
 | nil=>simp at h
 | cons y l ih=>
  show _≤φO y+sumN φO l∧_≤φO y+sumN φO l
  rcases mc.1 h with k | k
  ·subst k
   have h1:x.2.1.length≤φO x:=by unfold φO φB;omega
   have h2:x.2.2.length≤φO x:=by unfold φO φB;omega
   omega
  ·have:=ih k;omega
theorem φAT (x0:EngT) (w0:wfD (.pair .bool (.pair (.pair (.pair (.int .i64) (.sl false (.int .i64))) (.pair (.sl false (.pair .str (.pair (.int .i64) (.pair (.int .i64) (.pair (.int .i64) (.int .i64)))))) (.pair (.int .i64) (.pair (.int .i64) (.int .i64))))) (.pair (.pair (.sl false (.pair .str (.pair .str (.int .i64)))) (.pair (.int .i64) (.pair (.int .i64) .bool))) (.sl false (.pair .bool (.pair (.sl false (.pair .str (.int .i64))) (.sl false (.pair .str (.pair .bool .str))))))))) x0):ψS.f x0=some true:=by
 have k0:=φ9W _ w0
 unfold ψS.f
 rw[φC2 x0 1048576 (by omega) (by omega) k0,bS,φ13]
 by_cases c0:((φ1t x0:Nat):Int)≤1048576
 rotate_left
 ·simp[c0]
 simp only[c0,dT,nZ,cF]
 have hb:φ1t x0≤1048576:=by omega
 have hbs:φ15 x0.2.1≤1048576:=by unfold φ1t at hb;omega
 have hbd:φr x0.2.2.1≤1048576:=by unfold φ1t at hb;omega
 have hbt:x0.2.2.2.length+sumN φO x0.2.2.2≤1048576:=by unfold φ1t φB at hb;omega
 have D:=φAp (x0:=x0.2.1) (x1:=x0.2.2.1) k0.2.1 hbs hbd
 have htb:=φ6W x0.2.2.2
 have hE:EL x0:=φ9Y (by have:=D.l1;omega) (by have:=D.l2;omega) (by have:=D.l3;omega) (by omega) (fun t ht=>by
  have:=φAE ht
  exact ⟨by omega,by omega⟩) (by omega)
 have hcc:=hE.cc
 have e1:ψ1W.f x0=some (mapE x0):=by
  unfold ψ1W.f mapE
  cases x0.1
  ·rfl
  ·simp only[nZ,cF,φ91 x0.2.1 x0.2.2.1 D.hd D.hu (by have:=D.l3;omega),bS]
 have e2:ψ6.f x0=some (mapE x0):=by
  unfold ψ6.f mapE
  cases x0.1
  ·rfl
  ·simp only[nZ,cF,φ8d x0.2.1 x0.2.2.1 D.hd D.hu (by have:=D.l3;omega),bS]
 have e3:(mapE x0).1.length≤1048576:=by
  unfold mapE
  cases x0.1
  ·simp
  ·exact Nat.le_trans (φBt x0.2.1 x0.2.2.1) D.l3
 generalize mapE x0=R at *
 obtain ⟨L,c⟩:=R
 have hL:L.length<2 ^ 62:=by simp only at e3;omega
 have hcL:1+3 * (L.length:Int)<1000000000000:=by simp only at e3;omega
 simp only[φBa _ k0 hb,e1,e2,φ9R L L hL,φ9i x0 x0 hE.lim,φ8Y hE,φ9d L 1 hL (by omega) hcL,φAY L 1 hL (by omega) hcL,bS,dT,nZ,cF,bne_self_eq_false]
 simp only[dnn (show (0:Int)≤1+((φ3e x0:Nat):Int) by omega),dnn (show (0:Int)≤1+3 * (L.length:Int) by omega),cF]
end Go.Rf.G
