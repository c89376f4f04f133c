import Derived.Test.YtofoicidlhjhiaaGreatDoorLShutLem3
open Option renaming bind_some→bS
open List renaming length_append→lA,append_assoc→aA,mem_cons_of_mem→mC,mem_append→mA,mem_append_right→mR,mem_append_left→mL,mem_cons→mc,drop_eq_getElem_cons→dG,length_take→lT,length_drop→lD,mem_map→mM,length_map→lM,length_cons→lC,length_nil→lN,getElem_mem→gM,map_append→mp,mem_singleton→mZ,mem_cons_self→κ1,take_succ_eq_append_getElem→κ3,length_singleton→κ5,append_nil→κ6,map_cons→κ8,nil_append→κA,drop_zero→κB,take_append_drop→κD,cons_append→κG,foldl_cons→κH,replicate→κI,flatMap_append→κK,nodup_append→κM,all_eq_true→κN,drop_left→κO,take_length→κQ,nodup_cons→κS,range'→κU,pairwise_cons→κZ,not_mem_nil→κc,flatten_cons→κd,foldl_append→κe
open Bool renaming and_eq_true→bA,eq_false_or_eq_true→bE,not_true→nZ,not_false→nF,true_and→tA,not_not→nn,false_eq_true→κ0,true_eq_false→κ7,false_and→κF,or_eq_false_iff→κJ,not_eq_true'→κL,and_true→κP,false_or→κR,or_eq_true→κY
open Int renaming toNat_natCast→tN,ofNat_lt→oL,le_refl→κT
open Nat renaming lt_or_ge→κ2,zero_le→κ4,le_refl→κ9,eq_of_beq_eq_true→κC,lt_of_lt_of_le→κE,zero_add→κV,pow_succ→κW,pow_le_pow_right→κX,mod_eq_of_lt→κb
open Array renaming length_toList→κa
set_option linter.unusedVariables false
set_option linter.unusedSimpArgs false
namespace Go.Rf.G
open Go Go.Rf
set_option synthInstance.maxSize 4000
theorem φGd (pre:List UInt8) (ns:List Int) (r:List UInt8) (hn:∀x∈ns,φ1E x) (hl:(pre++((ns.map varT).flatten++r)).length<1000000000) :
  ψ3D.f (pre++((ns.map varT).flatten++r)) (pre.length:Int) (ns.length:Int)=some (ns,(((pre++(ns.map varT).flatten).length:Nat):Int)):=by
 have hat:∀n,(pre++((ns.map varT).flatten++r)).drop (pre++((ns.take n).map varT).flatten).length=((ns.drop n).map varT).flatten++r:=fun n=>by
  have e:pre++((ns.map varT).flatten++r)=(pre++((ns.take n).map varT).flatten)++(((ns.drop n).map varT).flatten++r):=by
   simp only[aA]
   congr 1
   rw[←aA,←List.flatten_append,←mp,κD]
  rw[e,κO]
 have hnl:ns.length≤((ns.map varT).flatten).length:=by
  clear hl hat
  induction ns with
  | nil=>simp
  | cons x l ih=>
   have:=(φ3F (hn x κ1) []).2
   have:=ih (fun y hy=>hn y (mC _ hy))
   simp only[κ8,κd,lA,lC];omega
 generalize hT:pre++((ns.map varT).flatten++r)=T at *
 have hTl:T.length=pre.length+(((ns.map varT).flatten).length+r.length):=by rw[←hT];simp only[lA]
 have key:=φd (step:=ψ3D.l0) (fun n (_:Unit)=>(T,(((pre++((ns.take n).map varT).flatten).length:Nat):Int),(ns.length:Int),ns.take n,(n:Int))) ns.length (fun _ _=>.inl ((((pre++(ns.map varT).flatten).length:Nat):Int),ns)) (fun _ _=>True)
  (fun rec n _ hn' _ ih=>by
   rcases κ2 n ns.length with h1 | h1
   ·have hw:=φL (show n+1<9223372036854775808 by omega)
    have hin:=hn _ (gM h1)
    have hd:((ns.drop n).map varT).flatten=varT ns[n]++((ns.drop (n+1)).map varT).flatten:=by
     rw[dG h1];rfl
    have hta:(pre++((ns.take (n+1)).map varT).flatten).length=(pre++((ns.take n).map varT).flatten).length+(varT ns[n]).length:=by
     rw[κ3 h1,mp,List.flatten_append,lA,lA,lA]
     show _+(_+(varT ns[n]++[]).length)=_
     rw[κ6,Nat.add_assoc]
    have r3:=φ3F hin (((ns.drop (n+1)).map varT).flatten++r)
    have hv:=φm ns[n]
    have hdl:T.length - (pre++((ns.take n).map varT).flatten).length=(varT ns[n]).length+(((ns.drop (n+1)).map varT).flatten++r).length:=by
     have:=congrArg List.length (hat n)
     rw[lD,hd,aA] at this
     rw[this,lA]
    have hin2:(decide (0≤(((pre++((ns.take n).map varT).flatten).length:Nat):Int)) && decide ((((pre++((ns.take n).map varT).flatten).length:Nat):Int)≤(T.length:Int)))=true:=by
     simp only[bA,decide_eq_true_eq];omega
    have hb:((ns.take n).length+([ns[n]]:List Int).length) * 8≤140737488355328:=lim8 (by rw[lT];omega)
    have hi:ns.take n++[ns[n]]=ns.take (n+1):=(κ3 h1).symm
    have hwo:w64 ((((pre++((ns.take n).map varT).flatten).length:Nat):Int)+((varT ns[n]).length:Int))=(((pre++((ns.take (n+1)).map varT).flatten).length:Nat):Int):=by
     rw[φG (by omega) (by omega),hta];omega
    have hz:(((varT ns[n]).length:Int)==0)=false:=by
     have:=r3.2
     have:¬((varT ns[n]).length:Int)=0:=by omega
     simpa using this
    simp only[ψ3D.l0,oL,h1,dT,cT,hin2,tN,hat n,hd,aA]
    rw[φ2V _ (by rw[lA];omega),r3.1,bS]
    simp only[hz,cF,hb,dT,cT,hi,hwo,hw,ih () h1 trivial]
   ·have:n=ns.length:=by omega
    subst this
    simp[ψ3D.l0])
  (by omega) 0 () (κ4 _) trivial
 have key:lp ψ3D.l0 (T,(((pre++((ns.take 0).map varT).flatten).length:Nat):Int),(ns.length:Int),ns.take 0,0)=_:=key
 have h0:(pre++((ns.take 0).map varT).flatten).length=pre.length:=by simp
 rw[h0] at key
 have key:lp ψ3D.l0 (T,(pre.length:Int),(ns.length:Int),[],0)=_:=key
 unfold ψ3D.f
 rw[key,bS]
 simp only[φT]
theorem φCV (s:List UInt8) (a:Int) (n:Nat) (ha:0≤a∧a≤(s.length:Int)) (hn:n≤10) (hl:s.length<1000000000) :
  ∃l b,ψ3D.f s a (n:Int)=some (l,b)∧l.length=n∧(b=-1∨(0≤b∧b≤(s.length:Int))):=by
 have key:=φ5a (step:=ψ3D.l0) (a:=(s,a,(n:Int),[],0))
  (fun x=>∃(l:List Int) (p:Int),x=(s,p,(n:Int),l,(l.length:Int))∧0≤p∧p≤(s.length:Int)∧l.length≤n)
  (fun x=>11 - x.2.2.2.1.length)
  (fun b=>(∃(l:List Int) (p:Int),b=.inl (p,l)∧0≤p∧p≤(s.length:Int)∧l.length=n)∨b=.inr (κI n 0,-1))
  (fun rec x hx=>by
   obtain ⟨l,p,rfl,h1,h2,h3⟩:=hx
   by_cases c:l.length<n
   rotate_left
   ·left
    exact ⟨.inl (p,l),by simp[ψ3D.l0,c],.inl ⟨l,p,rfl,h1,h2,by omega⟩⟩
   have hin:(decide (0≤p) && decide (p≤(s.length:Int)))=true:=by simp only[bA,decide_eq_true_eq];omega
   have v3:=φ5O (s.drop p.toNat)
   rw[lD] at v3
   have hw:=φL (show l.length+1<9223372036854775808 by omega)
   have hwp:w64 (p+(φk (s.drop p.toNat)).2)=p+(φk (s.drop p.toNat)).2:=φG (by omega) (by omega)
   have hb:(l.length+([(φk (s.drop p.toNat)).1]:List Int).length) * 8≤140737488355328:=lim8 (by omega)
   have hrv:=φ2V (s.drop p.toNat) (by rw[lD];omega)
   by_cases c2:(φk (s.drop p.toNat)).2=0
   ·left
    have d2:((φk (s.drop p.toNat)).2==0)=true:=by simpa using c2
    have d3:(decide (0≤(n:Int)) && decide (8 * (n:Int)≤140737488355328))=true:=by simp only[bA,decide_eq_true_eq];omega
    refine ⟨.inr (κI n 0,-1),?_,.inr rfl⟩
    simp only[ψ3D.l0,oL,c,dT,cT,hin,hrv,bS,d2,beq_self_eq_true,d3,tN]
   ·right
    have d2:((φk (s.drop p.toNat)).2==0)=false:=by simpa using c2
    refine ⟨(s,p+(φk (s.drop p.toNat)).2,(n:Int),l++[(φk (s.drop p.toNat)).1],((l.length+1:Nat):Int)),⟨l++[(φk (s.drop p.toNat)).1],p+(φk (s.drop p.toNat)).2,by simp only[lA,κ5],by omega,by omega,by simp only[lA,κ5];omega⟩,by simp only[lA,κ5];omega,?_⟩
    simp only[ψ3D.l0,oL,c,dT,cT,hin,hrv,bS,d2,cF,hb,hwp,hw])
  ⟨[],a,rfl,ha.1,ha.2,by simp⟩ (by simp)
 obtain ⟨b,eb,hb⟩:=key
 unfold ψ3D.f
 rw[eb,bS]
 rcases hb with ⟨l,p,rfl,h1,h2,h3⟩ | rfl
 ·simp only[φT];exact ⟨l,p,rfl,h3,.inr ⟨h1,h2⟩⟩
 ·simp only[φZ];exact ⟨_,_,rfl,by simp,.inl rfl⟩
theorem φKY {s:List UInt8} {h:φ13} (k:φ3e s h):ψ2l.f s=some (h,true):=by
 obtain ⟨es,h4⟩:=φCs k
 obtain ⟨n1,n2,n3,n4⟩:=φA6 k.1
 have hbl:=φ6z k.1
 have hsh:=k.2
 obtain ⟨z,m,l⟩:=h
 simp only at n1 n2 n3 n4
 have hcnt:φ1E (l.length:Int):=⟨by omega,by omega⟩
 generalize hF:fix4 (crcT (φ1e (z,m,l)))=F at *
 have hbd:φ1e (z,m,l)=(([z,m,(l.length:Int)]:List Int).map varT).flatten++(l.map entT).flatten:=by
  unfold φ1e;simp
 rw[hbd] at es hbl
 have hsl:s.length≤1004:=by rw[es,lA,h4];omega
 have v0:=φGd F [z,m,(l.length:Int)] (l.map entT).flatten (by
  intro x hx
  simp only[mc,κc,or_false] at hx
  rcases hx with rfl | rfl | rfl
  ·exact n1
  ·exact n2
  ·exact hcnt) (by rw[←es];omega)
 rw[←es,h4] at v0
 have v0:ψ3D.f s 4 3=_:=v0
 have hfl:∀n,((l.drop n).map entT).flatten.length≤s.length:=fun n=>by
  have e:l.map entT=(l.take n).map entT++(l.drop n).map entT:=by rw[←mp,κD]
  rw[es,e,List.flatten_append]
  simp only[lA];omega
 have hat:∀n,s.drop (s.length - ((l.drop n).map entT).flatten.length)=((l.drop n).map entT).flatten:=fun n=>by
  have e:l.map entT=(l.take n).map entT++(l.drop n).map entT:=by rw[←mp,κD]
  have es2:s=(F++((([z,m,(l.length:Int)]:List Int).map varT).flatten++((l.take n).map entT).flatten))++((l.drop n).map entT).flatten:=by
   rw[es,e,List.flatten_append];simp only[aA]
  have hl:s.length - ((l.drop n).map entT).flatten.length=(F++((([z,m,(l.length:Int)]:List Int).map varT).flatten++((l.take n).map entT).flatten)).length:=by
   have:=congrArg List.length es2
   rw[lA] at this;omega
  rw[hl]
  conv=>lhs;rw[es2]
  exact κO
 have key:=φd (step:=ψ2l.l0) (fun n (_:Unit)=>(s,((0,0,[]):φ13),([z,m,(l.length:Int)]:List Int),(((s.length - ((l.drop n).map entT).flatten.length:Nat)):Int),((z,m,l.take n):φ13),(n:Int))) l.length (fun _ _=>.inl (s,(0,0,[]),(z,m,l))) (fun _ _=>True)
  (fun rec n _ hn _ ih=>by
   have hrd:rdA 0 ([z,m,(l.length:Int)]:List Int) 2=(l.length:Int):=rfl
   rcases κ2 n l.length with h1 | h1
   ·have hw:=φL (show n+1<9223372036854775808 by omega)
    obtain ⟨k0,k1,k2,k3,k5⟩:=n4 _ (gM h1)
    have hk0:φ1E (l[n].1.length:Int):=⟨by omega,by omega⟩
    have hd:((l.drop n).map entT).flatten=entT l[n]++((l.drop (n+1)).map entT).flatten:=by
     rw[dG h1];rfl
    have hf0:=hfl n
    have hf1:=hfl (n+1)
    generalize hR:((l.drop (n+1)).map entT).flatten=R at *
    generalize hD:((l.drop n).map entT).flatten=D at *
    have hat0:=hat n
    rw[hD] at hat0
    rw[φBh] at hd
    have hlen:=congrArg List.length hd
    simp only[lA] at hlen
    have t0:=φ6m l[n].1 (varT l[n].2.1++(varT l[n].2.2.1++(varT l[n].2.2.2.1++(varT l[n].2.2.2.2++R)))) hk0 (by simp only[lA];omega)
    rw[←hd] at t0
    have t1:=φGd [] [l[n].2.1,l[n].2.2.1,l[n].2.2.2.1,l[n].2.2.2.2] R (by
     intro x hx
     simp only[mc,κc,or_false] at hx
     rcases hx with rfl | rfl | rfl | rfl
     ·exact k1
     ·exact k2
     ·exact k3
     ·exact k5) (by simp only[κA,κ8,List.map_nil,κd,List.flatten_nil,κ6,lA];omega)
    have e4:([]:List UInt8)++((([l[n].2.1,l[n].2.2.1,l[n].2.2.2.1,l[n].2.2.2.2]:List Int).map varT).flatten++R)=varT l[n].2.1++(varT l[n].2.2.1++(varT l[n].2.2.2.1++(varT l[n].2.2.2.2++R))):=by simp
    rw[e4] at t1
    have t1:ψ3D.f (varT l[n].2.1++(varT l[n].2.2.1++(varT l[n].2.2.2.1++(varT l[n].2.2.2.2++R)))) 0 4=_:=t1
    have hE:((([]:List UInt8)++(([l[n].2.1,l[n].2.2.1,l[n].2.2.2.1,l[n].2.2.2.2]:List Int).map varT).flatten).length:Nat)=(varT l[n].2.1).length+((varT l[n].2.2.1).length+((varT l[n].2.2.2.1).length+(varT l[n].2.2.2.2).length)):=by
     simp
    rw[hE] at t1
    have hT:(varT l[n].2.1++(varT l[n].2.2.1++(varT l[n].2.2.2.1++(varT l[n].2.2.2.2++R)))).length=(varT l[n].2.1).length+((varT l[n].2.2.1).length+((varT l[n].2.2.2.1).length+((varT l[n].2.2.2.2).length+R.length))):=by simp only[lA]
    have hin:(decide (0≤(((s.length - D.length:Nat)):Int)) && decide ((((s.length - D.length:Nat)):Int)≤(s.length:Int)))=true:=by simp only[bA,decide_eq_true_eq];omega
    have hpos:decide ((((varT l[n].2.1).length+((varT l[n].2.2.1).length+((varT l[n].2.2.2.1).length+(varT l[n].2.2.2.2).length)):Nat):Int)<0)=false:=by simp;omega
    have hb:((l.take n).length+([l[n]]:List φB).length) * 48≤140737488355328:=φ84 (by rw[lT];omega)
    have hi:l.take n++[l[n]]=l.take (n+1):=(κ3 h1).symm
    have hp:((l[n].1,l[n].2.1,l[n].2.2.1,l[n].2.2.2.1,l[n].2.2.2.2):φB)=l[n]:=rfl
    have hy:w64 (w64 ((s.length:Int) - ((varT l[n].2.1++(varT l[n].2.2.1++(varT l[n].2.2.2.1++(varT l[n].2.2.2.2++R)))).length:Int))+(((varT l[n].2.1).length+((varT l[n].2.2.1).length+((varT l[n].2.2.2.1).length+(varT l[n].2.2.2.2).length)):Nat):Int))=(((s.length - R.length:Nat)):Int):=by
     have w1:=φG (n:=(s.length:Int) - (((varT l[n].2.1).length+((varT l[n].2.2.1).length+((varT l[n].2.2.2.1).length+((varT l[n].2.2.2.2).length+R.length))):Nat):Int)) (by omega) (by omega)
     rw[hT,w1,φG (by omega) (by omega)];omega
    have i2:inB 2 ([z,m,(l.length:Int)]:List Int).length=true:=rfl
    have j0:inB 0 ([l[n].2.1,l[n].2.2.1,l[n].2.2.2.1,l[n].2.2.2.2]:List Int).length=true:=rfl
    have j1:inB 1 ([l[n].2.1,l[n].2.2.1,l[n].2.2.2.1,l[n].2.2.2.2]:List Int).length=true:=rfl
    have j2:inB 2 ([l[n].2.1,l[n].2.2.1,l[n].2.2.2.1,l[n].2.2.2.2]:List Int).length=true:=rfl
    have j3:inB 3 ([l[n].2.1,l[n].2.2.1,l[n].2.2.2.1,l[n].2.2.2.2]:List Int).length=true:=rfl
    have r0:rdA 0 ([l[n].2.1,l[n].2.2.1,l[n].2.2.2.1,l[n].2.2.2.2]:List Int) 0=l[n].2.1:=rfl
    have r1:rdA 0 ([l[n].2.1,l[n].2.2.1,l[n].2.2.2.1,l[n].2.2.2.2]:List Int) 1=l[n].2.2.1:=rfl
    have r2:rdA 0 ([l[n].2.1,l[n].2.2.1,l[n].2.2.2.1,l[n].2.2.2.2]:List Int) 2=l[n].2.2.2.1:=rfl
    have r3:rdA 0 ([l[n].2.1,l[n].2.2.1,l[n].2.2.2.1,l[n].2.2.2.2]:List Int) 3=l[n].2.2.2.2:=rfl
    have ih:=ih () h1 trivial
    have ht:(s.drop ((((s.length - D.length:Nat)):Int)).toNat)=D:=by rw[tN];exact hat0
    simp only[ψ2l.l0,i2,cT,hrd,oL,h1,dT,hin,ht,t0,bS,t1,nZ,cF,hpos,j0,j1,j2,j3,r0,r1,r2,r3,hp,hb,hi,hy,hw,ih]
   ·have:n=l.length:=by omega
    subst this
    have i2:inB 2 ([z,m,(l.length:Int)]:List Int).length=true:=rfl
    simp only[ψ2l.l0,i2,cT,hrd,Int.lt_irrefl,dF,cF,κQ])
  (by omega) 0 () (κ4 _) trivial
 have hp0:(F++(([z,m,(l.length:Int)]:List Int).map varT).flatten).length=s.length - ((l.drop 0).map entT).flatten.length:=by
  rw[κB,es];simp only[lA];omega
 have key:lp ψ2l.l0 (s,(0,0,[]),[z,m,(l.length:Int)],(((s.length - ((l.drop 0).map entT).flatten.length:Nat)):Int),(z,m,[]),0)=_:=key
 rw[←hp0] at key
 have c0:decide ((s.length:Int)<4)=false:=by rw[es];simp;omega
 have c1:decide ((((F++(([z,m,(l.length:Int)]:List Int).map varT).flatten).length:Nat):Int)<0)=false:=by simp;omega
 have i2:inB 2 ([z,m,(l.length:Int)]:List Int).length=true:=rfl
 have i1:inB 1 ([z,m,(l.length:Int)]:List Int).length=true:=rfl
 have i0:inB 0 ([z,m,(l.length:Int)]:List Int).length=true:=rfl
 have q2:rdA 0 ([z,m,(l.length:Int)]:List Int) 2=(l.length:Int):=rfl
 have q1:rdA 0 ([z,m,(l.length:Int)]:List Int) 1=m:=rfl
 have q0:rdA 0 ([z,m,(l.length:Int)]:List Int) 0=z:=rfl
 have c2:decide ((l.length:Int) > 20)=false:=by simp;omega
 have c3:(φ1K (z,m,l)==s)=true:=by simpa using hsh
 unfold ψ2l.f
 simp only[c0,cF,v0,bS,c1,i0,i1,i2,q0,q1,q2,c2,cT,key,φT,φAN (z,m,l) (show l.length<1000000000 by omega),c3,nZ]
theorem φMW (s:List UInt8) (hl:s.length<900000000):∃res:φ13×Bool,ψ2l.f s=some res∧(res=(φ3H,false)∨∃h,res=(h,true)∧φ3e s h):=by
 unfold ψ2l.f
 by_cases c0:(s.length:Int)<4
 ·exact ⟨(φ3H,false),by rw[decide_eq_true c0];rfl,.inl rfl⟩
 rw[decide_eq_false c0,cF]
 obtain ⟨a,b,e1,la,hb⟩:=φCV s 4 3 (by omega) (by omega) (by omega)
 have e1:ψ3D.f s 4 3=_:=e1
 rw[e1,bS]
 simp only
 rcases hb with rfl | hb
 ·exact ⟨(φ3H,false),rfl,.inl rfl⟩
 have c1:decide (b<0)=false:=by simp;omega
 obtain ⟨a0,a1,a2,rfl⟩:∃a0 a1 a2:Int,a=[a0,a1,a2]:=by
  match a,la with
  | [a0,a1,a2],_=>exact ⟨a0,a1,a2,rfl⟩
 have i2:inB 2 ([a0,a1,a2]:List Int).length=true:=rfl
 have i1:inB 1 ([a0,a1,a2]:List Int).length=true:=rfl
 have i0:inB 0 ([a0,a1,a2]:List Int).length=true:=rfl
 have q2:rdA 0 ([a0,a1,a2]:List Int) 2=a2:=rfl
 have q1:rdA 0 ([a0,a1,a2]:List Int) 1=a1:=rfl
 have q0:rdA 0 ([a0,a1,a2]:List Int) 0=a0:=rfl
 rw[c1,i0,i1,i2,q0,q1,q2]
 simp only[cF,cT]
 by_cases c2:a2 > 20
 ·exact ⟨(φ3H,false),by rw[decide_eq_true c2];rfl,.inl rfl⟩
 rw[decide_eq_false c2,cF]
 have key:=φ5a (step:=ψ2l.l0) (a:=(s,((0,0,[]):φ13),([a0,a1,a2]:List Int),b,((a0,a1,[]):φ13),0))
  (fun x=>∃(es:List φB) (p:Int),x=(s,(0,0,[]),[a0,a1,a2],p,(a0,a1,es),(es.length:Int))∧0≤p∧p≤(s.length:Int)∧es.length≤20)
  (fun x=>21 - x.2.2.2.2.1.2.2.length)
  (fun y=>(∃es:List φB,y=.inl (s,(0,0,[]),(a0,a1,es))∧es.length≤20)∨y=.inr ((0,0,[]),false))
  (fun rec x hx=>by
   obtain ⟨es,p,rfl,h1,h2,h3⟩:=hx
   by_cases c:(es.length:Int)<a2
   rotate_left
   ·left;exact ⟨_,by simp only[ψ2l.l0,i2,cT,q2,c,dF,cF],.inl ⟨es,rfl,h3⟩⟩
   have hin:(decide (0≤p) && decide (p≤(s.length:Int)))=true:=by simp only[bA,decide_eq_true_eq];omega
   obtain ⟨t,r,tb,t0,tl,rl⟩:=φ7r (s.drop p.toNat) (by rw[lD];omega)
   rw[lD] at tl rl
   obtain ⟨bl,e,t1,lb,he⟩:=φCV r 0 4 (by omega) (by omega) (by omega)
   have t1:ψ3D.f r 0 4=_:=t1
   obtain ⟨b0,b1,b2,b3,rfl⟩:∃b0 b1 b2 b3:Int,bl=[b0,b1,b2,b3]:=by
    match bl,lb with
    | [b0,b1,b2,b3],_=>exact ⟨b0,b1,b2,b3,rfl⟩
   cases tb with
   | false=>left;exact ⟨_,by simp only[ψ2l.l0,i2,cT,q2,c,dT,hin,t0,bS,t1,nF],.inr rfl⟩
   | true=>
    rcases he with rfl | he
    ·left;exact ⟨_,by simp only[ψ2l.l0,i2,cT,q2,c,dT,hin,t0,bS,t1,nZ,cF,show decide ((-1:Int)<0)=true from rfl],.inr rfl⟩
    right
    have ce:decide (e<0)=false:=by simp;omega
    have hw:=φL (show es.length+1<9223372036854775808 by omega)
    have hb:(es.length+([(t,b0,b1,b2,b3)]:List φB).length) * 48≤140737488355328:=φ84 (by omega)
    have hy:w64 (w64 ((s.length:Int) - (r.length:Int))+e)=(s.length:Int) - (r.length:Int)+e:=by
     rw[φG (n:=(s.length:Int) - (r.length:Int)) (by omega) (by omega),φG (by omega) (by omega)]
    have j0:inB 0 ([b0,b1,b2,b3]:List Int).length=true:=rfl
    have j1:inB 1 ([b0,b1,b2,b3]:List Int).length=true:=rfl
    have j2:inB 2 ([b0,b1,b2,b3]:List Int).length=true:=rfl
    have j3:inB 3 ([b0,b1,b2,b3]:List Int).length=true:=rfl
    have r0:rdA 0 ([b0,b1,b2,b3]:List Int) 0=b0:=rfl
    have r1:rdA 0 ([b0,b1,b2,b3]:List Int) 1=b1:=rfl
    have r2:rdA 0 ([b0,b1,b2,b3]:List Int) 2=b2:=rfl
    have r3:rdA 0 ([b0,b1,b2,b3]:List Int) 3=b3:=rfl
    refine ⟨(s,(0,0,[]),[a0,a1,a2],(s.length:Int) - (r.length:Int)+e,(a0,a1,es++[(t,b0,b1,b2,b3)]),((es.length+1:Nat):Int)),⟨es++[(t,b0,b1,b2,b3)],(s.length:Int) - (r.length:Int)+e,by simp only[lA,κ5],by omega,by omega,by simp only[lA,κ5];omega⟩,by simp only[lA,κ5];omega,?_⟩
    simp only[ψ2l.l0,i2,cT,q2,c,dT,hin,t0,bS,t1,nZ,cF,ce,j0,j1,j2,j3,r0,r1,r2,r3,hb,hy,hw])
  ⟨[],b,rfl,hb.1,hb.2,by simp⟩ (by simp)
 obtain ⟨y,ey,hy⟩:=key
 rw[ey,bS]
 rcases hy with ⟨es,rfl,h20⟩ | rfl
 rotate_left
 ·exact ⟨(φ3H,false),by simp only[φZ];rfl,.inl rfl⟩
 simp only[φT,φAN (a0,a1,es) (show es.length<1000000000 by omega),bS]
 by_cases c5:φ1K (a0,a1,es)=s
 rotate_left
 ·have d5:(φ1K (a0,a1,es)==s)=false:=by simpa using c5
  exact ⟨(φ3H,false),by simp only[d5,nF,cT];rfl,.inl rfl⟩
 have d5:(φ1K (a0,a1,es)==s)=true:=by simpa using c5
 refine ⟨((a0,a1,es),true),by simp only[d5,nZ,cF],.inr ⟨_,rfl,?_,c5⟩⟩
 cases hk:φ2H (a0,a1,es) with
 | true=>rfl
 | false=>
  exfalso
  have:φ1K (a0,a1,es)=[]:=by unfold φ1K;rw[if_pos hk]
  rw[this] at c5
  rw[←c5] at c0
  simp at c0
noncomputable def φ2M (s:List UInt8):φ13×Bool:=@dite (φ13×Bool) (∃v,φ3e s v) (Classical.propDecidable _) (fun h=>(h.choose,true)) (fun _=>(φ3H,false))
theorem φGV {s:List UInt8} {o:Option (φ13×Bool)} (h1:∀v,φ3e s v→o=some (v,true)) (h2:∃res:φ13×Bool,o=some res∧(res=(φ3H,false)∨∃v,res=(v,true)∧φ3e s v)):o=some (φ2M s):=by
 unfold φ2M
 by_cases h:∃v,φ3e s v
 ·rw[dif_pos h];exact h1 _ h.choose_spec
 ·rw[dif_neg h]
  obtain ⟨res,e,k | ⟨v,_,hv⟩⟩:=h2
  ·rw[e,k]
  ·exact absurd ⟨v,hv⟩ h
theorem φK2 (s:List UInt8) (hl:s.length<900000000):ψg.f s=some (φ2M s):=φGV (fun _ h=>φL2 h) (φKX s hl)
theorem φJM (s:List UInt8) (hl:s.length<900000000):ψ2l.f s=some (φ2M s):=φGV (fun _ h=>φKY h) (φMW s hl)
theorem φCR (s:List UInt8):φ2M s=(φ3H,false)∧(¬∃v,φ3e s v)∨∃v,φ2M s=(v,true)∧φ3e s v:=by
 unfold φ2M
 by_cases h:∃v,φ3e s v
 ·rw[dif_pos h];exact .inr ⟨_,rfl,h.choose_spec⟩
 ·rw[dif_neg h];exact .inl ⟨rfl,h⟩
theorem φGc (x y:φB):(x.1==y.1 && (x.2.1==y.2.1 && (x.2.2.1==y.2.2.1 && (x.2.2.2.1==y.2.2.2.1 && x.2.2.2.2==y.2.2.2.2))))=decide (x=y):=by
 obtain ⟨a,b,c,d,e⟩:=x
 obtain ⟨a',b',c',d',e'⟩:=y
 apply Bool.eq_iff_iff.2
 simp
theorem φHQ (a b:List φB) (ha:a.length<2 ^ 62):ψr.f a b=some (decide (a=b)):=by
 unfold ψr.f
 by_cases hl:a.length=b.length
 rotate_left
 ·rw[φ6q hl]
  have:¬a=b:=fun e=>hl (by rw[e])
  rw[decide_eq_false this];rfl
 rw[φ6y hl,cF]
 have key:=φ41 (step:=ψr.l0) (List.range a.length) (fun i=>decide (a.getD i ([],0,0,0,0)=b.getD i ([],0,0,0,0))) (fun n=>(a,b,(a.length:Int),(n:Int))) () (by simpa using ha)
  (fun rec n h=>by
   have h1:n<a.length:=by simpa using h
   have h2:n<b.length:=by omega
   have hw:=φL (show n+1<9223372036854775808 by omega)
   have hr:(List.range a.length)[n]=n:=by simp
   simp only[ψr.l0,oL,h1,dT,cT,φD,h2,φI,φGc,hw,hr]
   cases decide (a.getD n ([],0,0,0,0)=b.getD n ([],0,0,0,0))<;>simp)
  (fun rec=>by simp[ψr.l0])
 have key:lp ψr.l0 (a,b,(a.length:Int),0)=_:=key
 rw[key,bS]
 have hall:(List.range a.length).all (fun i=>decide (a.getD i ([],0,0,0,0)=b.getD i ([],0,0,0,0)))=decide (a=b):=by
  apply Bool.eq_iff_iff.2
  rw[κN,decide_eq_true_eq]
  constructor
  ·intro h
   apply List.ext_getElem hl
   intro i h1 h2
   have:=h i (by simpa using h1)
   simp only[decide_eq_true_eq] at this
   rwa [φ8 h1,φ8 h2] at this
  ·rintro rfl i _;simp
 rw[hall]
 by_cases e:a=b
 ·rw[decide_eq_true e];simp[φT]
 ·rw[decide_eq_false e];simp[φZ]
theorem φLH (a b:List φB) (ha:a.length<2 ^ 62):ψ2u.f a b=some (decide (a=b)):=by
 unfold ψ2u.f
 by_cases hl:a.length=b.length
 rotate_left
 ·rw[φ6q hl]
  have:¬a=b:=fun e=>hl (by rw[e])
  rw[decide_eq_false this];rfl
 rw[φ6y hl,cF]
 have key:=φ41 (step:=ψ2u.l0) (List.range a.length) (fun i=>decide (a.getD i ([],0,0,0,0)=b.getD i ([],0,0,0,0))) (fun n=>(a,b,(n:Int))) () (by simpa using ha)
  (fun rec n h=>by
   have h1:n<a.length:=by simpa using h
   have h2:n<b.length:=by omega
   have hw:=φL (show n+1<9223372036854775808 by omega)
   have hr:(List.range a.length)[n]=n:=by simp
   simp only[ψ2u.l0,oL,h1,dT,cT,φD,h2,φI,φGc,hw,hr]
   cases decide (a.getD n ([],0,0,0,0)=b.getD n ([],0,0,0,0))<;>simp)
  (fun rec=>by simp[ψ2u.l0])
 have key:lp ψ2u.l0 (a,b,0)=_:=key
 rw[key,bS]
 have hall:(List.range a.length).all (fun i=>decide (a.getD i ([],0,0,0,0)=b.getD i ([],0,0,0,0)))=decide (a=b):=by
  apply Bool.eq_iff_iff.2
  rw[κN,decide_eq_true_eq]
  constructor
  ·intro h
   apply List.ext_getElem hl
   intro i h1 h2
   have:=h i (by simpa using h1)
   simp only[decide_eq_true_eq] at this
   rwa [φ8 h1,φ8 h2] at this
  ·rintro rfl i _;simp
 rw[hall]
 by_cases e:a=b
 ·rw[decide_eq_true e];simp[φT]
 ·rw[decide_eq_false e];simp[φZ]
noncomputable def φ58 (id:Int) (t:List UInt8) (h:φ13):Bool:=decide (φ19 id t=(h,true))
theorem φCT (x:φ13×Bool) (h:φ13):(bif x.2 then bif x.1.1==h.1 then bif x.1.2.1==h.2.1 then decide (x.1.2.2=h.2.2) else false else false else false)=decide (x=(h,true)):=by
 obtain ⟨⟨a,b,c⟩,d⟩:=x
 obtain ⟨a',b',c'⟩:=h
 apply Bool.eq_iff_iff.2
 cases d
 ·simp
 ·simp only[cT,decide_eq_true_eq,Prod.mk.injEq,and_true]
  by_cases e1:a=a'
  ·by_cases e2:b=b'
   ·simp[e1,e2]
   ·have:(b==b')=false:=by simpa using e2
    simp[e1,e2,this]
  ·have:(a==a')=false:=by simpa using e1
   simp[e1,this]
theorem φHb (id:Int) (t:List UInt8) (h:φ13) (ht:t.length<100000000):ψR.f id t h=some (φ58 id t h):=by
 unfold ψR.f φ58
 rw[φD4 id t ht,bS,←φCT]
 have hl:=φBR id t
 generalize φ19 id t=x at hl ⊢
 obtain ⟨⟨a,b,c⟩,d⟩:=x
 simp only[φHQ c h.2.2 (show c.length<2 ^ 62 by have:c.length≤t.length:=hl;omega),bS]
 cases d<;>simp only[cT,cF]
 cases (a==h.1)<;>cases (b==h.2.1)<;>rfl
theorem φIl (id:Int) (t:List UInt8) (h:φ13) (ht:t.length<100000000):ψ2V.f id t h=some (φ58 id t h):=by
 unfold ψ2V.f φ58
 rw[φFE id t ht,bS,←φCT]
 have hl:=φBR id t
 generalize φ19 id t=x at hl ⊢
 obtain ⟨⟨a,b,c⟩,d⟩:=x
 simp only[φLH c h.2.2 (show c.length<2 ^ 62 by have:c.length≤t.length:=hl;omega),bS]
 cases d<;>simp only[cT,cF]
 cases (a==h.1)<;>cases (b==h.2.1)<;>rfl
abbrev φr:=List φB×Int×Int
abbrev φ8A:φ7:=(0,0,0,0,0,[],[],0,0)
def φ1N (k b:Int) (acc:List φ7) (p:φ7):List φ7:=
 if k=3∧p.2.2.2.2.1≠b then acc
 else if p.2.2.2.1=k then []
 else if (k=3∧(p.2.2.2.1=1∨p.2.2.2.1=2))∨(k=5∧p.2.2.2.1=4) then acc++[p] else acc
def ownL (k b:Int) (l:List φ7):List φ7:=l.foldl (φ1N k b) []
theorem φ8H (k b:Int) (acc:List φ7) (p:φ7):(φ1N k b acc p).length≤acc.length+1:=by
 unfold φ1N
 split
 ·omega
 ·split
  ·simp
  ·split
   ·simp
   ·omega
theorem φ7b (k b:Int) (l:List φ7):(ownL k b l).length≤l.length:=by
 have:∀(l acc:List φ7),(l.foldl (φ1N k b) acc).length≤acc.length+l.length:=by
  intro l
  induction l with
  | nil=>intro acc;simp
  | cons x l ih=>intro acc;have:=ih (φ1N k b acc x);have:=φ8H k b acc x;simp only[κH,lC];omega
 have:=this l []
 unfold ownL
 simpa using this
theorem φ99 {a:Nat} (h:a<1000000000001):(a+1) * 88≤140737488355328:=by omega
theorem φCw (l:List φ7) (r:RecT) (hl:l.length<1000000000):ψ1X.f l r=some (ownL r.1 r.2.1 l):=by
 have hk:=φ2U (step:=ψ1X.l0) l (φ1N r.1 r.2.1) (fun n (s:List φ7)=>(r,s,l,(l.length:Int),(n:Int))) (fun s=>s) (fun n s=>s.length≤n) (by omega)
  (fun rec n s h hi=>by
   have hw:=φL (show n+1<9223372036854775808 by omega)
   have hb:(s.length+([l[n]]:List φ7).length) * 88≤140737488355328:=φ99 (by omega)
   have hb2:decide ((s.length+1) * 88≤140737488355328)=true:=by simp only[decide_eq_true_eq];omega
   unfold φ1N
   simp only[ψ1X.l0,oL,h,dT,cT,φD,φI,φ8 h]
   generalize l[n]=p at *
   obtain ⟨sg,at_,ln,k,b,key,v,c,z⟩:=p
   obtain ⟨rk,rb,rr⟩:=r
   simp only at hb ⊢
   by_cases c1:rk=3
   ·subst c1
    simp only[beq_self_eq_true,cT,true_and,show ¬((3:Int)=5) by decide,false_and,or_false]
    by_cases c2:b=rb
    ·subst c2
     simp only[bne_self_eq_false,cF,ne_eq,not_true,if_false]
     by_cases c3:k=3
     ·subst c3;simp[hw]
     ·have d3:(k==3)=false:=by simpa using c3
      simp only[d3,cF,c3,if_false]
      by_cases c4:k=1
      ·subst c4;simp[hw,hb2]
      ·have d4:(k==1)=false:=by simpa using c4
       simp only[d4,cF,c4,false_or]
       by_cases c5:k=2
       ·subst c5;simp[hw,hb2]
       ·have d5:(k==2)=false:=by simpa using c5
        have d6:((3:Int)==5)=false:=rfl
        simp[d5,c5,d6,hw]
    ·have d2:(b != rb)=true:=by simpa using c2
     simp[d2,c2,hw]
   ·have d1:(rk==3)=false:=by simpa using c1
    simp only[d1,cF,c1,false_and,if_false,false_or]
    by_cases c3:k=rk
    ·have d3:(k==rk)=true:=by simpa using c3
     simp[d3,c3,hw]
    ·have d3:(k==rk)=false:=by simpa using c3
     simp only[d3,cF,c3,if_false]
     by_cases c4:rk=5
     ·subst c4
      simp only[beq_self_eq_true,cT,true_and]
      by_cases c5:k=4
      ·subst c5;simp[hw,hb2]
      ·have d5:(k==4)=false:=by simpa using c5
       simp[d5,c5,hw]
     ·have d4:(rk==5)=false:=by simpa using c4
      simp[d4,c4,hw])
  (fun n s h hi=>by have:=φ8H r.1 r.2.1 s l[n];omega)
  (fun rec s hi=>by simp[ψ1X.l0]) [] (κ9 _)
 have hk:lp ψ1X.l0 (r,[],l,(l.length:Int),0)=_:=hk
 unfold ψ1X.f
 rw[hk];rfl
theorem φM7 (l:List φ7) (n:Nat) (hn:n≤l.length) (b:Int) (hl:l.length<1000000000):ψ3u.f l (n:Int) b=some (ownL 3 b (l.take n)):=by
 have htl:(l.take n).length=n:=by rw[lT];omega
 have hk:=φ2U (step:=ψ3u.l0) (l.take n) (φ1N 3 b) (fun i (s:List φ7)=>(l,(n:Int),b,s,(i:Int))) (fun s=>s) (fun i s=>s.length≤i) (by omega)
  (fun rec i s h hi=>by
   have h1:i<n:=by omega
   have h2:i<l.length:=by omega
   have hw:=φL (show i+1<9223372036854775808 by omega)
   have hb:(s.length+([l[i]]:List φ7).length) * 88≤140737488355328:=φ99 (by omega)
   have hb2:decide ((s.length+1) * 88≤140737488355328)=true:=by simp only[decide_eq_true_eq];omega
   unfold φ1N
   simp only[ψ3u.l0,oL,h1,dT,cT,List.getElem_take]
   obtain ⟨⟨sg,at_,ln,k,bb,key,v,c,z⟩,hp⟩:∃p,l[i]=p:=⟨_,rfl⟩
   have hr:rdA φ8A l (i:Int)=(sg,at_,ln,k,bb,key,v,c,z):=by rw[φI,φ8 h2,hp]
   have hx:inB (i:Int) l.length=true:=by rw[φD,decide_eq_true h2]
   simp only[hp,hr,hx,cT]
   simp only[true_and,show ¬((3:Int)=5) by decide,false_and,or_false]
   by_cases c2:bb=b
   ·subst c2
    simp only[beq_self_eq_true,cT,ne_eq,not_true,if_false]
    by_cases c3:k=3
    ·subst c3;simp[hw,hr,hx]
    ·have d3:(k==3)=false:=by simpa using c3
     simp only[d3,cF,c3,if_false,bS,beq_self_eq_true,cT]
     by_cases c4:k=1
     ·subst c4;simp[hw,hb2,hr,hx]
     ·have d4:(k==1)=false:=by simpa using c4
      simp only[d4,cF,c4,false_or]
      by_cases c5:k=2
      ·subst c5;simp[hw,hb2,hr,hx]
      ·have d5:(k==2)=false:=by simpa using c5
       simp[d5,c5,hw,hr,hx]
   ·have d2:(bb==b)=false:=by simpa using c2
    simp[d2,c2,hw,hr,hx])
  (fun i s h hi=>by have:=φ8H 3 b s (l.take n)[i];omega)
  (fun rec s hi=>by rw[htl];simp[ψ3u.l0]) [] (κ9 _)
 have hk:lp ψ3u.l0 (l,(n:Int),b,[],0)=_:=hk
 unfold ψ3u.f
 rw[hk];rfl
theorem φGA (l:List φ7) (n:Nat) (hn:n≤l.length) (b:Int) (hl:l.length<1000000000):ψ3t.f l (n:Int)=some (ownL 5 b (l.take n)):=by
 have htl:(l.take n).length=n:=by rw[lT];omega
 have hk:=φ2U (step:=ψ3t.l0) (l.take n) (φ1N 5 b) (fun i (s:List φ7)=>(l,(n:Int),s,(i:Int))) (fun s=>s) (fun i s=>s.length≤i) (by omega)
  (fun rec i s h hi=>by
   have h1:i<n:=by omega
   have h2:i<l.length:=by omega
   have hw:=φL (show i+1<9223372036854775808 by omega)
   have hb:(s.length+([l[i]]:List φ7).length) * 88≤140737488355328:=φ99 (by omega)
   have hb2:decide ((s.length+1) * 88≤140737488355328)=true:=by simp only[decide_eq_true_eq];omega
   unfold φ1N
   simp only[ψ3t.l0,oL,h1,dT,cT,List.getElem_take]
   obtain ⟨⟨sg,at_,ln,k,bb,key,v,c,z⟩,hp⟩:∃p,l[i]=p:=⟨_,rfl⟩
   have hr:rdA φ8A l (i:Int)=(sg,at_,ln,k,bb,key,v,c,z):=by rw[φI,φ8 h2,hp]
   have hx:inB (i:Int) l.length=true:=by rw[φD,decide_eq_true h2]
   simp only[hp,hr,hx,cT]
   simp only[show ¬((5:Int)=3) by decide,false_and,if_false,false_or,true_and]
   by_cases c3:k=5
   ·subst c3;simp[hw,hr,hx]
   ·have d3:(k==5)=false:=by simpa using c3
    simp only[d3,cF,c3,if_false,bS]
    by_cases c4:k=4
    ·subst c4;simp[hw,hb2,hr,hx]
    ·have d4:(k==4)=false:=by simpa using c4
     simp[d4,c4,hw,hr,hx])
  (fun i s h hi=>by have:=φ8H 5 b s (l.take n)[i];omega)
  (fun rec s hi=>by rw[htl];simp[ψ3t.l0]) [] (κ9 _)
 have hk:lp ψ3t.l0 (l,(n:Int),[],0)=_:=hk
 unfold ψ3t.f
 rw[hk];rfl
theorem φIO (l:List φ7) (hl:l.length<1000000000):ψ3w.f l=some (l.map (·.2.2.2)):=by
 have hk:=φ2U (step:=ψ3w.l0) l (fun (s:List RecT) (p:φ7)=>s++[p.2.2.2]) (fun n (s:List RecT)=>(l,s,(n:Int))) (fun s=>s) (fun n s=>s.length≤n) (by omega)
  (fun rec n s h hi=>by
   have hw:=φL (show n+1<9223372036854775808 by omega)
   have hb:(s.length+([l[n].2.2.2]:List RecT).length) * 64≤140737488355328:=φ6n (by omega)
   simp only[ψ3w.l0,oL,h,dT,cT,φD,φI,φ8 h,hb,hw])
  (fun n s h hi=>by simp;omega)
  (fun rec s hi=>by simp[ψ3w.l0]) [] (κ9 _)
 have hk:lp ψ3w.l0 (l,[],0)=_:=hk
 unfold ψ3w.f
 rw[hk,bS]
 have:∀(l:List φ7) (s:List RecT),l.foldl (fun (s:List RecT) (p:φ7)=>s++[p.2.2.2]) s=s++l.map (·.2.2.2):=by
  intro l
  induction l with
  | nil=>intro s;simp
  | cons x l ih=>intro s;rw[κH,ih];simp
 rw[this];rfl
theorem φM9 (r:RecT) (l:List φ7) (hl:l.length<1000000000):ψ3s.f r l=some (φ2c r (l.map (·.2.2.2))):=by
 unfold ψ3s.f φ2c
 rw[φIO l hl,lM]
 cases (r.2.2.2.2.1==(l.length:Int)) with
 | false=>rfl
 | true=>
  simp only[cT,bS,φ8a (l.map (·.2.2.2)) (by rw[lM];omega),tA]
def putD (dir:List φB) (p:φ7):List φB:=
 if p.2.2.2.1=2 then φp dir p.2.2.2.2.2.1 else insB (φp dir p.2.2.2.2.2.1) (p.2.2.2.2.2.1,p.1,p.2.1,p.2.2.1,p.2.2.2.2.1)
def φ1V (dir:List φB) (own:List φ7):List φB:=own.foldl putD dir
theorem φ9e (dir:List φB) (p:φ7):(putD dir p).length≤dir.length+1:=by
 unfold putD
 have:=φ7z dir p.2.2.2.2.2.1
 split
 ·omega
 ·rw[φ8u];omega
theorem φNF (own:List φ7):∀dir,(φ1V dir own).length≤dir.length+own.length:=by
 unfold φ1V
 induction own with
 | nil=>intro dir;simp
 | cons x l ih=>intro dir;have:=ih (putD dir x);have:=φ9e dir x;simp only[κH,lC];omega
def φ49 (dir:List φB) (c:Int):Int:=if 20<dir.length then 2 else c
theorem φJy (g:φr) (own:List φ7) (hg:g.1.length<100000000) (ho:own.length<100000000):ψQ.f g own=some (φ1V g.1 own,g.2.1,φ49 (φ1V g.1 own) g.2.2):=by
 have hk:=φ2U (step:=ψQ.l0) own putD (fun n (s:List φB)=>((s,g.2),own,(own.length:Int),(n:Int))) (fun s=>(s,g.2)) (fun n s=>s.length≤g.1.length+n) (by omega)
  (fun rec n s h hi=>by
   have hw:=φL (show n+1<9223372036854775808 by omega)
   unfold putD
   simp only[ψQ.l0,oL,h,dT,cT,φD,φI,φ8 h]
   by_cases c:own[n].2.2.2.1=2
   ·have d:(own[n].2.2.2.1==2)=true:=by simpa using c
    rw[if_pos c]
    simp only[d,cT,φH8 s own[n].2.2.2.2.2.1 (by omega),bS,hw]
   ·have d:(own[n].2.2.2.1==2)=false:=by simpa using c
    rw[if_neg c]
    simp only[d,cF,φKc s (own[n].2.2.2.2.2.1,own[n].1,own[n].2.1,own[n].2.2.1,own[n].2.2.2.2.1) (by omega),bS,hw])
  (fun n s h hi=>by have:=φ9e s own[n];omega)
  (fun rec s hi=>by simp[ψQ.l0]) g.1 (κ9 _)
 have hk:lp ψQ.l0 (g,own,(own.length:Int),0)=some (φ1V g.1 own,g.2):=hk
 unfold ψQ.f φ49
 rw[hk,bS]
 simp only
 by_cases c:20<(φ1V g.1 own).length
 ·have d:decide (((φ1V g.1 own).length:Int) > 20)=true:=by simp;omega
  rw[d,if_pos c];rfl
 ·have d:decide (((φ1V g.1 own).length:Int) > 20)=false:=by simp;omega
  rw[d,if_neg c];rfl
theorem φIs (x1:List φ7) (x4:φr) (d0:List φB) (z:Int×Int) (x6:Int) (own:List φ7) (hg:d0.length<40000000) (ho:own.length<40000000) :
  lp ψ2r.l3 (x1,x4,(d0,z),x6,own,0)=some (x1,x4,(φ1V d0 own,z),x6):=by
 have hk:=φ2U (step:=ψ2r.l3) own putD (fun n (s:List φB)=>(x1,x4,(s,z),x6,own,(n:Int))) (fun s=>(x1,x4,(s,z),x6)) (fun n s=>s.length≤d0.length+n) (by omega)
  (fun rec n s h hi=>by
   have hw:=φL (show n+1<9223372036854775808 by omega)
   have e:ψ3v.f s (own[n].1,own[n].2.1,own[n].2.2.1,own[n].2.2.2.1,own[n].2.2.2.2.1,own[n].2.2.2.2.2.1,own[n].2.2.2.2.2.2.1,own[n].2.2.2.2.2.2.2)=some (putD s own[n]):=φD8 s own[n] (by omega)
   simp only[ψ2r.l3,oL,h,dT,cT,φD,φI,φ8 h,e,bS,hw])
  (fun n s h hi=>by have:=φ9e s own[n];omega)
  (fun rec s hi=>by simp[ψ2r.l3]) d0 (κ9 _)
 exact hk
def φ1W (pre:List φ7) (p:φ7) (g:φr):φr:=
 let last:=if p.2.2.2.2.1 > g.2.1 then p.2.2.2.2.1 else g.2.1
 if p.2.2.2.1=3∨p.2.2.2.1=5 then
  let own:=ownL p.2.2.2.1 p.2.2.2.2.1 pre
  if φ2c p.2.2.2 (own.map (·.2.2.2))=true then (φ1V g.1 own,last,φ49 (φ1V g.1 own) g.2.2)
  else if p.2.2.2.1=5 then (g.1,last,1) else (g.1,last,g.2.2)
 else (g.1,last,g.2.2)
def φg:List φ7→List φ7→φr→φr
 | _,[],g=>g
 | pre,p::r,g=>if g.2.2≠0 then g else φg (pre++[p]) r (φ1W pre p g)
def φ6P (l:List φ7) (g:φr):φr:=if g.2.2=0∧0<(ownL 5 0 l).length then (g.1,g.2.1,1) else g
def φ1Q (g:φr) (l:List φ7):φr:=φ6P l (φg [] l g)
theorem φJH (pre:List φ7) (p:φ7) (g:φr):(φ1W pre p g).1.length≤g.1.length+pre.length:=by
 unfold φ1W
 have h1:=φNF (ownL p.2.2.2.1 p.2.2.2.2.1 pre) g.1
 have h2:=φ7b p.2.2.2.1 p.2.2.2.2.1 pre
 simp only
 split
 ·split
  ·show (φ1V g.1 (ownL p.2.2.2.1 p.2.2.2.2.1 pre)).length≤_;omega
  ·split<;>exact Nat.le_add_right _ _
 ·exact Nat.le_add_right _ _
theorem φIu (pre:List φ7) (p:φ7) (g:φr) (h:g.2.2=0) (hc:(φ1W pre p g).2.2=0):(φ1W pre p g).1.length≤max g.1.length 20:=by
 unfold φ1W at hc ⊢
 simp only at hc ⊢
 split
 ·rename_i c
  rw[if_pos c] at hc
  split
  ·rename_i c2
   rw[if_pos c2] at hc
   have hc:φ49 (φ1V g.1 (ownL p.2.2.2.1 p.2.2.2.2.1 pre)) g.2.2=0:=hc
   show (φ1V g.1 (ownL p.2.2.2.1 p.2.2.2.2.1 pre)).length≤_
   unfold φ49 at hc
   split at hc
   ·simp at hc
   ·omega
  ·split<;>exact Nat.le_max_left _ _
 ·exact Nat.le_max_left _ _
def regF (l:List φ7):List φ7→List φ7→φr→(List φ7×φr×φr) ⊕ φr
 | _,[],g=>.inl (l,([],0,0),g)
 | pre,p::r,g=>if g.2.2≠0 then .inr g else regF l (pre++[p]) r (φ1W pre p g)
theorem φCf (l:List φ7):∀(r pre:List φ7) (g:φr),regF l pre r g=.inl (l,([],0,0),φg pre r g)∨(regF l pre r g=.inr (φg pre r g)∧(φg pre r g).2.2≠0)
 | [],pre,g=>.inl rfl
 | p::r,pre,g=>by
  unfold regF φg
  by_cases c:g.2.2≠0
  ·rw[if_pos c,if_pos c];exact .inr ⟨rfl,c⟩
  ·rw[if_neg c,if_neg c];exact φCf l r _ _
def φ1s (g:φr):Prop:=g.1.length≤(if g.2.2=0 then 1000020 else 11000020)
theorem φAs {pre:List φ7} {p:φ7} {g:φr} (h:φ1s g) (hc:g.2.2=0) (hp:pre.length<10000000):φ1s (φ1W pre p g):=by
 unfold φ1s at h ⊢
 rw[if_pos hc] at h
 split
 ·rename_i c
  have:=φIu pre p g hc c
  omega
 ·have:=φJH pre p g
  omega
theorem φMI (l:List φ7) (hl:l.length<10000000) (g0:φr) (hg:φ1s g0) :
  lp ψm.l0 (l,([],0,0),g0,l,(l.length:Int),0)=some (regF l [] l g0):=by
 have key:=φd (step:=ψm.l0) (fun n (g:φr)=>(l,(([],0,0):φr),g,l,(l.length:Int),(n:Int))) l.length (fun n g=>regF l (l.take n) (l.drop n) g) (fun _ g=>φ1s g)
  (fun rec n g hn hi ih=>by
   rcases κ2 n l.length with h | h
   ·have hw:=φL (show n+1<9223372036854775808 by omega)
    have htl:(l.take n).length=n:=by rw[lT];omega
    rw[dG h]
    unfold regF
    obtain ⟨⟨sg,at_,ln,k,b,key,v,c,z⟩,hp⟩:∃p,l[n]=p:=⟨_,rfl⟩
    have hr:rdA φ8A l (n:Int)=(sg,at_,ln,k,b,key,v,c,z):=by rw[φI,φ8 h,hp]
    have hx:inB (n:Int) l.length=true:=by rw[φD,decide_eq_true h]
    have ht:l.take n++[(sg,at_,ln,k,b,key,v,c,z)]=l.take (n+1):=by rw[←hp];exact (κ3 h).symm
    by_cases c0:g.2.2=0
    rotate_left
    ·rw[if_pos c0]
     have d0:(g.2.2 != 0)=true:=by simpa using c0
     simp only[ψm.l0,oL,h,dT,cT,hx,d0,bS,φZ]
    rw[if_neg (fun z=>z c0),hp]
    have d0:(g.2.2 != 0)=false:=by simpa using c0
    have hs:=ih (φ1W (l.take n) (sg,at_,ln,k,b,key,v,c,z) g) h (φAs hi c0 (by omega))
    rw[ht]
    rw[←hs]
    have hg1:g.1.length<100000000:=by unfold φ1s at hi;rw[if_pos c0] at hi;omega
    have hin:(decide (0≤(n:Int)) && decide ((n:Int)≤(l.length:Int)))=true:=by simp only[bA,decide_eq_true_eq];omega
    have how:=φCw (l.take n) (k,b,key,v,c,z) (by omega)
    have hol:=φ7b k b (l.take n)
    have hft:=φDn (k,b,key,v,c,z) (ownL k b (l.take n)) (by omega)
    have hap:=fun last=>φJy (g.1,last,g.2.2) (ownL k b (l.take n)) hg1 (by omega)
    simp only[ψm.l0,oL,h,dT,cT,hx,hr,d0,cF]
    unfold φ1W
    simp only
    by_cases c3:k=3
    ·subst c3
     simp only[bne_self_eq_false,cF,bS,φT,hin,cT,tN,how,hft,true_or,if_true,show ¬((3:Int)=5) by decide,if_false,show ((3:Int)==5)=false from rfl]
     cases φ2c (3,b,key,v,c,z) ((ownL 3 b (l.take n)).map (·.2.2.2))
     ·simp only[cF,bS,φT,hw,κ0,if_false]
     ·simp only[cT,hap,bS,φT,hw,if_true]
    ·have d3:(k != 3)=true:=by simpa using c3
     simp only[d3,cT,c3,false_or]
     by_cases c5:k=5
     ·subst c5
      simp only[bne_self_eq_false,cF,bS,φT,hin,cT,tN,how,hft,if_true,beq_self_eq_true]
      cases φ2c (5,b,key,v,c,z) ((ownL 5 b (l.take n)).map (·.2.2.2))
      ·simp only[cF,bS,φT,hw,κ0,if_false]
      ·simp only[cT,hap,bS,φT,hw,if_true]
     ·have d5:(k != 5)=true:=by simpa using c5
      simp only[d5,cT,c5,if_false,bS,φZ,φT,hw]
   ·have:n=l.length:=by omega
    subst this
    simp only[ψm.l0,Int.lt_irrefl,dF,cF,κQ,List.drop_length,regF])
  (by omega) 0 g0 (κ4 _) hg
 exact key
theorem φJ0 (g:φr) (l:List φ7) (hl:l.length<10000000) (hg:φ1s g):ψm.f g l=some (φ1Q g l):=by
 have hg1:g.1.length<1000000000:=by unfold φ1s at hg;split at hg<;>omega
 unfold ψm.f
 rw[φAc g.1 hg1,bS,φMI l hl (g.1,g.2) hg,bS]
 unfold φ1Q φ6P
 rcases φCf l l [] g with e | ⟨e,hc⟩
 ·rw[show ((g.1,g.2):φr)=g from rfl,e]
  simp only[φT]
  by_cases c:(φg [] l g).2.2=0
  ·have d:((φg [] l g).2.2==0)=true:=by simpa using c
   have ho:=φCw l (5,0,[],[],0,0) (by omega)
   simp only[d,cT,ho,bS]
   by_cases c2:0<(ownL 5 0 l).length
   ·have d2:decide (((ownL 5 0 l).length:Int) > 0)=true:=by simp;omega
    rw[d2,if_pos ⟨c,c2⟩];rfl
   ·have d2:decide (((ownL 5 0 l).length:Int) > 0)=false:=by simp only[decide_eq_false_iff_not];omega
    rw[d2,if_neg (fun z=>c2 z.2)];rfl
  ·have d:((φg [] l g).2.2==0)=false:=by simpa using c
   simp only[d,cF]
   rw[if_neg (fun z=>c z.1)]
 ·rw[show ((g.1,g.2):φr)=g from rfl,e]
  simp only[φZ]
  rw[if_neg (fun z=>hc z.1)]
theorem φMe (l:List φ7) (hl:l.length<10000000) (g0:φr) (hg:φ1s g0) :
  lp ψ2r.l0 (l,([],0,0),g0,0)=some (l,([],0,0),φg [] l g0):=by
 have key:=φd (step:=ψ2r.l0) (fun n (g:φr)=>(l,(([],0,0):φr),g,(n:Int))) l.length (fun n g=>(l,(([],0,0):φr),φg (l.take n) (l.drop n) g)) (fun _ g=>φ1s g)
  (fun rec n g hn hi ih=>by
   rcases κ2 n l.length with h | h
   ·have hw:=φL (show n+1<9223372036854775808 by omega)
    have htl:(l.take n).length=n:=by rw[lT];omega
    rw[dG h]
    unfold φg
    obtain ⟨⟨sg,at_,ln,k,b,key,v,c,z⟩,hp⟩:∃p,l[n]=p:=⟨_,rfl⟩
    have hr:rdA φ8A l (n:Int)=(sg,at_,ln,k,b,key,v,c,z):=by rw[φI,φ8 h,hp]
    have hx:inB (n:Int) l.length=true:=by rw[φD,decide_eq_true h]
    have ht:l.take n++[(sg,at_,ln,k,b,key,v,c,z)]=l.take (n+1):=by rw[←hp];exact (κ3 h).symm
    by_cases c0:g.2.2=0
    rotate_left
    ·rw[if_pos c0]
     have d0:(g.2.2==0)=false:=by simpa using c0
     simp only[ψ2r.l0,oL,h,dT,cT,d0,cF]
    rw[if_neg (fun z=>z c0),hp]
    have d0:(g.2.2==0)=true:=by simpa using c0
    have hs:=ih (φ1W (l.take n) (sg,at_,ln,k,b,key,v,c,z) g) h (φAs hi c0 (by omega))
    rw[ht]
    rw[←hs]
    have hg1:g.1.length<40000000:=by unfold φ1s at hi;rw[if_pos c0] at hi;omega
    have ho3:=φM7 l n (by omega) b (by omega)
    have ho5:=φGA l n (by omega) b (by omega)
    have hol3:=φ7b 3 b (l.take n)
    have hol5:=φ7b 5 b (l.take n)
    have hft:=fun o ho=>φM9 (k,b,key,v,c,z) o ho
    have hap:=fun (zz:Int×Int) (o:List φ7) ho=>φIs l ([],0,0) g.1 zz (n:Int) o hg1 ho
    simp only[ψ2r.l0,oL,h,dT,cT,hx,hr,d0]
    unfold φ1W
    simp only
    by_cases c3:k=3
    ·subst c3
     have hft:=hft (ownL 3 b (l.take n)) (by omega)
     have hap:=fun zz=>hap zz (ownL 3 b (l.take n)) (by omega)
     simp only[beq_self_eq_true,cT,ho3,bS,hft,true_or,if_true,show ¬((3:Int)=5) by decide,if_false]
     cases φ2c (3,b,key,v,c,z) ((ownL 3 b (l.take n)).map (·.2.2.2))
     ·simp only[nF,cT,bS,φZ,hw,κ0,if_false]
     ·simp only[nZ,cF,bS,φT,hap,hw,if_true]
      unfold φ49
      by_cases c9:20<(φ1V g.1 (ownL 3 b (l.take n))).length
      ·have d9:decide (((φ1V g.1 (ownL 3 b (l.take n))).length:Int) > 20)=true:=by simp;omega
       simp only[d9,cT,bS,if_pos c9,hw]
      ·have d9:decide (((φ1V g.1 (ownL 3 b (l.take n))).length:Int) > 20)=false:=by simp;omega
       simp only[d9,cF,bS,if_neg c9,hw]
    ·have d3:(k==3)=false:=by simpa using c3
     simp only[d3,cF,c3,false_or]
     by_cases c5:k=5
     ·subst c5
      have hft:=hft (ownL 5 b (l.take n)) (by omega)
      have hap:=fun zz=>hap zz (ownL 5 b (l.take n)) (by omega)
      simp only[beq_self_eq_true,cT,ho5,bS,hft,if_true]
      cases φ2c (5,b,key,v,c,z) ((ownL 5 b (l.take n)).map (·.2.2.2))
      ·simp only[nF,cT,bS,φZ,hw,κ0,if_false]
      ·simp only[nZ,cF,bS,φT,hap,hw,if_true]
       unfold φ49
       by_cases c9:20<(φ1V g.1 (ownL 5 b (l.take n))).length
       ·have d9:decide (((φ1V g.1 (ownL 5 b (l.take n))).length:Int) > 20)=true:=by simp;omega
        simp only[d9,cT,bS,if_pos c9,hw]
       ·have d9:decide (((φ1V g.1 (ownL 5 b (l.take n))).length:Int) > 20)=false:=by simp;omega
        simp only[d9,cF,bS,if_neg c9,hw]
     ·have d5:(k==5)=false:=by simpa using c5
      simp only[d5,cF,c5,if_false,bS,φZ,hw]
   ·have:n=l.length:=by omega
    subst this
    simp only[ψ2r.l0,Int.lt_irrefl,dF,cF,κQ,List.drop_length,φg])
  (by omega) 0 g0 (κ4 _) hg
 exact key
theorem φMm (g:φr) (l:List φ7) (hl:l.length<10000000) (hg:φ1s g):ψ2r.f g l=some (φ1Q g l):=by
 have hg1:g.1.length<1000000000:=by unfold φ1s at hg;split at hg<;>omega
 unfold ψ2r.f
 have hb:decide ((([]:List φB).length+g.1.length) * 48≤140737488355328)=true:=by simp only[decide_eq_true_eq];exact φ8E (by omega)
 simp only[hb,cT,κA]
 rw[φMe l hl (g.1,g.2) hg,bS]
 unfold φ1Q φ6P
 rw[show ((g.1,g.2):φr)=g from rfl]
 simp only
 by_cases c:(φg [] l g).2.2=0
 ·have d:((φg [] l g).2.2==0)=true:=by simpa using c
  have ho:=φGA l l.length (κ9 _) 0 (by omega)
  rw[κQ] at ho
  simp only[d,cT,ho,bS]
  by_cases c2:0<(ownL 5 0 l).length
  ·have d2:decide (((ownL 5 0 l).length:Int) > 0)=true:=by simp;omega
   rw[d2,if_pos ⟨c,c2⟩];rfl
  ·have d2:decide (((ownL 5 0 l).length:Int) > 0)=false:=by simp only[decide_eq_false_iff_not];omega
   rw[d2,if_neg (fun z=>c2 z.2)];rfl
 ·have d:((φg [] l g).2.2==0)=false:=by simpa using c
  simp only[d,cF]
  rw[if_neg (fun z=>c z.1)]
def φ1U:Nat→List RecT→List φ1Z
 | _,[]=>[]
 | a,r::rs=>((a:Int),((fr r).length:Int),r)::φ1U (a+(fr r).length) rs
theorem φGW:∀(rs:List RecT) (a:Nat),(φ1U a rs).map (·.2.2)=rs
 | [],_=>rfl
 | r::rs,a=>by simp[φ1U,φGW rs]
theorem φBF:∀(rs qs:List RecT) (a:Nat),φ1U a (rs++qs)=φ1U a rs++φ1U (a+(txt rs).length) qs
 | [],qs,a=>by simp[φ1U,txt]
 | r::rs,qs,a=>by
  rw[κG,φ1U,φ1U,φBF rs qs,φ3Q,lA,κG,Nat.add_assoc]
theorem φFb:∀(rs:List RecT) (p:List UInt8),(∀r∈rs,φe r=true)→φ2E (p++txt rs) p.length=(φ1U p.length rs,p.length+(txt rs).length)
 | [],p,_=>by
  have:p++txt []=p:=by simp[txt]
  rw[this,φ8i];simp[txt,φ1U]
 | r::rs,p,h=>by
  have hs:=φ3P r
  have hb:=φ6x (t:=φ9 r) (by omega) (txt rs)
  have hd:(p++txt (r::rs)).drop p.length=frame (φ9 r)++txt rs:=by rw[κO];rfl
  have hl:=φ7I r
  have hrr:=φ9a (h r κ1)
  rw[φ5b (n:=(fr r).length) (by rw[hd,hb];rfl) hl.1 (by rw[φ3Q];simp only[lA];omega) (by rw[hd,hb];simp only;rw[hrr])]
  have ih:=φFb rs (p++fr r) (fun x hx=>h x (mC _ hx))
  rw[aA,lA] at ih
  rw[hd,hb]
  simp only[hrr]
  have e:p++txt (r::rs)=p++(fr r++txt rs):=rfl
  rw[e,ih]
  simp only[φ1U,φ3Q,lA,Nat.add_assoc]
theorem φ7c {rs:List RecT} (h:∀r∈rs,φe r=true):scan (txt rs)=(φ1U 0 rs,(txt rs).length):=by
 have:=φFb rs [] h
 simp only[κA,lN,κV] at this
 exact this
theorem φLV:∀(k:Nat) (s:List UInt8) (a:Nat),a≤s.length→s.length - a=k→∃(rs:List RecT) (q:List UInt8),(∀r∈rs,φe r=true)∧s.drop a=txt rs++q∧φ2E s a=(φ1U a rs,a+(txt rs).length):=by
 intro k
 induction k using Nat.strongRecOn with
 | ind k ih=>
  intro s a ha hk
  by_cases c:(φP (s.drop a)).2=0∨(φ1T (φP (s.drop a)).1).2=false
  ·exact ⟨[],s.drop a,by simp,rfl,φ4p ha c⟩
  ·have c1:(φP (s.drop a)).2≠0:=fun e=>c (.inl e)
   have hr:(φ1T (φP (s.drop a)).1).2=true:=by
    cases e:(φ1T (φP (s.drop a)).1).2 with
    | true=>rfl
    | false=>exact absurd (.inr e) c
   obtain ⟨t,r,e1,e2,e3⟩:=φBo c1
   have h5:=φ9H e2
   have hlen:a+(frame t).length≤s.length:=by
    have:(s.drop a).length=(frame t++r).length:=by rw[←e1]
    rw[lD,lA] at this;omega
   have hst:=φ5b (n:=(frame t).length) (by rw[e3]) h5 hlen hr
   obtain ⟨rs,q,g1,g2,g3⟩:=ih (s.length - (a+(frame t).length)) (by omega) s (a+(frame t).length) hlen rfl
   have hd:s.drop (a+(frame t).length)=r:=by rw[←List.drop_drop,e1,κO]
   rw[e3] at hr
   rcases φ77 t with ⟨z,_⟩ | ⟨x,z,hx⟩
   ·rw[z] at hr;simp at hr
   ·refine ⟨x::rs,q,?_,?_,?_⟩
    ·intro y hy
     rcases mc.1 hy with rfl | hy
     ·exact hx.1
     ·exact g1 y hy
    ·rw[e1,φ3Q,←hd,g2]
     show frame t++(txt rs++q)=frame (φ9 x)++txt rs++q
     rw[hx.2,aA]
    ·rw[hst,g3,e3]
     have hf:(fr x).length=(frame t).length:=by show (frame (φ9 x)).length=_;rw[hx.2]
     simp only[z,φ1U,φ3Q,lA,hf,Nat.add_assoc]
theorem φMQ (s:List UInt8):∃(rs:List RecT) (q:List UInt8),(∀r∈rs,φe r=true)∧s=txt rs++q∧scan s=(φ1U 0 rs,(txt rs).length):=by
 obtain ⟨rs,q,h1,h2,h3⟩:=φLV s.length s 0 (κ4 _) (by omega)
 rw[κB] at h2
 rw[κV] at h3
 exact ⟨rs,q,h1,h2,h3⟩
theorem φNL (s:List UInt8):scan (s.take (scan s).2)=scan s:=by
 obtain ⟨rs,q,h1,h2,h3⟩:=φMQ s
 rw[h3]
 have:s.take (txt rs).length=txt rs:=by rw[h2,List.take_left]
 rw[this,φ7c h1]
theorem φEY {d:φ1} (h:φ5 d=true) (v:φN):(φ1z d v).length≤130:=by
 unfold φ1z
 rw[if_neg (by rw[h];simp),lM]
 exact Nat.le_trans (List.length_filter_le _ _) (φ5o h).2.2
theorem φKP {d:φ1} (h:φ5 d=true) (v:φN):∀n∈φ1z d v,(φ2 d n).2=true:=by
 intro n hn
 unfold φ1z at hn
 rw[if_neg (by rw[h];simp)] at hn
 obtain ⟨f,hf,rfl⟩:=mM.1 hn
 rw[φ3i h ((List.mem_filter.1 hf).1)]
theorem φIW {d:φ1} (h:φ5 d=true) (v:φN):(φ1z d v).Nodup:=by
 unfold φ1z
 rw[if_neg (by rw[h];simp)]
 have hs:srt d.1:=φ6G h
 exact (List.filter_sublist.map _).nodup (φM0 hs)
noncomputable def φh (v:φN) (d:φ1):φE:=φi (φ1z d v) (d,0)
theorem φ6k {d:φ1} (h:φ5 d=true) (v:φN):φ5 (φh v d).1=true:=φ4y _ h
theorem φDy (w:φE) (v:φN) (h:φ5 w.1=true) (hv:v.2.length<1000000000):ψ1y.f w v=some (φ4l (φ1z w.1 v) w):=by
 unfold ψ1y.f
 rw[φNH w.1 v (φ1B (φn h) (by omega)) hv,bS]
 have hl:=φEY h v
 generalize φ1z w.1 v=names at hl ⊢
 have key:=φ2U (step:=ψ1y.l0) names (fun (w:φE) n=>φ1P (φH n) w) (fun n (a:φE)=>(a,names,(names.length:Int),(n:Int))) (fun a=>a) (fun _ a=>φ5 a.1=true) (by omega)
  (fun rec n a h1 ha=>by
   have hw:=φL (show n+1<9223372036854775808 by omega)
   simp only[ψ1y.l0,oL,h1,dT,cT,φD,φI,φ8 h1,φ5f a names[n] (φn ha) (by omega),bS,hw])
  (fun n a h1 ha=>φAZ (op:=φH names[n]) ha fun k=>φ2Y k _)
  (fun rec a ha=>by simp[ψ1y.l0])
  w h
 have key:lp ψ1y.l0 (w,names,(names.length:Int),0)=some (φ4l names w):=key
 rw[key];rfl
theorem φM8 {d:φ1} {n:List UInt8} (h:(φ2 d n).2=true):φH n d=φ26 n d:=by
 obtain ⟨i,hi,_,_,e⟩:=φ8O h
 unfold φH
 rw[if_pos (by omega)]
theorem φMR {d:φ1} (h:φ5 d=true) {m n:List UInt8} (hne:n≠m) (hn:(φ2 d n).2=true):(φ2 (φ26 m d).1 n).2=true:=by
 rw[φFG h hne];exact hn
theorem φFC (d:φ1) (v:φN) (h:φ5 d=true) (hv:v.2.length<1000000000):ψ3J.f d v=some (φC (φh v d)):=by
 unfold ψ3J.f φh
 rw[φN1 d v (φ1B (φn h) (by omega)) hv,bS]
 have hl:=φEY h v
 have hh:=φKP h v
 have hn:=φIW h v
 generalize φ1z d v=names at hl hh hn ⊢
 have key:=φd (step:=ψ3J.l0) (fun n (x:φ1)=>(x,(([],0,0,false):φ1),names,(n:Int))) names.length
  (fun n x=>if (φi (names.drop n) (x,0)).2=0 then .inl ((φi (names.drop n) (x,0)).1,([],0,0,false)) else .inr (φC (φi (names.drop n) (x,0))))
  (fun n x=>φ5 x=true∧∀m∈names.drop n,(φ2 x m).2=true)
  (fun rec n x hnn hx ih=>by
   rcases κ2 n names.length with h1 | h1
   ·have hw:=φL (show n+1<9223372036854775808 by omega)
    have hd:names.drop n=names[n]::names.drop (n+1):=dG h1
    have hnd:(names.drop n).Nodup:=(List.drop_sublist n names).nodup hn
    rw[hd,κS] at hnd
    have hin:(φ2 x names[n]).2=true:=hx.2 _ (by rw[hd];exact κ1)
    have hg:=φM8 hin
    have hs:φi (names.drop n) (x,0)=φi (names.drop (n+1)) (φ26 names[n] x):=by
     rw[hd]
     show φi (names.drop (n+1)) (φK (φH names[n]) (x,0))=_
     rw[φ22,hg]
    rw[hs]
    have hr:=φAn x names[n] (φ1B (φn hx.1) (by omega))
    have hr:ψ2s.f x names[n]=some (φ26 names[n] x):=hr
    simp only[ψ3J.l0,oL,h1,dT,cT,φD,φI,φ8 h1,hr,bS]
    have ih:=ih (φ26 names[n] x).1 h1 ⟨φ9M hx.1 _,fun m hm=>φMR hx.1 (fun e=>hnd.1 (e ▸ hm)) (hx.2 m (by rw[hd];exact mC _ hm))⟩
    generalize φ26 names[n] x=p at ih ⊢
    obtain ⟨y,c⟩:=p
    by_cases c0:c=0
    ·subst c0
     simp only[bne_self_eq_false,cF,hw,ih]
    ·have d0:(c != 0)=true:=by simpa using c0
     rw[φAe _ c0]
     simp only[d0,cT,φ2T,bS]
     rw[if_neg c0];rfl
   ·have:n=names.length:=by omega
    subst this
    rw[List.drop_length]
    simp[ψ3J.l0,φi])
  (by omega) 0 d (κ4 _) ⟨h,by rw[κB];exact hh⟩
 have key:lp ψ3J.l0 (d,([],0,0,false),names,0)=_:=key
 rw[key,bS,κB]
 by_cases c:(φi names (d,0)).2=0
 ·rw[if_pos c]
  simp only[φT]
  unfold φC
  rw[c];rfl
 ·rw[if_neg c]
  simp only[φZ]
noncomputable def φw (d:φ1) (id:Int):List φ7:=(scan (φ2 d (φ0 id)).1).1.map fun x=>((id,x):φ7)
theorem φ40 {d:φ1} (h:φ5 d=true) (n:List UInt8):(φ2 d n).1.length≤100000:=by
 have h1:=φ4O d n (φ1B (φn h) (by omega))
 have h2:=φ7a h
 omega
theorem φAJ {d:φ1} (h:φ5 d=true) (id:Int):(φw d id).length≤100000:=by
 unfold φw
 rw[lM]
 exact Nat.le_trans (φ4U _).2 (φ40 h _)
theorem φCQ {d:φ1} (h:φ5 d=true):∀ids:List Int,(ids.flatMap (φw d)).length≤100000 * ids.length
 | []=>by simp
 | id::r=>by
  have:=φAJ h id
  have:=φCQ h r
  simp only[List.flatMap_cons,lA,lC];omega
theorem φKp (id:Int) (t:List UInt8) (ht:t.length<1000000000):ψ3I.f id t=some ((scan t).1.map fun x=>((id,x):φ7)):=by
 unfold ψ3I.f
 rw[φ7Z t ht,bS]
 have hl:=(φ4U t).2
 generalize (scan t).1=l at hl ⊢
 have hk:=φ2U (step:=ψ3I.l0) l (fun (s:List φ7) (p:φ1Z)=>s++[((id,p):φ7)]) (fun n (s:List φ7)=>(id,s,l,(n:Int))) (fun s=>s) (fun n s=>s.length≤n) (by omega)
  (fun rec n s h hi=>by
   have hw:=φL (show n+1<9223372036854775808 by omega)
   have hb:(s.length+([((id,l[n]):φ7)]:List φ7).length) * 88≤140737488355328:=φ99 (by omega)
   simp only[ψ3I.l0,oL,h,dT,cT,φD,φI,φ8 h,hb,hw])
  (fun n s h hi=>by simp;omega)
  (fun rec s hi=>by simp[ψ3I.l0]) [] (κ9 _)
 have hk:lp ψ3I.l0 (id,[],l,0)=_:=hk
 have:∀(l:List φ1Z) (s:List φ7),l.foldl (fun (s:List φ7) (p:φ1Z)=>s++[((id,p):φ7)]) s=s++l.map (fun x=>((id,x):φ7)):=by
  intro l
  induction l with
  | nil=>intro s;simp
  | cons x l ih=>intro s;rw[κH,ih];simp
 simp only
 rw[hk,bS,this];rfl
abbrev φb:φA:=((0,[]),[],0,0,0)
abbrev φ3U:φ1:=([],0,0,false)
theorem φFm (v:φN) {d:φ1} {c:Int} (h:c≠0):sPut v (d,c)=(d,c):=by
 unfold sPut φ1k
 simp only[φ2L h]
noncomputable def φ6E (d:φ1):φA×φ1×Int:=
 let w:=sPut (2,[1]) (φK (φY (φ0 1)) (φh φ16 d))
 if w.2≠0 then (φb,w.1,told w.2) else (((2,[1]),[],1,0,0),w.1,0)
theorem φD5:φq (2,[1])=true:=by decide
theorem φII (d:φ1) (h:φ5 d=true):∃w:φE,ψ1u.f (d,0)=some (((2,[1]),[],1,0,0),w)∧w=φC (sPut (2,[1]) (φK (φY (φ0 1)) (φh φ16 d))):=by
 refine ⟨_,?_,rfl⟩
 unfold ψ1u.f
 have h1:=φDy (d,0) φ16 h (by show 0<_;omega)
 have e1:φ4l (φ1z d φ16) (d,0)=φC (φh φ16 d):=φB5 _ (d,0)
 have hd1:=φ6k h φ16
 have h2:=φB0 (φC (φh φ16 d)) (φ0 1) (k:=100001) (φn hd1) (by omega) (by have:=φ4C 1;omega)
 have e2:φ1P (φY (φ0 1)) (φC (φh φ16 d))=φC (φK (φY (φ0 1)) (φh φ16 d)):=φ35 _ _
 have hd2:φ5 (φK (φY (φ0 1)) (φh φ16 d)).1=true:=φ1j hd1 fun k=>φ39 k _
 have h3:=φD2 (φC (φK (φY (φ0 1)) (φh φ16 d))) (2,[1]) (k:=100001) (φn hd2) (by omega) (by show 1<_;decide)
 have e3:=φEP (2,[1]) (φK (φY (φ0 1)) (φh φ16 d))
 have h1:ψ1y.f (d,0) (0,[])=some (φC (φh φ16 d)):=h1.trans (by rw[e1])
 rw[e2] at h2
 rw[e3] at h3
 simp only[h1,bS,φ3b,h2,h3]
theorem φKF (d:φ1) (h:φ5 d=true):ψ3G.f d=some (φ6E d):=by
 unfold ψ3G.f φ6E
 have hd1:=φ6k h φ16
 have h1:=φFC d φ16 h (by show 0<_;omega)
 have h1:ψ3J.f d (0,[])=some (φC (φh φ16 d)):=h1
 rw[h1,bS]
 generalize φh φ16 d=w1 at hd1 ⊢
 obtain ⟨d1,c1⟩:=w1
 by_cases z1:c1=0
 rotate_left
 ·have t1:(told c1 != 0)=true:=by rw[φ5G];simpa using z1
  rw[φ2L z1,φFm _ z1]
  simp only[φC,t1,cT]
  rw[if_pos z1]
 subst z1
 have hd1:φ5 d1=true:=hd1
 have t1:(told 0 != 0)=false:=rfl
 have h2:=φBn d1 (φ0 1) (φ1B (φn hd1) (by omega)) (by have:=φ4C 1;omega)
 have h2:ψ2D.f d1 (φ0 1)=some (φY (φ0 1) d1):=h2
 have hd2:=φ39 hd1 (φ0 1)
 simp only[φC,t1,cF,φ2Q,bS,h2,φ22]
 generalize φY (φ0 1) d1=w2 at hd2 ⊢
 obtain ⟨d2,c2⟩:=w2
 by_cases z2:c2=0
 rotate_left
 ·have t2:(c2 != 0)=true:=by simpa using z2
  rw[φFm _ z2]
  simp only[t2,cT,φ2T,bS]
  rw[if_pos z2]
 subst z2
 have hd2:φ5 d2=true:=hd2
 have h3:=φBe d2 (2,[1]) (k:=100001) (φn hd2) (by omega) (by show 1<_;decide)
 have h3:ψ2h.f d2 (2,[1])=some (φC (sPut (2,[1]) (d2,0))):=by
  rw[h3];unfold φ71
  rw[if_neg (by rw[hd2,φD5];simp)]
 simp only[bne_self_eq_false,cF,h3,bS]
 generalize sPut (2,[1]) (d2,0)=w3
 obtain ⟨d3,c3⟩:=w3
 by_cases z3:c3=0
 ·subst z3;simp[φC,told]
 ·have t3:(told c3 != 0)=true:=by rw[φ5G];simpa using z3
  simp only[φC,t3,cT]
  rw[if_pos z3]
noncomputable def φ1r (d:φ1):List Int→Bool
 | []=>true
 | id::r=>(φ2 d (φ0 id)).2 && ((r.isEmpty || decide ((scan (φ2 d (φ0 id)).1).2=(φ2 d (φ0 id)).1.length)) && φ1r d r)
noncomputable def φ3v (d:φ1):List Int→Int→Int
 | [],z=>z
 | id::r,_=>φ3v d r ((scan (φ2 d (φ0 id)).1).2:Int)
theorem φEJ (d:φ1):∀(l:List Int) (z:Int),l≠[]→φ3v d l z=((scan (φ2 d (φ0 (φF l))).1).2:Int)
 | [],_,h=>absurd rfl h
 | [x],z,_=>by rw[φ3v,φ3v,φ7i]
 | x::y::l,z,_=>by rw[φ3v,φ7t];exact φEJ d (y::l) _ (by simp)
theorem φDx {α:Type} (l:List α) (n:Nat) (h:n<l.length):(l.drop (n+1)).isEmpty=decide (¬n<l.length - 1):=by
 apply Bool.eq_iff_iff.2
 rw[List.isEmpty_iff,List.drop_eq_nil_iff,decide_eq_true_eq];omega
theorem φDr (w:φE) (v:φN) (h:φ5 w.1=true) (hv:v.2.length<1000000) :
  ψ22.f w v=some (if φ1r w.1 v.2=true then (v.2.map (φw w.1),φ3v w.1 v.2 0,true,w) else ([],0,false,w)):=by
 have key:=φd (step:=ψ22.l0) (fun n (s:List (List φ7)×Int)=>(w,v,s.1,s.2,v.2,(v.2.length:Int),(n:Int))) v.2.length
  (fun n s=>if φ1r w.1 (v.2.drop n)=true then .inl (w,s.1++(v.2.drop n).map (φw w.1),φ3v w.1 (v.2.drop n) s.2) else .inr (w,[],0,false)) (fun n s=>s.1.length≤n)
  (fun rec n s hn hs ih=>by
   rcases κ2 n v.2.length with h1 | h1
   ·have hw:=φL (show n+1<9223372036854775808 by omega)
    have hwl:w64 ((v.2.length:Int) - 1)=((v.2.length - 1:Nat):Int):=by rw[φG (by omega) (by omega)];omega
    have hd:v.2.drop n=v.2[n]::v.2.drop (n+1):=dG h1
    have htx:=φ40 h (φ0 v.2[n])
    have hsc:=φ4U (φ2 w.1 (φ0 v.2[n])).1
    have hpl:=φC5 v.2[n] (scan (φ2 w.1 (φ0 v.2[n])).1).1 (by omega)
    have hb:decide ((s.1.length+([φw w.1 v.2[n]]:List (List φ7)).length) * 24≤140737488355328)=true:=by simp only[decide_eq_true_eq];exact φES (by omega)
    have ih:=ih (s.1++[φw w.1 v.2[n]],((scan (φ2 w.1 (φ0 v.2[n])).1).2:Int)) h1 (by simp only[lA,κ5];omega)
    have hft:=φ4T w.1 (φ0 v.2[n]) (φ1B (φn h) (by omega))
    have hsr:=φBA (φ2 w.1 (φ0 v.2[n])).1 (by omega)
    rw[hd]
    simp only[φ1r,φ3v,κ8,φDx v.2 n h1]
    simp only[ψ22.l0,oL,h1,dT,cT,φD,φI,φ8 h1,φ3b,bS,hft,hsr,hwl]
    have hpl2:ψ1Y.f v.2[n] (scan (φ2 w.1 (φ0 v.2[n])).1).1=some (φw w.1 v.2[n]):=hpl
    have hgo:((ψ1Y.f v.2[n] (scan (φ2 w.1 (φ0 v.2[n])).1).1).bind fun t5=>bif decide ((s.1.length+[t5].length) * 24≤140737488355328) then rec (w,v,s.1++[t5],((scan (φ2 w.1 (φ0 v.2[n])).1).2:Int),v.2,(v.2.length:Int),w64 ((n:Int)+1)) else none) =
      some (if φ1r w.1 (v.2.drop (n+1))=true then .inl (w,s.1++(φw w.1 v.2[n]::(v.2.drop (n+1)).map (φw w.1)),φ3v w.1 (v.2.drop (n+1)) ((scan (φ2 w.1 (φ0 v.2[n])).1).2:Int)) else .inr (w,[],0,false)):=by
     rw[hpl2,bS,hb,cT,hw]
     have:s.1++(φw w.1 v.2[n]::(v.2.drop (n+1)).map (φw w.1))=s.1++[φw w.1 v.2[n]]++(v.2.drop (n+1)).map (φw w.1):=by simp
     rw[this];exact ih
    cases hk:(φ2 w.1 (φ0 v.2[n])).2 with
    | false=>simp only[nF,cT,bS,φZ,κF,κ0,if_false]
    | true=>
     simp only[nZ,cF,tA]
     by_cases c1:n<v.2.length - 1
     ·simp only[c1,dT,cT,not_true,dF,κR]
      by_cases c2:(scan (φ2 w.1 (φ0 v.2[n])).1).2=(φ2 w.1 (φ0 v.2[n])).1.length
      ·rw[φ6y c2,cF]
       simp only[bS,φT,decide_eq_true c2,tA]
       exact hgo
      ·rw[φ6q c2,cT]
       simp only[bS,φZ,decide_eq_false c2,κF,κ0,if_false]
     ·simp only[c1,dF,cF,not_false_iff,dT,Bool.true_or,tA,bS,φT]
      exact hgo
   ·have:n=v.2.length:=by omega
    subst this
    rw[List.drop_length]
    simp[ψ22.l0,φ1r,φ3v])
  (by omega) 0 ([],0) (κ4 _) (κ9 _)
 have key:lp ψ22.l0 (w,v,[],0,v.2,(v.2.length:Int),0)=_:=key
 unfold ψ22.f
 rw[key,bS,κB]
 by_cases c:φ1r w.1 v.2=true
 ·rw[if_pos c,if_pos c];simp only[φT,κA]
 ·rw[if_neg c,if_neg c];simp only[φZ]
theorem φDk {hi:Int}:∀(l:List Int) (p:Option Int),φ1a hi p l=true→l.Pairwise (·<·)∧∀q,p=some q→∀x∈l,q<x
 | [],p,_=>⟨List.Pairwise.nil,by simp⟩
 | x::r,p,h=>by
  simp only[φ1a,bA,decide_eq_true_eq] at h
  obtain ⟨h1,h2,h3⟩:=h
  obtain ⟨k1,k2⟩:=φDk r (some x) h3
  have k2:=k2 x rfl
  refine ⟨List.Pairwise.cons k2 k1,?_⟩
  rintro q rfl y hy
  have h2:q<x:=by simpa using h2
  rcases mc.1 hy with rfl | hy
  ·exact h2
  ·exact Int.lt_trans h2 (k2 y hy)
theorem φDc {v:φN} (h:φq v=true):v.2.Pairwise (·<·):=(φDk v.2 none ((φ1A v).1 h).1).1
theorem φLd {l:List Int} (h:l.Pairwise (·<·)) {n:Nat} (hn:n<l.length):(l[n] != φF l)=decide (n<l.length - 1):=by
 have hl:l.length - 1<l.length:=by omega
 have hg:φF l=l[l.length - 1]:=by unfold φF;rw[φ8 hl]
 by_cases c:n<l.length - 1
 ·have:=(List.pairwise_iff_getElem.1 h) n (l.length - 1) hn hl c
  rw[decide_eq_true c,hg]
  simpa using (show ¬l[n]=l[l.length - 1] by omega)
 ·have e:n=l.length - 1:=by omega
  rw[decide_eq_false c,hg]
  subst e;simp
theorem φI5 (d:φ1) (v:φN) (h:φ5 d=true) (hv:φq v=true) :
  lp ψ2e.l0 (d,φb,φ3U,φb,v,φF v.2,0)=some (if φ1r d v.2=true then .inl (d,φb,φ3U,φb,v,φF v.2) else .inr (φb,d,3)):=by
 have hlen:=φ5W hv
 have hpw:=φDc hv
 have key:=φd (step:=ψ2e.l0) (fun n (_:Unit)=>(d,φb,φ3U,φb,v,φF v.2,(n:Int))) v.2.length
  (fun n _=>if φ1r d (v.2.drop n)=true then .inl (d,φb,φ3U,φb,v,φF v.2) else .inr (φb,d,3)) (fun _ _=>True)
  (fun rec n s hn hs ih=>by
   rcases κ2 n v.2.length with h1 | h1
   ·have hw:=φL (show n+1<9223372036854775808 by omega)
    have hd:v.2.drop n=v.2[n]::v.2.drop (n+1):=dG h1
    have htx:=φ40 h (φ0 v.2[n])
    have hsc:=φ4U (φ2 d (φ0 v.2[n])).1
    have ih:=ih () h1 trivial
    have hft:=φ51 d (φ0 v.2[n]) (φ1B (φn h) (by omega))
    have hsr:=φ7Z (φ2 d (φ0 v.2[n])).1 (by omega)
    have hcp:=φ5D d (by have:=(φ5o h).2.2;omega)
    rw[hd]
    simp only[φ1r,φDx v.2 n h1]
    simp only[ψ2e.l0,oL,h1,dT,cT,φD,φI,φ8 h1,φ2Q,bS,hft,hsr,φLd hpw h1]
    cases hk:(φ2 d (φ0 v.2[n])).2 with
    | false=>simp only[nF,cT,hcp,bS,φZ,κF,κ0,if_false]
    | true=>
     simp only[nZ,cF,tA]
     by_cases c1:n<v.2.length - 1
     ·simp only[c1,dT,cT,not_true,dF,κR]
      by_cases c2:(scan (φ2 d (φ0 v.2[n])).1).2=(φ2 d (φ0 v.2[n])).1.length
      ·have c3:decide ((scan (φ2 d (φ0 v.2[n])).1).2<(φ2 d (φ0 v.2[n])).1.length)=false:=decide_eq_false (by omega)
       simp only[c3,cF,bS,φT,decide_eq_true c2,tA,hw,ih]
      ·have c3:decide ((scan (φ2 d (φ0 v.2[n])).1).2<(φ2 d (φ0 v.2[n])).1.length)=true:=decide_eq_true (by omega)
       simp only[c3,cT,hcp,bS,φZ,decide_eq_false c2,κF,κ0,if_false]
     ·simp only[c1,dF,cF,not_false_iff,dT,Bool.true_or,tA,bS,φT,hw,ih]
   ·have:n=v.2.length:=by omega
    subst this
    rw[List.drop_length]
    simp[ψ2e.l0,φ1r])
  (by omega) 0 () (κ4 _) trivial
 exact key
noncomputable def φ20 (d:φ1) (id:Int):Option φr:=
 if (φ2 d (φJ id)).2=true∧(φ2M (φ2 d (φJ id)).1).2=true∧φ58 id (φ2 d (φ0 id)).1 (φ2M (φ2 d (φJ id)).1).1=true then
  some ((φ2M (φ2 d (φJ id)).1).1.2.2,(φ2M (φ2 d (φJ id)).1).1.2.1,0) else none
theorem φIn (w:φE) (id:Int) (h:φ5 w.1=true):ψ1x.f w id=some (match φ20 w.1 id with | some g=>(g,true,w) | none=>(([],0,0),false,w)):=by
 have hlm:=φ1B (φn h) (show 100001≤1000000000 by omega)
 have ht:=φ40 h (φJ id)
 have ht2:=φ40 h (φ0 id)
 unfold ψ1x.f φ20
 simp only[φ8f,bS,φ4T w.1 (φJ id) hlm,φK2 _ (show (φ2 w.1 (φJ id)).1.length<900000000 by omega),φ3b,φ4T w.1 (φ0 id) hlm,
  φHb id (φ2 w.1 (φ0 id)).1 (φ2M (φ2 w.1 (φJ id)).1).1 (by omega)]
 cases (φ2 w.1 (φJ id)).2<;>cases (φ2M (φ2 w.1 (φJ id)).1).2<;>cases φ58 id (φ2 w.1 (φ0 id)).1 (φ2M (φ2 w.1 (φJ id)).1).1<;>simp
noncomputable def φO (x:φ1) (ids:List Int):List φ7:=ids.flatMap (φw x)
theorem φHt (x:φ1) (v:φN) (e:Int) (h:φ5 x=true) (hv:φq v=true) :
  lp ψ2e.l2 (φb,φ3U,φb,v,x,(v,[],0,e,0),([],0,0),[],0) =
   some (match φ20 x (v.2.getD 0 0) with
    | some g=>(φb,φ3U,φb,v,x,(v,[],0,e,v.2.getD 0 0),g,φO x (v.2.drop 1))
    | none=>(φb,φ3U,φb,v,x,(v,[],0,e,0),([],0,0),φO x v.2)):=by
 have hlm:=φ1B (φn h) (show 100001≤1000000000 by omega)
 have hlen:=φ5W hv
 have key:=φd (step:=ψ2e.l2) (fun n (s:φA×φr×List φ7)=>(φb,φ3U,φb,v,x,s.1,s.2.1,s.2.2,(n:Int))) v.2.length
  (fun n s=>if n=0 then (match φ20 x (v.2.getD 0 0) with
    | some g=>(φb,φ3U,φb,v,x,(s.1.1,s.1.2.1,s.1.2.2.1,s.1.2.2.2.1,v.2.getD 0 0),g,s.2.2++φO x (v.2.drop 1))
    | none=>(φb,φ3U,φb,v,x,s.1,s.2.1,s.2.2++φO x v.2)) else (φb,φ3U,φb,v,x,s.1,s.2.1,s.2.2++φO x (v.2.drop n)))
  (fun n s=>s.2.2.length≤100000 * n∧(n=0→s.2.1.2.2=0∧0<v.2.length))
  (fun rec n s hn hs ih=>by
   rcases κ2 n v.2.length with h1 | h1
   ·have hw:=φL (show n+1<9223372036854775808 by omega)
    have hd:v.2.drop n=v.2[n]::v.2.drop (n+1):=dG h1
    have ht:=φ40 h (φJ v.2[n])
    have ht2:=φ40 h (φ0 v.2[n])
    have hpl:=φAJ h v.2[n]
    have hb:decide ((s.2.2.length+(φw x v.2[n]).length) * 88≤140737488355328)=true:=by
     have:=hs.1
     simp only[decide_eq_true_eq];omega
    have hi:(ψ3I.f v.2[n] (φ2 x (φ0 v.2[n])).1)=some (φw x v.2[n]):=φKp _ _ (by omega)
    have hpd:φO x (v.2.drop n)=φw x v.2[n]++φO x (v.2.drop (n+1)):=by rw[hd];rfl
    have hx:inB (n:Int) v.2.length=true:=by rw[φD,decide_eq_true h1]
    have hr:rdA 0 v.2 (n:Int)=v.2[n]:=by rw[φI,φ8 h1]
    have hrh:=φJM (φ2 x (φJ v.2[n])).1 (show (φ2 x (φJ v.2[n])).1.length<900000000 by omega)
    have hhf:=φIl v.2[n] (φ2 x (φ0 v.2[n])).1 (φ2M (φ2 x (φJ v.2[n])).1).1 (by omega)
    simp only[ψ2e.l2,oL,h1,dT,cT,hx,hr,φ2Q,bS,φ51 x _ hlm,φ6o,hrh]
    have ih1:=ih (s.1,s.2.1,s.2.2++φw x v.2[n]) h1 ⟨by simp only[lA];have:=hs.1;omega,by omega⟩
    rw[if_neg (by omega)] at ih1
    simp only[aA,←hpd] at ih1
    by_cases c:n=0
    ·subst c
     rw[if_pos rfl]
     have hx0:inB 0 v.2.length=true:=hx
     have hr0:rdA 0 v.2 0=v.2[0]:=hr
     have hg0:v.2.getD 0 0=v.2[0]:=φ8 h1
     have hn0:(((0:Nat):Int)==0)=true:=rfl
     have hcode:=(hs.2 rfl).1
     have ih2:=ih ((s.1.1,s.1.2.1,s.1.2.2.1,s.1.2.2.2.1,v.2[0]),((φ2M (φ2 x (φJ v.2[0])).1).1.2.2,(φ2M (φ2 x (φJ v.2[0])).1).1.2.1,0),s.2.2) h1 ⟨by have:=hs.1;show s.2.2.length≤_;omega,by omega⟩
     rw[if_neg (by omega)] at ih2
     rw[κB] at ih1
     simp only[hn0,cT,hx0,hr0,hhf,hg0,hcode,bS]
     unfold φ20
     cases c1:(φ2 x (φJ v.2[0])).2 with
     | false=>simp only[cF,bS,φT,hx,hr,hi,hb,cT,hw,ih1,κ0,false_and,if_false]
     | true=>
      cases c2:(φ2M (φ2 x (φJ v.2[0])).1).2 with
      | false=>simp only[cT,cF,bS,φT,hx,hr,hi,hb,hw,ih1,κ0,false_and,and_false,if_false]
      | true=>
       cases c3:φ58 v.2[0] (φ2 x (φ0 v.2[0])).1 (φ2M (φ2 x (φJ v.2[0])).1).1 with
       | false=>simp only[cT,cF,bS,φT,hx,hr,hi,hb,hw,ih1,κ0,false_and,and_false,if_false]
       | true=>simp only[cT,bS,φZ,hw,ih2,and_true,if_true]
    ·rw[if_neg c]
     have hn0:((n:Int)==0)=false:=by simpa using (show ¬(n:Int)=0 by omega)
     simp only[hn0,cF,bS,φT,hx,hr,hi,hb,cT,hw,ih1]
   ·have:n=v.2.length:=by omega
    subst this
    have:¬v.2.length=0:=fun e=>by have:=(hs.2 e).2;omega
    rw[if_neg this,List.drop_length]
    simp[ψ2e.l2,φO])
  (by omega) 0 ((v,[],0,e,0),([],0,0),[]) (κ4 _) ⟨κ9 _,fun _=>⟨rfl,by have:=((φ1A v).1 hv).2.2.1;omega⟩⟩
 have key:lp ψ2e.l2 (φb,φ3U,φb,v,x,(v,[],0,e,0),([],0,0),[],0)=_:=key
 rw[key,if_pos rfl]
 cases φ20 x (v.2.getD 0 0)<;>simp
theorem φLI (w:φE) (v:φN) (S:φA) (g:φr) (L:List (List φ7)) (z:φN) (hL:∀l∈L,l.length≤100000) (hl:L.length≤1000) :
  lp ψ1v.l0 (w,φb,(v.1,[]),S,g,[],L,(L.length:Int),0)=some (w,φb,(v.1,[]),S,g,L.flatten):=by
 have hk:=φ2U (step:=ψ1v.l0) L (fun (s:List φ7) l=>s++l) (fun n s=>(w,φb,(v.1,[]),S,g,s,L,(L.length:Int),(n:Int))) (fun s=>(w,φb,(v.1,[]),S,g,s)) (fun n s=>s.length≤100000 * n) (by omega)
  (fun rec n s h hi=>by
   have hw:=φL (show n+1<9223372036854775808 by omega)
   have h1:=hL _ (gM h)
   have hb:decide ((s.length+L[n].length) * 88≤140737488355328)=true:=by simp only[decide_eq_true_eq];omega
   simp only[ψ1v.l0,oL,h,dT,cT,φD,φI,φ8 h,hb,hw])
  (fun n s h hi=>by have h1:=hL _ (gM h);simp only[lA];omega)
  (fun rec s hi=>by simp[ψ1v.l0]) [] (κ9 _)
 have hk:lp ψ1v.l0 (w,φb,(v.1,[]),S,g,[],L,(L.length:Int),0)=_:=hk
 rw[hk]
 have:∀(L:List (List φ7)) (s:List φ7),L.foldl (fun (s:List φ7) l=>s++l) s=s++L.flatten:=by
  intro L
  induction L with
  | nil=>intro s;simp
  | cons x L ih=>intro s;rw[κH,ih];simp
 rw[this];rfl
theorem φJe {d:φ1} (h:φ5 d=true) {m n:List UInt8} (z:Int) (hne:n≠m):φ2 (φ2Z m z d).1 n=φ2 d n:=by
 refine φ6D h (φ5h h m z) n fun t=>?_
 unfold φ3Y
 rcases φ12 d.1 m with ⟨e,_⟩ | ⟨i,hi,e,hn⟩
 ·rw[φ1D e]
 ·rw[φ17 e]
  simp only
  split
  ·rw[φ8 hi]
   constructor
   ·rintro ⟨s,hs⟩;exact ⟨s,(φ66 (f:=(d.1[i].1,d.1[i].2.1.take z.toNat,if z<d.1[i].2.2 then z else d.1[i].2.2)) hi rfl (by rw[hn];exact hne)).2 hs⟩
   ·rintro ⟨s,hs⟩;exact ⟨s,(φ66 (f:=(d.1[i].1,d.1[i].2.1.take z.toNat,if z<d.1[i].2.2 then z else d.1[i].2.2)) hi rfl (by rw[hn];exact hne)).1 hs⟩
  ·exact Iff.rfl
theorem φLz {d:φ1} {n:List UInt8} {z:Int} (h:(φ2Z n z d).2=0):φ2 (φ2Z n z d).1 n=((φ2 d n).1.take z.toNat,true):=by
 obtain ⟨k,ha,hx⟩:=φ5z h
 have hk:φ5 (φ2Z n z d).1=true:=φ5h k n z
 have hx:(φ2Z n z d).1=_:=hx
 unfold φ3Y at ha hx
 rcases φ12 d.1 n with ⟨e,_⟩ | ⟨i,hi,e,hn⟩
 ·rw[φ1D e] at ha;simp at ha
 rw[φ17 e] at ha hx
 simp only at ha hx
 split at ha
 ·rename_i c
  rw[if_pos c,φ8 hi] at hx
  have e1:=φ3i k (gM hi)
  rw[hn] at e1
  have hm:((n,d.1[i].2.1.take z.toNat,if z<d.1[i].2.2 then z else d.1[i].2.2):φ6)∈(φ2Z n z d).1.1:=by
   rw[hx,←hn]
   exact List.mem_iff_getElem.2 ⟨i,by simpa using hi,by simp⟩
  have e2:=φ3i hk hm
  rw[e1]
  exact e2
 ·simp at ha
noncomputable def cutN (v:φN) (d:φ1):Nat:=(scan (φ2 d (φ0 (φF v.2))).1).2
noncomputable def cutW (v:φN) (d:φ1):φE:=
 φK (φR (φ0 (φF v.2))) (if (φ2 d (φ0 (φF v.2))).1.length=cutN v d then (d,0) else φ2Z (φ0 (φF v.2)) (cutN v d:Int) d)
theorem φCL {v:φN} {d:φ1} (h:φ5 d=true):φ5 (cutW v d).1=true:=by
 unfold cutW
 refine φ1j ?_ fun k=>φ3I k _
 split
 ·exact h
 ·exact φ5h h _ _
theorem φKg {v:φN} {d:φ1} (h:φ5 d=true) (n:List UInt8) (hne:n≠φ0 (φF v.2)):φ2 (cutW v d).1 n=φ2 d n:=by
 unfold cutW
 split
 ·rw[φ2d (φ2g h _ _)]
 ·have hk:φ5 (φ2Z (φ0 (φF v.2)) (cutN v d:Int) d).1=true:=φ5h h _ _
  rw[φ2d (φ2g hk _ _)]
  exact φJe h _ hne
theorem φLp {v:φN} {d:φ1} (h:φ5 d=true) (hl:(φ2 d (φ0 (φF v.2))).2=true) (hc:(cutW v d).2=0) :
  φ2 (cutW v d).1 (φ0 (φF v.2))=((φ2 d (φ0 (φF v.2))).1.take (cutN v d),true):=by
 unfold cutW at hc ⊢
 have h0:=(φ4I hc).1
 split
 ·rename_i c
  rw[φ2d (φ2g h _ _),←c,κQ]
  exact Prod.ext rfl hl
 ·rename_i c
  rw[if_neg c] at h0
  have hk:φ5 (φ2Z (φ0 (φF v.2)) (cutN v d:Int) d).1=true:=φ5h h _ _
  rw[φ2d (φ2g hk _ _),φLz h0,tN]
theorem φFR {v:φN} {d:φ1} (h:φ5 d=true) (hl:(φ2 d (φ0 (φF v.2))).2=true) (hc:(cutW v d).2=0) (id:Int):φw (cutW v d).1 id=φw d id:=by
 unfold φw
 by_cases c:φ0 id=φ0 (φF v.2)
 ·rw[c,φLp h hl hc]
  show List.map _ (scan ((φ2 d (φ0 (φF v.2))).1.take (cutN v d))).1=_
  unfold cutN
  rw[φNL]
 ·rw[φKg h _ c]
theorem φEN {d:φ1}:∀(l:List Int),l≠[]→φ1r d l=true→(φ2 d (φ0 (φF l))).2=true
 | [],h,_=>absurd rfl h
 | [x],_,h=>by
  simp only[φ1r,bA] at h
  rw[φ7i];exact h.1
 | x::y::l,_,h=>by
  rw[φ7t]
  have h:φ1r d (x::(y::l))=true:=h
  rw[φ1r,bA,bA] at h
  exact φEN (y::l) (by simp) h.2.2
noncomputable def φ4D (v:φN) (d:φ1):φA×φ1×Int:=
 if (cutW v d).2≠0 then (φb,(cutW v d).1,told (cutW v d).2) else
 let x:=(cutW v d).1
 let g:=match φ20 x (v.2.getD 0 0) with
  | some g=>φ1Q g (φO x (v.2.drop 1))
  | none=>φ1Q ([],0,0) (φO x v.2)
 let hinted:=match φ20 x (v.2.getD 0 0) with
  | some _=>v.2.getD 0 0
  | none=>0
 if g.2.2≠0 then (φb,x,3) else
 if (φh v x).2≠0 then (φb,(φh v x).1,told (φh v x).2) else
 ((v,g.1,w64 (g.2.1+1),(cutN v d:Int),hinted),(φh v x).1,0)
noncomputable def φ3S (d:φ1):φA×φ1×Int:=
 if φ5 d=false then (φb,d,4) else if d.2.2.2=true then (φb,d,1) else
 if (φ2 d φl).2=false then φ6E d else
 if (φ2v (φ2 d φl).1).2=false then (φb,d,3) else
 if φ1r d (φ2v (φ2 d φl).1).1.2=false then (φb,d,3) else φ4D (φ2v (φ2 d φl).1).1 d
theorem φIG {x:φ1} {id:Int} {g:φr} (h:φ20 x id=some g):g.1.length≤20∧g.2.2=0:=by
 unfold φ20 at h
 split at h
 ·rename_i c
  simp only[Option.some.injEq] at h
  subst h
  refine ⟨?_,rfl⟩
  rcases φCR (φ2 x (φJ id)).1 with ⟨e,_⟩ | ⟨u,e,hu⟩
  ·rw[e] at c;simp at c
  ·rw[e];exact (φA6 hu.1).2.2.1
 ·simp at h
theorem φB7 {x:φ1} {id:Int} {g:φr} (h:φ20 x id=some g):φ1s g:=by
 obtain ⟨h1,h2⟩:=φIG h
 unfold φ1s
 rw[if_pos h2];omega
theorem φBG:φ1s ([],0,0):=by unfold φ1s;simp
theorem φ8D {x:φ1} (h:φ5 x=true) {ids:List Int} (hl:ids.length≤60):(φO x ids).length<10000000:=by
 have:=φCQ h ids
 unfold φO;omega
theorem φMa (d:φ1) (t:List UInt8) (h:φ5 d=true) (ht:t.length<1000000000) :
  ∃S w,ψ1v.f (d,0) t=some (S,w) ∧
   (if w.2≠0 then (φb,w.1,w.2) else (S,w.1,(0:Int))) =
   (if (φ2v t).2=false then (φb,d,3) else if φ1r d (φ2v t).1.2=false then (φb,d,3) else φ4D (φ2v t).1 d):=by
 unfold ψ1v.f
 rw[φJL t ht,bS]
 rcases φAl t with ⟨e,_⟩ | ⟨v,e,hv⟩
 ·rw[e]
  have hs:=φDr (d,0) φ16 h (by show 0<_;omega)
  rw[if_pos (show φ1r d φ16.2=true from rfl)] at hs
  simp only[hs,bS,nF,cT,if_true]
  exact ⟨_,_,rfl,by simp⟩
 rw[e]
 have hlen:=φ5W hv.1
 have hpos:=((φ1A v).1 hv.1).2.2.1
 have hs:=φDr (d,0) v h (by omega)
 simp only[hs,bS]
 cases hc:φ1r d v.2 with
 | false=>
  simp only[κ0,if_false,nZ,cF,nF,cT]
  exact ⟨_,_,rfl,by simp⟩
 | true=>
  have hlast:=φEN v.2 (fun z=>by rw[z] at hpos;simp at hpos) hc
  obtain ⟨l1,l2,l3⟩:=φ7f hpos (by omega)
  have hle:=φEJ d v.2 0 (fun z=>by rw[z] at hpos;simp at hpos)
  have hlm:=φ1B (φn h) (show 100001≤1000000000 by omega)
  have hT:=φIh d (φ0 (φF v.2)) (cutN v d:Int) hlm
  have hT:ψ16.f d (φ0 (φF v.2)) (cutN v d:Int)=some (φ2Z (φ0 (φF v.2)) (cutN v d:Int) d):=hT
  have hcw:φ3v d v.2 0=(cutN v d:Int):=hle
  simp only[if_true,nZ,cF,κ7,if_false,l1,l2,cT,l3,φ3b,bS,φ4T d _ hlm,hcw]
  -- cut and kept
  have hmid:∃w0:φE,w0=φC (if (φ2 d (φ0 (φF v.2))).1.length=cutN v d then (d,0) else φ2Z (φ0 (φF v.2)) (cutN v d:Int) d) ∧
    ((bif ((φ2 d (φ0 (φF v.2))).1.length:Int) != (cutN v d:Int) then
     (ψ16.f d (φ0 (φF v.2)) (cutN v d:Int)).bind fun (t5_0,t5_1)=>(ψ24.f (d,0) t5_0 t5_1).bind fun t6=>some (t6,φb,v,v.2.map (φw d),(cutN v d:Int),φ0 (φF v.2))
     else some ((d,0),φb,v,v.2.map (φw d),(cutN v d:Int),φ0 (φF v.2)):Option (φE×φA×φN×List (List φ7)×Int×List UInt8)))=some (w0,φb,v,v.2.map (φw d),(cutN v d:Int),φ0 (φF v.2)):=by
   refine ⟨_,rfl,?_⟩
   by_cases c:(φ2 d (φ0 (φF v.2))).1.length=cutN v d
   ·rw[φ6y c,if_pos c];rfl
   ·rw[φ6q c,if_neg c,cT,hT,bS]
    generalize φ2Z (φ0 (φF v.2)) (cutN v d:Int) d=p
    obtain ⟨p1,p2⟩:=p
    simp only[φ6Q,bS];rfl
  obtain ⟨w0,ew0,hmid⟩:=hmid
  have hmid:=hmid
  have hsync:ψ23.f w0 (φ0 (φF v.2))=some (φC (cutW v d)):=by
   have hd0:φ5 w0.1=true:=by
    rw[ew0]
    show φ5 (if (φ2 d (φ0 (φF v.2))).1.length=cutN v d then (d,(0:Int)) else φ2Z (φ0 (φF v.2)) (cutN v d:Int) d).1=true
    split
    ·exact h
    ·exact φ5h h _ _
   rw[φB3 w0 (φ0 (φF v.2)) (φn hd0) (by omega),ew0,φ35];rfl
  refine (show ∃S w,_∧_ from ?_)
  have hx0:inB 0 v.2.length=true:=by rw[show (0:Int)=((0:Nat):Int) from rfl,φD];simp;omega
  have hr0:rdA 0 v.2 0=v.2.getD 0 0:=by rw[show (0:Int)=((0:Nat):Int) from rfl,φI]
  have hsl:(decide (0≤(1:Int)) && decide (1≤((v.2.map (φw d)).length:Int)))=true:=by rw[lM];simp;omega
  have hd1:=φCL (v:=v) h
  have hpl:=fun hc2=>φFR (v:=v) h hlast hc2
  unfold φ4D
  have hfl:∀ids:List Int,(cutW v d).2=0→(ids.map (φw d)).flatten=φO (cutW v d).1 ids:=fun ids hc2=>by
   unfold φO
   rw[List.flatMap_def]
   congr 1
   exact List.map_congr_left fun id _=>(hpl hc2 id).symm
  have hmap:∀(ids:List Int),∀l∈ids.map (φw d),l.length≤100000:=fun ids l hl=>by
   obtain ⟨id,_,rfl⟩:=mM.1 hl;exact φAJ h id
  rw[show (((d,(0:Int)):φE).1)=d from rfl] at *
  rw[hmid,bS]
  simp only[hsync,bS]
  generalize hW:cutW v d=W at *
  obtain ⟨x,c⟩:=W
  by_cases c0:c=0
  rotate_left
  ·have t1:(told c != 0)=true:=by rw[φ5G];simpa using c0
   have t2:told c≠0:=fun z=>c0 ((φ1R c).1 z)
   rw[if_pos c0]
   simp only[φC,t1,cT]
   exact ⟨_,_,rfl,by rw[if_pos t2]⟩
  subst c0
  have hd1:φ5 x=true:=hd1
  rw[if_neg (by simp)]
  have t1:(told 0 != 0)=false:=rfl
  have t0:told 0=0:=rfl
  have hh:=φIn (x,0) (v.2.getD 0 0) hd1
  simp only[φC,t1,t0,cF,hx0,cT,hr0,hh,bS]
  -- the end,alike for both ways
  have fin:∀(g0:φr) (ids:List Int) (hin:Int),φ1s g0→ids.length≤60 →
    ∃S w,((lp ψ1v.l0 ((x,0),φb,(v.1,[]),(v,[],0,(cutN v d:Int),hin),g0,[],ids.map (φw d),((ids.map (φw d)).length:Int),0)).bind (fun (x0,x4,x5,x13,x14,x16)=>
     (ψm.f x14 x16).bind fun t10=>
     bif t10.2.2 != 0 then some (φb,(x0.1,3)) else
     (ψ1y.f x0 (x5.1,x13.1.2)).bind fun t11=>some ((x13.1,t10.1,w64 (t10.2.1+1),x13.2.2.2),t11)):Option (φA×φE))=some (S,w) ∧
    (if w.2≠0 then (φb,w.1,w.2) else (S,w.1,(0:Int))) =
     (if (φ1Q g0 (φO x ids)).2.2≠0 then (φb,x,3) else if (φh v x).2≠0 then (φb,(φh v x).1,told (φh v x).2) else
      ((v,(φ1Q g0 (φO x ids)).1,w64 ((φ1Q g0 (φO x ids)).2.1+1),(cutN v d:Int),hin),(φh v x).1,0)):=by
   intro g0 ids hin hg hi
   rw[φLI (x,0) v (v,[],0,(cutN v d:Int),hin) g0 (ids.map (φw d)) v (hmap ids) (by rw[lM];omega),bS]
   have hfl2:=hfl ids rfl
   have hrg:=φJ0 g0 (φO x ids) (φ8D hd1 hi) hg
   have hor:=φDy (x,0) (v.1,v.2) hd1 (by show v.2.length<_;omega)
   have ewd:φ4l (φ1z x v) (x,0)=φC (φh v x):=φB5 _ (x,0)
   have hor:ψ1y.f (x,0) (v.1,v.2)=some (φC (φh v x)):=hor.trans (by rw[←ewd])
   simp only[hfl2,hrg,bS]
   by_cases c1:(φ1Q g0 (φO x ids)).2.2=0
   rotate_left
   ·have d1:((φ1Q g0 (φO x ids)).2.2 != 0)=true:=by simpa using c1
    rw[d1,cT,if_pos c1]
    exact ⟨_,_,rfl,by simp⟩
   have d1:((φ1Q g0 (φO x ids)).2.2 != 0)=false:=by simpa using c1
   rw[d1,cF,if_neg (fun z=>z c1),hor,bS]
   refine ⟨_,_,rfl,?_⟩
   generalize φh v x=S2
   obtain ⟨y,c2⟩:=S2
   by_cases c3:c2=0
   ·subst c3;simp[φC,told]
   ·have t2:told c2≠0:=fun z=>c3 ((φ1R c2).1 z)
    simp[φC,t2,c3]
  cases hg:φ20 x (v.2.getD 0 0) with
  | some g=>
   simp only[cT,hx0,hsl,hr0,bS]
   have e1:(v.2.map (φw d)).drop 1=(v.2.drop 1).map (φw d):=by rw[List.map_drop]
   rw[e1]
   exact fin g (v.2.drop 1) (v.2.getD 0 0) (φB7 hg) (by rw[lD];omega)
  | none=>
   simp only[cF,bS]
   exact fin ([],0,0) v.2 0 φBG hlen
theorem φE1 (d:φ1) (hd:dl 1048577 d):ψa.f d=some (φ3S d):=by
 have hlm:=φ1B hd (by omega)
 unfold ψa.f φ3S
 rw[φ7U d (by have:=hd.1;omega),bS,φ6X d hlm,bS]
 cases h:φ5 d with
 | false=>rfl
 | true=>
  simp only[nZ,cF,κ7,if_false]
  obtain ⟨fs,cap,fuel,down⟩:=d
  cases hdn:down with
  | true=>rfl
  | false=>
   subst hdn
   simp only[cF,κ0,if_false]
   have hft:=φ4T (fs,cap,fuel,false) φl hlm
   have hft:ψM.f (fs,cap,fuel,false) [108,105,118,101]=_:=hft
   rw[hft,bS]
   have htl:=φ40 h φl
   generalize ((fs,cap,fuel,false):φ1)=d at *
   generalize φ2 d φl=q at htl ⊢
   obtain ⟨t,b⟩:=q
   cases b with
   | false=>
    simp only[cF,if_true]
    obtain ⟨w,e1,e2⟩:=φII d h
    simp only[e1,bS]
    unfold φ6E
    rw[e2]
    generalize sPut (2,[1]) (φK (φY (φ0 1)) (φh φ16 d))=p
    obtain ⟨y,c⟩:=p
    by_cases c0:c=0
    ·subst c0;simp[φC,told]
    ·have t1:(told c != 0)=true:=by rw[φ5G];simpa using c0
     simp only[φC,t1,cT]
     rw[if_pos c0]
   | true=>
    simp only[cT,κ7,if_false]
    obtain ⟨S,w,e1,e2⟩:=φMa d t h (by have:t.length≤100000:=htl;omega)
    rw[←e2]
    simp only[e1,bS]
    obtain ⟨y,c⟩:=w
    by_cases c0:c=0
    ·subst c0;simp
    ·have t1:(c != 0)=true:=by simpa using c0
     simp only[t1,cT]
     rw[if_pos c0]
theorem φGs (d:φ1) (hd:dl 1048577 d):ψ2e.f d=some (φ3S d):=by
 have hlm:=φ1B hd (by omega)
 unfold ψ2e.f φ3S
 have hcp:=φ5D d (by have:=hd.1;omega)
 rw[φ5p d hlm,bS]
 cases h:φ5 d with
 | false=>simp only[nF,cT,hcp,bS,if_true]
 | true=>
  simp only[nZ,cF,κ7,if_false]
  cases hdn:d.2.2.2 with
  | true=>simp only[cT,hcp,bS,if_true]
  | false=>
   simp only[cF,κ0,if_false]
   have hft:=φ51 d φl hlm
   have hft:ψ2R.f d [108,105,118,101]=_:=hft
   rw[hft,bS]
   have htl:=φ40 h φl
   generalize φ2 d φl=q at htl ⊢
   obtain ⟨t,b⟩:=q
   cases b with
   | false=>simp only[nF,cT,φKF d h,bS,if_true]
   | true=>
    have htl:t.length≤100000:=htl
    simp only[nZ,cF,κ7,if_false,φEX t (by omega),bS]
    rcases φAl t with ⟨e,_⟩ | ⟨v,e,hv⟩
    ·rw[e]
     simp only[nF,cT,hcp,bS,if_true]
    rw[e]
    have hlen:=φ5W hv.1
    have hpos:=((φ1A v).1 hv.1).2.2.1
    obtain ⟨l1,l2,l3⟩:=φ7f hpos (by omega)
    have h0:=φI5 d v h hv.1
    simp only[nZ,cF,κ7,if_false,l1,l2,cT,l3,h0,bS]
    cases hc:φ1r d v.2 with
    | false=>simp only[κ0,if_false,φZ,if_true]
    | true=>
     have hsc:=φ4U (φ2 d (φ0 (φF v.2))).1
     have htx:=φ40 h (φ0 (φF v.2))
     have hT:=φHE d (φ0 (φF v.2)) (cutN v d:Int) hlm
     have hT:ψ35.f d (φ0 (φF v.2)) (cutN v d:Int)=some (φ2Z (φ0 (φF v.2)) (cutN v d:Int) d):=hT
     have hsr:=φ7Z (φ2 d (φ0 (φF v.2))).1 (by omega)
     have hcn:((scan (φ2 d (φ0 (φF v.2))).1).2:Int)=(cutN v d:Int):=rfl
     rw[hcn] at hsr
     simp only[if_true,φT,κ7,if_false,φ2Q,bS,φ51 d _ hlm,hsr,hcp]
     have hle:cutN v d≤(φ2 d (φ0 (φF v.2))).1.length:=hsc.1
     unfold φ4D
     -- the end,alike for both ways
     have fin:∀(w:φE),φ5 w.1=true→w.2=0→cutW v d=φK (φR (φ0 (φF v.2))) w →
       ((ψ34.f w.1 (φ0 (φF v.2))).bind fun (t25_0,t25_1)=>
        bif t25_1 != 0 then (ψ3E.f t25_1).bind fun t26=>some (φb,t25_0,t26) else
        (lp ψ2e.l2 (φb,φ3U,φb,v,t25_0,(v,[],0,(cutN v d:Int),0),([],0,0),([]:List φ7),0)).bind (fun (x2,x3,x5,x8,x19,x23,x24,x25)=>
        (ψ2r.f x24 x25).bind fun t35=>
        bif t35.2.2 != 0 then some (x5,x19,3) else
        (ψ3J.f x19 x8).bind fun (t36_0,t36_1)=>
        bif t36_1 != 0 then some (x5,t36_0,t36_1) else some ((x23.1,t35.1,w64 (t35.2.1+1),x23.2.2.2),t36_0,0))) =
       some (if (cutW v d).2≠0 then (φb,(cutW v d).1,told (cutW v d).2) else
        let x:=(cutW v d).1
        let g:=match φ20 x (v.2.getD 0 0) with
         | some g=>φ1Q g (φO x (v.2.drop 1))
         | none=>φ1Q ([],0,0) (φO x v.2)
        let hinted:=match φ20 x (v.2.getD 0 0) with
         | some _=>v.2.getD 0 0
         | none=>0
        if g.2.2≠0 then (φb,x,3) else
        if (φh v x).2≠0 then (φb,(φh v x).1,told (φh v x).2) else
        ((v,g.1,w64 (g.2.1+1),(cutN v d:Int),hinted),(φh v x).1,0)):=by
      intro w hw h0 ecut
      obtain ⟨w1,w2⟩:=w
      have h0:w2=0:=h0
      subst h0
      have hw:φ5 w1=true:=hw
      have hsy:=φ7F w1 (φ0 (φF v.2)) (φ1B (φn hw) (by omega))
      have hsy:ψ34.f w1 (φ0 (φF v.2))=some (φR (φ0 (φF v.2)) w1):=hsy
      rw[φ22] at ecut
      have hdx:=φ3I hw (φ0 (φF v.2))
      rw[←ecut] at hsy hdx
      simp only[hsy,bS]
      generalize cutW v d=W at hdx ⊢
      obtain ⟨x,c⟩:=W
      have hdx:φ5 x=true:=hdx
      by_cases c0:c=0
      rotate_left
      ·have d0:(c != 0)=true:=by simpa using c0
       rw[if_pos c0]
       simp only[d0,cT,φ2T,bS]
      subst c0
      rw[if_neg (by simp)]
      have d0:((0:Int) != 0)=false:=rfl
      have h2:=φHt x v (cutN v d:Int) hdx hv.1
      simp only[d0,cF,h2,bS]
      have fin2:∀(g0:φr) (ids:List Int) (hin:Int),φ1s g0→ids.length≤60 →
        ((ψ2r.f g0 (φO x ids)).bind fun t35=>bif t35.2.2 != 0 then some (φb,x,3) else (ψ3J.f x v).bind fun (t36_0,t36_1)=>
         bif t36_1 != 0 then some (φb,t36_0,t36_1) else some ((v,t35.1,w64 (t35.2.1+1),(cutN v d:Int),hin),t36_0,0)) =
        some (if (φ1Q g0 (φO x ids)).2.2≠0 then (φb,x,3) else if (φh v x).2≠0 then (φb,(φh v x).1,told (φh v x).2) else
         ((v,(φ1Q g0 (φO x ids)).1,w64 ((φ1Q g0 (φO x ids)).2.1+1),(cutN v d:Int),hin),(φh v x).1,0)):=by
       intro g0 ids hin hg hi
       have hrg:=φMm g0 (φO x ids) (φ8D hdx hi) hg
       rw[hrg,bS]
       by_cases c1:(φ1Q g0 (φO x ids)).2.2=0
       rotate_left
       ·have d1:((φ1Q g0 (φO x ids)).2.2 != 0)=true:=by simpa using c1
        rw[d1,cT,if_pos c1]
       have d1:((φ1Q g0 (φO x ids)).2.2 != 0)=false:=by simpa using c1
       rw[d1,cF,if_neg (fun z=>z c1),φFC x v hdx (by omega),bS]
       generalize φh v x=S2
       obtain ⟨y,c2⟩:=S2
       by_cases c3:c2=0
       ·subst c3;simp[φC,told]
       ·have t2:(told c2 != 0)=true:=by rw[φ5G];simpa using c3
        simp only[φC,t2,cT]
        rw[if_pos c3]
      cases hg:φ20 x (v.2.getD 0 0) with
      | some g=>exact fin2 g (v.2.drop 1) (v.2.getD 0 0) (φB7 hg) (by rw[lD];omega)
      | none=>exact fin2 ([],0,0) v.2 0 φBG hlen
     by_cases c:(φ2 d (φ0 (φF v.2))).1.length=cutN v d
     ·have d1:decide ((cutN v d:Int)<((φ2 d (φ0 (φF v.2))).1.length:Int))=false:=decide_eq_false (by omega)
      rw[d1,cF,bS]
      simp only[φT,φ2Q,bS]
      exact fin (d,0) h rfl (by unfold cutW;rw[if_pos c])
     ·have d1:decide ((cutN v d:Int)<((φ2 d (φ0 (φF v.2))).1.length:Int))=true:=decide_eq_true (by omega)
      rw[d1,cT,hT,bS]
      have ecut:cutW v d=φK (φR (φ0 (φF v.2))) (φ2Z (φ0 (φF v.2)) (cutN v d:Int) d):=by unfold cutW;rw[if_neg c]
      have hdt:φ5 (φ2Z (φ0 (φF v.2)) (cutN v d:Int) d).1=true:=φ5h h _ _
      generalize φ2Z (φ0 (φF v.2)) (cutN v d:Int) d=p at ecut hdt ⊢
      obtain ⟨y,c2⟩:=p
      by_cases c3:c2=0
      ·subst c3
       simp only[show ((0:Int) != 0)=false from rfl,cF,bS,φT,φ2Q]
       exact fin (y,0) hdt rfl ecut
      ·have d3:(c2 != 0)=true:=by simpa using c3
       rw[φ2L c3] at ecut
       simp only[d3,cT,φ2T,bS,φZ]
       rw[ecut,if_pos c3]
theorem φDo:∀(r pre:List φ7) (g:φr),φ1s g→pre.length+r.length<10000000→φ1s (φg pre r g)
 | [],_,g,h,_=>h
 | p::r,pre,g,h,hl=>by
  unfold φg
  simp only[lC] at hl
  split
  ·exact h
  ·rename_i c
   exact φDo r (pre++[p]) _ (φAs h (by simpa using c) (by omega)) (by simp only[lA,κ5];omega)
theorem φCt {g:φr} {l:List φ7} (h:φ1s g) (hl:l.length<10000000):(φ1Q g l).1.length≤11000020:=by
 have:=φDo l [] g h (by simpa using hl)
 unfold φ1s at this
 unfold φ1Q φ6P
 split
 ·show (φg [] l g).1.length≤_
  split at this<;>omega
 ·split at this<;>omega
noncomputable def φ4q (v:φN) (x:φ1) (e:Int) (g:φr) (hin:Int):φA×φ1×Int:=
 if g.2.2≠0 then (φb,x,3) else
 if (φh v x).2≠0 then (φb,(φh v x).1,told (φh v x).2) else
 ((v,g.1,w64 (g.2.1+1),e,hin),(φh v x).1,0)
theorem φFp (v:φN) (d:φ1):φ4D v d=if (cutW v d).2≠0 then (φb,(cutW v d).1,told (cutW v d).2) else
  match φ20 (cutW v d).1 (v.2.getD 0 0) with
  | some g=>φ4q v (cutW v d).1 (cutN v d:Int) (φ1Q g (φO (cutW v d).1 (v.2.drop 1))) (v.2.getD 0 0)
  | none=>φ4q v (cutW v d).1 (cutN v d:Int) (φ1Q ([],0,0) (φO (cutW v d).1 v.2)) 0:=by
 unfold φ4D
 by_cases c:(cutW v d).2≠0
 ·rw[if_pos c,if_pos c]
 ·rw[if_neg c,if_neg c]
  simp only
  cases φ20 (cutW v d).1 (v.2.getD 0 0)<;>rfl
theorem φGB {v:φN} {x:φ1} (e:Int) (g:φr) (hin:Int) (h:φ5 x=true) (hl:v.2.length≤60) (hg:g.1.length≤11000020) :
  φ5 (φ4q v x e g hin).2.1=true∧(φ4q v x e g hin).1.1.2.length≤60∧(φ4q v x e g hin).1.2.1.length≤11000020:=by
 unfold φ4q
 have hs:=φ6k h v
 split
 ·exact ⟨h,by simp,by simp⟩
 split
 ·exact ⟨hs,by simp,by simp⟩
 exact ⟨hs,hl,hg⟩
theorem φK0 {d:φ1} (h:φ5 d=true):φ5 (φ3S d).2.1=true∧(φ3S d).1.1.2.length≤60∧(φ3S d).1.2.1.length≤11000020:=by
 unfold φ3S
 rw[if_neg (by rw[h];simp)]
 split
 ·exact ⟨h,by simp,by simp⟩
 split
 ·unfold φ6E
  have h1:φ5 (sPut (2,[1]) (φK (φY (φ0 1)) (φh φ16 d))).1=true:=φ4G (φ1j (φ6k h φ16) fun k=>φ39 k _) _
  simp only
  split
  ·exact ⟨h1,by simp,by simp⟩
  ·exact ⟨h1,by simp,by simp⟩
 split
 ·exact ⟨h,by simp,by simp⟩
 rename_i hv
 split
 ·exact ⟨h,by simp,by simp⟩
 rcases φAl (φ2 d φl).1 with ⟨e,_⟩ | ⟨v,e,hlv⟩
 ·rw[e] at hv;simp at hv
 rw[e]
 show φ5 (φ4D v d).2.1=true∧(φ4D v d).1.1.2.length≤60∧(φ4D v d).1.2.1.length≤11000020
 have hlen:=φ5W hlv.1
 have hd1:=φCL (v:=v) h
 rw[φFp]
 split
 ·exact ⟨hd1,by simp,by simp⟩
 cases hg:φ20 (cutW v d).1 (v.2.getD 0 0) with
 | some g=>exact φGB _ _ _ hd1 hlen (φCt (φB7 hg) (φ8D hd1 (by rw[lD];omega)))
 | none=>exact φGB _ _ _ hd1 hlen (φCt φBG (φ8D hd1 hlen))
theorem φMk:φ0 1=[115,101,103,49]:=by
 unfold φ0 φ1y
 rw[if_pos (by decide)]
 show _++Lib.decDigits 1=_
 rw[Lib.decDigits_one (by decide)]
 rfl
theorem φI4:(φ10 (2,[1])).length=8:=by
 unfold φ10
 rw[if_neg (by decide)]
 have e2:varT 2=[2]:=by rw[show (2:Int)=((2:Nat):Int) from rfl,φ55 2 (by decide),φ5M (by decide)];rfl
 have e1:varT 1=[1]:=by rw[show (1:Int)=((1:Nat):Int) from rfl,φ55 1 (by decide),φ5M (by decide)];rfl
 have e:varT (2,[1]).1++varT (((2,[1]):φN).2.length:Int)++(((2,[1]):φN).2.map varT).flatten=[2,1,1]:=by
  show varT 2++varT 1++(varT 1++[])=_
  rw[e2,e1];rfl
 rw[e]
 obtain ⟨h1,h2⟩:=φ7l (t:=[2,1,1]) (by decide)
 rw[h1,lA,h2,lA,φ5M (by decide)]
 rfl
theorem φ5J {d:φ1} {c:Int} (h:φ5 d=true) (hf:d.2=(c,-1,false)) (act:List φ6→Int×List φ6):φU d act=(((act d.1).2,c,-1,false),(act d.1).1):=by
 obtain ⟨l,t⟩:=d
 simp only at hf
 subst hf
 unfold φU tick
 rw[if_neg (by rw[h];simp),if_neg (by simp)]
 simp
def dNew (n:Nat):φ1:=([(φl,φ10 (2,[1]),8),(φ0 1,[],0)],(n:Int),-1,false)
abbrev d0N (n:Nat):φ1:=([],(n:Int),-1,false)
theorem φJP (n:Nat) (h:n≤100000):∃y,φ5 y=true∧sPut (2,[1]) (φK (φY (φ0 1)) (φh φ16 (d0N n)))=if n<8 then (y,2) else (dNew n,0):=by
 have k0:φ5 (d0N n)=true:=φAk (n:Int) (by omega)
 have hsw:φh φ16 (d0N n)=(d0N n,0):=by
  unfold φh φ1z
  rw[if_neg (by rw[k0];simp)];rfl
 have hL:=φI4
 unfold dNew sPut φ1k
 generalize φ10 (2,[1])=L at hL ⊢
 rw[hsw,φ22,φMk]
 -- the segment
 have s1:φY [115,101,103,49] (d0N n)=(([([115,101,103,49],[],0)],(n:Int),-1,false),0):=by
  show φU _ _=_
  rw[φ5J k0 rfl]
  have:φ2q [115,101,103,49] []=(0,[([115,101,103,49],[],0)]):=by decide
  rw[this]
 have k1:=φ39 k0 [115,101,103,49]
 rw[s1] at k1 ⊢
 have k1:φ5 (([([115,101,103,49],[],0)],(n:Int),-1,false):φ1)=true:=k1
 rw[φ22]
 have s2:φH [116,101,109,112] (([([115,101,103,49],[],0)],(n:Int),-1,false):φ1)=(([([115,101,103,49],[],0)],(n:Int),-1,false),0):=by
  unfold φH
  rw[if_neg (show ¬φ1g ([([115,101,103,49],[],0)]:List φ6) [116,101,109,112]≥0 by decide)]
 rw[s2,φ22]
 have s3:φY [116,101,109,112] (([([115,101,103,49],[],0)],(n:Int),-1,false):φ1)=(([([115,101,103,49],[],0),([116,101,109,112],[],0)],(n:Int),-1,false),0):=by
  show φU _ _=_
  rw[φ5J k1 rfl]
  have:φ2q [116,101,109,112] [([115,101,103,49],[],0)]=(0,[([115,101,103,49],[],0),([116,101,109,112],[],0)]):=by decide
  rw[this]
 have k2:=φ39 k1 [116,101,109,112]
 rw[s3] at k2 ⊢
 have k2:φ5 (([([115,101,103,49],[],0),([116,101,109,112],[],0)],(n:Int),-1,false):φ1)=true:=k2
 rw[φ22]
 have k3:=φ3p k2 [116,101,109,112] L
 by_cases c:n<8
 ·simp only[if_pos c]
  have s4:φW [116,101,109,112] L (([([115,101,103,49],[],0),([116,101,109,112],[],0)],(n:Int),-1,false):φ1)=(([([115,101,103,49],[],0),([116,101,109,112],[],0)],(n:Int),-1,false),2):=by
   show φU _ _=_
   rw[φ5J k2 rfl]
   unfold φ2e
   have:([([115,101,103,49],[],0),([116,101,109,112],[],0)]:List φ6).findIdx? (fun f=>f.1==[116,101,109,112])=some 1:=by decide
   rw[this]
   have hu:φQ ([([115,101,103,49],[],0),([116,101,109,112],[],0)]:List φ6)=0:=by decide
   simp only[hu]
   rw[if_pos (by omega)]
  rw[s4,φ2L (show (2:Int)≠0 by decide),φ2L (show (2:Int)≠0 by decide)]
  exact ⟨_,k2,rfl⟩
 ·simp only[if_neg c]
  have s4:φW [116,101,109,112] L (([([115,101,103,49],[],0),([116,101,109,112],[],0)],(n:Int),-1,false):φ1)=(([([115,101,103,49],[],0),([116,101,109,112],L,0)],(n:Int),-1,false),0):=by
   show φU _ _=_
   rw[φ5J k2 rfl]
   unfold φ2e
   have:([([115,101,103,49],[],0),([116,101,109,112],[],0)]:List φ6).findIdx? (fun f=>f.1==[116,101,109,112])=some 1:=by decide
   rw[this]
   have hu:φQ ([([115,101,103,49],[],0),([116,101,109,112],[],0)]:List φ6)=0:=by decide
   simp only[hu]
   rw[if_neg (by omega)]
   rfl
  rw[s4] at k3 ⊢
  have k3:φ5 (([([115,101,103,49],[],0),([116,101,109,112],L,0)],(n:Int),-1,false):φ1)=true:=k3
  rw[φ22]
  have k4:=φ3I k3 [116,101,109,112]
  have s5:φR [116,101,109,112] (([([115,101,103,49],[],0),([116,101,109,112],L,0)],(n:Int),-1,false):φ1)=(([([115,101,103,49],[],0),([116,101,109,112],L,8)],(n:Int),-1,false),0):=by
   show φU _ _=_
   rw[φ5J k3 rfl]
   unfold φ2b
   have:([([115,101,103,49],[],0),([116,101,109,112],L,0)]:List φ6).findIdx? (fun f=>f.1==[116,101,109,112])=some 1:=rfl
   rw[this]
   show ((([([115,101,103,49],[],0),([116,101,109,112],L,(L.length:Int))]:List φ6),(n:Int),-1,false),(0:Int))=_
   rw[hL];rfl
  rw[s5] at k4 ⊢
  have k4:φ5 (([([115,101,103,49],[],0),([116,101,109,112],L,8)],(n:Int),-1,false):φ1)=true:=k4
  rw[φ22]
  have s6:φ36 [116,101,109,112] [108,105,118,101] (([([115,101,103,49],[],0),([116,101,109,112],L,8)],(n:Int),-1,false):φ1)=(([([108,105,118,101],L,8),([115,101,103,49],[],0)],(n:Int),-1,false),0):=by
   show φU _ _=_
   rw[φ5J k4 rfl]
   unfold φ33
   have:([([115,101,103,49],[],0),([116,101,109,112],L,8)]:List φ6).findIdx? (fun f=>f.1==[116,101,109,112])=some 1:=rfl
   rw[this,if_neg (by decide)]
   rfl
  rw[s6]
  exact ⟨_,k4,rfl⟩
theorem φFo (n:Nat) (h:n≤100000):∃y,φ5 y=true∧φ3S (d0N n)=if n<8 then (φb,y,2) else (((2,[1]),[],1,0,0),dNew n,0):=by
 have k0:φ5 (d0N n)=true:=φAk (n:Int) (by omega)
 obtain ⟨y,hy,e⟩:=φJP n h
 refine ⟨y,hy,?_⟩
 have ht:φ2 (d0N n) φl=([],false):=φ8j fun f hf=>by simp at hf
 unfold φ3S
 rw[if_neg (by rw[k0];simp),if_neg (by simp),if_pos (by rw[ht])]
 unfold φ6E
 rw[e]
 split
 ·rename_i c;rfl
 ·rename_i c;rfl
theorem φFI (n:Nat) (h:n≤100000) (h8:8≤n):φ5 (dNew n)=true:=by
 have k0:φ5 (d0N n)=true:=φAk (n:Int) (by omega)
 obtain ⟨y,hy,e⟩:=φFo n h
 rw[if_neg (by omega)] at e
 have:=(φK0 k0).1
 rw[e] at this
 exact this
theorem φDi (n:Nat) (h:n≤100000) (h8:8≤n):φ2 (dNew n) φl=(φ10 (2,[1]),true)∧φ2 (dNew n) (φ0 1)=([],true)∧∀m,m≠φl→m≠φ0 1→φ2 (dNew n) m=([],false):=by
 have hk:=φFI n h h8
 refine ⟨φ3i hk (f:=(φl,φ10 (2,[1]),8)) (by simp[dNew]),φ3i hk (f:=(φ0 1,[],0)) (by simp[dNew]),fun m h1 h2=>φ8j fun f hf=>?_⟩
 simp only[dNew,mc,κc,or_false] at hf
 rcases hf with rfl | rfl
 ·exact Ne.symm h1
 ·exact Ne.symm h2
theorem φHT {s:List UInt8} {v:φN} (h:φ3A s v) (hl:s.length<1000000000):φ2v s=(v,true):=by
 have h1:=φC6 h
 rw[φEX s hl] at h1
 exact Option.some.inj h1
theorem φ7E (i:Int):φJ i≠φl:=by
 unfold φJ φ1y
 split
 ·intro e
  have:=congrArg (fun l=>l.getD 0 0) e
  simp[φl] at this
 ·simp[φl]
theorem φIP (i:Int):φJ i≠φ2F:=by
 unfold φJ φ1y
 split
 ·intro e
  have:=congrArg (fun l=>l.getD 0 0) e
  simp[φ2F] at this
 ·simp[φ2F]
theorem φLW:¬∃id,φ2w φl id:=by
 rintro ⟨id,_,e | e⟩
 ·exact φ2W id e.symm
 ·exact φ7E id e.symm
theorem φIk (n:Nat) (h:n≤100000) (h8:8≤n):φs ((2,[1]),[],1,0,0) (dNew n)=true:=by
 obtain ⟨t1,t2,t3⟩:=φDi n h h8
 refine φ15.2 ⟨φFI n h h8,by decide,by decide,by decide,?_,fun e he=>by simp at he⟩
 refine (φ2f _).2 ⟨fun id hid=>?_,fun _=>?_⟩
 ·have hid:id=1:=by simpa using hid
  subst hid
  rw[t2];exact ⟨rfl,φDg⟩
 ·show (0:Int)=((φ2 _ (φ0 1)).1.length:Int)
  rw[t2];rfl
theorem φLU {v:φN} {x:φ1} (h:φ5 x=true) {n:List UInt8} (hn:n∈φ1z x v):(∃id,φ2w n id∧id ∉ v.2)∨n=φ2F:=by
 unfold φ1z at hn
 rw[if_neg (by rw[h];simp)] at hn
 obtain ⟨f,hf,rfl⟩:=mM.1 hn
 have ho:=(List.mem_filter.1 hf).2
 unfold φ3u at ho
 rw[κY,bA] at ho
 rcases ho with ⟨h1,h2⟩ | h1
 ·left
  refine ⟨(idOf f.1).1,φKI (by rw[←h1]),fun hi=>?_⟩
  have:(v.2.any fun i=>i==(idOf f.1).1)=true:=List.any_eq_true.2 ⟨_,hi,by simp⟩
  rw[this] at h2;simp at h2
 ·right;simpa using h1
theorem φGg {v:φN} {x:φ1} (h:φ5 x=true) {n:List UInt8} (hn:∀id,φ2w n id→id∈v.2) (ht:n≠φ2F):φ2 (φh v x).1 n=φ2 x n:=by
 refine φ8S (φ1z x v) (w:=(x,0)) h fun m hm e=>?_
 subst e
 rcases φLU h hm with ⟨id,hid,hno⟩ | e
 ·exact hno (hn id hid)
 ·exact ht e
theorem φMK {id:Int} (h:1≤id∧id≤100000):φ2w (φ0 id) id:=⟨h,.inl rfl⟩
theorem φBM {v:φN} (h:φq v=true) {id:Int} (hi:id∈v.2):1≤id∧id≤100000∧id<v.1:=by
 obtain ⟨k1,k2,k3,k4⟩:=(φ1A v).1 h
 rw[φG (by omega) (by omega)] at k1
 have:=φ3c _ _ k1 id hi
 omega
theorem φ7L {A B σ:Type} {step:(A→Option B)→A→Option B} (st:Nat→σ→A) (N:Nat) (Inv:Nat→σ→Prop) (Post:B→Prop)
  (hz:∀rec s,Inv N s→∃b,step rec (st N s)=some b∧Post b)
  (hs:∀rec n s,n<N→Inv n s→∃s',Inv (n+1) s'∧step rec (st n s)=rec (st (n+1) s')) (s:σ) (hi:Inv 0 s) (hn:N<2 ^ 62):∃b,lp step (st 0 s)=some b∧Post b:=by
 have key:=φBz (step:=step) (fun k (s:σ)=>st (N - k) s) (fun k s=>Inv (N - k) s∧k≤N) Post
  (fun rec s hi=>hz rec s hi.1)
  (fun rec k s hi=>by
   obtain ⟨h1,h2⟩:=hi
   have e:N - (k+1)+1=N - k:=by omega
   obtain ⟨s',h3,h4⟩:=hs rec (N - (k+1)) s (by omega) h1
   rw[e] at h3 h4
   exact ⟨s',⟨h3,by omega⟩,h4⟩)
  N s ⟨by rw[Nat.sub_self];exact hi,κ9 _⟩ hn
 simpa using key
def Free (d:φ1):Prop:=d.2.2=(-1,false)
theorem φ1d {d:φ1} {act:List φ6→Int×List φ6} (h:Free d):Free (φU d act).1:=by
 unfold φU
 split
 ·exact h
 ·split
  ·rename_i c
   rw[show d.2.2=(-1,false) from h] at c
   simp at c
  ·show (tick d).2.2=_
   unfold tick
   rw[if_neg]
   ·exact h
   ·rw[show d.2.2=(-1,false) from h];simp
theorem φMG {d:φ1} {act:List φ6→Int×List φ6} (h:(φU d act).2=0):d.2.2.2=false:=by
 unfold φU at h
 split at h
 ·simp at h
 split at h
 ·simp at h
 rename_i c
 cases hd:d.2.2.2 with
 | false=>rfl
 | true=>exact absurd (.inl hd) c
theorem φ9C {d:φ1} {act:List φ6→Int×List φ6} (h:d.2.2.2=true):(φU d act).1.2.2.2=true:=by
 unfold φU
 split
 ·exact h
 ·rw[if_pos (.inl h)]
theorem φ5d {P:φ1→Prop} (hP:∀(d:φ1) (act:List φ6→Int×List φ6),P d→P (φU d act).1) (n:List UInt8) {d:φ1} (h:P d):P (φH n d).1:=by
 unfold φH
 split
 ·exact hP d _ h
 ·exact h
theorem φ3m {P:φ1→Prop} (hP:∀(d:φ1) (act:List φ6→Int×List φ6),P d→P (φU d act).1) {op:φ1→φ1×Int} (ho:∀d,P d→P (op d).1) {w:φE} (h:P w.1):P (φK op w).1:=by
 unfold φK
 split
 ·exact ho _ h
 ·exact h
theorem φ94 {P:φ1→Prop} (hP:∀(d:φ1) (act:List φ6→Int×List φ6),P d→P (φU d act).1) (n:List UInt8) {w:φE} (h:P w.1):P (sNew n w).1:=
 φ3m hP (fun d k=>hP d _ k) (φ3m hP (fun d k=>φ5d hP n k) h)
theorem φ80 {P:φ1→Prop} (hP:∀(d:φ1) (act:List φ6→Int×List φ6),P d→P (φU d act).1) (n t:List UInt8) {w:φE} (h:P w.1):P (φ1k n t w).1:=
 φ3m hP (fun d k=>hP d _ k) (φ3m hP (fun d k=>hP d _ k) (φ3m hP (fun d k=>hP d _ k) (φ3m hP (fun d k=>φ5d hP n k) h)))
theorem φAV {P:φ1→Prop} (hP:∀(d:φ1) (act:List φ6→Int×List φ6),P d→P (φU d act).1) (v:φN) {w:φE} (h:P w.1):P (sPut v w).1:=
 φ3m hP (fun d k=>hP d _ k) (φ80 hP _ _ h)
theorem φG7 {P:φ1→Prop} (hP:∀(d:φ1) (act:List φ6→Int×List φ6),P d→P (φU d act).1) (n:List UInt8):∀(recs:List RecT) {w:φE},P w.1→P (sApp n recs w).1
 | [],w,h=>h
 | r::recs,w,h=>φG7 hP n recs (w:=φK (φW n (frame (φ9 r))) w) (φ3m hP (fun d k=>hP d _ k) h)
theorem φBw {P:φ1→Prop} (hP:∀(d:φ1) (act:List φ6→Int×List φ6),P d→P (φU d act).1) (m:Int) (recs:List RecT) {w:φE} (h:P w.1):P (sWM m recs w).1:=
 φ3m hP (fun d k=>hP d _ k) (φG7 hP _ recs (φ94 hP _ h))
theorem φ6N {P:φ1→Prop} (hP:∀(d:φ1) (act:List φ6→Int×List φ6),P d→P (φU d act).1):∀(names:List (List UInt8)) {w:φE},P w.1→P (φi names w).1
 | [],w,h=>h
 | n::names,w,h=>φ6N hP names (w:=φK (φH n) w) (φ3m hP (fun d k=>φ5d hP n k) h)
theorem φGw {P:φ1→Prop} (hP:∀(d:φ1) (act:List φ6→Int×List φ6),P d→P (φU d act).1):∀(ids:List Int) {w:φE},P w.1→P (sOld ids w).1
 | [],w,h=>h
 | i::ids,w,h=>φGw hP ids (w:=φi [φ0 i,φJ i] w) (φ6N hP _ h)
theorem φBL {P:φ1→Prop} (hP:∀(d:φ1) (act:List φ6→Int×List φ6),P d→P (φU d act).1) (m:Int) {d:φ1} (h:P d):P (φ29 m d).1:=by
 unfold φ29
 simp only
 have:=φ80 hP (φJ m) (φ1K (φ19 m (φ2 d (φ0 m)).1).1) (w:=(d,0)) h
 split
 ·exact φ5d hP _ this
 ·exact this
theorem φ9W {n t:List UInt8} {w:φE} (h:(φ1k n t w).2=0):w.2=0∧φ2 (φ1k n t w).1 n=(t,true):=by
 unfold φ1k at h ⊢
 obtain ⟨h1,h2,h3⟩:=φ4I (op:=φR n) h
 obtain ⟨h4,h5,h6⟩:=φ4I (op:=φW n t) h1
 have h4:(sNew n w).2=0:=h4
 obtain ⟨h7,h8⟩:=φ9x h4
 obtain ⟨a1,a2⟩:=φ7q h5
 have a2:φ2 (φW n t (sNew n w).1).1 n=((φ2 (sNew n w).1 n).1++t,true):=a2
 rw[h3,h6]
 obtain ⟨k,_,_⟩:=φ5z h2
 rw[h6] at k
 refine ⟨h7,?_⟩
 rw[φ2g k n n]
 show φ2 (φW n t (sNew n w).1).1 n=_
 rw[a2,h8];rfl
theorem φDQ {v:φN} {w:φE} (h:(sPut v w).2=0):w.2=0∧φ2 (sPut v w).1 φl=(φ10 v,true):=by
 unfold sPut at h ⊢
 obtain ⟨h1,h2,h3⟩:=φ4I h
 obtain ⟨h4,h5⟩:=φ9W h1
 refine ⟨h4,?_⟩
 rw[h3]
 show φ2 (φ36 [116,101,109,112] [108,105,118,101] (φ1k [116,101,109,112] (φ10 v) w).1).1 φl=_
 rw[φK7 h2,h5]
theorem φMM {s:φA} {d:φ1} (l:List φ1C) (h:φ5 d=true) (hc:(φ1H s d l).2.2=0):∃w1 w2:φE,
  w1=sNew (φ0 (s.1.1+1)) (sWM s.1.1 (φc l (s.2.2.1 - 1)) (d,0))∧w1.2=0∧φ5 w1.1=true∧w2=φ29 s.1.1 w1.1∧w2.2=0∧φ5 w2.1=true ∧
  (sPut (s.1.1+2,[s.1.1,s.1.1+1]) w2).2=0∧(φ1H s d l).2.1=(sOld s.1.2 ((sPut (s.1.1+2,[s.1.1,s.1.1+1]) w2).1,0)).1:=by
 have g1:=φ5w s.1.1 (φc l (s.2.2.1 - 1)) (w:=(d,0)) h
 have g2:=φ42 g1 (φ0 (s.1.1+1))
 unfold φ1H at hc ⊢
 simp only at hc ⊢
 generalize hw1:sNew (φ0 (s.1.1+1)) (sWM s.1.1 (φc l (s.2.2.1 - 1)) (d,0))=w1 at *
 have g3:φ5 (φ14 s.1.1 w1).1=true:=by
  unfold φ14;split
  ·exact g2
  ·exact φ7Q _ g2
 by_cases z:(if (φ14 s.1.1 w1).2=0 then φC (sPut (s.1.1+2,[s.1.1,s.1.1+1]) (φ14 s.1.1 w1)) else φC (φ14 s.1.1 w1)).2=0
 rotate_left
 ·rw[if_pos z] at hc
  exfalso
  revert hc
  generalize (if (φ14 s.1.1 w1).2=0 then φC (sPut (s.1.1+2,[s.1.1,s.1.1+1]) (φ14 s.1.1 w1)) else φC (φ14 s.1.1 w1))=w3 at *
  unfold φ1h
  split
  ·split
   ·simp
   ·rename_i c4;exact c4
  ·exact z
 have z2:(φ14 s.1.1 w1).2=0:=by
  by_cases c:(φ14 s.1.1 w1).2=0
  ·exact c
  ·rw[if_neg c] at z;exact (φ1R _).1 z
 rw[if_pos z2] at z hc
 rw[if_pos z2]
 have z3:(sPut (s.1.1+2,[s.1.1,s.1.1+1]) (φ14 s.1.1 w1)).2=0:=(φ1R _).1 z
 have z1:w1.2=0:=by
  unfold φ14 at z2
  split at z2
  ·exact z2
  ·rename_i c;simpa using c
 have zh:φ14 s.1.1 w1=φ29 s.1.1 w1.1:=by
  unfold φ14;rw[if_neg (by simpa using z1)]
 rw[if_neg (by simpa using z)]
 rw[zh] at z2 z3 g3 ⊢
 exact ⟨w1,φ29 s.1.1 w1.1,rfl,z1,g2,rfl,z2,g3,z3,rfl⟩
structure MergedF (s:φA) (d:φ1) (l:List φ1C) (S:φA) (y:φ1):Prop extends Merged s d l S y where
 liv:φ2 y φl=(φ10 (s.1.1+2,[s.1.1,s.1.1+1]),true)
 hin:(φ2 y (φJ s.1.1)).2=false∨φ2 y (φJ s.1.1)=(φ1K (φ19 s.1.1 (txt (φc l (s.2.2.1 - 1)))).1,true)
 fre:0 > d.2.2.1→Free y
theorem φLT {s:φA} {d:φ1} (l:List φ1C) (h:φ5 d=true) (hv:φq s.1=true) (h2:s.1.1+2≤100000) (hc:(φ1H s d l).2.2=0):MergedF s d l (φ1H s d l).1 (φ1H s d l).2.1:=by
 have hM:=φDO l h hv h2 hc
 refine ⟨hM,?_,?_,?_⟩
 all_goals
  obtain ⟨w1,w2,hw1,z1,g1,hw2,z2,g2,z3,hy⟩:=φMM l h hc
  obtain ⟨k1,k2,k3,k4⟩:=(φ1A s.1).1 hv
  rw[φG (by omega) (by omega)] at k1
  have hids:=φ3c _ _ k1
  have g3:φ5 (sPut (s.1.1+2,[s.1.1,s.1.1+1]) w2).1=true:=φ4G (v:=(s.1.1+2,[s.1.1,s.1.1+1])) g2
 ·rw[hy,φ6K s.1.2 (w:=((sPut (s.1.1+2,[s.1.1,s.1.1+1]) w2).1,0)) g3 (fun id hid=>⟨(φ2W id).symm,(φ7E id).symm⟩)]
  exact (φDQ z3).2
 ·have e1:∀n,n≠φ2F→n≠φl→(∀id∈s.1.2,n≠φ0 id∧n≠φJ id)→φ2 (φ1H s d l).2.1 n=φ2 w2.1 n:=fun n q1 q2 q3=>by
   rw[hy,φ6K s.1.2 (w:=((sPut (s.1.1+2,[s.1.1,s.1.1+1]) w2).1,0)) g3 q3]
   exact φ6c g2 _ q1 q2
  have e2:φ2 (φ1H s d l).2.1 (φJ s.1.1)=φ2 w2.1 (φJ s.1.1):=e1 _ (φIP _) (φ7E _) fun id hid=>by
   have:=hids id hid
   refine ⟨fun e=>φ43 id s.1.1 (by omega) e.symm,fun e=>?_⟩
   have:=φEI (by omega) (by omega) e
   omega
  have hf:=φ4g (w:=(w1.1,0)) g1 (φJ s.1.1) (φ1K (φ19 s.1.1 (φ2 w1.1 (φ0 s.1.1)).1).1)
  have e3:φ2 (φ1H s d l).2.1 (φ0 s.1.1)=φ2 w1.1 (φ0 s.1.1):=by
   rw[e1 _ (φ4K _) (φ2W _) fun id hid=>by
    have:=hids id hid
    refine ⟨fun e=>?_,φ43 _ _ (by omega)⟩
    have:=φ3x (by omega) (by omega) e
    omega]
   rw[hw2]
   unfold φ29
   simp only
   split
   ·rw[φ4j hf (φ43 _ _ (by omega)),φ4v (w:=(w1.1,0)) g1 (φ43 _ _ (by omega))]
   ·rw[φ4v (w:=(w1.1,0)) g1 (φ43 _ _ (by omega))]
  rw[hM.one] at e3
  rw[e2]
  rw[←e3] at hf
  rw[hw2] at z2 ⊢
  unfold φ29 at z2 ⊢
  rw[←e3] at z2 ⊢
  simp only at z2 hf ⊢
  split
  ·rename_i c
   rw[if_pos c] at z2
   exact .inl (φFZ z2)
  ·rename_i c
   rw[if_neg c] at z2
   exact .inr (φ9W z2).2
 ·intro hfu
  have hup:d.2.2.2=false:=by
   cases hd:d.2.2.2 with
   | false=>rfl
   | true=>
    have q1:w1.1.2.2.2=true:=by rw[hw1];exact φ94 (P:=fun d=>d.2.2.2=true) (fun d act k=>φ9C k) _ (φBw (P:=fun d=>d.2.2.2=true) (fun d act k=>φ9C k) _ _ hd)
    have q2:w2.1.2.2.2=true:=by rw[hw2];exact φBL (P:=fun d=>d.2.2.2=true) (fun d act k=>φ9C k) _ q1
    have q3:=φ80 (P:=fun d=>d.2.2.2=true) (fun d act k=>φ9C k) [116,101,109,112] (φ10 (s.1.1+2,[s.1.1,s.1.1+1])) (w:=w2) q2
    unfold sPut at z3
    have:=φMG (φ4I z3).2.1
    rw[q3] at this
    simp at this
  have hfr:Free d:=by
   have:=(φ5o h).1
   show d.2.2=(-1,false)
   rw[show d.2.2=(d.2.2.1,d.2.2.2) from rfl,hup]
   have:d.2.2.1=-1:=by omega
   rw[this]
  have q1:Free w1.1:=by rw[hw1];exact φ94 (P:=Free) (fun d act k=>φ1d k) _ (φBw (P:=Free) (fun d act k=>φ1d k) _ _ hfr)
  have q2:Free w2.1:=by rw[hw2];exact φBL (P:=Free) (fun d act k=>φ1d k) _ q1
  rw[hy]
  exact φGw (P:=Free) (fun d act k=>φ1d k) s.1.2 (φAV (P:=Free) (fun d act k=>φ1d k) _ q2)
theorem φIz {α:Type} {l:List (List UInt8×α)} {p:List UInt8×α} (h:∀x∈l,Op.bytesLess x.1 p.1=true):insB l p=l++[p]:=by
 have e:l.takeWhile (fun x=>leK x.1 p.1)=l:=by
  induction l with
  | nil=>rfl
  | cons x l ih=>
   have h1:=h x (by simp)
   rw[List.takeWhile_cons_of_pos (by unfold leK;simp[h1]),ih fun y hy=>h y (by simp[hy])]
 unfold insB
 rw[e]
 show l.take l.length++[p]++l.drop l.length=_
 rw[κQ,List.drop_length,κ6]
theorem φLS {α:Type} {l:List (List UInt8×α)} {k:List UInt8} (h:∀x∈l,Op.bytesLess x.1 k=true):φp l k=l:=by
 unfold φp
 refine List.filter_eq_self.2 fun x hx=>?_
 have:=φ5x (h x hx)
 simpa using this
theorem φAb (id:Int):∀(l:List φ1Z) (dir:List φB),(∀x∈l,x.2.2.1=4)→srt (dir++l.map (entS id))→φ1V dir (l.map fun x=>((id,x):φ7))=dir++l.map (entS id)
 | [],dir,_,_=>by simp[φ1V]
 | x::l,dir,h4,hs=>by
  have hx:=h4 x (by simp)
  have hlt:∀y∈dir,Op.bytesLess y.1 (entS id x).1=true:=fun y hy=>by
   have:=(List.pairwise_append.1 hs).2.2 y hy (entS id x) (by simp)
   exact this
  have hp:putD dir ((id,x):φ7)=dir++[entS id x]:=by
   unfold putD
   rw[if_neg (by rw[hx];decide)]
   show insB (φp dir (entS id x).1) (entS id x)=_
   rw[φLS hlt,φIz hlt]
  show φ1V (putD dir (id,x)) (l.map fun x=>((id,x):φ7))=_
  rw[hp,φAb id l _ (fun y hy=>h4 y (by simp[hy])) (by simpa using hs)]
  simp
theorem φ9f (id b:Int):∀(l:List φ1Z) (acc:List φ7),(∀x∈l,x.2.2.1=4)→(l.map fun x=>((id,x):φ7)).foldl (φ1N 5 b) acc=acc++l.map fun x=>((id,x):φ7)
 | [],acc,_=>by simp
 | x::l,acc,h=>by
  have hx:=h x (by simp)
  have e:φ1N 5 b acc ((id,x):φ7)=acc++[((id,x):φ7)]:=by
   unfold φ1N
   rw[if_neg (by simp),if_neg (by rw[hx];decide),if_pos (.inr ⟨rfl,hx⟩)]
  rw[κ8,κH,e,φ9f id b l _ fun y hy=>h y (by simp[hy])]
  simp
theorem φFw (id b:Int):∀(l:List φ1Z) (acc:List φ7),(∀x∈l,x.2.2.1=4∨x.2.2.1=5)→(l.map fun x=>((id,x):φ7)).foldl (φ1N 3 b) acc=acc
 | [],acc,_=>by simp
 | x::l,acc,h=>by
  have hx:=h x (by simp)
  have e:φ1N 3 b acc ((id,x):φ7)=acc:=by
   unfold φ1N
   split
   ·rfl
   ·rw[if_neg (by rcases hx with e | e<;>rw[e]<;>decide),if_neg (by rcases hx with e | e<;>rw[e]<;>simp)]
  rw[κ8,κH,e,φFw id b l _ fun y hy=>h y (by simp[hy])]
theorem φ5S:∀(A B pre:List φ7) (g:φr),(φg pre A g).2.2=0→φg pre (A++B) g=φg (pre++A) B (φg pre A g)
 | [],B,pre,g,h=>by simp[φg]
 | p::A,B,pre,g,h=>by
  rw[φg] at h
  rw[κG,φg,φg]
  by_cases c:g.2.2≠0
  ·rw[if_pos c] at h;exact absurd h c
  rw[if_neg c] at h ⊢
  rw[if_neg c,φ5S A B _ _ h]
  simp
theorem φCC {A:List φ7} (hA:∀k b,k=3∨k=5→ownL k b A=[]):∀(B pre:List φ7) (g:φr),φg (A++pre) B g=φg pre B g
 | [],pre,g=>rfl
 | p::B,pre,g=>by
  rw[φg,φg]
  by_cases c:g.2.2≠0
  ·rw[if_pos c,if_pos c]
  rw[if_neg c,if_neg c,aA,φCC hA B]
  congr 1
  have e:∀k b,k=3∨k=5→ownL k b (A++pre)=ownL k b pre:=fun k b hk=>by
   have:=hA k b hk
   unfold ownL at *
   rw[κe,this]
  unfold φ1W
  simp only
  by_cases c2:p.2.2.2.1=3∨p.2.2.2.1=5
  ·rw[if_pos c2,if_pos c2,e _ _ c2]
  ·rw[if_neg c2,if_neg c2]
theorem φ9o (id mark:Int):∀(l:List φ1Z) (pre:List φ7) (z:Int),(∀x∈l,x.2.2.1=4∧x.2.2.2.1≤mark)→z≤mark→∃z',z'≤mark∧φg pre (l.map fun x=>((id,x):φ7)) ([],z,0)=([],z',0)
 | [],pre,z,_,hz=>⟨z,hz,rfl⟩
 | x::l,pre,z,h,hz=>by
  obtain ⟨h4,hb⟩:=h x (by simp)
  rw[κ8,φg,if_neg (by simp)]
  have e:φ1W pre ((id,x):φ7) ([],z,0)=([],if x.2.2.2.1 > z then x.2.2.2.1 else z,0):=by
   unfold φ1W
   simp only
   rw[if_neg (by rw[h4];decide)]
  rw[e]
  refine φ9o id mark l _ _ (fun y hy=>h y (by simp[hy])) ?_
  split<;>omega
theorem φF2 {mark:Int}:∀(l:List φ1Z) (p:Option (List UInt8)),φ2a mark p l=true→∀x∈l,x.2.2.1=4∧x.2.2.2.1≤mark
 | [],_,_,x,hx=>by simp at hx
 | y::l,p,h,x,hx=>by
  simp only[φ2a,bA,beq_iff_eq,κL,decide_eq_false_iff_not] at h
  rcases mc.1 hx with rfl | hx
  ·exact ⟨h.1,by omega⟩
  ·exact φF2 l _ h.2.2.2 x hx
theorem φH2 {id:Int} {t:List UInt8} {h:φ13} (k:φ19 id t=(h,true)):∃(l:List φ1Z) (z:φ1Z),(scan t).1=l++[z]∧z.2.2.1=5∧φ2c z.2.2 (l.map (·.2.2))=true∧(∀x∈l,x.2.2.1=4∧x.2.2.2.1≤z.2.2.2.1)∧h=((t.length:Int),z.2.2.2.1,l.map (entS id))∧(scan t).2=t.length∧(1≤id∧id≤100000):=by
 unfold φ19 at k
 simp only at k
 split at k
 ·simp at k
 rename_i c
 simp only[not_or,Bool.not_eq_false,ne_eq,Decidable.not_not] at c
 obtain ⟨c1,c2,c3,c4,c5,c6⟩:=c
 generalize (scan t).1=L at *
 have hl:L.length - 1<L.length:=by omega
 have hL:L=L.take (L.length - 1)++[L.getD (L.length - 1) φ28]:=by
  rw[φ8 hl]
  have:=κ3 hl
  rw[show L.length - 1+1=L.length by omega,κQ] at this
  exact this
 simp only[Prod.mk.injEq,and_true] at k
 exact ⟨L.take (L.length - 1),L.getD (L.length - 1) φ28,hL,c4,c5,φF2 _ _ c6,k.symm,c2,c3⟩
theorem φI2 {id:Int} {t:List UInt8} {h:φ13} (k:φ19 id t=(h,true)) (hd:φ1m h.2.2=true) (h0:0≤h.2.1) (B:List φ7):φ1Q ([],0,0) (((scan t).1.map fun x=>((id,x):φ7))++B)=φ1Q (h.2.2,h.2.1,0) B:=by
 obtain ⟨l,z,e,z5,hf,hk,hh,_,_⟩:=φH2 k
 have hsrt:srt ([]++l.map (entS id)):=by have:=φ5T hd;rw[hh] at this;simpa using this
 have hlen:(l.map (entS id)).length≤20:=by
  unfold φ1m at hd
  rw[hh] at hd
  simp only[bA,decide_eq_true_eq] at hd
  exact hd.2
 rw[hh] at h0
 have h0:0≤z.2.2.2.1:=h0
 rw[e,hh]
 -- over the segment itself
 obtain ⟨z',hz',eg⟩:=φ9o id z.2.2.2.1 l [] 0 hk h0
 have e1:φg [] ((l++[z]).map fun x=>((id,x):φ7)) ([],0,0)=(l.map (entS id),z.2.2.2.1,0):=by
  rw[mp,φ5S _ _ _ _ (by rw[eg]),eg,κA,List.map_singleton,φg,if_neg (by simp)]
  have eo:ownL z.2.2.1 z.2.2.2.1 (l.map fun x=>((id,x):φ7))=l.map fun x=>((id,x):φ7):=by
   rw[z5];unfold ownL;rw[φ9f id _ l [] fun x hx=>(hk x hx).1];rfl
  have ea:φ1V [] (l.map fun x=>((id,x):φ7))=l.map (entS id):=by
   rw[φAb id l [] (fun x hx=>(hk x hx).1) hsrt];rfl
  have er:(l.map fun x=>((id,x):φ7)).map (·.2.2.2)=l.map (·.2.2):=by rw[List.map_map];rfl
  have es:φ1W (l.map fun x=>((id,x):φ7)) ((id,z):φ7) ([],z',0)=(l.map (entS id),z.2.2.2.1,0):=by
   unfold φ1W
   simp only
   have el:(if z.2.2.2.1 > z' then z.2.2.2.1 else z')=z.2.2.2.1:=by split<;>omega
   rw[if_pos (.inr z5),eo,er,if_pos hf,ea,el]
   unfold φ49
   rw[if_neg (Nat.not_lt.2 hlen)]
  rw[es];rfl
 have hA:∀k b,k=3∨k=5→ownL k b ((l++[z]).map fun x=>((id,x):φ7))=[]:=fun k b hk2=>by
  rcases hk2 with rfl | rfl
  ·unfold ownL
   exact φFw id b (l++[z]) [] fun x hx=>by
    rcases mA.1 hx with hx | hx
    ·exact .inl (hk x hx).1
    ·rw[mZ.1 hx];exact .inr z5
  ·unfold ownL
   rw[mp,κe,List.map_singleton,κH,List.foldl_nil]
   unfold φ1N
   rw[if_neg (by simp),if_pos z5]
 unfold φ1Q
 rw[φ5S _ _ _ _ (by rw[e1]),e1]
 have:=φCC hA B [] (l.map (entS id),z.2.2.2.1,0)
 rw[κ6] at this
 rw[κA,this]
 unfold φ6P
 have eo:ownL 5 0 (((l++[z]).map fun x=>((id,x):φ7))++B)=ownL 5 0 B:=by
  have:=hA 5 0 (.inr rfl)
  unfold ownL at *
  rw[κe,this]
 rw[eo]
theorem φ6M {d:φ1} {act:List φ6→Int×List φ6} (h:φ5 d=true) (hf:Free d):φU d act=(((act d.1).2,d.2),(act d.1).1):=by
 have:=φ5J (d:=d) (c:=d.2.1) h (by rw[show d.2=(d.2.1,d.2.2) from rfl,show d.2.2=(-1,false) from hf]) act
 rw[this]
 congr 2
 rw[show d.2=(d.2.1,d.2.2) from rfl,show d.2.2=(-1,false) from hf]
theorem φBC {d:φ1} (h:φ5 d=true) (hf:Free d) {n:List UInt8} (hn:(φ2 d n).2=true):(φR n d).2=0:=by
 obtain ⟨i,hi,e,_⟩:=φ8O hn
 show (φU d (φ2b n)).2=0
 rw[φ6M h hf]
 unfold φ2b
 rw[e]
theorem φLG {d:φ1} (h:φ5 d=true) (hf:Free d) (n:List UInt8):(φH n d).2=0:=by
 unfold φH
 split
 ·rename_i c
  show (φU d (φ2X n)).2=0
  rw[φ6M h hf]
  unfold φ2X
  rcases φ12 d.1 n with ⟨e,_⟩ | ⟨i,hi,e,_⟩
  ·rw[e] at c;simp at c
  ·rw[φ17 e]
 ·rfl
theorem φBu:∀(names:List (List UInt8)) {w:φE},φ5 w.1=true→Free w.1→w.2=0→(φi names w).2=0
 | [],w,_,_,h=>h
 | n::names,w,hk,hf,h=>by
  have e:φK (φH n) w=φH n w.1:=by unfold φK;rw[if_pos h]
  show (φi names (φK (φH n) w)).2=0
  rw[e]
  exact φBu names (φ2Y hk n) (φ5d (P:=Free) (fun d act k=>φ1d k) n hf) (φLG hk hf n)
theorem φDf {id mark:Int}:∀(l:List φ1Z) (p:Option (List UInt8)),(∀x∈l,x.2.2.1=4∧x.2.2.2.1≤mark)→srt (l.map (entS id))→(∀q,p=some q→∀x∈l,Op.bytesLess q x.2.2.2.2.1=true)→φ2a mark p l=true
 | [],_,_,_,_=>rfl
 | x::l,p,h,hs,hp=>by
  obtain ⟨h4,hb⟩:=h x (by simp)
  obtain ⟨s1,s2⟩:=κZ.1 hs
  simp only[φ2a,bA,beq_iff_eq,κL,decide_eq_false_iff_not]
  refine ⟨h4,by omega,?_,φDf l _ (fun y hy=>h y (by simp[hy])) s2 fun q hq y hy=>?_⟩
  ·cases p with
   | none=>rfl
   | some q=>exact hp q rfl x (by simp)
  ·simp only[Option.some.injEq] at hq
   subst hq
   exact s1 (entS id y) (mM.2 ⟨y,hy,rfl⟩)
theorem φNC {id:Int} {t:List UInt8} {l:List φ1Z} {z:φ1Z} (hs:scan t=(l++[z],t.length)) (hi:1≤id∧id≤100000) (z5:z.2.2.1=5) (hf:φ2c z.2.2 (l.map (·.2.2))=true) (hr:φ2a z.2.2.2.1 none l=true) :
  φ19 id t=(((t.length:Int),z.2.2.2.1,l.map (entS id)),true):=by
 unfold φ19
 have e1:(l++[z]).length - 1=l.length:=by simp
 have e2:(l++[z]).getD l.length φ28=z:=by simp
 have e3:(l++[z]).take l.length=l:=by simp
 simp only[hs,e1,e2,e3]
 rw[if_neg]
 simp only[not_or,Bool.not_eq_false,ne_eq,Decidable.not_not]
 exact ⟨by simp,trivial,hi,z5,hf,hr⟩
theorem φDp (m:Int):∀(recs:List RecT) (a:Nat),(∀r∈recs,r.1=4)→φy m (a:Int) recs=(φ1U a recs).map (entS m)
 | [],_,_=>rfl
 | r::recs,a,h=>by
  have h4:=h r (by simp)
  have ih:=φDp m recs (a+(fr r).length) fun x hx=>h x (by simp[hx])
  rw[φy,if_pos h4,φ1U,κ8,←ih]
  have:((a+(fr r).length:Nat):Int)=(a:Int)+((frame (φ9 r)).length:Int):=by simp only[fr];omega
  rw[this]
  rfl
theorem φEk {p:RecT→Prop}:∀(recs:List RecT) (a:Nat),(∀r∈recs,p r)→∀x∈φ1U a recs,p x.2.2
 | [],_,_,x,hx=>by simp[φ1U] at hx
 | r::recs,a,h,x,hx=>by
  rw[φ1U] at hx
  rcases mc.1 hx with rfl | hx
  ·exact h r (by simp)
  ·exact φEk recs _ (fun y hy=>h y (by simp[hy])) x hx
theorem φGO:∀(recs:List RecT) (a:Nat),∀x∈φ1U a recs,x.1≤((a+(txt recs).length:Nat):Int)
 | [],_,x,hx=>by simp[φ1U] at hx
 | r::recs,a,x,hx=>by
  rw[φ1U] at hx
  rw[φ3Q,lA]
  rcases mc.1 hx with rfl | hx
  ·show (a:Int)≤_
   omega
  ·have:=φGO recs _ x hx
   omega
theorem φJl {s S:φA} {d y:φ1} (h:φs s d=true) (h2:s.1.1+2≤100000) (hM:Merged s d (φV s d).1 S y) :
  φ19 s.1.1 (txt (φc (φV s d).1 (s.2.2.1 - 1)))=((((txt (φc (φV s d).1 (s.2.2.1 - 1))).length:Int),s.2.2.1 - 1,S.2.1),true)∧φ2H (((txt (φc (φV s d).1 (s.2.2.1 - 1))).length:Int),s.2.2.1 - 1,S.2.1)=true:=by
 obtain ⟨m1,m2,m3,m4⟩:=φAD h h2 hM
 obtain ⟨q1,q2,q3,q4,q5,q6⟩:=φ15.1 h
 obtain ⟨k1,k2,k3,k4⟩:=(φ1A s.1).1 q2
 have hkeep:=φGl h
 have hbat:=φG2 h
 have hl20:(φV s d).1.length≤20:=by have:=φ7j s d;have:=(φ46 q3).1;omega
 have hdir:=(φ15.1 m1).2.2.1
 have hone:=hM.one
 have htl:=φ40 hM.dk (φ0 s.1.1)
 rw[hone] at htl
 have hst:=hM.st
 generalize (φV s d).1=l at *
 have hents:S.2.1=(φ1U 0 (l.map φS)).map (entS s.1.1):=by
  rw[hst]
  show φy s.1.1 0 (φc l (s.2.2.1 - 1))=_
  have e:φy s.1.1 0 (φc l (s.2.2.1 - 1))=φy s.1.1 0 (l.map φS):=φ8I s.1.1 _ (show (5:Int)≠4 by decide) _ _
  rw[e]
  exact φDp s.1.1 (l.map φS) 0 fun r hr=>(hkeep r hr).2
 have hmk:φe (5,s.2.2.1 - 1,[],[],(l.length:Int),φ1L (l.map φS))=true:=φEc (by omega) (by omega) (φ5A _)
 have hall:∀r∈φc l (s.2.2.1 - 1),φe r=true:=fun r hr=>by
  unfold φc at hr
  rcases mA.1 hr with hr | hr
  ·exact (hkeep r hr).1
  ·rw[mZ.1 hr];exact hmk
 have hsc:=φ7c hall
 have hk:∀x∈φ1U 0 (l.map φS),x.2.2.1=4∧x.2.2.2.1≤s.2.2.1 - 1:=φEk (p:=fun r=>r.1=4∧r.2.1≤s.2.2.1 - 1) (l.map φS) 0 fun r hr=>by
  refine ⟨(hkeep r hr).2,?_⟩
  obtain ⟨p,hp,rfl⟩:=mM.1 hr
  have:=hbat p hp
  show p.2.2≤_
  omega
 have hsrt:srt ((φ1U 0 (l.map φS)).map (entS s.1.1)):=by rw[←hents];exact φ5T hdir
 refine ⟨?_,?_⟩
 ·rw[hents]
  refine φNC (id:=s.1.1) (l:=φ1U 0 (l.map φS)) (z:=(((0+(txt (l.map φS)).length:Nat):Int),((fr (5,s.2.2.1 - 1,[],[],(l.length:Int),φ1L (l.map φS))).length:Int),(5,s.2.2.1 - 1,[],[],(l.length:Int),φ1L (l.map φS)))) ?_ ⟨by omega,by omega⟩ rfl ?_ ?_
  ·rw[hsc]
   unfold φc
   rw[φBF]
   rfl
  ·rw[φGW]
   unfold φ2c
   simp
  ·exact φDf (id:=s.1.1) _ none hk hsrt fun q hq=>by simp at hq
 ·unfold φ2H
  simp only[bA,decide_eq_true_eq]
  have hlen:((txt (φc l (s.2.2.1 - 1))).length:Int)≤100000:=by simp only at htl;omega
  refine ⟨κN.2 fun e he=>?_,⟨Int.natCast_nonneg _,hlen⟩,⟨by show 0≤s.2.2.1 - 1;omega,by show s.2.2.1 - 1≤1000000;omega⟩,hdir⟩
  have he:e∈S.2.1:=he
  have hseg:∀e∈S.2.1,e.2.1=s.1.1∧e.2.2.1≤100000:=fun e he=>by
   rw[hents] at he
   obtain ⟨x,hx,rfl⟩:=mM.1 he
   refine ⟨rfl,?_⟩
   have:=φGO (l.map φS) 0 x hx
   have hle:(txt (l.map φS)).length≤(txt (φc l (s.2.2.1 - 1))).length:=by
    unfold φc;rw[φHs,lA];omega
   show x.1≤100000
   omega
  have hpos:=List.length_pos_of_mem he
  have hg:(S.2.1.getD 0 ([],0,0,0,0)).2.1=s.1.1:=by
   rw[φ8 hpos];exact (hseg _ (gM hpos)).1
  unfold φ4V
  simp only
  rw[hg,(hseg e he).1]
  have:=(hseg e he).2
  simp;omega
theorem Free.up {d:φ1} (h:Free d):d.2.2.2=false:=by rw[show d.2.2=(-1,false) from h]
theorem φJc {d:φ1} (h:φ5 d=true) {l:List φ6} (hs:l.Sublist d.1):φ5 (l,d.2)=true:=by
 obtain ⟨h1,h2,h3,h4,h5,h6⟩:=(φ3h d).1 h
 have hl:=hs.length_le
 have hu:φQ l≤φQ d.1:=φ7M _ hs
 rw[φ3h]
 exact ⟨h1,h2,by show l.length≤_;omega,by show (φQ l:Int)≤d.2.1;omega,fun f hf=>h5 f (hs.subset hf),h6.sublist hs⟩
theorem φJs {l:List φ6} (hp:l.Pairwise fun a b=>Op.bytesLess a.1 b.1=true) {i:Nat} (hi:i<l.length):∀j,(hj:j<l.length)→j≠i→l[j].1≠l[i].1:=fun j hj hne e=>by
 rcases Nat.lt_or_gt_of_ne hne with h | h
 ·have:=List.pairwise_iff_getElem.1 hp j i hj hi h
  rw[e,φ4w] at this;simp at this
 ·have:=List.pairwise_iff_getElem.1 hp i j hi hj h
  rw[e,φ4w] at this;simp at this
theorem φJt {l:List φ6} (hp:l.Pairwise fun a b=>Op.bytesLess a.1 b.1=true) {i:Nat} (hi:i<l.length) {n:List UInt8} (hn:l[i].1=n) (g:φ6→φ6):l.set i (g l[i])=l.map fun f=>if f.1=n then g f else f:=by
 refine List.ext_getElem (by simp) fun j h1 h2=>?_
 rw[List.getElem_map,List.getElem_set]
 have hj:j<l.length:=by simpa using h1
 by_cases c:i=j
 ·subst c;rw[if_pos rfl,if_pos hn]
 ·rw[if_neg c,if_neg]
  intro e
  exact φJs hp hi j hj (fun e2=>c e2.symm) (e.trans hn.symm)
theorem φHg {l:List φ6} (hp:l.Pairwise fun a b=>Op.bytesLess a.1 b.1=true) {i:Nat} (hi:i<l.length) {n:List UInt8} (hn:l[i].1=n):φo l i=l.filter fun f=>!(f.1==n):=by
 induction l generalizing i with
 | nil=>simp at hi
 | cons x l ih=>
  obtain ⟨h1,h2⟩:=κZ.1 hp
  cases i with
  | zero=>
   have hx:x.1=n:=hn
   have e:l.filter (fun f=>!(f.1==n))=l:=List.filter_eq_self.2 fun f hf=>by
    have:=φ5x (h1 f hf)
    simp only[κL,beq_eq_false_iff_ne,ne_eq]
    intro e;exact this (hx.trans e.symm)
   rw[List.filter_cons_of_neg (by simp[hx]),e]
   simp[φo]
  | succ i=>
   have hi':i<l.length:=by simpa using hi
   have hx:x.1≠n:=fun e=>by
    have:=h1 l[i] (gM hi')
    have hn:l[i].1=n:=hn
    rw[e,hn,φ4w] at this;simp at this
   rw[List.filter_cons_of_pos (by simpa using hx),←ih h2 hi' hn]
   simp[φo]
def φ76 (f:φ6):φ6:=(f.1,f.2.1,(f.2.1.length:Int))
def onF (n:List UInt8) (g:φ6→φ6) (l:List φ6):List φ6:=l.map fun f=>if f.1=n then g f else f
theorem φKz {d:φ1} (h:φ5 d=true) (hf:Free d) {n:List UInt8} (hn:(φ2 d n).2=true):φR n d=((onF n φ76 d.1,d.2),0):=by
 obtain ⟨i,hi,e,hx,_⟩:=φ8O hn
 show φU d (φ2b n)=_
 rw[φ6M h hf]
 unfold φ2b
 rw[e]
 simp only[φ8 hi]
 congr 2
 exact φJt (φ6G h) hi hx φ76
theorem φJT {d:φ1} (h:φ5 d=true) (hf:Free d) (n:List UInt8):φH n d=((d.1.filter (fun f=>!(f.1==n)),d.2),0):=by
 unfold φH
 rcases φ12 d.1 n with ⟨e,hno⟩ | ⟨i,hi,e,hx⟩
 ·rw[e,if_neg (by simp)]
  have:d.1.filter (fun f=>!(f.1==n))=d.1:=List.filter_eq_self.2 fun f hf=>by simpa using hno f hf
  rw[this]
 ·rw[e,if_pos (by omega)]
  show φU d (φ2X n)=_
  rw[φ6M h hf]
  unfold φ2X
  rw[φ17 e]
  simp only
  rw[φHg (φ6G h) hi hx]
theorem φFv:∀(names:List (List UInt8)) {d:φ1},φ5 d=true→Free d→φi names (d,0)=((d.1.filter (fun f=>!(names.any fun n=>f.1==n)),d.2),0)
 | [],d,_,_=>by
  show (d,(0:Int))=_
  have:d.1.filter (fun f=>!(([]:List (List UInt8)).any fun n=>f.1==n))=d.1:=List.filter_eq_self.2 fun f hf=>by simp
  rw[this]
 | n::names,d,h,hf=>by
  show φi names (φK (φH n) (d,0))=_
  have e:φK (φH n) (d,0)=φH n d:=by unfold φK;rw[if_pos rfl]
  rw[e,φJT h hf,φFv names (φJc h List.filter_sublist) hf]
  simp only[List.filter_filter]
  congr 2
  refine List.filter_congr fun f _=>?_
  simp[Bool.not_or,Bool.and_comm]
theorem φHn {d:φ1} (h:φ5 d=true) (hf:Free d) (v:φN):φh v d=((d.1.filter (fun f=>!φ3u v f),d.2),0):=by
 unfold φh
 rw[φFv _ h hf]
 congr 2
 refine List.filter_congr fun f hf=>?_
 unfold φ1z
 rw[if_neg (by rw[h];simp)]
 congr 1
 have hB:∀g:φ6,g.1=f.1→φ3u v g=φ3u v f:=fun g e=>by unfold φ3u;rw[e]
 cases ho:φ3u v f with
 | true=>
  refine List.any_eq_true.2 ⟨f.1,mM.2 ⟨f,List.mem_filter.2 ⟨hf,ho⟩,rfl⟩,by simp⟩
 | false=>
  refine List.any_eq_false.2 fun n hn=>?_
  obtain ⟨g,hg,rfl⟩:=mM.1 hn
  intro e
  have e:f.1=g.1:=by simpa using e
  have:=hB g e.symm
  rw[(List.mem_filter.1 hg).2,ho] at this
  simp at this
theorem φHC {s:φA} {d:φ1} (h:SmallS s d) (l:List PutT) (hl:l.length≤1000):ψ2B.f s d l=some (φ3f s d l):=by
 obtain ⟨hd,hu⟩:=h.lim
 have h1:=h.ids
 have h2:=h.dir
 have h3:=h.sm.1
 unfold ψ2B.f φ3f
 simp only[φDJ s d hd hu (show s.1.2.length<1000000000 by omega) (show s.2.1.length<1000000000 by omega),φ9k s (show s.1.2.length<1000000000 by omega) (show s.2.1.length<1000000000 by omega),φ5D d (show d.1.length<1000000000000 by omega),φAS l (show l.length<2 ^ 62 by omega),φKm s.2.1 l (show s.2.1.length<100000000 by omega) (show l.length<100000000 by omega),bS]
 cases hk:φs s d with
 | false=>simp
 | true=>
  obtain ⟨q1,q2,q3,q4,q5⟩:=φ5H hk
  have hg:=φDm hk
  have hd20:s.2.1.length≤20:=(φ46 q3).1
  cases hp:φ2K l with
  | false=>simp
  | true=>
   have hl8:l.length≤8:=by
    unfold φ2K at hp
    simp only[bA,decide_eq_true_eq] at hp
    exact hp.1
   simp only[nZ,cF,κ7,or_self,if_false]
   by_cases e1:l.length=0
   ·have d1:((l.length:Int)==0)=true:=by rw[e1];rfl
    simp only[d1,cT]
    rw[if_pos e1]
   have d1:((l.length:Int)==0)=false:=by
    have:¬(l.length:Int)=0:=by omega
    simpa using this
   simp only[d1,cF]
   rw[if_neg e1]
   by_cases e2:(φ4M s.2.1 l:Int) > 20
   ·simp only[e2,dT,cT]
    rw[if_pos (.inl (by omega))]
   simp only[e2,dF,cF]
   by_cases e3:s.2.2.1 > 1000000
   ·simp only[e3,dT,cT]
    rw[if_pos (.inr trivial)]
   rw[if_neg (by omega)]
   simp only[e3,dF,cF,φJj hg (by omega) l (by omega) hp (by omega) (by omega),bS]
theorem φKR {v:φN} (h:φq v=true):∃r,v.2=v.2.getD 0 0::r∧v.2.drop 1=r∧(1≤v.2.getD 0 0∧v.2.getD 0 0≤100000):=by
 have hr:=fun id=>φBM (id:=id) h
 obtain ⟨k1,k2,k3,k4⟩:=(φ1A v).1 h
 obtain ⟨a,l⟩:=v
 cases l with
 | nil=>simp at k3
 | cons i r=>
  have:=hr i (by simp)
  exact ⟨r,rfl,rfl,this.1,this.2.1⟩
theorem φEn {v:φN} {d:φ1} (h:φ5 d=true) (hl:(φ2 d (φ0 (φF v.2))).2=true) (hc:(cutW v d).2=0) (ids:List Int):φO (cutW v d).1 ids=φO d ids:=by
 unfold φO
 congr 1
 funext id
 exact φFR h hl hc id
theorem φN6 {v:φN} {d:φ1} (h:φ5 d=true) (hv:φq v=true) (hl:(φ2 d (φ0 (φF v.2))).2=true) (hc:(cutW v d).2=0) :
  ∃hin,φ4D v d=φ4q v (cutW v d).1 (cutN v d:Int) (φ1Q ([],0,0) (φO d v.2)) hin∧(φ20 (cutW v d).1 (v.2.getD 0 0)=none→hin=0):=by
 rw[φFp,if_neg (by rw[hc];simp)]
 obtain ⟨r,er,ed,hr⟩:=φKR hv
 cases hg:φ20 (cutW v d).1 (v.2.getD 0 0) with
 | none=>
  refine ⟨0,?_,fun _=>rfl⟩
  simp only
  rw[φEn h hl hc]
 | some g=>
  refine ⟨v.2.getD 0 0,?_,fun e=>by simp at e⟩
  simp only
  congr 1
  have e1:=φEn h hl hc v.2
  unfold φ20 at hg
  split at hg
  ·rename_i c
   obtain ⟨_,c2,c3⟩:=c
   rcases φCR (φ2 (cutW v d).1 (φJ (v.2.getD 0 0))).1 with ⟨e,_⟩ | ⟨H,e,hH⟩
   ·rw[e] at c2;simp at c2
   rw[e] at hg c3
   simp only[Option.some.injEq] at hg
   have c3:φ19 (v.2.getD 0 0) (φ2 (cutW v d).1 (φ0 (v.2.getD 0 0))).1=(H,true):=by
    unfold φ58 at c3
    simpa using c3
   have hok:=hH.1
   unfold φ2H at hok
   simp only[bA,decide_eq_true_eq] at hok
   have:=φI2 c3 hok.2.2.2 hok.2.2.1.1 (φO (cutW v d).1 (v.2.drop 1))
   rw[←hg,←this,←e1]
   conv=>rhs;rw[er]
   rw[ed]
   rfl
  ·simp at hg
theorem φNK {t:List UInt8} (h:φ2R t) {r:RecT} (hr:φe r=true):(scan (t++fr r)).1=(scan t).1++[((t.length:Int),((fr r).length:Int),r)]:=by
 obtain ⟨rs,h1,rfl⟩:=(φ8Q t).1 h
 have h2:∀x∈rs++[r],φe x=true:=fun x hx=>by
  rcases mA.1 hx with hx | hx
  ·exact h1 x hx
  ·rw[mZ.1 hx];exact hr
 have e:=φ7c h2
 rw[φAx] at e
 rw[e,φ7c h1,φBF]
 simp[φ1U]
theorem φAv (d:φ1) (a b:List Int):φO d (a++b)=φO d a++φO d b:=κK
theorem φ8o (d:φ1) (i:Int):φO d [i]=φw d i:=by unfold φO;simp
theorem φ6h {d d':φ1} {ids:List Int} (h:∀id∈ids,φ2 d' (φ0 id)=φ2 d (φ0 id)):φO d' ids=φO d ids:=by
 induction ids with
 | nil=>rfl
 | cons i ids ih=>
  have e1:φO d' (i::ids)=φw d' i++φO d' ids:=by unfold φO;simp
  have e2:φO d (i::ids)=φw d i++φO d ids:=by unfold φO;simp
  rw[e1,e2,ih fun id hid=>h id (by simp[hid])]
  unfold φw
  rw[h i (by simp)]
theorem φIC {l:List Int} (h:l≠[]):l=l.take (l.length - 1)++[φF l]:=by
 have hl:l.length - 1<l.length:=by have:=List.length_pos_iff.2 h;omega
 unfold φF
 rw[φ8 hl]
 have:=κ3 hl
 rw[show l.length - 1+1=l.length by omega,κQ] at this
 exact this
theorem φMr {d d':φ1} {ids:List Int} (hne:ids≠[]) (hp:ids.Pairwise (·<·)) {r:RecT} (hr:φe r=true) (hw:φ2R (φ2 d (φ0 (φF ids))).1)
  (h1:φ2 d' (φ0 (φF ids))=((φ2 d (φ0 (φF ids))).1++fr r,true)) (h2:∀id∈ids,id≠φF ids→φ2 d' (φ0 id)=φ2 d (φ0 id)) :
  φO d' ids=φO d ids++[((φF ids,((φ2 d (φ0 (φF ids))).1.length:Int),((fr r).length:Int),r):φ7)]:=by
 have e:=φIC hne
 have hin:∀id∈ids.take (ids.length - 1),id≠φF ids∧id∈ids:=fun id hid=>by
  rw[e] at hp
  have:=(List.pairwise_append.1 hp).2.2 id hid (φF ids) (by simp)
  exact ⟨by omega,List.mem_of_mem_take hid⟩
 have e3:φO d' (ids.take (ids.length - 1))=φO d (ids.take (ids.length - 1)):=φ6h fun id hid=>h2 id (hin id hid).2 (hin id hid).1
 have e4:φw d' (φF ids)=φw d (φF ids)++[((φF ids,((φ2 d (φ0 (φF ids))).1.length:Int),((fr r).length:Int),r):φ7)]:=by
  unfold φw
  rw[h1,φNK hw hr,mp]
  rfl
 conv=>lhs;rw[e]
 conv=>rhs;rw[e]
 rw[φAv,φAv,e3,φ8o,φ8o]
 have e5:φF (ids.take (ids.length - 1)++[φF ids])=φF ids:=φIi _ _
 rw[e5,e4,aA]
def φLQ (s:φA) (d:φ1):Prop:=∃nx,nx≤s.1.1∧φq (nx,s.1.2)=true∧φ2 d φl=(φ10 (nx,s.1.2),true)
structure JB (s:φA) (d:φ1):Prop where
 ok:φs s d=true
 lt:φ4H s
 liv:φLQ s d
 fre:Free d
structure Grow (s:φA) (d:φ1) (s':φA) (d':φ1) (P:List φ7):Prop where
 jb:JB s' d'
 dir:s'.2.1=s.2.1
 bat:s'.2.2.1=s.2.2.1
 pl:φO d' s'.1.2=φO d s.1.2++P
 kp:φ2u s.1.1 d d'
 nxt:s.1.1≤s'.1.1
theorem Grow.refl {s:φA} {d:φ1} (h:JB s d):Grow s d s d []:=⟨h,rfl,rfl,by simp,fun _ _ _ _=>rfl,κT _⟩
theorem Grow.trans {s s' s'':φA} {d d' d'':φ1} {P Q:List φ7} (h:Grow s d s' d' P) (k:Grow s' d' s'' d'' Q):Grow s d s'' d'' (P++Q):=
 ⟨k.jb,by rw[k.dir,h.dir],by rw[k.bat,h.bat],by rw[k.pl,h.pl,aA],h.kp.trans k.kp h.nxt,by have:=h.nxt;have:=k.nxt;omega⟩
theorem φJ3 {d:φ1} (h:φ5 d=true) (hf:Free d) (n t:List UInt8) (hc:(φW n t d).2≠0):(φW n t d).1=d:=by
 unfold φW at hc ⊢
 rw[φ6M h hf] at hc ⊢
 unfold φ2e at hc ⊢
 cases e:d.1.findIdx? (fun f=>f.1==n) with
 | none=>rfl
 | some i=>
  rw[e] at hc
  simp only at hc ⊢
  split
  ·rfl
  ·rename_i c
   rw[if_neg c] at hc
   exact absurd rfl hc
theorem φDG {v:φN} {w:φE} (h:φ5 w.1=true) (hf:Free w.1) (hc:(sPut v w).2≠0):φ2 (sPut v w).1 φl=φ2 w.1 φl:=by
 have hk:=φ4g h [116,101,109,112] (φ10 v)
 have hF:Free (φ1k [116,101,109,112] (φ10 v) w).1:=φ80 (P:=Free) (fun d act k=>φ1d k) _ _ hf
 have e1:φ2 (φ1k [116,101,109,112] (φ10 v) w).1 φl=φ2 w.1 φl:=φ4v h (show φl≠[116,101,109,112] by decide)
 unfold sPut at hc ⊢
 unfold φK at hc ⊢
 by_cases c:(φ1k [116,101,109,112] (φ10 v) w).2=0
 ·rw[if_pos c] at hc
  exfalso
  obtain ⟨_,ht⟩:=φ9W c
  obtain ⟨i,hi,e,hx,_⟩:=φ8O (by rw[ht])
  apply hc
  show (φU _ (φ33 [116,101,109,112] [108,105,118,101])).2=0
  rw[φ6M hk hF]
  unfold φ33
  rw[if_neg (by decide),e]
 ·rw[if_neg c]
  exact e1
theorem φCK {hi hi':Int} (h1:hi≤hi'):∀(l:List Int) (p:Option Int),φ1a hi p l=true→φ1a hi' p l=true
 | [],p,h=>h
 | x::l,p,h=>by
  simp only[φ1a,bA,decide_eq_true_eq] at h ⊢
  exact ⟨⟨h.1.1,by omega⟩,h.2.1,φCK h1 l _ h.2.2⟩
theorem φCv {a b:Int} {ids:List Int} (h:φq (a,ids)=true) (hab:a≤b) (hb:b≤100000):φq (b,ids)=true:=by
 obtain ⟨k1,k2,k3,k4⟩:=(φ1A (a,ids)).1 h
 have k2:1≤a∧a≤100000:=k2
 rw[φG (by simp only;omega) (by simp only;omega)] at k1
 refine (φ1A (b,ids)).2 ⟨?_,⟨by show 1≤b;omega,hb⟩,k3,k4⟩
 rw[φG (by simp only;omega) (by simp only;omega)]
 exact φCK (by simp only;omega) _ _ k1
theorem φMV {s:φA} {d:φ1} (h:JB s d) (hc:(rotP s d).2.2≠0):(rotP s d).1.1.2=s.1.2∧(rotP s d).1.2=s.2∧s.1.1≤(rotP s d).1.1.1∧(rotP s d).1.1.1≤100000∧φ2 (rotP s d).2.1 φl=φ2 d φl:=by
 obtain ⟨q1,q2,q3,q4,q5,q6⟩:=φ15.1 h.ok
 obtain ⟨k1,k2,k3,k4⟩:=(φ1A s.1).1 q2
 have hF:=h.fre
 obtain ⟨g1,g2⟩:=(φ2f _).1 q5
 have hex:(φ2 d (actN s)).2=true:=(g1 _ (φ4a (φ7H q2))).1
 have hs:=φ3I q1 (actN s)
 have hsF:Free (φR (actN s) d).1:=φ1d hF
 have hs0:=φBC q1 hF hex
 have hg:=φ2Y hs (φ0 s.1.1)
 have hgF:Free (φH (φ0 s.1.1) (φR (actN s) d).1).1:=φ5d (P:=Free) (fun d act k=>φ1d k) _ hsF
 have hcd:φ5 (φK (φY (φ0 s.1.1)) (φH (φ0 s.1.1) (φR (actN s) d).1)).1=true:=φ1j (op:=φY _) hg fun k=>φ39 k _
 have hcF:Free (φK (φY (φ0 s.1.1)) (φH (φ0 s.1.1) (φR (actN s) d).1)).1:=φ3m (P:=Free) (fun d act k=>φ1d k) (fun d k=>φ1d k) hgF
 have hl1:φ2 (φK (φY (φ0 s.1.1)) (φH (φ0 s.1.1) (φR (actN s) d).1)).1 φl=φ2 d φl:=by
  rw[φ2d (op:=φY _) (φ9c hg (φ2W _).symm),φ4j hs (φ2W _).symm,φ2g q1]
 unfold rotP at hc ⊢
 split
 ·exact ⟨rfl,rfl,κT _,k2.2,rfl⟩
 rename_i c0
 rw[if_neg c0] at hc
 rw[if_neg (by rw[hs0];simp)] at hc ⊢
 simp only at hc ⊢
 split
 ·refine ⟨rfl,rfl,by show s.1.1≤s.1.1+1;omega,by show s.1.1+1≤100000;omega,hl1⟩
 rename_i c2
 rw[if_neg c2] at hc
 split
 ·rename_i c3
  refine ⟨rfl,rfl,by show s.1.1≤s.1.1+1;omega,by show s.1.1+1≤100000;omega,?_⟩
  generalize (φK (φY (φ0 s.1.1)) (φH (φ0 s.1.1) (φR (actN s) d).1))=w2 at *
  have c3':(sPut (s.1.1+1,s.1.2++[s.1.1]) (w2.1,0)).2≠0:=fun e=>c3 ((φ1R _).2 e)
  have hp:=φ4G (v:=(s.1.1+1,s.1.2++[s.1.1])) (w:=(w2.1,0)) hcd
  rw[φ8h (w:=φC (sPut (s.1.1+1,s.1.2++[s.1.1]) (w2.1,0))) hp (fun m hm=>by
   simp only[mc,κc,or_false] at hm
   rcases hm with rfl | rfl
   ·decide
   ·exact (φ2W _).symm)]
  show φ2 (sPut (s.1.1+1,s.1.2++[s.1.1]) (w2.1,0)).1 φl=_
  rw[φDG (w:=(w2.1,0)) hcd hcF c3']
  exact hl1
 ·rename_i c3
  rw[if_neg c3] at hc
  exact absurd rfl hc
theorem φEa {s:φA} {d:φ1} (hF:Free d):Free (rotP s d).2.1:=by
 have hsF:Free (φR (actN s) d).1:=φ1d hF
 have hgF:Free (φH (φ0 s.1.1) (φR (actN s) d).1).1:=φ5d (P:=Free) (fun d act k=>φ1d k) _ hsF
 have hcF:Free (φK (φY (φ0 s.1.1)) (φH (φ0 s.1.1) (φR (actN s) d).1)).1:=φ3m (P:=Free) (fun d act k=>φ1d k) (fun d k=>φ1d k) hgF
 have hpF:Free (sPut (s.1.1+1,s.1.2++[s.1.1]) ((φK (φY (φ0 s.1.1)) (φH (φ0 s.1.1) (φR (actN s) d).1)).1,0)).1:=φAV (P:=Free) (fun d act k=>φ1d k) _ hcF
 unfold rotP
 split
 ·exact hF
 split
 ·exact hsF
 simp only
 split
 ·exact hcF
 split
 ·unfold φ1h
  have:=φ6N (P:=Free) (fun d act k=>φ1d k) [[116,101,109,112],φ0 s.1.1] (w:=((φC (sPut (s.1.1+1,s.1.2++[s.1.1]) ((φK (φY (φ0 s.1.1)) (φH (φ0 s.1.1) (φR (actN s) d).1)).1,0))).1,0)) hpF
  split
  ·split
   ·exact this
   ·exact this
  ·exact hpF
 ·exact hpF
theorem φJf {s:φA} {d:φ1} (h:φ5 d=true) (hc:(rotP s d).2.2=0):φ2 (rotP s d).2.1 φl=(φ10 (s.1.1+1,s.1.2++[s.1.1]),true):=by
 unfold rotP at hc ⊢
 split
 ·rename_i c;rw[if_pos c] at hc;simp at hc
 rename_i c0
 rw[if_neg c0] at hc
 split
 ·rename_i c;rw[if_pos c] at hc;exact absurd ((φ1R _).1 hc) c
 rename_i c1
 rw[if_neg c1] at hc
 simp only at hc ⊢
 split
 ·rename_i c;rw[if_pos c] at hc;exact absurd ((φ1R _).1 hc) c
 rename_i c2
 rw[if_neg c2] at hc
 split
 ·rename_i c
  rw[if_pos c] at hc
  exfalso
  revert hc
  unfold φ1h
  split
  ·split
   ·simp
   ·rename_i c4;exact c4
  ·exact c
 ·rename_i c
  have c:(sPut (s.1.1+1,s.1.2++[s.1.1]) ((φK (φY (φ0 s.1.1)) (φH (φ0 s.1.1) (φR (actN s) d).1)).1,0)).2=0:=(φ1R _).1 (Decidable.not_not.1 c)
  exact (φDQ c).2
theorem φN9 {s:φA} {d:φ1} (h:JB s d):Grow s d (rotP s d).1 (rotP s d).2.1 []:=by
 obtain ⟨q1,q2,q3,q4,q5,q6⟩:=φ15.1 h.ok
 obtain ⟨k1,k2,k3,k4⟩:=(φ1A s.1).1 q2
 rw[φG (by omega) (by omega)] at k1
 have hids:=φ3c _ _ k1
 obtain ⟨r1,r2,r3,r4,r5,r6⟩:=φ9D q1 q2
 have hkp:=φFq (s:=s) q1 k2.2
 have hft:∀id∈s.1.2,φ2 (rotP s d).2.1 (φ0 id)=φ2 d (φ0 id):=fun id hid=>by
  have:=hids id hid
  rcases φAC (s:=s) q1 with ⟨_,e2⟩ | ⟨_,_,e2⟩
  ·exact e2 _
  ·exact e2 _ (fun hh=>by have:=φ3x (by omega) (by omega) hh;omega) (φ4K _) (φ2W _)
 have hpl:=φ6h hft
 by_cases c:(rotP s d).2.2=0
 ·have hx:∀e∈s.2.1,e.2.1≠s.1.1:=fun e he=>by have:=h.lt e he;omega
  obtain ⟨e1,e2,e3,e4⟩:=φAa q1 c
  refine ⟨⟨(φF3 h.ok hx c).1,fun e he=>?_,⟨s.1.1+1,by rw[e1];exact κT _,by rw[e1];have:=r5 c;rw[e1] at this;exact this,by rw[φJf q1 c,e1]⟩,φEa h.fre⟩,r3,r4,?_,hkp,by rw[e1];show s.1.1≤s.1.1+1;omega⟩
  ·rw[r3] at he
   have:=h.lt e he
   rw[e1];show e.2.1<s.1.1+1;omega
  ·have ei:(rotP s d).1.1.2=s.1.2++[s.1.1]:=by rw[e1]
   rw[ei,φAv,hpl,φ8o]
   unfold φw
   rw[e2,φ90]
   rfl
 ·obtain ⟨f1,f2,f3,f4,f5⟩:=φMV h c
  obtain ⟨nx,n1,n2,n3⟩:=h.liv
  have hlv:φq (rotP s d).1.1=true:=by
   have:=φCv (a:=s.1.1) (ids:=s.1.2) q2 f3 f4
   rw[←f1] at this
   exact this
  refine ⟨⟨φ15.2 ⟨r1,hlv,by rw[f2];exact q3,by rw[f2];exact q4,?_,?_⟩,fun e he=>?_,⟨nx,by omega,by rw[f1];exact n2,by rw[f5,f1];exact n3⟩,φEa h.fre⟩,by rw[f2],by rw[f2],by rw[f1,hpl];simp,hkp,f3⟩
  ·rw[f2,f1]
   obtain ⟨g1,g2⟩:=(φ2f _).1 q5
   refine (φ2f _).2 ⟨fun id hid=>by rw[hft id hid];exact g1 id hid,fun hne=>by rw[hft _ (φ4a hne)];exact g2 hne⟩
  ·rw[f2]
   exact φ7O h.ok hkp h.lt (κT _)
  ·rw[f2] at he
   have:=h.lt e he
   omega
def entP (p:φ7):φB:=(p.2.2.2.2.2.1,p.1,p.2.1,p.2.2.1,p.2.2.2.2.1)
theorem φLi {s:φA} {d:φ1} {r:RecT} (h:JB s d) (hr:φe r=true) :
  ((addP s d r).2.2.1=0→∃p:φ7,Grow s d (addP s d r).1 (addP s d r).2.1 [p]∧p.2.2.2=r∧(addP s d r).2.2.2=entP p) ∧
  ((addP s d r).2.2.1≠0→Grow s d (addP s d r).1 (addP s d r).2.1 []):=by
 have hR:Grow s d (addR s d (frame (φ9 r))).1 (addR s d (frame (φ9 r))).2.1 []:=by
  unfold addR
  split
  ·exact φN9 h
  ·exact Grow.refl h
 unfold addP
 generalize addR s d (frame (φ9 r))=R at *
 simp only
 by_cases c:R.2.2=0
 rotate_left
 ·rw[if_pos c]
  exact ⟨fun e=>absurd e c,fun _=>hR⟩
 rw[if_neg (by simpa using c)]
 have hJ:=hR.jb
 obtain ⟨q1,q2,q3,q4,q5,q6⟩:=φ15.1 hJ.ok
 by_cases c2:(φW (actN R.1) (frame (φ9 r)) R.2.1).2=0
 rotate_left
 ·rw[if_pos c2]
  refine ⟨fun e=>absurd ((φ1R _).1 e) c2,fun _=>?_⟩
  show Grow s d R.1 (φW (actN R.1) (frame (φ9 r)) R.2.1).1 []
  rw[φJ3 q1 hJ.fre _ _ c2]
  exact hR
 rw[if_neg (by simpa using c2)]
 refine ⟨fun _=>?_,fun e=>absurd rfl e⟩
 obtain ⟨a1,a2,a3⟩:=φCd hJ.ok hr c2
 obtain ⟨b1,b2⟩:=φ7q c2
 obtain ⟨g1,g2⟩:=(φ2f _).1 q5
 have hne:=φ7H q2
 have hl:=φA4 q2
 have hlt:∀id∈R.1.1.2,1≤id∧id≤100000:=fun id hid=>by have:=φBM q2 hid;omega
 obtain ⟨nx,n1,n2,n3⟩:=hJ.liv
 have hsz:=g2 hne
 have hpm:=φMr (d:=R.2.1) (d':=(φW (actN R.1) (frame (φ9 r)) R.2.1).1) hne (φDc q2) hr (g1 _ (φ4a hne)).2 b2 (fun id hid hne2=>φ6u q1 (fun hh=>hne2 (φ3x (hlt id hid) ⟨hl.1,hl.2.2⟩ hh)))
 refine ⟨(φF R.1.1.2,((φ2 R.2.1 (φ0 (φF R.1.1.2))).1.length:Int),((fr r).length:Int),r),?_,rfl,?_⟩
 ·refine Grow.trans (P:=[]) hR ⟨⟨a1,hJ.lt,⟨nx,n1,n2,?_⟩,φ1d hJ.fre⟩,rfl,rfl,hpm,fun e h1 h2 h3=>a2 e h1 (by have:=(φ1A _).1 q2;omega) h3,κT _⟩
  show φ2 (φW (actN R.1) (frame (φ9 r)) R.2.1).1 φl=_
  rw[φ6u q1 (show φl≠actN R.1 from (φ2W _).symm)]
  exact n3
 ·unfold entP
  rw[hsz]
  rfl
theorem φA7:∀(rs:List RecT) (s:φA) (d:φ1),JB s d→(∀r∈rs,φe r=true)→∃P:List φ7,Grow s d (φX rs s d).1 (φX rs s d).2.1 P∧P.map (·.2.2.2)=rs.take P.length∧P.length≤rs.length ∧
  ((φX rs s d).2.2.1=0→P.length=rs.length∧(φX rs s d).2.2.2=P.map entP)∧((φX rs s d).2.2.1≠0→P.length<rs.length)
 | [],s,d,h,_=>⟨[],Grow.refl h,rfl,κ9 _,fun _=>⟨rfl,rfl⟩,fun e=>absurd rfl e⟩
 | r::rs,s,d,h,hr=>by
  obtain ⟨a1,a2⟩:=φLi h (hr r (by simp))
  unfold φX
  by_cases c:(addP s d r).2.2.1=0
  rotate_left
  ·rw[if_pos c]
   exact ⟨[],a2 c,rfl,κ4 _,fun e=>absurd e c,fun _=>by simp⟩
  rw[if_neg (by simpa using c)]
  obtain ⟨p,p1,p2,p3⟩:=a1 c
  obtain ⟨P,g1,g2,g3,g4,g5⟩:=φA7 rs _ _ p1.jb fun x hx=>hr x (by simp[hx])
  refine ⟨p::P,Grow.trans p1 g1,?_,by simp;omega,fun e=>?_,fun e=>by have:=g5 e;simp;omega⟩
  ·simp[p2,g2]
  ·obtain ⟨x1,x2⟩:=g4 e
   exact ⟨by simp[x1],by simp only[κ8];rw[←p3,←x2]⟩
structure JR (s:φA) (d:φ1):Prop extends JB s d where
 reg:∃last,φg [] (φO d s.1.2) ([],0,0)=(s.2.1,last,0)∧last<s.2.2.1
 pb:∀p∈φO d s.1.2,p.2.2.2.2.1<s.2.2.1
 own:ownL 5 0 (φO d s.1.2)=[]
theorem φA8 (b:Int):∀(P pre:List φ7) (dir:List φB) (z:Int),(∀p∈P,(p.2.2.2.1=1∨p.2.2.2.1=2)∧p.2.2.2.2.1=b)→z≤b→∃z',z'≤b∧φg pre P (dir,z,0)=(dir,z',0)
 | [],pre,dir,z,_,hz=>⟨z,hz,rfl⟩
 | p::P,pre,dir,z,h,hz=>by
  obtain ⟨hk,hb⟩:=h p (by simp)
  rw[φg,if_neg (by simp)]
  have e:φ1W pre p (dir,z,0)=(dir,if p.2.2.2.2.1 > z then p.2.2.2.2.1 else z,0):=by
   unfold φ1W
   simp only
   rw[if_neg (by rcases hk with e | e<;>rw[e]<;>decide)]
  rw[e]
  exact φA8 b P _ _ _ (fun q hq=>h q (by simp[hq])) (by split<;>omega)
theorem φ9n (b:Int):∀(P acc:List φ7),(∀p∈P,p.2.2.2.1=1∨p.2.2.2.1=2∨p.2.2.2.1=3)→P.foldl (φ1N 5 b) acc=acc
 | [],acc,_=>rfl
 | p::P,acc,h=>by
  have hk:=h p (by simp)
  have e:φ1N 5 b acc p=acc:=by
   unfold φ1N
   rw[if_neg (by simp),if_neg (by rcases hk with e | e | e<;>rw[e]<;>decide),if_neg (by rcases hk with e | e | e<;>rw[e]<;>simp)]
  rw[κH,e,φ9n b P acc fun q hq=>h q (by simp[hq])]
theorem φEw (b:Int):∀(A:List φ7) (acc:List φ7),(∀p∈A,p.2.2.2.2.1<b)→A.foldl (φ1N 3 b) acc=acc
 | [],acc,_=>rfl
 | p::A,acc,h=>by
  have hb:=h p (by simp)
  have e:φ1N 3 b acc p=acc:=by
   unfold φ1N
   rw[if_pos ⟨rfl,by omega⟩]
  rw[κH,e,φEw b A acc fun q hq=>h q (by simp[hq])]
theorem φEb (b:Int):∀(P acc:List φ7),(∀p∈P,(p.2.2.2.1=1∨p.2.2.2.1=2)∧p.2.2.2.2.1=b)→P.foldl (φ1N 3 b) acc=acc++P
 | [],acc,_=>by simp
 | p::P,acc,h=>by
  obtain ⟨hk,hb⟩:=h p (by simp)
  have e:φ1N 3 b acc p=acc++[p]:=by
   unfold φ1N
   rw[if_neg (by rw[hb];simp),if_neg (by rcases hk with e | e<;>rw[e]<;>decide),if_pos (.inl ⟨rfl,hk⟩)]
  rw[κH,e,φEb b P _ fun q hq=>h q (by simp[hq])]
  simp
theorem φCe (b:Int):∀(P:List φ7) (l:List PutT) (dir:List φB),P.map (·.2.2.2)=l.map (φa b)→φ1V dir P=dirW dir (l.zip (P.map entP))
 | [],l,dir,h=>by
  cases l with
  | nil=>rfl
  | cons x l=>simp at h
 | p::P,l,dir,h=>by
  cases l with
  | nil=>simp at h
  | cons q l=>
   simp only[κ8,List.cons.injEq] at h
   obtain ⟨h1,h2⟩:=h
   have e:putD dir p=φ2O dir (q,entP p):=by
    unfold putD φ2O entP
    rw[h1]
    unfold φa
    cases q.2.1<;>rfl
   show φ1V (putD dir p) P=dirW (φ2O dir (q,entP p)) (l.zip (P.map entP))
   rw[e]
   exact φCe b P l _ h2
theorem φKa (b:Int) (p:PutT):((φa b p).1=1∨(φa b p).1=2)∧(φa b p).2.1=b:=by
 unfold φa
 split
 ·exact ⟨.inr rfl,rfl⟩
 ·exact ⟨.inl rfl,rfl⟩
theorem JB.bump {s:φA} {d:φ1} (h:JB s d) (hb:s.2.2.1≤1000000):JB (s.1,s.2.1,s.2.2.1+1,s.2.2.2) d:=by
 obtain ⟨q1,q2,q3,q4,q5,q6⟩:=φ15.1 h.ok
 refine ⟨φ15.2 ⟨q1,q2,q3,by show 1≤s.2.2.1+1∧s.2.2.1+1≤1000001;omega,q5,fun e he=>?_⟩,h.lt,h.liv,h.fre⟩
 have:=q6 e he
 rw[φ3E] at this ⊢
 obtain ⟨a1,a2,a3,a4,a5⟩:=this
 exact ⟨a1,a2,a3,a4,by show e.2.2.2.2<s.2.2.1+1;omega⟩
theorem φLy {s:φA} {d:φ1} (h:JR s d) {l:List PutT} (hp:φ2K l=true) (hb:s.2.2.1≤1000000) (hk:φ4M s.2.1 l≤20):JR (φ23 s d l).1 (φ23 s d l).2.1:=by
 obtain ⟨q1,q2,q3,q4,q5,q6⟩:=φ15.1 h.ok
 have hrec:=φBl (b:=s.2.2.1) (l:=l) ⟨q4.1,hb⟩ hp
 have hJ1:=h.toJB.bump hb
 obtain ⟨P,g1,g2,g3,g4,g5⟩:=φA7 (φ3N s.2.2.1 l) _ _ hJ1 hrec
 obtain ⟨last,hreg,hlast⟩:=h.reg
 have hrl:=φCp s.2.2.1 l
 have hright:=φDX h.ok h.lt hp hb hk
 -- the places of a part of a batch
 have part:∀Q:List φ7,(∃k,k≤l.length∧Q.map (·.2.2.2)=(l.map (φa s.2.2.1)).take k)→∀p∈Q,(p.2.2.2.1=1∨p.2.2.2.1=2)∧p.2.2.2.2.1=s.2.2.1:=fun Q ⟨k,_,hQ⟩ p hpQ=>by
  have:p.2.2.2∈Q.map (·.2.2.2):=mM.2 ⟨p,hpQ,rfl⟩
  rw[hQ] at this
  obtain ⟨q,_,e⟩:=mM.1 (List.mem_of_mem_take this)
  have:=φKa s.2.2.1 q
  rw[e] at this
  exact this
 unfold φ23 at hright ⊢
 generalize hG:φX (φ3N s.2.2.1 l) (s.1,s.2.1,s.2.2.1+1,s.2.2.2) d=g at *
 simp only at hright ⊢
 have hbat:g.1.2.2.1=s.2.2.1+1:=g1.bat
 have hdir:g.1.2.1=s.2.1:=g1.dir
 have hpl:φO g.2.1 g.1.1.2=φO d s.1.2++P:=g1.pl
 by_cases c:g.2.2.1=0
 rotate_left
 ·-- the batch was not written φ2R
  rw[if_pos c]
  have hlt:=g5 c
  have hP:=part P ⟨P.length,by omega,by
   rw[g2]
   unfold φ3N
   rw[List.take_append_of_le_length (by rw[lM];omega)]⟩
  obtain ⟨z',hz',e⟩:=φA8 s.2.2.1 P (φO d s.1.2) s.2.1 last hP (by omega)
  refine ⟨g1.jb,⟨z',?_,by show z'<g.1.2.2.1;omega⟩,fun p hp=>?_,?_⟩
  ·show φg [] (φO g.2.1 g.1.1.2) _=_
   rw[hpl,φ5S _ _ _ _ (by rw[hreg]),hreg,κA,e,hdir]
  ·have hp:p∈φO g.2.1 g.1.1.2:=hp
   rw[hpl] at hp
   show _<g.1.2.2.1
   rcases mA.1 hp with hp | hp
   ·have:=h.pb p hp;omega
   ·have:=(hP p hp).2;omega
  ·show ownL 5 0 (φO g.2.1 g.1.1.2)=[]
   have ho:=h.own
   rw[hpl]
   unfold ownL at ho ⊢
   rw[κe,ho,φ9n 0 P [] fun p hp=>by rcases (hP p hp).1 with e | e<;>simp[e]]
 rw[if_neg (by simpa using c)] at hright ⊢
 obtain ⟨x1,x2⟩:=g4 c
 -- the last sync is done
 obtain ⟨b1,b2,b3,b4,b5,b6⟩:=φ15.1 g1.jb.ok
 have hex:(φ2 g.2.1 (actN g.1)).2=true:=(((φ2f _).1 b5).1 _ (φ4a (φ7H b2))).1
 have hs0:(φR (actN g.1) g.2.1).2=0:=φBC b1 g1.jb.fre hex
 rw[if_neg (by rw[hs0];simp)] at hright ⊢
 obtain ⟨r1,r2,r3,r4,r5⟩:=hright rfl
 have hpl2:φO (φR (actN g.1) g.2.1).1 g.1.1.2=φO d s.1.2++P:=by
  rw[φ6h (d:=g.2.1) fun id _=>φ2g b1 _ _]
  exact hpl
 -- the last place is the seal's
 have hP0:P≠[]:=fun e=>by rw[e] at x1;simp at x1;omega
 obtain ⟨Q,pz,rfl⟩:∃Q pz,P=Q++[pz]:=⟨P.dropLast,P.getLast hP0,(List.dropLast_concat_getLast hP0).symm⟩
 have hQl:Q.length=l.length:=by simp at x1;omega
 have hmap:(Q++[pz]).map (·.2.2.2)=l.map (φa s.2.2.1)++[(3,s.2.2.1,[],[],(l.length:Int),φ1L (l.map (φa s.2.2.1)))]:=by
  rw[g2,x1,κQ];rfl
 rw[mp,List.map_singleton] at hmap
 obtain ⟨hQ,hz⟩:=List.append_inj hmap (by simp[hQl])
 have hz:pz.2.2.2=(3,s.2.2.1,[],[],(l.length:Int),φ1L (l.map (φa s.2.2.1))):=by simpa using hz
 have hPQ:=part Q ⟨l.length,κ9 _,by rw[hQ,List.take_of_length_le (by simp)]⟩
 obtain ⟨z',hz',e⟩:=φA8 s.2.2.1 Q (φO d s.1.2) s.2.1 last hPQ (by omega)
 have hown3:ownL 3 s.2.2.1 (φO d s.1.2++Q)=Q:=by
  unfold ownL
  rw[κe,φEw _ _ _ h.pb,φEb _ _ _ hPQ];rfl
 have hdw:φ1V s.2.1 Q=dirW s.2.1 (l.zip g.2.2.2):=by
  rw[φCe s.2.2.1 Q l s.2.1 hQ,x2,mp,φBD _ _ _ (by simp[hQl])]
 have hseal:φ1W (φO d s.1.2++Q) pz (s.2.1,z',0)=(dirW s.2.1 (l.zip g.2.2.2),s.2.2.1,0):=by
  unfold φ1W
  simp only
  rw[hz]
  simp only
  rw[if_pos (.inl trivial),hown3,hQ]
  have hfit:φ2c (3,s.2.2.1,[],[],(l.length:Int),φ1L (l.map (φa s.2.2.1))) (l.map (φa s.2.2.1))=true:=by
   unfold φ2c;simp
  have el:(if s.2.2.1 > z' then s.2.2.1 else z')=s.2.2.1:=by split<;>omega
  rw[if_pos hfit,hdw,el]
  unfold φ49
  rw[if_neg]
  have r5':(dirW g.1.2.1 (l.zip g.2.2.2)).length=φ4M s.2.1 l:=r5
  rw[hdir] at r5'
  omega
 refine ⟨⟨r1,r2,?_,φ1d g1.jb.fre⟩,⟨s.2.2.1,?_,by show s.2.2.1<g.1.2.2.1;omega⟩,fun p hp=>?_,?_⟩
 ·obtain ⟨nx,n1,n2,n3⟩:=g1.jb.liv
  exact ⟨nx,n1,n2,by rw[φ2g b1];exact n3⟩
 ·show φg [] (φO (φR (actN g.1) g.2.1).1 g.1.1.2) _=_
  rw[hpl2,φ5S _ _ _ _ (by rw[hreg]),hreg,κA,φ5S _ _ _ _ (by rw[e]),e,φg,if_neg (by simp),hseal,hdir]
  rfl
 ·have hp:p∈φO (φR (actN g.1) g.2.1).1 g.1.1.2:=hp
  rw[hpl2] at hp
  show _<g.1.2.2.1
  rcases mA.1 hp with hp | hp
  ·have:=h.pb p hp;omega
  ·rcases mA.1 hp with hp | hp
   ·have:=(hPQ p hp).2;omega
   ·rw[mZ.1 hp,hz];show s.2.2.1<_;omega
 ·show ownL 5 0 (φO (φR (actN g.1) g.2.1).1 g.1.1.2)=[]
  have ho:=h.own
  rw[hpl2]
  unfold ownL at ho ⊢
  rw[κe,ho,φ9n 0 (Q++[pz]) [] fun p hp=>by
   rcases mA.1 hp with hp | hp
   ·rcases (hPQ p hp).1 with e | e<;>simp[e]
   ·rw[mZ.1 hp,hz];simp]
theorem φKV {id:Int} {t:List UInt8} {h:φ13} (k:φ19 id t=(h,true)) (hd:φ1m h.2.2=true) (h0:0≤h.2.1) :
  φg [] ((scan t).1.map fun x=>((id,x):φ7)) ([],0,0)=(h.2.2,h.2.1,0)∧ownL 5 0 ((scan t).1.map fun x=>((id,x):φ7))=[]∧∀p∈(scan t).1.map (fun x=>((id,x):φ7)),p.2.2.2.2.1≤h.2.1:=by
 obtain ⟨l,z,e,z5,hf,hk,hh,_,_⟩:=φH2 k
 have hsrt:srt ([]++l.map (entS id)):=by have:=φ5T hd;rw[hh] at this;simpa using this
 have hlen:(l.map (entS id)).length≤20:=by
  unfold φ1m at hd
  rw[hh] at hd
  simp only[bA,decide_eq_true_eq] at hd
  exact hd.2
 rw[hh] at h0
 have h0:0≤z.2.2.2.1:=h0
 rw[e,hh]
 obtain ⟨z',hz',eg⟩:=φ9o id z.2.2.2.1 l [] 0 hk h0
 refine ⟨?_,?_,fun p hp=>?_⟩
 ·rw[mp,φ5S _ _ _ _ (by rw[eg]),eg,κA,List.map_singleton,φg,if_neg (by simp)]
  have eo:ownL z.2.2.1 z.2.2.2.1 (l.map fun x=>((id,x):φ7))=l.map fun x=>((id,x):φ7):=by
   rw[z5];unfold ownL;rw[φ9f id _ l [] fun x hx=>(hk x hx).1];rfl
  have ea:φ1V [] (l.map fun x=>((id,x):φ7))=l.map (entS id):=by
   rw[φAb id l [] (fun x hx=>(hk x hx).1) hsrt];rfl
  have er:(l.map fun x=>((id,x):φ7)).map (·.2.2.2)=l.map (·.2.2):=by rw[List.map_map];rfl
  have es:φ1W (l.map fun x=>((id,x):φ7)) ((id,z):φ7) ([],z',0)=(l.map (entS id),z.2.2.2.1,0):=by
   unfold φ1W
   simp only
   have el:(if z.2.2.2.1 > z' then z.2.2.2.1 else z')=z.2.2.2.1:=by split<;>omega
   rw[if_pos (.inr z5),eo,er,if_pos hf,ea,el]
   unfold φ49
   rw[if_neg (Nat.not_lt.2 hlen)]
  rw[es];rfl
 ·unfold ownL
  rw[mp,κe,List.map_singleton,κH,List.foldl_nil]
  unfold φ1N
  rw[if_neg (by simp),if_pos z5]
 ·obtain ⟨x,hx,rfl⟩:=mM.1 hp
  show x.2.2.2.1≤z.2.2.2.1
  rcases mA.1 hx with hx | hx
  ·exact (hk x hx).2
  ·rw[mZ.1 hx];exact κT _
theorem φEC:∀(ids:List Int) {w:φE},φ5 w.1=true→Free w.1→w.2=0→(sOld ids w).2=0
 | [],w,_,_,h=>h
 | i::ids,w,hk,hf,h=>φEC ids (w:=φi [φ0 i,φJ i] w) (φ4y _ hk) (φ6N (P:=Free) (fun d act k=>φ1d k) _ hf) (φBu _ hk hf h)
theorem φCb {s:φA} {d:φ1} (l:List φ1C) (h:JB s d) (h2:s.1.1+2≤100000) (hc:(φ1H s d l).2.2≠0) :
  (φ1H s d l).1=((s.1.1+2,s.1.2),s.2)∧φ5 (φ1H s d l).2.1=true∧Free (φ1H s d l).2.1∧φ2 (φ1H s d l).2.1 φl=φ2 d φl ∧
  ∀id,1≤id∧id<s.1.1→φ2 (φ1H s d l).2.1 (φ0 id)=φ2 d (φ0 id):=by
 obtain ⟨q1,q2,q3,q4,q5,q6⟩:=φ15.1 h.ok
 obtain ⟨k1,k2,k3,k4⟩:=(φ1A s.1).1 q2
 have hF:=h.fre
 have g1:=φ5w s.1.1 (φc l (s.2.2.1 - 1)) (w:=(d,0)) q1
 have g0:=φ42 (w:=(d,0)) q1 (φ0 s.1.1)
 have g0a:=φ79 (φ0 s.1.1) (φc l (s.2.2.1 - 1)) g0
 have g2:=φ42 g1 (φ0 (s.1.1+1))
 have F1:Free (sNew (φ0 (s.1.1+1)) (sWM s.1.1 (φc l (s.2.2.1 - 1)) (d,0))).1:=φ94 (P:=Free) (fun d act k=>φ1d k) _ (φBw (P:=Free) (fun d act k=>φ1d k) _ _ hF)
 have f1:∀n,n≠φ0 s.1.1→n≠φ0 (s.1.1+1)→φ2 (sNew (φ0 (s.1.1+1)) (sWM s.1.1 (φc l (s.2.2.1 - 1)) (d,0))).1 n=φ2 d n:=fun n q1' q2'=>by
  rw[φ6R g1 q2']
  unfold sWM
  rw[φ2d (op:=φR _) (φ2g g0a _ n),φAy q1' _ g0,φ6R (w:=(d,0)) q1 q1']
 unfold φ1H at hc ⊢
 simp only at hc ⊢
 generalize sNew (φ0 (s.1.1+1)) (sWM s.1.1 (φc l (s.2.2.1 - 1)) (d,0))=w1 at *
 have g3:φ5 (φ14 s.1.1 w1).1=true:=by
  unfold φ14;split
  ·exact g2
  ·exact φ7Q _ g2
 have F2:Free (φ14 s.1.1 w1).1:=by
  unfold φ14;split
  ·exact F1
  ·exact φBL (P:=Free) (fun d act k=>φ1d k) _ F1
 have f2:∀n,n≠φJ s.1.1→φ2 (φ14 s.1.1 w1).1 n=φ2 w1.1 n:=fun n q=>by
  unfold φ14
  split
  ·rfl
  ·unfold φ29
   simp only
   have hf:=φ4g (w:=(w1.1,0)) g2 (φJ s.1.1) (φ1K (φ19 s.1.1 (φ2 w1.1 (φ0 s.1.1)).1).1)
   split
   ·rw[φ4j hf q,φ4v (w:=(w1.1,0)) g2 q]
   ·rw[φ4v (w:=(w1.1,0)) g2 q]
 generalize φ14 s.1.1 w1=w2 at *
 have g5:φ5 (if w2.2=0 then φC (sPut (s.1.1+2,[s.1.1,s.1.1+1]) w2) else φC w2).1=true:=by
  split
  ·exact φ4G g3 _
  ·exact g3
 have F5:Free (if w2.2=0 then φC (sPut (s.1.1+2,[s.1.1,s.1.1+1]) w2) else φC w2).1:=by
  split
  ·exact φAV (P:=Free) (fun d act k=>φ1d k) _ F2
  ·exact F2
 have f3:∀n,n≠φ2F→n≠φl→φ2 (if w2.2=0 then φC (sPut (s.1.1+2,[s.1.1,s.1.1+1]) w2) else φC w2).1 n=φ2 w2.1 n:=fun n q1 q2=>by
  split
  ·exact φ6c g3 _ q1 q2
  ·rfl
 have fl:(if w2.2=0 then φC (sPut (s.1.1+2,[s.1.1,s.1.1+1]) w2) else φC w2).2≠0→φ2 (if w2.2=0 then φC (sPut (s.1.1+2,[s.1.1,s.1.1+1]) w2) else φC w2).1 φl=φ2 w2.1 φl:=fun e=>by
  by_cases c:w2.2=0
  ·rw[if_pos c] at e ⊢
   exact φDG g3 F2 fun e2=>e ((φ1R _).2 e2)
  ·rw[if_neg c];rfl
 generalize (if w2.2=0 then φC (sPut (s.1.1+2,[s.1.1,s.1.1+1]) w2) else φC w2)=w3 at *
 by_cases c:w3.2=0
 ·rw[if_neg (by simpa using c)] at hc
  exfalso
  apply hc
  show told (sOld s.1.2 (w3.1,0)).2=0
  rw[φEC s.1.2 (w:=(w3.1,0)) g5 F5 rfl];rfl
 rw[if_pos (by simpa using c)]
 refine ⟨rfl,φE2 _ g5,?_,?_,fun id hid=>?_⟩
 ·show Free (φ1h (φ45 s.1.1) w3).1
  have:=φ6N (P:=Free) (fun d act k=>φ1d k) (φ45 s.1.1) (w:=(w3.1,0)) F5
  unfold φ1h
  split
  ·split
   ·exact this
   ·exact this
  ·exact F5
 ·show φ2 (φ1h (φ45 s.1.1) w3).1 φl=_
  rw[φ8h g5 (fun m hm=>by
   unfold φ45 at hm
   simp only[mc,κc,or_false] at hm
   rcases hm with rfl | rfl | rfl | rfl
   ·decide
   ·exact (φ2W _).symm
   ·exact (φ2W _).symm
   ·exact (φ7E _).symm),fl c,f2 _ (φ7E _).symm,f1 _ (φ2W _).symm (φ2W _).symm]
 ·have n1:φ0 id≠φ0 s.1.1:=fun e=>by have:=φ3x (by omega) (by omega) e;omega
  have n2:φ0 id≠φ0 (s.1.1+1):=fun e=>by have:=φ3x (by omega) (by omega) e;omega
  have n3:φ0 id≠φJ s.1.1:=φ43 _ _ (by omega)
  show φ2 (φ1h (φ45 s.1.1) w3).1 (φ0 id)=_
  rw[φ8h g5 (fun m hm=>by
   unfold φ45 at hm
   simp only[mc,κc,or_false] at hm
   rcases hm with rfl | rfl | rfl | rfl
   ·exact φ4K _
   ·exact n1
   ·exact n2
   ·exact n3),f3 _ (φ4K _) (φ2W _),f2 _ n3,f1 _ n1 n2]
end Go.Rf.G
