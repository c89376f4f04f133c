import Derived.Test.YtakpldeobnelfabGreatDoorLConflictsLem3
open Option renaming bind_some→bS
open List renaming length_append→lA,append_assoc→aA,mem_cons_of_mem→mC,mem_append→mA,mem_append_right→mR,mem_append_left→mL,mem_cons→mc,drop_eq_getElem_cons→dG,length_take→lT,length_drop→lD,mem_map→mM,length_map→lM,length_cons→lC,length_nil→lN,getElem_mem→gM,map_append→mp,mem_singleton→mZ
open Bool renaming and_eq_true→bA,eq_false_or_eq_true→bE,not_true→nZ,not_false→nF,true_and→tA,not_not→nn
open Int renaming toNat_natCast→tN,ofNat_lt→oL
namespace Go.Rf.G
open Go Go.Rf
set_option linter.unusedVariables false
set_option linter.unusedSimpArgs false
set_option synthInstance.maxSize 4000
theorem φIQ {s:List UInt8} {h:φ1E} (k:φ42 s h):ψ2m.f s=some (h,true):=by
 obtain ⟨es,h4⟩:=φLn k
 obtain ⟨n1,n2,n3,n4⟩:=φDI k.1
 have hbl:=φ8d k.1
 have hsh:=k.2
 obtain ⟨z,m,l⟩:=h
 simp only at n1 n2 n3 n4
 have hcnt:φ1V (l.length:Int):=⟨by omega,by omega⟩
 generalize hF:fix4 (crcT (φ1q (z,m,l)))=F at *
 have hbd:φ1q (z,m,l)=(([z,m,(l.length:Int)]:List Int).map varT).flatten++(l.map entT).flatten:=by
  unfold φ1q;simp
 rw[hbd] at es hbl
 have hsl:s.length≤1004:=by rw[es,lA,h4];omega
 have v0:=φCH F [z,m,(l.length:Int)] (l.map entT).flatten (by
  intro x hx
  simp only[mc,List.not_mem_nil,or_false] at hx
  rcases hx with rfl | rfl | rfl
  ·exact n1
  ·exact n2
  ·exact hcnt) (by rw[←es];omega)
 rw[←es,h4] at v0
 have v0:ψ3D.f s 4 3=_:=v0
 have hfl:∀n,((l.drop n).map entT).flatten.length≤s.length:=fun n=>by
  have e:l.map entT=(l.take n).map entT++(l.drop n).map entT:=by rw[←mp,List.take_append_drop]
  rw[es,e,List.flatten_append]
  simp only[lA];omega
 have hat:∀n,s.drop (s.length - ((l.drop n).map entT).flatten.length)=((l.drop n).map entT).flatten:=fun n=>by
  have e:l.map entT=(l.take n).map entT++(l.drop n).map entT:=by rw[←mp,List.take_append_drop]
  have es2:s=(F++((([z,m,(l.length:Int)]:List Int).map varT).flatten++((l.take n).map entT).flatten))++((l.drop n).map entT).flatten:=by
   rw[es,e,List.flatten_append];simp only[aA]
  have hl:s.length - ((l.drop n).map entT).flatten.length=(F++((([z,m,(l.length:Int)]:List Int).map varT).flatten++((l.take n).map entT).flatten)).length:=by
   have:=congrArg List.length es2
   rw[lA] at this;omega
  rw[hl]
  conv=>lhs;rw[es2]
  exact List.drop_left
 have key:=φe (step:=ψ2m.l0) (fun n (_:Unit)=>(s,((0,0,[]):φ1E),([z,m,(l.length:Int)]:List Int),(((s.length - ((l.drop n).map entT).flatten.length:Nat)):Int),((z,m,l.take n):φ1E),(n:Int))) l.length (fun _ _=>.inl (s,(0,0,[]),(z,m,l))) (fun _ _=>True)
  (fun rec n _ hn _ ih=>by
   have hrd:rdA 0 ([z,m,(l.length:Int)]:List Int) 2=(l.length:Int):=rfl
   rcases Nat.lt_or_ge n l.length with h1 | h1
   ·have hw:=φJ (show n+1<9223372036854775808 by omega)
    obtain ⟨k0,k1,k2,k3,k5⟩:=n4 _ (gM h1)
    have hk0:φ1V (l[n].1.length:Int):=⟨by omega,by omega⟩
    have hd:((l.drop n).map entT).flatten=entT l[n]++((l.drop (n+1)).map entT).flatten:=by
     rw[dG h1];rfl
    have hf0:=hfl n
    have hf1:=hfl (n+1)
    generalize hR:((l.drop (n+1)).map entT).flatten=R at *
    generalize hD:((l.drop n).map entT).flatten=D at *
    have hat0:=hat n
    rw[hD] at hat0
    rw[φJl] at hd
    have hlen:=congrArg List.length hd
    simp only[lA] at hlen
    have t0:=φ7R l[n].1 (varT l[n].2.1++(varT l[n].2.2.1++(varT l[n].2.2.2.1++(varT l[n].2.2.2.2++R)))) hk0 (by simp only[lA];omega)
    rw[←hd] at t0
    have t1:=φCH [] [l[n].2.1,l[n].2.2.1,l[n].2.2.2.1,l[n].2.2.2.2] R (by
     intro x hx
     simp only[mc,List.not_mem_nil,or_false] at hx
     rcases hx with rfl | rfl | rfl | rfl
     ·exact k1
     ·exact k2
     ·exact k3
     ·exact k5) (by simp only[List.nil_append,List.map_cons,List.map_nil,List.flatten_cons,List.flatten_nil,List.append_nil,lA];omega)
    have e4:([]:List UInt8)++((([l[n].2.1,l[n].2.2.1,l[n].2.2.2.1,l[n].2.2.2.2]:List Int).map varT).flatten++R)=varT l[n].2.1++(varT l[n].2.2.1++(varT l[n].2.2.2.1++(varT l[n].2.2.2.2++R))):=by simp
    rw[e4] at t1
    have t1:ψ3D.f (varT l[n].2.1++(varT l[n].2.2.1++(varT l[n].2.2.2.1++(varT l[n].2.2.2.2++R)))) 0 4=_:=t1
    have hE:((([]:List UInt8)++(([l[n].2.1,l[n].2.2.1,l[n].2.2.2.1,l[n].2.2.2.2]:List Int).map varT).flatten).length:Nat)=(varT l[n].2.1).length+((varT l[n].2.2.1).length+((varT l[n].2.2.2.1).length+(varT l[n].2.2.2.2).length)):=by
     simp
    rw[hE] at t1
    have hT:(varT l[n].2.1++(varT l[n].2.2.1++(varT l[n].2.2.2.1++(varT l[n].2.2.2.2++R)))).length=(varT l[n].2.1).length+((varT l[n].2.2.1).length+((varT l[n].2.2.2.1).length+((varT l[n].2.2.2.2).length+R.length))):=by simp only[lA]
    have hin:(decide (0≤(((s.length - D.length:Nat)):Int)) && decide ((((s.length - D.length:Nat)):Int)≤(s.length:Int)))=true:=by simp only[bA,decide_eq_true_eq];omega
    have hpos:decide ((((varT l[n].2.1).length+((varT l[n].2.2.1).length+((varT l[n].2.2.2.1).length+(varT l[n].2.2.2.2).length)):Nat):Int)<0)=false:=by simp;omega
    have hb:((l.take n).length+([l[n]]:List φ9).length) * 48≤140737488355328:=φD0 (by rw[lT];omega)
    have hi:l.take n++[l[n]]=l.take (n+1):=(List.take_succ_eq_append_getElem h1).symm
    have hp:((l[n].1,l[n].2.1,l[n].2.2.1,l[n].2.2.2.1,l[n].2.2.2.2):φ9)=l[n]:=rfl
    have hy:w64 (w64 ((s.length:Int) - ((varT l[n].2.1++(varT l[n].2.2.1++(varT l[n].2.2.2.1++(varT l[n].2.2.2.2++R)))).length:Int))+(((varT l[n].2.1).length+((varT l[n].2.2.1).length+((varT l[n].2.2.2.1).length+(varT l[n].2.2.2.2).length)):Nat):Int))=(((s.length - R.length:Nat)):Int):=by
     have w1:=φE (n:=(s.length:Int) - (((varT l[n].2.1).length+((varT l[n].2.2.1).length+((varT l[n].2.2.2.1).length+((varT l[n].2.2.2.2).length+R.length))):Nat):Int)) (by omega) (by omega)
     rw[hT,w1,φE (by omega) (by omega)];omega
    have i2:inB 2 ([z,m,(l.length:Int)]:List Int).length=true:=rfl
    have j0:inB 0 ([l[n].2.1,l[n].2.2.1,l[n].2.2.2.1,l[n].2.2.2.2]:List Int).length=true:=rfl
    have j1:inB 1 ([l[n].2.1,l[n].2.2.1,l[n].2.2.2.1,l[n].2.2.2.2]:List Int).length=true:=rfl
    have j2:inB 2 ([l[n].2.1,l[n].2.2.1,l[n].2.2.2.1,l[n].2.2.2.2]:List Int).length=true:=rfl
    have j3:inB 3 ([l[n].2.1,l[n].2.2.1,l[n].2.2.2.1,l[n].2.2.2.2]:List Int).length=true:=rfl
    have r0:rdA 0 ([l[n].2.1,l[n].2.2.1,l[n].2.2.2.1,l[n].2.2.2.2]:List Int) 0=l[n].2.1:=rfl
    have r1:rdA 0 ([l[n].2.1,l[n].2.2.1,l[n].2.2.2.1,l[n].2.2.2.2]:List Int) 1=l[n].2.2.1:=rfl
    have r2:rdA 0 ([l[n].2.1,l[n].2.2.1,l[n].2.2.2.1,l[n].2.2.2.2]:List Int) 2=l[n].2.2.2.1:=rfl
    have r3:rdA 0 ([l[n].2.1,l[n].2.2.1,l[n].2.2.2.1,l[n].2.2.2.2]:List Int) 3=l[n].2.2.2.2:=rfl
    have ih:=ih () h1 trivial
    have ht:(s.drop ((((s.length - D.length:Nat)):Int)).toNat)=D:=by rw[tN];exact hat0
    simp only[ψ2m.l0,i2,cT,hrd,oL,h1,dT,hin,ht,t0,bS,t1,nZ,cF,hpos,j0,j1,j2,j3,r0,r1,r2,r3,hp,hb,hi,hy,hw,ih]
   ·have:n=l.length:=by omega
    subst this
    have i2:inB 2 ([z,m,(l.length:Int)]:List Int).length=true:=rfl
    simp only[ψ2m.l0,i2,cT,hrd,Int.lt_irrefl,dF,cF,List.take_length])
  (by omega) 0 () (Nat.zero_le _) trivial
 have hp0:(F++(([z,m,(l.length:Int)]:List Int).map varT).flatten).length=s.length - ((l.drop 0).map entT).flatten.length:=by
  rw[List.drop_zero,es];simp only[lA];omega
 have key:lp ψ2m.l0 (s,(0,0,[]),[z,m,(l.length:Int)],(((s.length - ((l.drop 0).map entT).flatten.length:Nat)):Int),(z,m,[]),0)=_:=key
 rw[←hp0] at key
 have c0:decide ((s.length:Int)<4)=false:=by rw[es];simp;omega
 have c1:decide ((((F++(([z,m,(l.length:Int)]:List Int).map varT).flatten).length:Nat):Int)<0)=false:=by simp;omega
 have i2:inB 2 ([z,m,(l.length:Int)]:List Int).length=true:=rfl
 have i1:inB 1 ([z,m,(l.length:Int)]:List Int).length=true:=rfl
 have i0:inB 0 ([z,m,(l.length:Int)]:List Int).length=true:=rfl
 have q2:rdA 0 ([z,m,(l.length:Int)]:List Int) 2=(l.length:Int):=rfl
 have q1:rdA 0 ([z,m,(l.length:Int)]:List Int) 1=m:=rfl
 have q0:rdA 0 ([z,m,(l.length:Int)]:List Int) 0=z:=rfl
 have c2:decide ((l.length:Int) > 20)=false:=by simp;omega
 have c3:(φ1P (z,m,l)==s)=true:=by simpa using hsh
 unfold ψ2m.f
 simp only[c0,cF,v0,bS,c1,i0,i1,i2,q0,q1,q2,c2,cT,key,φX,φAl (z,m,l) (show l.length<1000000000 by omega),c3,nZ]
theorem φII (s:List UInt8) (hl:s.length<900000000):∃res:φ1E×Bool,ψ2m.f s=some res∧(res=(φ4a,false)∨∃h,res=(h,true)∧φ42 s h):=by
 unfold ψ2m.f
 by_cases c0:(s.length:Int)<4
 ·exact ⟨(φ4a,false),by rw[decide_eq_true c0];rfl,.inl rfl⟩
 rw[decide_eq_false c0,cF]
 obtain ⟨a,b,e1,la,hb⟩:=φG0 s 4 3 (by omega) (by omega) (by omega)
 have e1:ψ3D.f s 4 3=_:=e1
 rw[e1,bS]
 simp only
 rcases hb with rfl | hb
 ·exact ⟨(φ4a,false),rfl,.inl rfl⟩
 have c1:decide (b<0)=false:=by simp;omega
 obtain ⟨a0,a1,a2,rfl⟩:∃a0 a1 a2:Int,a=[a0,a1,a2]:=by
  match a,la with
  | [a0,a1,a2],_=>exact ⟨a0,a1,a2,rfl⟩
 have i2:inB 2 ([a0,a1,a2]:List Int).length=true:=rfl
 have i1:inB 1 ([a0,a1,a2]:List Int).length=true:=rfl
 have i0:inB 0 ([a0,a1,a2]:List Int).length=true:=rfl
 have q2:rdA 0 ([a0,a1,a2]:List Int) 2=a2:=rfl
 have q1:rdA 0 ([a0,a1,a2]:List Int) 1=a1:=rfl
 have q0:rdA 0 ([a0,a1,a2]:List Int) 0=a0:=rfl
 rw[c1,i0,i1,i2,q0,q1,q2]
 simp only[cF,cT]
 by_cases c2:a2 > 20
 ·exact ⟨(φ4a,false),by rw[decide_eq_true c2];rfl,.inl rfl⟩
 rw[decide_eq_false c2,cF]
 have key:=φ7T (step:=ψ2m.l0) (a:=(s,((0,0,[]):φ1E),([a0,a1,a2]:List Int),b,((a0,a1,[]):φ1E),0))
  (fun x=>∃(es:List φ9) (p:Int),x=(s,(0,0,[]),[a0,a1,a2],p,(a0,a1,es),(es.length:Int))∧0≤p∧p≤(s.length:Int)∧es.length≤20)
  (fun x=>21 - x.2.2.2.2.1.2.2.length)
  (fun y=>(∃es:List φ9,y=.inl (s,(0,0,[]),(a0,a1,es))∧es.length≤20)∨y=.inr ((0,0,[]),false))
  (fun rec x hx=>by
   obtain ⟨es,p,rfl,h1,h2,h3⟩:=hx
   by_cases c:(es.length:Int)<a2
   rotate_left
   ·left;exact ⟨_,by simp only[ψ2m.l0,i2,cT,q2,c,dF,cF],.inl ⟨es,rfl,h3⟩⟩
   have hin:(decide (0≤p) && decide (p≤(s.length:Int)))=true:=by simp only[bA,decide_eq_true_eq];omega
   obtain ⟨t,r,tb,t0,tl,rl⟩:=φ7w (s.drop p.toNat) (by rw[lD];omega)
   rw[lD] at tl rl
   obtain ⟨bl,e,t1,lb,he⟩:=φG0 r 0 4 (by omega) (by omega) (by omega)
   have t1:ψ3D.f r 0 4=_:=t1
   obtain ⟨b0,b1,b2,b3,rfl⟩:∃b0 b1 b2 b3:Int,bl=[b0,b1,b2,b3]:=by
    match bl,lb with
    | [b0,b1,b2,b3],_=>exact ⟨b0,b1,b2,b3,rfl⟩
   cases tb with
   | false=>left;exact ⟨_,by simp only[ψ2m.l0,i2,cT,q2,c,dT,hin,t0,bS,t1,nF],.inr rfl⟩
   | true=>
    rcases he with rfl | he
    ·left;exact ⟨_,by simp only[ψ2m.l0,i2,cT,q2,c,dT,hin,t0,bS,t1,nZ,cF,show decide ((-1:Int)<0)=true from rfl],.inr rfl⟩
    right
    have ce:decide (e<0)=false:=by simp;omega
    have hw:=φJ (show es.length+1<9223372036854775808 by omega)
    have hb:(es.length+([(t,b0,b1,b2,b3)]:List φ9).length) * 48≤140737488355328:=φD0 (by omega)
    have hy:w64 (w64 ((s.length:Int) - (r.length:Int))+e)=(s.length:Int) - (r.length:Int)+e:=by
     rw[φE (n:=(s.length:Int) - (r.length:Int)) (by omega) (by omega),φE (by omega) (by omega)]
    have j0:inB 0 ([b0,b1,b2,b3]:List Int).length=true:=rfl
    have j1:inB 1 ([b0,b1,b2,b3]:List Int).length=true:=rfl
    have j2:inB 2 ([b0,b1,b2,b3]:List Int).length=true:=rfl
    have j3:inB 3 ([b0,b1,b2,b3]:List Int).length=true:=rfl
    have r0:rdA 0 ([b0,b1,b2,b3]:List Int) 0=b0:=rfl
    have r1:rdA 0 ([b0,b1,b2,b3]:List Int) 1=b1:=rfl
    have r2:rdA 0 ([b0,b1,b2,b3]:List Int) 2=b2:=rfl
    have r3:rdA 0 ([b0,b1,b2,b3]:List Int) 3=b3:=rfl
    refine ⟨(s,(0,0,[]),[a0,a1,a2],(s.length:Int) - (r.length:Int)+e,(a0,a1,es++[(t,b0,b1,b2,b3)]),((es.length+1:Nat):Int)),⟨es++[(t,b0,b1,b2,b3)],(s.length:Int) - (r.length:Int)+e,by simp only[lA,List.length_singleton],by omega,by omega,by simp only[lA,List.length_singleton];omega⟩,by simp only[lA,List.length_singleton];omega,?_⟩
    simp only[ψ2m.l0,i2,cT,q2,c,dT,hin,t0,bS,t1,nZ,cF,ce,j0,j1,j2,j3,r0,r1,r2,r3,hb,hy,hw])
  ⟨[],b,rfl,hb.1,hb.2,by simp⟩ (by simp)
 obtain ⟨y,ey,hy⟩:=key
 rw[ey,bS]
 rcases hy with ⟨es,rfl,h20⟩ | rfl
 rotate_left
 ·exact ⟨(φ4a,false),by simp only[φd];rfl,.inl rfl⟩
 simp only[φX,φAl (a0,a1,es) (show es.length<1000000000 by omega),bS]
 by_cases c5:φ1P (a0,a1,es)=s
 rotate_left
 ·have d5:(φ1P (a0,a1,es)==s)=false:=by simpa using c5
  exact ⟨(φ4a,false),by simp only[d5,nF,cT];rfl,.inl rfl⟩
 have d5:(φ1P (a0,a1,es)==s)=true:=by simpa using c5
 refine ⟨((a0,a1,es),true),by simp only[d5,nZ,cF],.inr ⟨_,rfl,?_,c5⟩⟩
 cases hk:φ2J (a0,a1,es) with
 | true=>rfl
 | false=>
  exfalso
  have:φ1P (a0,a1,es)=[]:=by unfold φ1P;rw[if_pos hk]
  rw[this] at c5
  rw[←c5] at c0
  simp at c0
noncomputable def φ2k (s:List UInt8):φ1E×Bool:=@dite (φ1E×Bool) (∃v,φ42 s v) (Classical.propDecidable _) (fun h=>(h.choose,true)) (fun _=>(φ4a,false))
theorem φLT {s:List UInt8} {o:Option (φ1E×Bool)} (h1:∀v,φ42 s v→o=some (v,true)) (h2:∃res:φ1E×Bool,o=some res∧(res=(φ4a,false)∨∃v,res=(v,true)∧φ42 s v)):o=some (φ2k s):=by
 unfold φ2k
 by_cases h:∃v,φ42 s v
 ·rw[dif_pos h];exact h1 _ h.choose_spec
 ·rw[dif_neg h]
  obtain ⟨res,e,k | ⟨v,_,hv⟩⟩:=h2
  ·rw[e,k]
  ·exact absurd ⟨v,hv⟩ h
theorem φJP (s:List UInt8) (hl:s.length<900000000):ψ2m.f s=some (φ2k s):=φLT (fun _ h=>φIQ h) (φII s hl)
theorem φDV (s:List UInt8):φ2k s=(φ4a,false)∧(¬∃v,φ42 s v)∨∃v,φ2k s=(v,true)∧φ42 s v:=by
 unfold φ2k
 by_cases h:∃v,φ42 s v
 ·rw[dif_pos h];exact .inr ⟨_,rfl,h.choose_spec⟩
 ·rw[dif_neg h];exact .inl ⟨rfl,h⟩
theorem φIp (x y:φ9):(x.1==y.1 && (x.2.1==y.2.1 && (x.2.2.1==y.2.2.1 && (x.2.2.2.1==y.2.2.2.1 && x.2.2.2.2==y.2.2.2.2))))=decide (x=y):=by
 obtain ⟨a,b,c,d,e⟩:=x
 obtain ⟨a',b',c',d',e'⟩:=y
 apply Bool.eq_iff_iff.2
 simp
theorem φMq (a b:List φ9) (ha:a.length<2 ^ 62):ψ2v.f a b=some (decide (a=b)):=by
 unfold ψ2v.f
 by_cases hl:a.length=b.length
 rotate_left
 ·rw[φEq hl]
  have:¬a=b:=fun e=>hl (by rw[e])
  rw[decide_eq_false this];rfl
 rw[φFs hl,cF]
 have key:=φ3u (step:=ψ2v.l0) (List.range a.length) (fun i=>decide (a.getD i ([],0,0,0,0)=b.getD i ([],0,0,0,0))) (fun n=>(a,b,(n:Int))) () (by simpa using ha)
  (fun rec n h=>by
   have h1:n<a.length:=by simpa using h
   have h2:n<b.length:=by omega
   have hw:=φJ (show n+1<9223372036854775808 by omega)
   have hr:(List.range a.length)[n]=n:=by simp
   simp only[ψ2v.l0,oL,h1,dT,cT,φD,h2,φG,φIp,hw,hr]
   cases decide (a.getD n ([],0,0,0,0)=b.getD n ([],0,0,0,0))<;>simp)
  (fun rec=>by simp[ψ2v.l0])
 have key:lp ψ2v.l0 (a,b,0)=_:=key
 rw[key,bS]
 have hall:(List.range a.length).all (fun i=>decide (a.getD i ([],0,0,0,0)=b.getD i ([],0,0,0,0)))=decide (a=b):=by
  apply Bool.eq_iff_iff.2
  rw[List.all_eq_true,decide_eq_true_eq]
  constructor
  ·intro h
   apply List.ext_getElem hl
   intro i h1 h2
   have:=h i (by simpa using h1)
   simp only[decide_eq_true_eq] at this
   rwa [φ8 h1,φ8 h2] at this
  ·rintro rfl i _;simp
 rw[hall]
 by_cases e:a=b
 ·rw[decide_eq_true e];simp[φX]
 ·rw[decide_eq_false e];simp[φd]
noncomputable def φ6z (id:Int) (t:List UInt8) (h:φ1E):Bool:=decide (φ17 id t=(h,true))
theorem φLN (x:φ1E×Bool) (h:φ1E):(bif x.2 then bif x.1.1==h.1 then bif x.1.2.1==h.2.1 then decide (x.1.2.2=h.2.2) else false else false else false)=decide (x=(h,true)):=by
 obtain ⟨⟨a,b,c⟩,d⟩:=x
 obtain ⟨a',b',c'⟩:=h
 apply Bool.eq_iff_iff.2
 cases d
 ·simp
 ·simp only[cT,decide_eq_true_eq,Prod.mk.injEq,and_true]
  by_cases e1:a=a'
  ·by_cases e2:b=b'
   ·simp[e1,e2]
   ·have:(b==b')=false:=by simpa using e2
    simp[e1,e2,this]
  ·have:(a==a')=false:=by simpa using e1
   simp[e1,this]
theorem φM1 (id:Int) (t:List UInt8) (h:φ1E) (ht:t.length<100000000):ψ2W.f id t h=some (φ6z id t h):=by
 unfold ψ2W.f φ6z
 rw[φD1 id t ht,bS,←φLN]
 have hl:=φGk id t
 generalize φ17 id t=x at hl ⊢
 obtain ⟨⟨a,b,c⟩,d⟩:=x
 simp only[φMq c h.2.2 (show c.length<2 ^ 62 by have:c.length≤t.length:=hl;omega),bS]
 cases d<;>simp only[cT,cF]
 cases (a==h.1)<;>cases (b==h.2.1)<;>rfl
abbrev φ1A:=List φ9×Int×Int
abbrev φAm:φB:=(0,0,0,0,0,[],[],0,0)
def φ1N (k b:Int) (acc:List φB) (p:φB):List φB:=
 if k=3∧p.2.2.2.2.1≠b then acc
 else if p.2.2.2.1=k then []
 else if (k=3∧(p.2.2.2.1=1∨p.2.2.2.1=2))∨(k=5∧p.2.2.2.1=4) then acc++[p] else acc
def ownL (k b:Int) (l:List φB):List φB:=l.foldl (φ1N k b) []
theorem φAB (k b:Int) (acc:List φB) (p:φB):(φ1N k b acc p).length≤acc.length+1:=by
 unfold φ1N
 split
 ·omega
 ·split
  ·simp
  ·split
   ·simp
   ·omega
theorem φB7 (k b:Int) (l:List φB):(ownL k b l).length≤l.length:=by
 have:∀(l acc:List φB),(l.foldl (φ1N k b) acc).length≤acc.length+l.length:=by
  intro l
  induction l with
  | nil=>intro acc;simp
  | cons x l ih=>intro acc;have:=ih (φ1N k b acc x);have:=φAB k b acc x;simp only[List.foldl_cons,lC];omega
 have:=this l []
 unfold ownL
 simpa using this
theorem φB6 {a:Nat} (h:a<1000000000001):(a+1) * 88≤140737488355328:=by omega
theorem φJs (l:List φB) (n:Nat) (hn:n≤l.length) (b:Int) (hl:l.length<1000000000):ψ3v.f l (n:Int) b=some (ownL 3 b (l.take n)):=by
 have htl:(l.take n).length=n:=by rw[lT];omega
 have hk:=φ2I (step:=ψ3v.l0) (l.take n) (φ1N 3 b) (fun i (s:List φB)=>(l,(n:Int),b,s,(i:Int))) (fun s=>s) (fun i s=>s.length≤i) (by omega)
  (fun rec i s h hi=>by
   have h1:i<n:=by omega
   have h2:i<l.length:=by omega
   have hw:=φJ (show i+1<9223372036854775808 by omega)
   have hb:(s.length+([l[i]]:List φB).length) * 88≤140737488355328:=φB6 (by omega)
   have hb2:decide ((s.length+1) * 88≤140737488355328)=true:=by simp only[decide_eq_true_eq];omega
   unfold φ1N
   simp only[ψ3v.l0,oL,h1,dT,cT,List.getElem_take]
   obtain ⟨⟨sg,at_,ln,k,bb,key,v,c,z⟩,hp⟩:∃p,l[i]=p:=⟨_,rfl⟩
   have hr:rdA φAm l (i:Int)=(sg,at_,ln,k,bb,key,v,c,z):=by rw[φG,φ8 h2,hp]
   have hx:inB (i:Int) l.length=true:=by rw[φD,decide_eq_true h2]
   simp only[hp,hr,hx,cT]
   simp only[true_and,show ¬((3:Int)=5) by decide,false_and,or_false]
   by_cases c2:bb=b
   ·subst c2
    simp only[beq_self_eq_true,cT,ne_eq,not_true,if_false]
    by_cases c3:k=3
    ·subst c3;simp[hw,hr,hx]
    ·have d3:(k==3)=false:=by simpa using c3
     simp only[d3,cF,c3,if_false,bS,beq_self_eq_true,cT]
     by_cases c4:k=1
     ·subst c4;simp[hw,hb2,hr,hx]
     ·have d4:(k==1)=false:=by simpa using c4
      simp only[d4,cF,c4,false_or]
      by_cases c5:k=2
      ·subst c5;simp[hw,hb2,hr,hx]
      ·have d5:(k==2)=false:=by simpa using c5
       simp[d5,c5,hw,hr,hx]
   ·have d2:(bb==b)=false:=by simpa using c2
    simp[d2,c2,hw,hr,hx])
  (fun i s h hi=>by have:=φAB 3 b s (l.take n)[i];omega)
  (fun rec s hi=>by rw[htl];simp[ψ3v.l0]) [] (Nat.le_refl _)
 have hk:lp ψ3v.l0 (l,(n:Int),b,[],0)=_:=hk
 unfold ψ3v.f
 rw[hk];rfl
theorem φGA (l:List φB) (n:Nat) (hn:n≤l.length) (b:Int) (hl:l.length<1000000000):ψ3u.f l (n:Int)=some (ownL 5 b (l.take n)):=by
 have htl:(l.take n).length=n:=by rw[lT];omega
 have hk:=φ2I (step:=ψ3u.l0) (l.take n) (φ1N 5 b) (fun i (s:List φB)=>(l,(n:Int),s,(i:Int))) (fun s=>s) (fun i s=>s.length≤i) (by omega)
  (fun rec i s h hi=>by
   have h1:i<n:=by omega
   have h2:i<l.length:=by omega
   have hw:=φJ (show i+1<9223372036854775808 by omega)
   have hb:(s.length+([l[i]]:List φB).length) * 88≤140737488355328:=φB6 (by omega)
   have hb2:decide ((s.length+1) * 88≤140737488355328)=true:=by simp only[decide_eq_true_eq];omega
   unfold φ1N
   simp only[ψ3u.l0,oL,h1,dT,cT,List.getElem_take]
   obtain ⟨⟨sg,at_,ln,k,bb,key,v,c,z⟩,hp⟩:∃p,l[i]=p:=⟨_,rfl⟩
   have hr:rdA φAm l (i:Int)=(sg,at_,ln,k,bb,key,v,c,z):=by rw[φG,φ8 h2,hp]
   have hx:inB (i:Int) l.length=true:=by rw[φD,decide_eq_true h2]
   simp only[hp,hr,hx,cT]
   simp only[show ¬((5:Int)=3) by decide,false_and,if_false,false_or,true_and]
   by_cases c3:k=5
   ·subst c3;simp[hw,hr,hx]
   ·have d3:(k==5)=false:=by simpa using c3
    simp only[d3,cF,c3,if_false,bS]
    by_cases c4:k=4
    ·subst c4;simp[hw,hb2,hr,hx]
    ·have d4:(k==4)=false:=by simpa using c4
     simp[d4,c4,hw,hr,hx])
  (fun i s h hi=>by have:=φAB 5 b s (l.take n)[i];omega)
  (fun rec s hi=>by rw[htl];simp[ψ3u.l0]) [] (Nat.le_refl _)
 have hk:lp ψ3u.l0 (l,(n:Int),[],0)=_:=hk
 unfold ψ3u.f
 rw[hk];rfl
theorem φKL (l:List φB) (hl:l.length<1000000000):ψ3x.f l=some (l.map (·.2.2.2)):=by
 have hk:=φ2I (step:=ψ3x.l0) l (fun (s:List RecT) (p:φB)=>s++[p.2.2.2]) (fun n (s:List RecT)=>(l,s,(n:Int))) (fun s=>s) (fun n s=>s.length≤n) (by omega)
  (fun rec n s h hi=>by
   have hw:=φJ (show n+1<9223372036854775808 by omega)
   have hb:(s.length+([l[n].2.2.2]:List RecT).length) * 64≤140737488355328:=φ5Q (by omega)
   simp only[ψ3x.l0,oL,h,dT,cT,φD,φG,φ8 h,hb,hw])
  (fun n s h hi=>by simp;omega)
  (fun rec s hi=>by simp[ψ3x.l0]) [] (Nat.le_refl _)
 have hk:lp ψ3x.l0 (l,[],0)=_:=hk
 unfold ψ3x.f
 rw[hk,bS]
 have:∀(l:List φB) (s:List RecT),l.foldl (fun (s:List RecT) (p:φB)=>s++[p.2.2.2]) s=s++l.map (·.2.2.2):=by
  intro l
  induction l with
  | nil=>intro s;simp
  | cons x l ih=>intro s;rw[List.foldl_cons,ih];simp
 rw[this];rfl
theorem φLS (r:RecT) (l:List φB) (hl:l.length<1000000000):ψ3t.f r l=some (φ2j r (l.map (·.2.2.2))):=by
 unfold ψ3t.f φ2j
 rw[φKL l hl,lM]
 cases (r.2.2.2.2.1==(l.length:Int)) with
 | false=>rfl
 | true=>
  simp only[cT,bS,φ7z (l.map (·.2.2.2)) (by rw[lM];omega),tA]
def putD (dir:List φ9) (p:φB):List φ9:=
 if p.2.2.2.1=2 then φZ dir p.2.2.2.2.2.1 else insB (φZ dir p.2.2.2.2.2.1) (p.2.2.2.2.2.1,p.1,p.2.1,p.2.2.1,p.2.2.2.2.1)
def φ1o (dir:List φ9) (own:List φB):List φ9:=own.foldl putD dir
theorem φFv (dir:List φ9) (p:φB):(putD dir p).length≤dir.length+1:=by
 unfold putD
 have:=φ6s dir p.2.2.2.2.2.1
 split
 ·omega
 ·rw[φ6T];omega
theorem φL1 (own:List φB):∀dir,(φ1o dir own).length≤dir.length+own.length:=by
 unfold φ1o
 induction own with
 | nil=>intro dir;simp
 | cons x l ih=>intro dir;have:=ih (putD dir x);have:=φFv dir x;simp only[List.foldl_cons,lC];omega
def φ52 (dir:List φ9) (c:Int):Int:=if 20<dir.length then 2 else c
theorem φJE (x1:List φB) (x4:φ1A) (d0:List φ9) (z:Int×Int) (x6:Int) (own:List φB) (hg:d0.length<40000000) (ho:own.length<40000000) :
  lp ψ2s.l3 (x1,x4,(d0,z),x6,own,0)=some (x1,x4,(φ1o d0 own,z),x6):=by
 have hk:=φ2I (step:=ψ2s.l3) own putD (fun n (s:List φ9)=>(x1,x4,(s,z),x6,own,(n:Int))) (fun s=>(x1,x4,(s,z),x6)) (fun n s=>s.length≤d0.length+n) (by omega)
  (fun rec n s h hi=>by
   have hw:=φJ (show n+1<9223372036854775808 by omega)
   have e:ψ3w.f s (own[n].1,own[n].2.1,own[n].2.2.1,own[n].2.2.2.1,own[n].2.2.2.2.1,own[n].2.2.2.2.2.1,own[n].2.2.2.2.2.2.1,own[n].2.2.2.2.2.2.2)=some (putD s own[n]):=φCr s own[n] (by omega)
   simp only[ψ2s.l3,oL,h,dT,cT,φD,φG,φ8 h,e,bS,hw])
  (fun n s h hi=>by have:=φFv s own[n];omega)
  (fun rec s hi=>by simp[ψ2s.l3]) d0 (Nat.le_refl _)
 exact hk
def φ1Z (pre:List φB) (p:φB) (g:φ1A):φ1A:=
 let last:=if p.2.2.2.2.1 > g.2.1 then p.2.2.2.2.1 else g.2.1
 if p.2.2.2.1=3∨p.2.2.2.1=5 then
  let own:=ownL p.2.2.2.1 p.2.2.2.2.1 pre
  if φ2j p.2.2.2 (own.map (·.2.2.2))=true then (φ1o g.1 own,last,φ52 (φ1o g.1 own) g.2.2)
  else if p.2.2.2.1=5 then (g.1,last,1) else (g.1,last,g.2.2)
 else (g.1,last,g.2.2)
def φp:List φB→List φB→φ1A→φ1A
 | _,[],g=>g
 | pre,p::r,g=>if g.2.2≠0 then g else φp (pre++[p]) r (φ1Z pre p g)
def φ6n (l:List φB) (g:φ1A):φ1A:=if g.2.2=0∧0<(ownL 5 0 l).length then (g.1,g.2.1,1) else g
def φ1y (g:φ1A) (l:List φB):φ1A:=φ6n l (φp [] l g)
theorem φLd (pre:List φB) (p:φB) (g:φ1A):(φ1Z pre p g).1.length≤g.1.length+pre.length:=by
 unfold φ1Z
 have h1:=φL1 (ownL p.2.2.2.1 p.2.2.2.2.1 pre) g.1
 have h2:=φB7 p.2.2.2.1 p.2.2.2.2.1 pre
 simp only
 split
 ·split
  ·show (φ1o g.1 (ownL p.2.2.2.1 p.2.2.2.2.1 pre)).length≤_;omega
  ·split<;>exact Nat.le_add_right _ _
 ·exact Nat.le_add_right _ _
theorem φKP (pre:List φB) (p:φB) (g:φ1A) (h:g.2.2=0) (hc:(φ1Z pre p g).2.2=0):(φ1Z pre p g).1.length≤max g.1.length 20:=by
 unfold φ1Z at hc ⊢
 simp only at hc ⊢
 split
 ·rename_i c
  rw[if_pos c] at hc
  split
  ·rename_i c2
   rw[if_pos c2] at hc
   have hc:φ52 (φ1o g.1 (ownL p.2.2.2.1 p.2.2.2.2.1 pre)) g.2.2=0:=hc
   show (φ1o g.1 (ownL p.2.2.2.1 p.2.2.2.2.1 pre)).length≤_
   unfold φ52 at hc
   split at hc
   ·simp at hc
   ·omega
  ·split<;>exact Nat.le_max_left _ _
 ·exact Nat.le_max_left _ _
def φ2b (g:φ1A):Prop:=g.1.length≤(if g.2.2=0 then 1000020 else 11000020)
theorem φEO {pre:List φB} {p:φB} {g:φ1A} (h:φ2b g) (hc:g.2.2=0) (hp:pre.length<10000000):φ2b (φ1Z pre p g):=by
 unfold φ2b at h ⊢
 rw[if_pos hc] at h
 split
 ·rename_i c
  have:=φKP pre p g hc c
  omega
 ·have:=φLd pre p g
  omega
theorem φHk (l:List φB) (hl:l.length<10000000) (g0:φ1A) (hg:φ2b g0) :
  lp ψ2s.l0 (l,([],0,0),g0,0)=some (l,([],0,0),φp [] l g0):=by
 have key:=φe (step:=ψ2s.l0) (fun n (g:φ1A)=>(l,(([],0,0):φ1A),g,(n:Int))) l.length (fun n g=>(l,(([],0,0):φ1A),φp (l.take n) (l.drop n) g)) (fun _ g=>φ2b g)
  (fun rec n g hn hi ih=>by
   rcases Nat.lt_or_ge n l.length with h | h
   ·have hw:=φJ (show n+1<9223372036854775808 by omega)
    have htl:(l.take n).length=n:=by rw[lT];omega
    rw[dG h]
    unfold φp
    obtain ⟨⟨sg,at_,ln,k,b,key,v,c,z⟩,hp⟩:∃p,l[n]=p:=⟨_,rfl⟩
    have hr:rdA φAm l (n:Int)=(sg,at_,ln,k,b,key,v,c,z):=by rw[φG,φ8 h,hp]
    have hx:inB (n:Int) l.length=true:=by rw[φD,decide_eq_true h]
    have ht:l.take n++[(sg,at_,ln,k,b,key,v,c,z)]=l.take (n+1):=by rw[←hp];exact (List.take_succ_eq_append_getElem h).symm
    by_cases c0:g.2.2=0
    rotate_left
    ·rw[if_pos c0]
     have d0:(g.2.2==0)=false:=by simpa using c0
     simp only[ψ2s.l0,oL,h,dT,cT,d0,cF]
    rw[if_neg (fun z=>z c0),hp]
    have d0:(g.2.2==0)=true:=by simpa using c0
    have hs:=ih (φ1Z (l.take n) (sg,at_,ln,k,b,key,v,c,z) g) h (φEO hi c0 (by omega))
    rw[ht]
    rw[←hs]
    have hg1:g.1.length<40000000:=by unfold φ2b at hi;rw[if_pos c0] at hi;omega
    have ho3:=φJs l n (by omega) b (by omega)
    have ho5:=φGA l n (by omega) b (by omega)
    have hol3:=φB7 3 b (l.take n)
    have hol5:=φB7 5 b (l.take n)
    have hft:=fun o ho=>φLS (k,b,key,v,c,z) o ho
    have hap:=fun (zz:Int×Int) (o:List φB) ho=>φJE l ([],0,0) g.1 zz (n:Int) o hg1 ho
    simp only[ψ2s.l0,oL,h,dT,cT,hx,hr,d0]
    unfold φ1Z
    simp only
    by_cases c3:k=3
    ·subst c3
     have hft:=hft (ownL 3 b (l.take n)) (by omega)
     have hap:=fun zz=>hap zz (ownL 3 b (l.take n)) (by omega)
     simp only[beq_self_eq_true,cT,ho3,bS,hft,true_or,if_true,show ¬((3:Int)=5) by decide,if_false]
     cases φ2j (3,b,key,v,c,z) ((ownL 3 b (l.take n)).map (·.2.2.2))
     ·simp only[nF,cT,bS,φd,hw,Bool.false_eq_true,if_false]
     ·simp only[nZ,cF,bS,φX,hap,hw,if_true]
      unfold φ52
      by_cases c9:20<(φ1o g.1 (ownL 3 b (l.take n))).length
      ·have d9:decide (((φ1o g.1 (ownL 3 b (l.take n))).length:Int) > 20)=true:=by simp;omega
       simp only[d9,cT,bS,if_pos c9,hw]
      ·have d9:decide (((φ1o g.1 (ownL 3 b (l.take n))).length:Int) > 20)=false:=by simp;omega
       simp only[d9,cF,bS,if_neg c9,hw]
    ·have d3:(k==3)=false:=by simpa using c3
     simp only[d3,cF,c3,false_or]
     by_cases c5:k=5
     ·subst c5
      have hft:=hft (ownL 5 b (l.take n)) (by omega)
      have hap:=fun zz=>hap zz (ownL 5 b (l.take n)) (by omega)
      simp only[beq_self_eq_true,cT,ho5,bS,hft,if_true]
      cases φ2j (5,b,key,v,c,z) ((ownL 5 b (l.take n)).map (·.2.2.2))
      ·simp only[nF,cT,bS,φd,hw,Bool.false_eq_true,if_false]
      ·simp only[nZ,cF,bS,φX,hap,hw,if_true]
       unfold φ52
       by_cases c9:20<(φ1o g.1 (ownL 5 b (l.take n))).length
       ·have d9:decide (((φ1o g.1 (ownL 5 b (l.take n))).length:Int) > 20)=true:=by simp;omega
        simp only[d9,cT,bS,if_pos c9,hw]
       ·have d9:decide (((φ1o g.1 (ownL 5 b (l.take n))).length:Int) > 20)=false:=by simp;omega
        simp only[d9,cF,bS,if_neg c9,hw]
     ·have d5:(k==5)=false:=by simpa using c5
      simp only[d5,cF,c5,if_false,bS,φd,hw]
   ·have:n=l.length:=by omega
    subst this
    simp only[ψ2s.l0,Int.lt_irrefl,dF,cF,List.take_length,List.drop_length,φp])
  (by omega) 0 g0 (Nat.zero_le _) hg
 exact key
theorem φKw (g:φ1A) (l:List φB) (hl:l.length<10000000) (hg:φ2b g):ψ2s.f g l=some (φ1y g l):=by
 have hg1:g.1.length<1000000000:=by unfold φ2b at hg;split at hg<;>omega
 unfold ψ2s.f
 have hb:decide ((([]:List φ9).length+g.1.length) * 48≤140737488355328)=true:=by simp only[decide_eq_true_eq];exact φ8O (by omega)
 simp only[hb,cT,List.nil_append]
 rw[φHk l hl (g.1,g.2) hg,bS]
 unfold φ1y φ6n
 rw[show ((g.1,g.2):φ1A)=g from rfl]
 simp only
 by_cases c:(φp [] l g).2.2=0
 ·have d:((φp [] l g).2.2==0)=true:=by simpa using c
  have ho:=φGA l l.length (Nat.le_refl _) 0 (by omega)
  rw[List.take_length] at ho
  simp only[d,cT,ho,bS]
  by_cases c2:0<(ownL 5 0 l).length
  ·have d2:decide (((ownL 5 0 l).length:Int) > 0)=true:=by simp;omega
   rw[d2,if_pos ⟨c,c2⟩];rfl
  ·have d2:decide (((ownL 5 0 l).length:Int) > 0)=false:=by simp only[decide_eq_false_iff_not];omega
   rw[d2,if_neg (fun z=>c2 z.2)];rfl
 ·have d:((φp [] l g).2.2==0)=false:=by simpa using c
  simp only[d,cF]
  rw[if_neg (fun z=>c z.1)]
def φ1Q:Nat→List RecT→List φ1S
 | _,[]=>[]
 | a,r::rs=>((a:Int),((fr r).length:Int),r)::φ1Q (a+(fr r).length) rs
theorem φFD:∀(rs:List RecT) (a:Nat),(φ1Q a rs).map (·.2.2)=rs
 | [],_=>rfl
 | r::rs,a=>by simp[φ1Q,φFD rs]
theorem φ9s:∀(rs qs:List RecT) (a:Nat),φ1Q a (rs++qs)=φ1Q a rs++φ1Q (a+(txt rs).length) qs
 | [],qs,a=>by simp[φ1Q,txt]
 | r::rs,qs,a=>by
  rw[List.cons_append,φ1Q,φ1Q,φ9s rs qs,φ3R,lA,List.cons_append,Nat.add_assoc]
theorem φEb:∀(rs:List RecT) (p:List UInt8),(∀r∈rs,φc r=true)→φ2A (p++txt rs) p.length=(φ1Q p.length rs,p.length+(txt rs).length)
 | [],p,_=>by
  have:p++txt []=p:=by simp[txt]
  rw[this,φ8w];simp[txt,φ1Q]
 | r::rs,p,h=>by
  have hs:=φ39 r
  have hb:=φ7H (t:=φ7 r) (by omega) (txt rs)
  have hd:(p++txt (r::rs)).drop p.length=frame (φ7 r)++txt rs:=by rw[List.drop_left];rfl
  have hl:=φ76 r
  have hrr:=φBD (h r List.mem_cons_self)
  rw[φ5X (n:=(fr r).length) (by rw[hd,hb];rfl) hl.1 (by rw[φ3R];simp only[lA];omega) (by rw[hd,hb];simp only;rw[hrr])]
  have ih:=φEb rs (p++fr r) (fun x hx=>h x (mC _ hx))
  rw[aA,lA] at ih
  rw[hd,hb]
  simp only[hrr]
  have e:p++txt (r::rs)=p++(fr r++txt rs):=rfl
  rw[e,ih]
  simp only[φ1Q,φ3R,lA,Nat.add_assoc]
theorem φ8a {rs:List RecT} (h:∀r∈rs,φc r=true):scan (txt rs)=(φ1Q 0 rs,(txt rs).length):=by
 have:=φEb rs [] h
 simp only[List.nil_append,lN,Nat.zero_add] at this
 exact this
theorem φIl:∀(k:Nat) (s:List UInt8) (a:Nat),a≤s.length→s.length - a=k→∃(rs:List RecT) (q:List UInt8),(∀r∈rs,φc r=true)∧s.drop a=txt rs++q∧φ2A s a=(φ1Q a rs,a+(txt rs).length):=by
 intro k
 induction k using Nat.strongRecOn with
 | ind k ih=>
  intro s a ha hk
  by_cases c:(φY (s.drop a)).2=0∨(φ1M (φY (s.drop a)).1).2=false
  ·exact ⟨[],s.drop a,by simp,rfl,φ54 ha c⟩
  ·have c1:(φY (s.drop a)).2≠0:=fun e=>c (.inl e)
   have hr:(φ1M (φY (s.drop a)).1).2=true:=by
    cases e:(φ1M (φY (s.drop a)).1).2 with
    | true=>rfl
    | false=>exact absurd (.inr e) c
   obtain ⟨t,r,e1,e2,e3⟩:=φDR c1
   have h5:=φ91 e2
   have hlen:a+(frame t).length≤s.length:=by
    have:(s.drop a).length=(frame t++r).length:=by rw[←e1]
    rw[lD,lA] at this;omega
   have hst:=φ5X (n:=(frame t).length) (by rw[e3]) h5 hlen hr
   obtain ⟨rs,q,g1,g2,g3⟩:=ih (s.length - (a+(frame t).length)) (by omega) s (a+(frame t).length) hlen rfl
   have hd:s.drop (a+(frame t).length)=r:=by rw[←List.drop_drop,e1,List.drop_left]
   rw[e3] at hr
   rcases φ6f t with ⟨z,_⟩ | ⟨x,z,hx⟩
   ·rw[z] at hr;simp at hr
   ·refine ⟨x::rs,q,?_,?_,?_⟩
    ·intro y hy
     rcases mc.1 hy with rfl | hy
     ·exact hx.1
     ·exact g1 y hy
    ·rw[e1,φ3R,←hd,g2]
     show frame t++(txt rs++q)=frame (φ7 x)++txt rs++q
     rw[hx.2,aA]
    ·rw[hst,g3,e3]
     have hf:(fr x).length=(frame t).length:=by show (frame (φ7 x)).length=_;rw[hx.2]
     simp only[z,φ1Q,φ3R,lA,hf,Nat.add_assoc]
theorem φMO (s:List UInt8):∃(rs:List RecT) (q:List UInt8),(∀r∈rs,φc r=true)∧s=txt rs++q∧scan s=(φ1Q 0 rs,(txt rs).length):=by
 obtain ⟨rs,q,h1,h2,h3⟩:=φIl s.length s 0 (Nat.zero_le _) (by omega)
 rw[List.drop_zero] at h2
 rw[Nat.zero_add] at h3
 exact ⟨rs,q,h1,h2,h3⟩
theorem φJQ (s:List UInt8):scan (s.take (scan s).2)=scan s:=by
 obtain ⟨rs,q,h1,h2,h3⟩:=φMO s
 rw[h3]
 have:s.take (txt rs).length=txt rs:=by rw[h2,List.take_left]
 rw[this,φ8a h1]
theorem φIw {d:φ1} (h:φ5 d=true) (v:φS):(φ2u d v).length≤130:=by
 unfold φ2u
 rw[if_neg (by rw[h];simp),lM]
 exact Nat.le_trans (List.length_filter_le _ _) (φ7K h).2.2
theorem φMX {d:φ1} (h:φ5 d=true) (v:φS):∀n∈φ2u d v,(φ2 d n).2=true:=by
 intro n hn
 unfold φ2u at hn
 rw[if_neg (by rw[h];simp)] at hn
 obtain ⟨f,hf,rfl⟩:=mM.1 hn
 rw[φ3i h ((List.mem_filter.1 hf).1)]
theorem φI9 {d:φ1} (h:φ5 d=true) (v:φS):(φ2u d v).Nodup:=by
 unfold φ2u
 rw[if_neg (by rw[h];simp)]
 have hs:srt d.1:=φ6K h
 exact (List.filter_sublist.map _).nodup (φIZ hs)
noncomputable def φ13 (v:φS) (d:φ1):φH:=φh (φ2u d v) (d,0)
theorem φ8k {d:φ1} (h:φ5 d=true) (v:φS):φ5 (φ13 v d).1=true:=φ4c _ h
theorem φLa {d:φ1} {n:List UInt8} (h:(φ2 d n).2=true):φF n d=φ20 n d:=by
 obtain ⟨i,hi,_,_,e⟩:=φ94 h
 unfold φF
 rw[if_pos (by omega)]
theorem φLK {d:φ1} (h:φ5 d=true) {m n:List UInt8} (hne:n≠m) (hn:(φ2 d n).2=true):(φ2 (φ20 m d).1 n).2=true:=by
 rw[φGI h hne];exact hn
theorem φGY (d:φ1) (v:φS) (h:φ5 d=true) (hv:v.2.length<1000000000):ψ3J.f d v=some (φC (φ13 v d)):=by
 unfold ψ3J.f φ13
 rw[φHA d v (φ1J (φu h) (by omega)) hv,bS]
 have hl:=φIw h v
 have hh:=φMX h v
 have hn:=φI9 h v
 generalize φ2u d v=names at hl hh hn ⊢
 have key:=φe (step:=ψ3J.l0) (fun n (x:φ1)=>(x,(([],0,0,false):φ1),names,(n:Int))) names.length
  (fun n x=>if (φh (names.drop n) (x,0)).2=0 then .inl ((φh (names.drop n) (x,0)).1,([],0,0,false)) else .inr (φC (φh (names.drop n) (x,0))))
  (fun n x=>φ5 x=true∧∀m∈names.drop n,(φ2 x m).2=true)
  (fun rec n x hnn hx ih=>by
   rcases Nat.lt_or_ge n names.length with h1 | h1
   ·have hw:=φJ (show n+1<9223372036854775808 by omega)
    have hd:names.drop n=names[n]::names.drop (n+1):=dG h1
    have hnd:(names.drop n).Nodup:=(List.drop_sublist n names).nodup hn
    rw[hd,List.nodup_cons] at hnd
    have hin:(φ2 x names[n]).2=true:=hx.2 _ (by rw[hd];exact List.mem_cons_self)
    have hg:=φLa hin
    have hs:φh (names.drop n) (x,0)=φh (names.drop (n+1)) (φ20 names[n] x):=by
     rw[hd]
     show φh (names.drop (n+1)) (φI (φF names[n]) (x,0))=_
     rw[φ1v,hg]
    rw[hs]
    have hr:=φ9V x names[n] (φ1J (φu hx.1) (by omega))
    have hr:ψ2t.f x names[n]=some (φ20 names[n] x):=hr
    simp only[ψ3J.l0,oL,h1,dT,cT,φD,φG,φ8 h1,hr,bS]
    have ih:=ih (φ20 names[n] x).1 h1 ⟨φ8o hx.1 _,fun m hm=>φLK hx.1 (fun e=>hnd.1 (e ▸ hm)) (hx.2 m (by rw[hd];exact mC _ hm))⟩
    generalize φ20 names[n] x=p at ih ⊢
    obtain ⟨y,c⟩:=p
    by_cases c0:c=0
    ·subst c0
     simp only[bne_self_eq_false,cF,hw,ih]
    ·have d0:(c != 0)=true:=by simpa using c0
     rw[φ9O _ c0]
     simp only[d0,cT,φ2S,bS]
     rw[if_neg c0];rfl
   ·have:n=names.length:=by omega
    subst this
    rw[List.drop_length]
    simp[ψ3J.l0,φh])
  (by omega) 0 d (Nat.zero_le _) ⟨h,by rw[List.drop_zero];exact hh⟩
 have key:lp ψ3J.l0 (d,([],0,0,false),names,0)=_:=key
 rw[key,bS,List.drop_zero]
 by_cases c:(φh names (d,0)).2=0
 ·rw[if_pos c]
  simp only[φX]
  unfold φC
  rw[c];rfl
 ·rw[if_neg c]
  simp only[φd]
noncomputable def φ1u (d:φ1) (id:Int):List φB:=(scan (φ2 d (φ0 id)).1).1.map fun x=>((id,x):φB)
theorem φ5I {d:φ1} (h:φ5 d=true) (n:List UInt8):(φ2 d n).1.length≤100000:=by
 have h1:=φ4Z d n (φ1J (φu h) (by omega))
 have h2:=φ7t h
 omega
theorem φE1 {d:φ1} (h:φ5 d=true) (id:Int):(φ1u d id).length≤100000:=by
 unfold φ1u
 rw[lM]
 exact Nat.le_trans (φ4b _).2 (φ5I h _)
theorem φGK {d:φ1} (h:φ5 d=true):∀ids:List Int,(ids.flatMap (φ1u d)).length≤100000 * ids.length
 | []=>by simp
 | id::r=>by
  have:=φE1 h id
  have:=φGK h r
  simp only[List.flatMap_cons,lA,lC];omega
theorem φKm (id:Int) (t:List UInt8) (ht:t.length<1000000000):ψ3I.f id t=some ((scan t).1.map fun x=>((id,x):φB)):=by
 unfold ψ3I.f
 rw[φ7D t ht,bS]
 have hl:=(φ4b t).2
 generalize (scan t).1=l at hl ⊢
 have hk:=φ2I (step:=ψ3I.l0) l (fun (s:List φB) (p:φ1S)=>s++[((id,p):φB)]) (fun n (s:List φB)=>(id,s,l,(n:Int))) (fun s=>s) (fun n s=>s.length≤n) (by omega)
  (fun rec n s h hi=>by
   have hw:=φJ (show n+1<9223372036854775808 by omega)
   have hb:(s.length+([((id,l[n]):φB)]:List φB).length) * 88≤140737488355328:=φB6 (by omega)
   simp only[ψ3I.l0,oL,h,dT,cT,φD,φG,φ8 h,hb,hw])
  (fun n s h hi=>by simp;omega)
  (fun rec s hi=>by simp[ψ3I.l0]) [] (Nat.le_refl _)
 have hk:lp ψ3I.l0 (id,[],l,0)=_:=hk
 have:∀(l:List φ1S) (s:List φB),l.foldl (fun (s:List φB) (p:φ1S)=>s++[((id,p):φB)]) s=s++l.map (fun x=>((id,x):φB)):=by
  intro l
  induction l with
  | nil=>intro s;simp
  | cons x l ih=>intro s;rw[List.foldl_cons,ih];simp
 simp only
 rw[hk,bS,this];rfl
abbrev φq:φA:=((0,[]),[],0,0,0)
abbrev φ3S:φ1:=([],0,0,false)
theorem φGl (v:φS) {d:φ1} {c:Int} (h:c≠0):sPut v (d,c)=(d,c):=by
 unfold sPut φ1f
 simp only[φ2E h]
noncomputable def φ79 (d:φ1):φA×φ1×Int:=
 let w:=sPut (2,[1]) (φI (φa (φ0 1)) (φ13 φ2Y d))
 if w.2≠0 then (φq,w.1,told w.2) else (((2,[1]),[],1,0,0),w.1,0)
theorem φCc:φm (2,[1])=true:=by decide
theorem φJ2 (d:φ1) (h:φ5 d=true):ψ3G.f d=some (φ79 d):=by
 unfold ψ3G.f φ79
 have hd1:=φ8k h φ2Y
 have h1:=φGY d φ2Y h (by show 0<_;omega)
 have h1:ψ3J.f d (0,[])=some (φC (φ13 φ2Y d)):=h1
 rw[h1,bS]
 generalize φ13 φ2Y d=w1 at hd1 ⊢
 obtain ⟨d1,c1⟩:=w1
 by_cases z1:c1=0
 rotate_left
 ·have t1:(told c1 != 0)=true:=by rw[φ5Z];simpa using z1
  rw[φ2E z1,φGl _ z1]
  simp only[φC,t1,cT]
  rw[if_pos z1]
 subst z1
 have hd1:φ5 d1=true:=hd1
 have t1:(told 0 != 0)=false:=rfl
 have h2:=φ99 d1 (φ0 1) (φ1J (φu hd1) (by omega)) (by have:=φ4A 1;omega)
 have h2:ψ2D.f d1 (φ0 1)=some (φa (φ0 1) d1):=h2
 have hd2:=φ34 hd1 (φ0 1)
 simp only[φC,t1,cF,φ2L,bS,h2,φ1v]
 generalize φa (φ0 1) d1=w2 at hd2 ⊢
 obtain ⟨d2,c2⟩:=w2
 by_cases z2:c2=0
 rotate_left
 ·have t2:(c2 != 0)=true:=by simpa using z2
  rw[φGl _ z2]
  simp only[t2,cT,φ2S,bS]
  rw[if_pos z2]
 subst z2
 have hd2:φ5 d2=true:=hd2
 have h3:=φBk d2 (2,[1]) (k:=100001) (φu hd2) (by omega) (by show 1<_;decide)
 have h3:ψ2i.f d2 (2,[1])=some (φC (sPut (2,[1]) (d2,0))):=by
  rw[h3];unfold φ6m
  rw[if_neg (by rw[hd2,φCc];simp)]
 simp only[bne_self_eq_false,cF,h3,bS]
 generalize sPut (2,[1]) (d2,0)=w3
 obtain ⟨d3,c3⟩:=w3
 by_cases z3:c3=0
 ·subst z3;simp[φC,told]
 ·have t3:(told c3 != 0)=true:=by rw[φ5Z];simpa using z3
  simp only[φC,t3,cT]
  rw[if_pos z3]
noncomputable def φ47 (d:φ1):List Int→Bool
 | []=>true
 | id::r=>(φ2 d (φ0 id)).2 && ((r.isEmpty || decide ((scan (φ2 d (φ0 id)).1).2=(φ2 d (φ0 id)).1.length)) && φ47 d r)
theorem φMD {α:Type} (l:List α) (n:Nat) (h:n<l.length):(l.drop (n+1)).isEmpty=decide (¬n<l.length - 1):=by
 apply Bool.eq_iff_iff.2
 rw[List.isEmpty_iff,List.drop_eq_nil_iff,decide_eq_true_eq];omega
theorem φCy {hi:Int}:∀(l:List Int) (p:Option Int),φ1X hi p l=true→l.Pairwise (·<·)∧∀q,p=some q→∀x∈l,q<x
 | [],p,_=>⟨List.Pairwise.nil,by simp⟩
 | x::r,p,h=>by
  simp only[φ1X,bA,decide_eq_true_eq] at h
  obtain ⟨h1,h2,h3⟩:=h
  obtain ⟨k1,k2⟩:=φCy r (some x) h3
  have k2:=k2 x rfl
  refine ⟨List.Pairwise.cons k2 k1,?_⟩
  rintro q rfl y hy
  have h2:q<x:=by simpa using h2
  rcases mc.1 hy with rfl | hy
  ·exact h2
  ·exact Int.lt_trans h2 (k2 y hy)
theorem φGa {v:φS} (h:φm v=true):v.2.Pairwise (·<·):=(φCy v.2 none ((φ12 v).1 h).1).1
theorem φMM {l:List Int} (h:l.Pairwise (·<·)) {n:Nat} (hn:n<l.length):(l[n] != φL l)=decide (n<l.length - 1):=by
 have hl:l.length - 1<l.length:=by omega
 have hg:φL l=l[l.length - 1]:=by unfold φL;rw[φ8 hl]
 by_cases c:n<l.length - 1
 ·have:=(List.pairwise_iff_getElem.1 h) n (l.length - 1) hn hl c
  rw[decide_eq_true c,hg]
  simpa using (show ¬l[n]=l[l.length - 1] by omega)
 ·have e:n=l.length - 1:=by omega
  rw[decide_eq_false c,hg]
  subst e;simp
theorem φMu (d:φ1) (v:φS) (h:φ5 d=true) (hv:φm v=true) :
  lp ψ2f.l0 (d,φq,φ3S,φq,v,φL v.2,0)=some (if φ47 d v.2=true then .inl (d,φq,φ3S,φq,v,φL v.2) else .inr (φq,d,3)):=by
 have hlen:=φ62 hv
 have hpw:=φGa hv
 have key:=φe (step:=ψ2f.l0) (fun n (_:Unit)=>(d,φq,φ3S,φq,v,φL v.2,(n:Int))) v.2.length
  (fun n _=>if φ47 d (v.2.drop n)=true then .inl (d,φq,φ3S,φq,v,φL v.2) else .inr (φq,d,3)) (fun _ _=>True)
  (fun rec n s hn hs ih=>by
   rcases Nat.lt_or_ge n v.2.length with h1 | h1
   ·have hw:=φJ (show n+1<9223372036854775808 by omega)
    have hd:v.2.drop n=v.2[n]::v.2.drop (n+1):=dG h1
    have htx:=φ5I h (φ0 v.2[n])
    have hsc:=φ4b (φ2 d (φ0 v.2[n])).1
    have ih:=ih () h1 trivial
    have hft:=φ4j d (φ0 v.2[n]) (φ1J (φu h) (by omega))
    have hsr:=φ7D (φ2 d (φ0 v.2[n])).1 (by omega)
    have hcp:=φ4y d (by have:=(φ7K h).2.2;omega)
    rw[hd]
    simp only[φ47,φMD v.2 n h1]
    simp only[ψ2f.l0,oL,h1,dT,cT,φD,φG,φ8 h1,φ2L,bS,hft,hsr,φMM hpw h1]
    cases hk:(φ2 d (φ0 v.2[n])).2 with
    | false=>simp only[nF,cT,hcp,bS,φd,Bool.false_and,Bool.false_eq_true,if_false]
    | true=>
     simp only[nZ,cF,tA]
     by_cases c1:n<v.2.length - 1
     ·simp only[c1,dT,cT,not_true,dF,Bool.false_or]
      by_cases c2:(scan (φ2 d (φ0 v.2[n])).1).2=(φ2 d (φ0 v.2[n])).1.length
      ·have c3:decide ((scan (φ2 d (φ0 v.2[n])).1).2<(φ2 d (φ0 v.2[n])).1.length)=false:=decide_eq_false (by omega)
       simp only[c3,cF,bS,φX,decide_eq_true c2,tA,hw,ih]
      ·have c3:decide ((scan (φ2 d (φ0 v.2[n])).1).2<(φ2 d (φ0 v.2[n])).1.length)=true:=decide_eq_true (by omega)
       simp only[c3,cT,hcp,bS,φd,decide_eq_false c2,Bool.false_and,Bool.false_eq_true,if_false]
     ·simp only[c1,dF,cF,not_false_iff,dT,Bool.true_or,tA,bS,φX,hw,ih]
   ·have:n=v.2.length:=by omega
    subst this
    rw[List.drop_length]
    simp[ψ2f.l0,φ47])
  (by omega) 0 () (Nat.zero_le _) trivial
 exact key
noncomputable def φ2Q (d:φ1) (id:Int):Option φ1A:=
 if (φ2 d (φM id)).2=true∧(φ2k (φ2 d (φM id)).1).2=true∧φ6z id (φ2 d (φ0 id)).1 (φ2k (φ2 d (φM id)).1).1=true then
  some ((φ2k (φ2 d (φM id)).1).1.2.2,(φ2k (φ2 d (φM id)).1).1.2.1,0) else none
noncomputable def φR (x:φ1) (ids:List Int):List φB:=ids.flatMap (φ1u x)
theorem φHS (x:φ1) (v:φS) (e:Int) (h:φ5 x=true) (hv:φm v=true) :
  lp ψ2f.l2 (φq,φ3S,φq,v,x,(v,[],0,e,0),([],0,0),[],0) =
   some (match φ2Q x (v.2.getD 0 0) with
    | some g=>(φq,φ3S,φq,v,x,(v,[],0,e,v.2.getD 0 0),g,φR x (v.2.drop 1))
    | none=>(φq,φ3S,φq,v,x,(v,[],0,e,0),([],0,0),φR x v.2)):=by
 have hlm:=φ1J (φu h) (show 100001≤1000000000 by omega)
 have hlen:=φ62 hv
 have key:=φe (step:=ψ2f.l2) (fun n (s:φA×φ1A×List φB)=>(φq,φ3S,φq,v,x,s.1,s.2.1,s.2.2,(n:Int))) v.2.length
  (fun n s=>if n=0 then (match φ2Q x (v.2.getD 0 0) with
    | some g=>(φq,φ3S,φq,v,x,(s.1.1,s.1.2.1,s.1.2.2.1,s.1.2.2.2.1,v.2.getD 0 0),g,s.2.2++φR x (v.2.drop 1))
    | none=>(φq,φ3S,φq,v,x,s.1,s.2.1,s.2.2++φR x v.2)) else (φq,φ3S,φq,v,x,s.1,s.2.1,s.2.2++φR x (v.2.drop n)))
  (fun n s=>s.2.2.length≤100000 * n∧(n=0→s.2.1.2.2=0∧0<v.2.length))
  (fun rec n s hn hs ih=>by
   rcases Nat.lt_or_ge n v.2.length with h1 | h1
   ·have hw:=φJ (show n+1<9223372036854775808 by omega)
    have hd:v.2.drop n=v.2[n]::v.2.drop (n+1):=dG h1
    have ht:=φ5I h (φM v.2[n])
    have ht2:=φ5I h (φ0 v.2[n])
    have hpl:=φE1 h v.2[n]
    have hb:decide ((s.2.2.length+(φ1u x v.2[n]).length) * 88≤140737488355328)=true:=by
     have:=hs.1
     simp only[decide_eq_true_eq];omega
    have hi:(ψ3I.f v.2[n] (φ2 x (φ0 v.2[n])).1)=some (φ1u x v.2[n]):=φKm _ _ (by omega)
    have hpd:φR x (v.2.drop n)=φ1u x v.2[n]++φR x (v.2.drop (n+1)):=by rw[hd];rfl
    have hx:inB (n:Int) v.2.length=true:=by rw[φD,decide_eq_true h1]
    have hr:rdA 0 v.2 (n:Int)=v.2[n]:=by rw[φG,φ8 h1]
    have hrh:=φJP (φ2 x (φM v.2[n])).1 (show (φ2 x (φM v.2[n])).1.length<900000000 by omega)
    have hhf:=φM1 v.2[n] (φ2 x (φ0 v.2[n])).1 (φ2k (φ2 x (φM v.2[n])).1).1 (by omega)
    simp only[ψ2f.l2,oL,h1,dT,cT,hx,hr,φ2L,bS,φ4j x _ hlm,φ7O,hrh]
    have ih1:=ih (s.1,s.2.1,s.2.2++φ1u x v.2[n]) h1 ⟨by simp only[lA];have:=hs.1;omega,by omega⟩
    rw[if_neg (by omega)] at ih1
    simp only[aA,←hpd] at ih1
    by_cases c:n=0
    ·subst c
     rw[if_pos rfl]
     have hx0:inB 0 v.2.length=true:=hx
     have hr0:rdA 0 v.2 0=v.2[0]:=hr
     have hg0:v.2.getD 0 0=v.2[0]:=φ8 h1
     have hn0:(((0:Nat):Int)==0)=true:=rfl
     have hcode:=(hs.2 rfl).1
     have ih2:=ih ((s.1.1,s.1.2.1,s.1.2.2.1,s.1.2.2.2.1,v.2[0]),((φ2k (φ2 x (φM v.2[0])).1).1.2.2,(φ2k (φ2 x (φM v.2[0])).1).1.2.1,0),s.2.2) h1 ⟨by have:=hs.1;show s.2.2.length≤_;omega,by omega⟩
     rw[if_neg (by omega)] at ih2
     rw[List.drop_zero] at ih1
     simp only[hn0,cT,hx0,hr0,hhf,hg0,hcode,bS]
     unfold φ2Q
     cases c1:(φ2 x (φM v.2[0])).2 with
     | false=>simp only[cF,bS,φX,hx,hr,hi,hb,cT,hw,ih1,Bool.false_eq_true,false_and,if_false]
     | true=>
      cases c2:(φ2k (φ2 x (φM v.2[0])).1).2 with
      | false=>simp only[cT,cF,bS,φX,hx,hr,hi,hb,hw,ih1,Bool.false_eq_true,false_and,and_false,if_false]
      | true=>
       cases c3:φ6z v.2[0] (φ2 x (φ0 v.2[0])).1 (φ2k (φ2 x (φM v.2[0])).1).1 with
       | false=>simp only[cT,cF,bS,φX,hx,hr,hi,hb,hw,ih1,Bool.false_eq_true,false_and,and_false,if_false]
       | true=>simp only[cT,bS,φd,hw,ih2,and_true,if_true]
    ·rw[if_neg c]
     have hn0:((n:Int)==0)=false:=by simpa using (show ¬(n:Int)=0 by omega)
     simp only[hn0,cF,bS,φX,hx,hr,hi,hb,cT,hw,ih1]
   ·have:n=v.2.length:=by omega
    subst this
    have:¬v.2.length=0:=fun e=>by have:=(hs.2 e).2;omega
    rw[if_neg this,List.drop_length]
    simp[ψ2f.l2,φR])
  (by omega) 0 ((v,[],0,e,0),([],0,0),[]) (Nat.zero_le _) ⟨Nat.le_refl _,fun _=>⟨rfl,by have:=((φ12 v).1 hv).2.2.1;omega⟩⟩
 have key:lp ψ2f.l2 (φq,φ3S,φq,v,x,(v,[],0,e,0),([],0,0),[],0)=_:=key
 rw[key,if_pos rfl]
 cases φ2Q x (v.2.getD 0 0)<;>simp
theorem φIn {d:φ1} (h:φ5 d=true) {m n:List UInt8} (z:Int) (hne:n≠m):φ2 (φ3J m z d).1 n=φ2 d n:=by
 refine φ60 h (φ5j h m z) n fun t=>?_
 unfold φ5A
 rcases φz d.1 m with ⟨e,_⟩ | ⟨i,hi,e,hn⟩
 ·rw[φ19 e]
 ·rw[φ16 e]
  simp only
  split
  ·rw[φ8 hi]
   constructor
   ·rintro ⟨s,hs⟩;exact ⟨s,(φ5k (f:=(d.1[i].1,d.1[i].2.1.take z.toNat,if z<d.1[i].2.2 then z else d.1[i].2.2)) hi rfl (by rw[hn];exact hne)).2 hs⟩
   ·rintro ⟨s,hs⟩;exact ⟨s,(φ5k (f:=(d.1[i].1,d.1[i].2.1.take z.toNat,if z<d.1[i].2.2 then z else d.1[i].2.2)) hi rfl (by rw[hn];exact hne)).1 hs⟩
  ·exact Iff.rfl
theorem φIX {d:φ1} {n:List UInt8} {z:Int} (h:(φ3J n z d).2=0):φ2 (φ3J n z d).1 n=((φ2 d n).1.take z.toNat,true):=by
 obtain ⟨k,ha,hx⟩:=φ6J h
 have hk:φ5 (φ3J n z d).1=true:=φ5j k n z
 have hx:(φ3J n z d).1=_:=hx
 unfold φ5A at ha hx
 rcases φz d.1 n with ⟨e,_⟩ | ⟨i,hi,e,hn⟩
 ·rw[φ19 e] at ha;simp at ha
 rw[φ16 e] at ha hx
 simp only at ha hx
 split at ha
 ·rename_i c
  rw[if_pos c,φ8 hi] at hx
  have e1:=φ3i k (gM hi)
  rw[hn] at e1
  have hm:((n,d.1[i].2.1.take z.toNat,if z<d.1[i].2.2 then z else d.1[i].2.2):φ6)∈(φ3J n z d).1.1:=by
   rw[hx,←hn]
   exact List.mem_iff_getElem.2 ⟨i,by simpa using hi,by simp⟩
  have e2:=φ3i hk hm
  rw[e1]
  exact e2
 ·simp at ha
noncomputable def cutN (v:φS) (d:φ1):Nat:=(scan (φ2 d (φ0 (φL v.2))).1).2
noncomputable def cutW (v:φS) (d:φ1):φH:=
 φI (φN (φ0 (φL v.2))) (if (φ2 d (φ0 (φL v.2))).1.length=cutN v d then (d,0) else φ3J (φ0 (φL v.2)) (cutN v d:Int) d)
theorem φHH {v:φS} {d:φ1} (h:φ5 d=true):φ5 (cutW v d).1=true:=by
 unfold cutW
 refine φ1e ?_ fun k=>φ36 k _
 split
 ·exact h
 ·exact φ5j h _ _
theorem φMr {v:φS} {d:φ1} (h:φ5 d=true) (n:List UInt8) (hne:n≠φ0 (φL v.2)):φ2 (cutW v d).1 n=φ2 d n:=by
 unfold cutW
 split
 ·rw[φ2c (φ2e h _ _)]
 ·have hk:φ5 (φ3J (φ0 (φL v.2)) (cutN v d:Int) d).1=true:=φ5j h _ _
  rw[φ2c (φ2e hk _ _)]
  exact φIn h _ hne
theorem φL2 {v:φS} {d:φ1} (h:φ5 d=true) (hl:(φ2 d (φ0 (φL v.2))).2=true) (hc:(cutW v d).2=0) :
  φ2 (cutW v d).1 (φ0 (φL v.2))=((φ2 d (φ0 (φL v.2))).1.take (cutN v d),true):=by
 unfold cutW at hc ⊢
 have h0:=(φ40 hc).1
 split
 ·rename_i c
  rw[φ2c (φ2e h _ _),←c,List.take_length]
  exact Prod.ext rfl hl
 ·rename_i c
  rw[if_neg c] at h0
  have hk:φ5 (φ3J (φ0 (φL v.2)) (cutN v d:Int) d).1=true:=φ5j h _ _
  rw[φ2c (φ2e hk _ _),φIX h0,tN]
theorem φMz {v:φS} {d:φ1} (h:φ5 d=true) (hl:(φ2 d (φ0 (φL v.2))).2=true) (hc:(cutW v d).2=0) (id:Int):φ1u (cutW v d).1 id=φ1u d id:=by
 unfold φ1u
 by_cases c:φ0 id=φ0 (φL v.2)
 ·rw[c,φL2 h hl hc]
  show List.map _ (scan ((φ2 d (φ0 (φL v.2))).1.take (cutN v d))).1=_
  unfold cutN
  rw[φJQ]
 ·rw[φMr h _ c]
noncomputable def φ4p (v:φS) (d:φ1):φA×φ1×Int:=
 if (cutW v d).2≠0 then (φq,(cutW v d).1,told (cutW v d).2) else
 let x:=(cutW v d).1
 let g:=match φ2Q x (v.2.getD 0 0) with
  | some g=>φ1y g (φR x (v.2.drop 1))
  | none=>φ1y ([],0,0) (φR x v.2)
 let hinted:=match φ2Q x (v.2.getD 0 0) with
  | some _=>v.2.getD 0 0
  | none=>0
 if g.2.2≠0 then (φq,x,3) else
 if (φ13 v x).2≠0 then (φq,(φ13 v x).1,told (φ13 v x).2) else
 ((v,g.1,w64 (g.2.1+1),(cutN v d:Int),hinted),(φ13 v x).1,0)
noncomputable def φ3m (d:φ1):φA×φ1×Int:=
 if φ5 d=false then (φq,d,4) else if d.2.2.2=true then (φq,d,1) else
 if (φ2 d φn).2=false then φ79 d else
 if (φ3l (φ2 d φn).1).2=false then (φq,d,3) else
 if φ47 d (φ3l (φ2 d φn).1).1.2=false then (φq,d,3) else φ4p (φ3l (φ2 d φn).1).1 d
theorem φHK {x:φ1} {id:Int} {g:φ1A} (h:φ2Q x id=some g):g.1.length≤20∧g.2.2=0:=by
 unfold φ2Q at h
 split at h
 ·rename_i c
  simp only[Option.some.injEq] at h
  subst h
  refine ⟨?_,rfl⟩
  rcases φDV (φ2 x (φM id)).1 with ⟨e,_⟩ | ⟨u,e,hu⟩
  ·rw[e] at c;simp at c
  ·rw[e];exact (φDI hu.1).2.2.1
 ·simp at h
theorem φC6 {x:φ1} {id:Int} {g:φ1A} (h:φ2Q x id=some g):φ2b g:=by
 obtain ⟨h1,h2⟩:=φHK h
 unfold φ2b
 rw[if_pos h2];omega
theorem φF4:φ2b ([],0,0):=by unfold φ2b;simp
theorem φ9d {x:φ1} (h:φ5 x=true) {ids:List Int} (hl:ids.length≤60):(φR x ids).length<10000000:=by
 have:=φGK h ids
 unfold φR;omega
theorem φFr (d:φ1) (hd:dl 1048577 d):ψ2f.f d=some (φ3m d):=by
 have hlm:=φ1J hd (by omega)
 unfold ψ2f.f φ3m
 have hcp:=φ4y d (by have:=hd.1;omega)
 rw[φ5y d hlm,bS]
 cases h:φ5 d with
 | false=>simp only[nF,cT,hcp,bS,if_true]
 | true=>
  simp only[nZ,cF,Bool.true_eq_false,if_false]
  cases hdn:d.2.2.2 with
  | true=>simp only[cT,hcp,bS,if_true]
  | false=>
   simp only[cF,Bool.false_eq_true,if_false]
   have hft:=φ4j d φn hlm
   have hft:ψ2R.f d [108,105,118,101]=_:=hft
   rw[hft,bS]
   have htl:=φ5I h φn
   generalize φ2 d φn=q at htl ⊢
   obtain ⟨t,b⟩:=q
   cases b with
   | false=>simp only[nF,cT,φJ2 d h,bS,if_true]
   | true=>
    have htl:t.length≤100000:=htl
    simp only[nZ,cF,Bool.true_eq_false,if_false,φC1 t (by omega),bS]
    rcases φGE t with ⟨e,_⟩ | ⟨v,e,hv⟩
    ·rw[e]
     simp only[nF,cT,hcp,bS,if_true]
    rw[e]
    have hlen:=φ62 hv.1
    have hpos:=((φ12 v).1 hv.1).2.2.1
    obtain ⟨l1,l2,l3⟩:=φ6y hpos (by omega)
    have h0:=φMu d v h hv.1
    simp only[nZ,cF,Bool.true_eq_false,if_false,l1,l2,cT,l3,h0,bS]
    cases hc:φ47 d v.2 with
    | false=>simp only[Bool.false_eq_true,if_false,φd,if_true]
    | true=>
     have hsc:=φ4b (φ2 d (φ0 (φL v.2))).1
     have htx:=φ5I h (φ0 (φL v.2))
     have hT:=φKk d (φ0 (φL v.2)) (cutN v d:Int) hlm
     have hT:ψ35.f d (φ0 (φL v.2)) (cutN v d:Int)=some (φ3J (φ0 (φL v.2)) (cutN v d:Int) d):=hT
     have hsr:=φ7D (φ2 d (φ0 (φL v.2))).1 (by omega)
     have hcn:((scan (φ2 d (φ0 (φL v.2))).1).2:Int)=(cutN v d:Int):=rfl
     rw[hcn] at hsr
     simp only[if_true,φX,Bool.true_eq_false,if_false,φ2L,bS,φ4j d _ hlm,hsr,hcp]
     have hle:cutN v d≤(φ2 d (φ0 (φL v.2))).1.length:=hsc.1
     unfold φ4p
     -- the end,alike for both ways
     have fin:∀(w:φH),φ5 w.1=true→w.2=0→cutW v d=φI (φN (φ0 (φL v.2))) w →
       ((ψ34.f w.1 (φ0 (φL v.2))).bind fun (t25_0,t25_1)=>
        bif t25_1 != 0 then (ψ3E.f t25_1).bind fun t26=>some (φq,t25_0,t26) else
        (lp ψ2f.l2 (φq,φ3S,φq,v,t25_0,(v,[],0,(cutN v d:Int),0),([],0,0),([]:List φB),0)).bind (fun (x2,x3,x5,x8,x19,x23,x24,x25)=>
        (ψ2s.f x24 x25).bind fun t35=>
        bif t35.2.2 != 0 then some (x5,x19,3) else
        (ψ3J.f x19 x8).bind fun (t36_0,t36_1)=>
        bif t36_1 != 0 then some (x5,t36_0,t36_1) else some ((x23.1,t35.1,w64 (t35.2.1+1),x23.2.2.2),t36_0,0))) =
       some (if (cutW v d).2≠0 then (φq,(cutW v d).1,told (cutW v d).2) else
        let x:=(cutW v d).1
        let g:=match φ2Q x (v.2.getD 0 0) with
         | some g=>φ1y g (φR x (v.2.drop 1))
         | none=>φ1y ([],0,0) (φR x v.2)
        let hinted:=match φ2Q x (v.2.getD 0 0) with
         | some _=>v.2.getD 0 0
         | none=>0
        if g.2.2≠0 then (φq,x,3) else
        if (φ13 v x).2≠0 then (φq,(φ13 v x).1,told (φ13 v x).2) else
        ((v,g.1,w64 (g.2.1+1),(cutN v d:Int),hinted),(φ13 v x).1,0)):=by
      intro w hw h0 ecut
      obtain ⟨w1,w2⟩:=w
      have h0:w2=0:=h0
      subst h0
      have hw:φ5 w1=true:=hw
      have hsy:=φ6w w1 (φ0 (φL v.2)) (φ1J (φu hw) (by omega))
      have hsy:ψ34.f w1 (φ0 (φL v.2))=some (φN (φ0 (φL v.2)) w1):=hsy
      rw[φ1v] at ecut
      have hdx:=φ36 hw (φ0 (φL v.2))
      rw[←ecut] at hsy hdx
      simp only[hsy,bS]
      generalize cutW v d=W at hdx ⊢
      obtain ⟨x,c⟩:=W
      have hdx:φ5 x=true:=hdx
      by_cases c0:c=0
      rotate_left
      ·have d0:(c != 0)=true:=by simpa using c0
       rw[if_pos c0]
       simp only[d0,cT,φ2S,bS]
      subst c0
      rw[if_neg (by simp)]
      have d0:((0:Int) != 0)=false:=rfl
      have h2:=φHS x v (cutN v d:Int) hdx hv.1
      simp only[d0,cF,h2,bS]
      have fin2:∀(g0:φ1A) (ids:List Int) (hin:Int),φ2b g0→ids.length≤60 →
        ((ψ2s.f g0 (φR x ids)).bind fun t35=>bif t35.2.2 != 0 then some (φq,x,3) else (ψ3J.f x v).bind fun (t36_0,t36_1)=>
         bif t36_1 != 0 then some (φq,t36_0,t36_1) else some ((v,t35.1,w64 (t35.2.1+1),(cutN v d:Int),hin),t36_0,0)) =
        some (if (φ1y g0 (φR x ids)).2.2≠0 then (φq,x,3) else if (φ13 v x).2≠0 then (φq,(φ13 v x).1,told (φ13 v x).2) else
         ((v,(φ1y g0 (φR x ids)).1,w64 ((φ1y g0 (φR x ids)).2.1+1),(cutN v d:Int),hin),(φ13 v x).1,0)):=by
       intro g0 ids hin hg hi
       have hrg:=φKw g0 (φR x ids) (φ9d hdx hi) hg
       rw[hrg,bS]
       by_cases c1:(φ1y g0 (φR x ids)).2.2=0
       rotate_left
       ·have d1:((φ1y g0 (φR x ids)).2.2 != 0)=true:=by simpa using c1
        rw[d1,cT,if_pos c1]
       have d1:((φ1y g0 (φR x ids)).2.2 != 0)=false:=by simpa using c1
       rw[d1,cF,if_neg (fun z=>z c1),φGY x v hdx (by omega),bS]
       generalize φ13 v x=S2
       obtain ⟨y,c2⟩:=S2
       by_cases c3:c2=0
       ·subst c3;simp[φC,told]
       ·have t2:(told c2 != 0)=true:=by rw[φ5Z];simpa using c3
        simp only[φC,t2,cT]
        rw[if_pos c3]
      cases hg:φ2Q x (v.2.getD 0 0) with
      | some g=>exact fin2 g (v.2.drop 1) (v.2.getD 0 0) (φC6 hg) (by rw[lD];omega)
      | none=>exact fin2 ([],0,0) v.2 0 φF4 hlen
     by_cases c:(φ2 d (φ0 (φL v.2))).1.length=cutN v d
     ·have d1:decide ((cutN v d:Int)<((φ2 d (φ0 (φL v.2))).1.length:Int))=false:=decide_eq_false (by omega)
      rw[d1,cF,bS]
      simp only[φX,φ2L,bS]
      exact fin (d,0) h rfl (by unfold cutW;rw[if_pos c])
     ·have d1:decide ((cutN v d:Int)<((φ2 d (φ0 (φL v.2))).1.length:Int))=true:=decide_eq_true (by omega)
      rw[d1,cT,hT,bS]
      have ecut:cutW v d=φI (φN (φ0 (φL v.2))) (φ3J (φ0 (φL v.2)) (cutN v d:Int) d):=by unfold cutW;rw[if_neg c]
      have hdt:φ5 (φ3J (φ0 (φL v.2)) (cutN v d:Int) d).1=true:=φ5j h _ _
      generalize φ3J (φ0 (φL v.2)) (cutN v d:Int) d=p at ecut hdt ⊢
      obtain ⟨y,c2⟩:=p
      by_cases c3:c2=0
      ·subst c3
       simp only[show ((0:Int) != 0)=false from rfl,cF,bS,φX,φ2L]
       exact fin (y,0) hdt rfl ecut
      ·have d3:(c2 != 0)=true:=by simpa using c3
       rw[φ2E c3] at ecut
       simp only[d3,cT,φ2S,bS,φd]
       rw[ecut,if_pos c3]
theorem φBr:∀(r pre:List φB) (g:φ1A),φ2b g→pre.length+r.length<10000000→φ2b (φp pre r g)
 | [],_,g,h,_=>h
 | p::r,pre,g,h,hl=>by
  unfold φp
  simp only[lC] at hl
  split
  ·exact h
  ·rename_i c
   exact φBr r (pre++[p]) _ (φEO h (by simpa using c) (by omega)) (by simp only[lA,List.length_singleton];omega)
theorem φDx {g:φ1A} {l:List φB} (h:φ2b g) (hl:l.length<10000000):(φ1y g l).1.length≤11000020:=by
 have:=φBr l [] g h (by simpa using hl)
 unfold φ2b at this
 unfold φ1y φ6n
 split
 ·show (φp [] l g).1.length≤_
  split at this<;>omega
 ·split at this<;>omega
noncomputable def φ4k (v:φS) (x:φ1) (e:Int) (g:φ1A) (hin:Int):φA×φ1×Int:=
 if g.2.2≠0 then (φq,x,3) else
 if (φ13 v x).2≠0 then (φq,(φ13 v x).1,told (φ13 v x).2) else
 ((v,g.1,w64 (g.2.1+1),e,hin),(φ13 v x).1,0)
theorem φBy (v:φS) (d:φ1):φ4p v d=if (cutW v d).2≠0 then (φq,(cutW v d).1,told (cutW v d).2) else
  match φ2Q (cutW v d).1 (v.2.getD 0 0) with
  | some g=>φ4k v (cutW v d).1 (cutN v d:Int) (φ1y g (φR (cutW v d).1 (v.2.drop 1))) (v.2.getD 0 0)
  | none=>φ4k v (cutW v d).1 (cutN v d:Int) (φ1y ([],0,0) (φR (cutW v d).1 v.2)) 0:=by
 unfold φ4p
 by_cases c:(cutW v d).2≠0
 ·rw[if_pos c,if_pos c]
 ·rw[if_neg c,if_neg c]
  simp only
  cases φ2Q (cutW v d).1 (v.2.getD 0 0)<;>rfl
theorem φCU {v:φS} {x:φ1} (e:Int) (g:φ1A) (hin:Int) (h:φ5 x=true) (hl:v.2.length≤60) (hg:g.1.length≤11000020) :
  φ5 (φ4k v x e g hin).2.1=true∧(φ4k v x e g hin).1.1.2.length≤60∧(φ4k v x e g hin).1.2.1.length≤11000020:=by
 unfold φ4k
 have hs:=φ8k h v
 split
 ·exact ⟨h,by simp,by simp⟩
 split
 ·exact ⟨hs,by simp,by simp⟩
 exact ⟨hs,hl,hg⟩
theorem φLg {d:φ1} (h:φ5 d=true):φ5 (φ3m d).2.1=true∧(φ3m d).1.1.2.length≤60∧(φ3m d).1.2.1.length≤11000020:=by
 unfold φ3m
 rw[if_neg (by rw[h];simp)]
 split
 ·exact ⟨h,by simp,by simp⟩
 split
 ·unfold φ79
  have h1:φ5 (sPut (2,[1]) (φI (φa (φ0 1)) (φ13 φ2Y d))).1=true:=φ3r (φ1e (φ8k h φ2Y) fun k=>φ34 k _) _
  simp only
  split
  ·exact ⟨h1,by simp,by simp⟩
  ·exact ⟨h1,by simp,by simp⟩
 split
 ·exact ⟨h,by simp,by simp⟩
 rename_i hv
 split
 ·exact ⟨h,by simp,by simp⟩
 rcases φGE (φ2 d φn).1 with ⟨e,_⟩ | ⟨v,e,hlv⟩
 ·rw[e] at hv;simp at hv
 rw[e]
 show φ5 (φ4p v d).2.1=true∧(φ4p v d).1.1.2.length≤60∧(φ4p v d).1.2.1.length≤11000020
 have hlen:=φ62 hlv.1
 have hd1:=φHH (v:=v) h
 rw[φBy]
 split
 ·exact ⟨hd1,by simp,by simp⟩
 cases hg:φ2Q (cutW v d).1 (v.2.getD 0 0) with
 | some g=>exact φCU _ _ _ hd1 hlen (φDx (φC6 hg) (φ9d hd1 (by rw[lD];omega)))
 | none=>exact φCU _ _ _ hd1 hlen (φDx φF4 (φ9d hd1 hlen))
theorem φJv:φ0 1=[115,101,103,49]:=by
 unfold φ0 φ28
 rw[if_pos (by decide)]
 show _++Lib.decDigits 1=_
 rw[Lib.decDigits_one (by decide)]
 rfl
theorem φI2:(φ10 (2,[1])).length=8:=by
 unfold φ10
 rw[if_neg (by decide)]
 have e2:varT 2=[2]:=by rw[show (2:Int)=((2:Nat):Int) from rfl,φ4q 2 (by decide),φ59 (by decide)];rfl
 have e1:varT 1=[1]:=by rw[show (1:Int)=((1:Nat):Int) from rfl,φ4q 1 (by decide),φ59 (by decide)];rfl
 have e:varT (2,[1]).1++varT (((2,[1]):φS).2.length:Int)++(((2,[1]):φS).2.map varT).flatten=[2,1,1]:=by
  show varT 2++varT 1++(varT 1++[])=_
  rw[e2,e1];rfl
 rw[e]
 obtain ⟨h1,h2⟩:=φ7j (t:=[2,1,1]) (by decide)
 rw[h1,lA,h2,lA,φ59 (by decide)]
 rfl
theorem φ5K {d:φ1} {c:Int} (h:φ5 d=true) (hf:d.2=(c,-1,false)) (act:List φ6→Int×List φ6):φW d act=(((act d.1).2,c,-1,false),(act d.1).1):=by
 obtain ⟨l,t⟩:=d
 simp only at hf
 subst hf
 unfold φW tick
 rw[if_neg (by rw[h];simp),if_neg (by simp)]
 simp
def dNew (n:Nat):φ1:=([(φn,φ10 (2,[1]),8),(φ0 1,[],0)],(n:Int),-1,false)
abbrev d0N (n:Nat):φ1:=([],(n:Int),-1,false)
theorem φLL (n:Nat) (h:n≤100000):∃y,φ5 y=true∧sPut (2,[1]) (φI (φa (φ0 1)) (φ13 φ2Y (d0N n)))=if n<8 then (y,2) else (dNew n,0):=by
 have k0:φ5 (d0N n)=true:=φBM (n:Int) (by omega)
 have hsw:φ13 φ2Y (d0N n)=(d0N n,0):=by
  unfold φ13 φ2u
  rw[if_neg (by rw[k0];simp)];rfl
 have hL:=φI2
 unfold dNew sPut φ1f
 generalize φ10 (2,[1])=L at hL ⊢
 rw[hsw,φ1v,φJv]
 -- the segment
 have s1:φa [115,101,103,49] (d0N n)=(([([115,101,103,49],[],0)],(n:Int),-1,false),0):=by
  show φW _ _=_
  rw[φ5K k0 rfl]
  have:φ2o [115,101,103,49] []=(0,[([115,101,103,49],[],0)]):=by decide
  rw[this]
 have k1:=φ34 k0 [115,101,103,49]
 rw[s1] at k1 ⊢
 have k1:φ5 (([([115,101,103,49],[],0)],(n:Int),-1,false):φ1)=true:=k1
 rw[φ1v]
 have s2:φF [116,101,109,112] (([([115,101,103,49],[],0)],(n:Int),-1,false):φ1)=(([([115,101,103,49],[],0)],(n:Int),-1,false),0):=by
  unfold φF
  rw[if_neg (show ¬φ1b ([([115,101,103,49],[],0)]:List φ6) [116,101,109,112]≥0 by decide)]
 rw[s2,φ1v]
 have s3:φa [116,101,109,112] (([([115,101,103,49],[],0)],(n:Int),-1,false):φ1)=(([([115,101,103,49],[],0),([116,101,109,112],[],0)],(n:Int),-1,false),0):=by
  show φW _ _=_
  rw[φ5K k1 rfl]
  have:φ2o [116,101,109,112] [([115,101,103,49],[],0)]=(0,[([115,101,103,49],[],0),([116,101,109,112],[],0)]):=by decide
  rw[this]
 have k2:=φ34 k1 [116,101,109,112]
 rw[s3] at k2 ⊢
 have k2:φ5 (([([115,101,103,49],[],0),([116,101,109,112],[],0)],(n:Int),-1,false):φ1)=true:=k2
 rw[φ1v]
 have k3:=φ3d k2 [116,101,109,112] L
 by_cases c:n<8
 ·simp only[if_pos c]
  have s4:φU [116,101,109,112] L (([([115,101,103,49],[],0),([116,101,109,112],[],0)],(n:Int),-1,false):φ1)=(([([115,101,103,49],[],0),([116,101,109,112],[],0)],(n:Int),-1,false),2):=by
   show φW _ _=_
   rw[φ5K k2 rfl]
   unfold φ2f
   have:([([115,101,103,49],[],0),([116,101,109,112],[],0)]:List φ6).findIdx? (fun f=>f.1==[116,101,109,112])=some 1:=by decide
   rw[this]
   have hu:φO ([([115,101,103,49],[],0),([116,101,109,112],[],0)]:List φ6)=0:=by decide
   simp only[hu]
   rw[if_pos (by omega)]
  rw[s4,φ2E (show (2:Int)≠0 by decide),φ2E (show (2:Int)≠0 by decide)]
  exact ⟨_,k2,rfl⟩
 ·simp only[if_neg c]
  have s4:φU [116,101,109,112] L (([([115,101,103,49],[],0),([116,101,109,112],[],0)],(n:Int),-1,false):φ1)=(([([115,101,103,49],[],0),([116,101,109,112],L,0)],(n:Int),-1,false),0):=by
   show φW _ _=_
   rw[φ5K k2 rfl]
   unfold φ2f
   have:([([115,101,103,49],[],0),([116,101,109,112],[],0)]:List φ6).findIdx? (fun f=>f.1==[116,101,109,112])=some 1:=by decide
   rw[this]
   have hu:φO ([([115,101,103,49],[],0),([116,101,109,112],[],0)]:List φ6)=0:=by decide
   simp only[hu]
   rw[if_neg (by omega)]
   rfl
  rw[s4] at k3 ⊢
  have k3:φ5 (([([115,101,103,49],[],0),([116,101,109,112],L,0)],(n:Int),-1,false):φ1)=true:=k3
  rw[φ1v]
  have k4:=φ36 k3 [116,101,109,112]
  have s5:φN [116,101,109,112] (([([115,101,103,49],[],0),([116,101,109,112],L,0)],(n:Int),-1,false):φ1)=(([([115,101,103,49],[],0),([116,101,109,112],L,8)],(n:Int),-1,false),0):=by
   show φW _ _=_
   rw[φ5K k3 rfl]
   unfold φ2a
   have:([([115,101,103,49],[],0),([116,101,109,112],L,0)]:List φ6).findIdx? (fun f=>f.1==[116,101,109,112])=some 1:=rfl
   rw[this]
   show ((([([115,101,103,49],[],0),([116,101,109,112],L,(L.length:Int))]:List φ6),(n:Int),-1,false),(0:Int))=_
   rw[hL];rfl
  rw[s5] at k4 ⊢
  have k4:φ5 (([([115,101,103,49],[],0),([116,101,109,112],L,8)],(n:Int),-1,false):φ1)=true:=k4
  rw[φ1v]
  have s6:φ3B [116,101,109,112] [108,105,118,101] (([([115,101,103,49],[],0),([116,101,109,112],L,8)],(n:Int),-1,false):φ1)=(([([108,105,118,101],L,8),([115,101,103,49],[],0)],(n:Int),-1,false),0):=by
   show φW _ _=_
   rw[φ5K k4 rfl]
   unfold φ2n
   have:([([115,101,103,49],[],0),([116,101,109,112],L,8)]:List φ6).findIdx? (fun f=>f.1==[116,101,109,112])=some 1:=rfl
   rw[this,if_neg (by decide)]
   rfl
  rw[s6]
  exact ⟨_,k4,rfl⟩
theorem φBs (n:Nat) (h:n≤100000):∃y,φ5 y=true∧φ3m (d0N n)=if n<8 then (φq,y,2) else (((2,[1]),[],1,0,0),dNew n,0):=by
 have k0:φ5 (d0N n)=true:=φBM (n:Int) (by omega)
 obtain ⟨y,hy,e⟩:=φLL n h
 refine ⟨y,hy,?_⟩
 have ht:φ2 (d0N n) φn=([],false):=φ7q fun f hf=>by simp at hf
 unfold φ3m
 rw[if_neg (by rw[k0];simp),if_neg (by simp),if_pos (by rw[ht])]
 unfold φ79
 rw[e]
 split
 ·rename_i c;rfl
 ·rename_i c;rfl
theorem φGW (n:Nat) (h:n≤100000) (h8:8≤n):φ5 (dNew n)=true:=by
 have k0:φ5 (d0N n)=true:=φBM (n:Int) (by omega)
 obtain ⟨y,hy,e⟩:=φBs n h
 rw[if_neg (by omega)] at e
 have:=(φLg k0).1
 rw[e] at this
 exact this
theorem φGH (n:Nat) (h:n≤100000) (h8:8≤n):φ2 (dNew n) φn=(φ10 (2,[1]),true)∧φ2 (dNew n) (φ0 1)=([],true)∧∀m,m≠φn→m≠φ0 1→φ2 (dNew n) m=([],false):=by
 have hk:=φGW n h h8
 refine ⟨φ3i hk (f:=(φn,φ10 (2,[1]),8)) (by simp[dNew]),φ3i hk (f:=(φ0 1,[],0)) (by simp[dNew]),fun m h1 h2=>φ7q fun f hf=>?_⟩
 simp only[dNew,mc,List.not_mem_nil,or_false] at hf
 rcases hf with rfl | rfl
 ·exact Ne.symm h1
 ·exact Ne.symm h2
theorem φLV {s:List UInt8} {v:φS} (h:φ3k s v) (hl:s.length<1000000000):φ3l s=(v,true):=by
 have h1:=φGN h
 rw[φC1 s hl] at h1
 exact Option.some.inj h1
theorem φ6l (i:Int):φM i≠φn:=by
 unfold φM φ28
 split
 ·intro e
  have:=congrArg (fun l=>l.getD 0 0) e
  simp[φn] at this
 ·simp[φn]
theorem φMh (i:Int):φM i≠φ2O:=by
 unfold φM φ28
 split
 ·intro e
  have:=congrArg (fun l=>l.getD 0 0) e
  simp[φ2O] at this
 ·simp[φ2O]
theorem φID:¬∃id,φ3E φn id:=by
 rintro ⟨id,_,e | e⟩
 ·exact φ2N id e.symm
 ·exact φ6l id e.symm
theorem φJU (n:Nat) (h:n≤100000) (h8:8≤n):φo ((2,[1]),[],1,0,0) (dNew n)=true:=by
 obtain ⟨t1,t2,t3⟩:=φGH n h h8
 refine φ15.2 ⟨φGW n h h8,by decide,by decide,by decide,?_,fun e he=>by simp at he⟩
 refine (φ2d _).2 ⟨fun id hid=>?_,fun _=>?_⟩
 ·have hid:id=1:=by simpa using hid
  subst hid
  rw[t2];exact ⟨rfl,φCn⟩
 ·show (0:Int)=((φ2 _ (φ0 1)).1.length:Int)
  rw[t2];rfl
theorem φJk {v:φS} {x:φ1} (h:φ5 x=true) {n:List UInt8} (hn:n∈φ2u x v):(∃id,φ3E n id∧id ∉ v.2)∨n=φ2O:=by
 unfold φ2u at hn
 rw[if_neg (by rw[h];simp)] at hn
 obtain ⟨f,hf,rfl⟩:=mM.1 hn
 have ho:=(List.mem_filter.1 hf).2
 unfold φ4T at ho
 rw[Bool.or_eq_true,bA] at ho
 rcases ho with ⟨h1,h2⟩ | h1
 ·left
  refine ⟨(idOf f.1).1,φI1 (by rw[←h1]),fun hi=>?_⟩
  have:(v.2.any fun i=>i==(idOf f.1).1)=true:=List.any_eq_true.2 ⟨_,hi,by simp⟩
  rw[this] at h2;simp at h2
 ·right;simpa using h1
theorem φF7 {v:φS} {x:φ1} (h:φ5 x=true) {n:List UInt8} (hn:∀id,φ3E n id→id∈v.2) (ht:n≠φ2O):φ2 (φ13 v x).1 n=φ2 x n:=by
 refine φ8v (φ2u x v) (w:=(x,0)) h fun m hm e=>?_
 subst e
 rcases φJk h hm with ⟨id,hid,hno⟩ | e
 ·exact hno (hn id hid)
 ·exact ht e
theorem φGz {id:Int} (h:1≤id∧id≤100000):φ3E (φ0 id) id:=⟨h,.inl rfl⟩
theorem φBY {v:φS} (h:φm v=true) {id:Int} (hi:id∈v.2):1≤id∧id≤100000∧id<v.1:=by
 obtain ⟨k1,k2,k3,k4⟩:=(φ12 v).1 h
 rw[φE (by omega) (by omega)] at k1
 have:=φ3g _ _ k1 id hi
 omega
theorem φ8s {A B σ:Type} {step:(A→Option B)→A→Option B} (st:Nat→σ→A) (N:Nat) (Inv:Nat→σ→Prop) (Post:B→Prop)
  (hz:∀rec s,Inv N s→∃b,step rec (st N s)=some b∧Post b)
  (hs:∀rec n s,n<N→Inv n s→∃s',Inv (n+1) s'∧step rec (st n s)=rec (st (n+1) s')) (s:σ) (hi:Inv 0 s) (hn:N<2 ^ 62):∃b,lp step (st 0 s)=some b∧Post b:=by
 have key:=φBE (step:=step) (fun k (s:σ)=>st (N - k) s) (fun k s=>Inv (N - k) s∧k≤N) Post
  (fun rec s hi=>hz rec s hi.1)
  (fun rec k s hi=>by
   obtain ⟨h1,h2⟩:=hi
   have e:N - (k+1)+1=N - k:=by omega
   obtain ⟨s',h3,h4⟩:=hs rec (N - (k+1)) s (by omega) h1
   rw[e] at h3 h4
   exact ⟨s',⟨h3,by omega⟩,h4⟩)
  N s ⟨by rw[Nat.sub_self];exact hi,Nat.le_refl _⟩ hn
 simpa using key
def Free (d:φ1):Prop:=d.2.2=(-1,false)
theorem φ1Y {d:φ1} {act:List φ6→Int×List φ6} (h:Free d):Free (φW d act).1:=by
 unfold φW
 split
 ·exact h
 ·split
  ·rename_i c
   rw[show d.2.2=(-1,false) from h] at c
   simp at c
  ·show (tick d).2.2=_
   unfold tick
   rw[if_neg]
   ·exact h
   ·rw[show d.2.2=(-1,false) from h];simp
theorem φHI {d:φ1} {act:List φ6→Int×List φ6} (h:(φW d act).2=0):d.2.2.2=false:=by
 unfold φW at h
 split at h
 ·simp at h
 split at h
 ·simp at h
 rename_i c
 cases hd:d.2.2.2 with
 | false=>rfl
 | true=>exact absurd (.inl hd) c
theorem φ84 {d:φ1} {act:List φ6→Int×List φ6} (h:d.2.2.2=true):(φW d act).1.2.2.2=true:=by
 unfold φW
 split
 ·exact h
 ·rw[if_pos (.inl h)]
theorem φ5E {P:φ1→Prop} (hP:∀(d:φ1) (act:List φ6→Int×List φ6),P d→P (φW d act).1) (n:List UInt8) {d:φ1} (h:P d):P (φF n d).1:=by
 unfold φF
 split
 ·exact hP d _ h
 ·exact h
theorem φ3U {P:φ1→Prop} (hP:∀(d:φ1) (act:List φ6→Int×List φ6),P d→P (φW d act).1) {op:φ1→φ1×Int} (ho:∀d,P d→P (op d).1) {w:φH} (h:P w.1):P (φI op w).1:=by
 unfold φI
 split
 ·exact ho _ h
 ·exact h
theorem φ8l {P:φ1→Prop} (hP:∀(d:φ1) (act:List φ6→Int×List φ6),P d→P (φW d act).1) (n:List UInt8) {w:φH} (h:P w.1):P (sNew n w).1:=
 φ3U hP (fun d k=>hP d _ k) (φ3U hP (fun d k=>φ5E hP n k) h)
theorem φ7n {P:φ1→Prop} (hP:∀(d:φ1) (act:List φ6→Int×List φ6),P d→P (φW d act).1) (n t:List UInt8) {w:φH} (h:P w.1):P (φ1f n t w).1:=
 φ3U hP (fun d k=>hP d _ k) (φ3U hP (fun d k=>hP d _ k) (φ3U hP (fun d k=>hP d _ k) (φ3U hP (fun d k=>φ5E hP n k) h)))
theorem φBa {P:φ1→Prop} (hP:∀(d:φ1) (act:List φ6→Int×List φ6),P d→P (φW d act).1) (v:φS) {w:φH} (h:P w.1):P (sPut v w).1:=
 φ3U hP (fun d k=>hP d _ k) (φ7n hP _ _ h)
theorem φGc {P:φ1→Prop} (hP:∀(d:φ1) (act:List φ6→Int×List φ6),P d→P (φW d act).1) (n:List UInt8):∀(recs:List RecT) {w:φH},P w.1→P (sApp n recs w).1
 | [],w,h=>h
 | r::recs,w,h=>φGc hP n recs (w:=φI (φU n (frame (φ7 r))) w) (φ3U hP (fun d k=>hP d _ k) h)
theorem φB8 {P:φ1→Prop} (hP:∀(d:φ1) (act:List φ6→Int×List φ6),P d→P (φW d act).1) (m:Int) (recs:List RecT) {w:φH} (h:P w.1):P (sWM m recs w).1:=
 φ3U hP (fun d k=>hP d _ k) (φGc hP _ recs (φ8l hP _ h))
theorem φ67 {P:φ1→Prop} (hP:∀(d:φ1) (act:List φ6→Int×List φ6),P d→P (φW d act).1):∀(names:List (List UInt8)) {w:φH},P w.1→P (φh names w).1
 | [],w,h=>h
 | n::names,w,h=>φ67 hP names (w:=φI (φF n) w) (φ3U hP (fun d k=>φ5E hP n k) h)
theorem φGb {P:φ1→Prop} (hP:∀(d:φ1) (act:List φ6→Int×List φ6),P d→P (φW d act).1):∀(ids:List Int) {w:φH},P w.1→P (sOld ids w).1
 | [],w,h=>h
 | i::ids,w,h=>φGb hP ids (w:=φh [φ0 i,φM i] w) (φ67 hP _ h)
theorem φBQ {P:φ1→Prop} (hP:∀(d:φ1) (act:List φ6→Int×List φ6),P d→P (φW d act).1) (m:Int) {d:φ1} (h:P d):P (φ2D m d).1:=by
 unfold φ2D
 simp only
 have:=φ7n hP (φM m) (φ1P (φ17 m (φ2 d (φ0 m)).1).1) (w:=(d,0)) h
 split
 ·exact φ5E hP _ this
 ·exact this
theorem φ9H {n t:List UInt8} {w:φH} (h:(φ1f n t w).2=0):w.2=0∧φ2 (φ1f n t w).1 n=(t,true):=by
 unfold φ1f at h ⊢
 obtain ⟨h1,h2,h3⟩:=φ40 (op:=φN n) h
 obtain ⟨h4,h5,h6⟩:=φ40 (op:=φU n t) h1
 have h4:(sNew n w).2=0:=h4
 obtain ⟨h7,h8⟩:=φAA h4
 obtain ⟨a1,a2⟩:=φ8i h5
 have a2:φ2 (φU n t (sNew n w).1).1 n=((φ2 (sNew n w).1 n).1++t,true):=a2
 rw[h3,h6]
 obtain ⟨k,_,_⟩:=φ6J h2
 rw[h6] at k
 refine ⟨h7,?_⟩
 rw[φ2e k n n]
 show φ2 (φU n t (sNew n w).1).1 n=_
 rw[a2,h8];rfl
theorem φD9 {v:φS} {w:φH} (h:(sPut v w).2=0):w.2=0∧φ2 (sPut v w).1 φn=(φ10 v,true):=by
 unfold sPut at h ⊢
 obtain ⟨h1,h2,h3⟩:=φ40 h
 obtain ⟨h4,h5⟩:=φ9H h1
 refine ⟨h4,?_⟩
 rw[h3]
 show φ2 (φ3B [116,101,109,112] [108,105,118,101] (φ1f [116,101,109,112] (φ10 v) w).1).1 φn=_
 rw[φHO h2,h5]
theorem φLZ {s:φA} {d:φ1} (l:List φg) (h:φ5 d=true) (hc:(φ1C s d l).2.2=0):∃w1 w2:φH,
  w1=sNew (φ0 (s.1.1+1)) (sWM s.1.1 (φb l (s.2.2.1 - 1)) (d,0))∧w1.2=0∧φ5 w1.1=true∧w2=φ2D s.1.1 w1.1∧w2.2=0∧φ5 w2.1=true ∧
  (sPut (s.1.1+2,[s.1.1,s.1.1+1]) w2).2=0∧(φ1C s d l).2.1=(sOld s.1.2 ((sPut (s.1.1+2,[s.1.1,s.1.1+1]) w2).1,0)).1:=by
 have g1:=φ6E s.1.1 (φb l (s.2.2.1 - 1)) (w:=(d,0)) h
 have g2:=φ3v g1 (φ0 (s.1.1+1))
 unfold φ1C at hc ⊢
 simp only at hc ⊢
 generalize hw1:sNew (φ0 (s.1.1+1)) (sWM s.1.1 (φb l (s.2.2.1 - 1)) (d,0))=w1 at *
 have g3:φ5 (φ11 s.1.1 w1).1=true:=by
  unfold φ11;split
  ·exact g2
  ·exact φ7L _ g2
 by_cases z:(if (φ11 s.1.1 w1).2=0 then φC (sPut (s.1.1+2,[s.1.1,s.1.1+1]) (φ11 s.1.1 w1)) else φC (φ11 s.1.1 w1)).2=0
 rotate_left
 ·rw[if_pos z] at hc
  exfalso
  revert hc
  generalize (if (φ11 s.1.1 w1).2=0 then φC (sPut (s.1.1+2,[s.1.1,s.1.1+1]) (φ11 s.1.1 w1)) else φC (φ11 s.1.1 w1))=w3 at *
  unfold φ1c
  split
  ·split
   ·simp
   ·rename_i c4;exact c4
  ·exact z
 have z2:(φ11 s.1.1 w1).2=0:=by
  by_cases c:(φ11 s.1.1 w1).2=0
  ·exact c
  ·rw[if_neg c] at z;exact (φ1L _).1 z
 rw[if_pos z2] at z hc
 rw[if_pos z2]
 have z3:(sPut (s.1.1+2,[s.1.1,s.1.1+1]) (φ11 s.1.1 w1)).2=0:=(φ1L _).1 z
 have z1:w1.2=0:=by
  unfold φ11 at z2
  split at z2
  ·exact z2
  ·rename_i c;simpa using c
 have zh:φ11 s.1.1 w1=φ2D s.1.1 w1.1:=by
  unfold φ11;rw[if_neg (by simpa using z1)]
 rw[if_neg (by simpa using z)]
 rw[zh] at z2 z3 g3 ⊢
 exact ⟨w1,φ2D s.1.1 w1.1,rfl,z1,g2,rfl,z2,g3,z3,rfl⟩
structure MergedF (s:φA) (d:φ1) (l:List φg) (S:φA) (y:φ1):Prop extends Merged s d l S y where
 liv:φ2 y φn=(φ10 (s.1.1+2,[s.1.1,s.1.1+1]),true)
 hin:(φ2 y (φM s.1.1)).2=false∨φ2 y (φM s.1.1)=(φ1P (φ17 s.1.1 (txt (φb l (s.2.2.1 - 1)))).1,true)
 fre:0 > d.2.2.1→Free y
theorem φJa {s:φA} {d:φ1} (l:List φg) (h:φ5 d=true) (hv:φm s.1=true) (h2:s.1.1+2≤100000) (hc:(φ1C s d l).2.2=0):MergedF s d l (φ1C s d l).1 (φ1C s d l).2.1:=by
 have hM:=φGp l h hv h2 hc
 refine ⟨hM,?_,?_,?_⟩
 all_goals
  obtain ⟨w1,w2,hw1,z1,g1,hw2,z2,g2,z3,hy⟩:=φLZ l h hc
  obtain ⟨k1,k2,k3,k4⟩:=(φ12 s.1).1 hv
  rw[φE (by omega) (by omega)] at k1
  have hids:=φ3g _ _ k1
  have g3:φ5 (sPut (s.1.1+2,[s.1.1,s.1.1+1]) w2).1=true:=φ3r (v:=(s.1.1+2,[s.1.1,s.1.1+1])) g2
 ·rw[hy,φ6G s.1.2 (w:=((sPut (s.1.1+2,[s.1.1,s.1.1+1]) w2).1,0)) g3 (fun id hid=>⟨(φ2N id).symm,(φ6l id).symm⟩)]
  exact (φD9 z3).2
 ·have e1:∀n,n≠φ2O→n≠φn→(∀id∈s.1.2,n≠φ0 id∧n≠φM id)→φ2 (φ1C s d l).2.1 n=φ2 w2.1 n:=fun n q1 q2 q3=>by
   rw[hy,φ6G s.1.2 (w:=((sPut (s.1.1+2,[s.1.1,s.1.1+1]) w2).1,0)) g3 q3]
   exact φ74 g2 _ q1 q2
  have e2:φ2 (φ1C s d l).2.1 (φM s.1.1)=φ2 w2.1 (φM s.1.1):=e1 _ (φMh _) (φ6l _) fun id hid=>by
   have:=hids id hid
   refine ⟨fun e=>φ3o id s.1.1 (by omega) e.symm,fun e=>?_⟩
   have:=φGT (by omega) (by omega) e
   omega
  have hf:=φ4L (w:=(w1.1,0)) g1 (φM s.1.1) (φ1P (φ17 s.1.1 (φ2 w1.1 (φ0 s.1.1)).1).1)
  have e3:φ2 (φ1C s d l).2.1 (φ0 s.1.1)=φ2 w1.1 (φ0 s.1.1):=by
   rw[e1 _ (φ43 _) (φ2N _) fun id hid=>by
    have:=hids id hid
    refine ⟨fun e=>?_,φ3o _ _ (by omega)⟩
    have:=φ3p (by omega) (by omega) e
    omega]
   rw[hw2]
   unfold φ2D
   simp only
   split
   ·rw[φ4e hf (φ3o _ _ (by omega)),φ58 (w:=(w1.1,0)) g1 (φ3o _ _ (by omega))]
   ·rw[φ58 (w:=(w1.1,0)) g1 (φ3o _ _ (by omega))]
  rw[hM.one] at e3
  rw[e2]
  rw[←e3] at hf
  rw[hw2] at z2 ⊢
  unfold φ2D at z2 ⊢
  rw[←e3] at z2 ⊢
  simp only at z2 hf ⊢
  split
  ·rename_i c
   rw[if_pos c] at z2
   exact .inl (φCd z2)
  ·rename_i c
   rw[if_neg c] at z2
   exact .inr (φ9H z2).2
 ·intro hfu
  have hup:d.2.2.2=false:=by
   cases hd:d.2.2.2 with
   | false=>rfl
   | true=>
    have q1:w1.1.2.2.2=true:=by rw[hw1];exact φ8l (P:=fun d=>d.2.2.2=true) (fun d act k=>φ84 k) _ (φB8 (P:=fun d=>d.2.2.2=true) (fun d act k=>φ84 k) _ _ hd)
    have q2:w2.1.2.2.2=true:=by rw[hw2];exact φBQ (P:=fun d=>d.2.2.2=true) (fun d act k=>φ84 k) _ q1
    have q3:=φ7n (P:=fun d=>d.2.2.2=true) (fun d act k=>φ84 k) [116,101,109,112] (φ10 (s.1.1+2,[s.1.1,s.1.1+1])) (w:=w2) q2
    unfold sPut at z3
    have:=φHI (φ40 z3).2.1
    rw[q3] at this
    simp at this
  have hfr:Free d:=by
   have:=(φ7K h).1
   show d.2.2=(-1,false)
   rw[show d.2.2=(d.2.2.1,d.2.2.2) from rfl,hup]
   have:d.2.2.1=-1:=by omega
   rw[this]
  have q1:Free w1.1:=by rw[hw1];exact φ8l (P:=Free) (fun d act k=>φ1Y k) _ (φB8 (P:=Free) (fun d act k=>φ1Y k) _ _ hfr)
  have q2:Free w2.1:=by rw[hw2];exact φBQ (P:=Free) (fun d act k=>φ1Y k) _ q1
  rw[hy]
  exact φGb (P:=Free) (fun d act k=>φ1Y k) s.1.2 (φBa (P:=Free) (fun d act k=>φ1Y k) _ q2)
theorem φLi {α:Type} {l:List (List UInt8×α)} {p:List UInt8×α} (h:∀x∈l,Op.bytesLess x.1 p.1=true):insB l p=l++[p]:=by
 have e:l.takeWhile (fun x=>leK x.1 p.1)=l:=by
  induction l with
  | nil=>rfl
  | cons x l ih=>
   have h1:=h x (by simp)
   rw[List.takeWhile_cons_of_pos (by unfold leK;simp[h1]),ih fun y hy=>h y (by simp[hy])]
 unfold insB
 rw[e]
 show l.take l.length++[p]++l.drop l.length=_
 rw[List.take_length,List.drop_length,List.append_nil]
theorem φIz {α:Type} {l:List (List UInt8×α)} {k:List UInt8} (h:∀x∈l,Op.bytesLess x.1 k=true):φZ l k=l:=by
 unfold φZ
 refine List.filter_eq_self.2 fun x hx=>?_
 have:=φ5f (h x hx)
 simpa using this
theorem φAS (id:Int):∀(l:List φ1S) (dir:List φ9),(∀x∈l,x.2.2.1=4)→srt (dir++l.map (entS id))→φ1o dir (l.map fun x=>((id,x):φB))=dir++l.map (entS id)
 | [],dir,_,_=>by simp[φ1o]
 | x::l,dir,h4,hs=>by
  have hx:=h4 x (by simp)
  have hlt:∀y∈dir,Op.bytesLess y.1 (entS id x).1=true:=fun y hy=>by
   have:=(List.pairwise_append.1 hs).2.2 y hy (entS id x) (by simp)
   exact this
  have hp:putD dir ((id,x):φB)=dir++[entS id x]:=by
   unfold putD
   rw[if_neg (by rw[hx];decide)]
   show insB (φZ dir (entS id x).1) (entS id x)=_
   rw[φIz hlt,φLi hlt]
  show φ1o (putD dir (id,x)) (l.map fun x=>((id,x):φB))=_
  rw[hp,φAS id l _ (fun y hy=>h4 y (by simp[hy])) (by simpa using hs)]
  simp
theorem φAa (id b:Int):∀(l:List φ1S) (acc:List φB),(∀x∈l,x.2.2.1=4)→(l.map fun x=>((id,x):φB)).foldl (φ1N 5 b) acc=acc++l.map fun x=>((id,x):φB)
 | [],acc,_=>by simp
 | x::l,acc,h=>by
  have hx:=h x (by simp)
  have e:φ1N 5 b acc ((id,x):φB)=acc++[((id,x):φB)]:=by
   unfold φ1N
   rw[if_neg (by simp),if_neg (by rw[hx];decide),if_pos (.inr ⟨rfl,hx⟩)]
  rw[List.map_cons,List.foldl_cons,e,φAa id b l _ fun y hy=>h y (by simp[hy])]
  simp
theorem φDm (id b:Int):∀(l:List φ1S) (acc:List φB),(∀x∈l,x.2.2.1=4∨x.2.2.1=5)→(l.map fun x=>((id,x):φB)).foldl (φ1N 3 b) acc=acc
 | [],acc,_=>by simp
 | x::l,acc,h=>by
  have hx:=h x (by simp)
  have e:φ1N 3 b acc ((id,x):φB)=acc:=by
   unfold φ1N
   split
   ·rfl
   ·rw[if_neg (by rcases hx with e | e<;>rw[e]<;>decide),if_neg (by rcases hx with e | e<;>rw[e]<;>simp)]
  rw[List.map_cons,List.foldl_cons,e,φDm id b l _ fun y hy=>h y (by simp[hy])]
theorem φ5F:∀(A B pre:List φB) (g:φ1A),(φp pre A g).2.2=0→φp pre (A++B) g=φp (pre++A) B (φp pre A g)
 | [],B,pre,g,h=>by simp[φp]
 | p::A,B,pre,g,h=>by
  rw[φp] at h
  rw[List.cons_append,φp,φp]
  by_cases c:g.2.2≠0
  ·rw[if_pos c] at h;exact absurd h c
  rw[if_neg c] at h ⊢
  rw[if_neg c,φ5F A B _ _ h]
  simp
theorem φDa {A:List φB} (hA:∀k b,k=3∨k=5→ownL k b A=[]):∀(B pre:List φB) (g:φ1A),φp (A++pre) B g=φp pre B g
 | [],pre,g=>rfl
 | p::B,pre,g=>by
  rw[φp,φp]
  by_cases c:g.2.2≠0
  ·rw[if_pos c,if_pos c]
  rw[if_neg c,if_neg c,aA,φDa hA B]
  congr 1
  have e:∀k b,k=3∨k=5→ownL k b (A++pre)=ownL k b pre:=fun k b hk=>by
   have:=hA k b hk
   unfold ownL at *
   rw[List.foldl_append,this]
  unfold φ1Z
  simp only
  by_cases c2:p.2.2.2.1=3∨p.2.2.2.1=5
  ·rw[if_pos c2,if_pos c2,e _ _ c2]
  ·rw[if_neg c2,if_neg c2]
theorem φ9L (id mark:Int):∀(l:List φ1S) (pre:List φB) (z:Int),(∀x∈l,x.2.2.1=4∧x.2.2.2.1≤mark)→z≤mark→∃z',z'≤mark∧φp pre (l.map fun x=>((id,x):φB)) ([],z,0)=([],z',0)
 | [],pre,z,_,hz=>⟨z,hz,rfl⟩
 | x::l,pre,z,h,hz=>by
  obtain ⟨h4,hb⟩:=h x (by simp)
  rw[List.map_cons,φp,if_neg (by simp)]
  have e:φ1Z pre ((id,x):φB) ([],z,0)=([],if x.2.2.2.1 > z then x.2.2.2.1 else z,0):=by
   unfold φ1Z
   simp only
   rw[if_neg (by rw[h4];decide)]
  rw[e]
  refine φ9L id mark l _ _ (fun y hy=>h y (by simp[hy])) ?_
  split<;>omega
theorem φDH {mark:Int}:∀(l:List φ1S) (p:Option (List UInt8)),φ2Z mark p l=true→∀x∈l,x.2.2.1=4∧x.2.2.2.1≤mark
 | [],_,_,x,hx=>by simp at hx
 | y::l,p,h,x,hx=>by
  simp only[φ2Z,bA,beq_iff_eq,Bool.not_eq_true',decide_eq_false_iff_not] at h
  rcases mc.1 hx with rfl | hx
  ·exact ⟨h.1,by omega⟩
  ·exact φDH l _ h.2.2.2 x hx
theorem φDy {id:Int} {t:List UInt8} {h:φ1E} (k:φ17 id t=(h,true)):∃(l:List φ1S) (z:φ1S),(scan t).1=l++[z]∧z.2.2.1=5∧φ2j z.2.2 (l.map (·.2.2))=true∧(∀x∈l,x.2.2.1=4∧x.2.2.2.1≤z.2.2.2.1)∧h=((t.length:Int),z.2.2.2.1,l.map (entS id))∧(scan t).2=t.length∧(1≤id∧id≤100000):=by
 unfold φ17 at k
 simp only at k
 split at k
 ·simp at k
 rename_i c
 simp only[not_or,Bool.not_eq_false,ne_eq,Decidable.not_not] at c
 obtain ⟨c1,c2,c3,c4,c5,c6⟩:=c
 generalize (scan t).1=L at *
 have hl:L.length - 1<L.length:=by omega
 have hL:L=L.take (L.length - 1)++[L.getD (L.length - 1) φ27]:=by
  rw[φ8 hl]
  have:=List.take_succ_eq_append_getElem hl
  rw[show L.length - 1+1=L.length by omega,List.take_length] at this
  exact this
 simp only[Prod.mk.injEq,and_true] at k
 exact ⟨L.take (L.length - 1),L.getD (L.length - 1) φ27,hL,c4,c5,φDH _ _ c6,k.symm,c2,c3⟩
theorem φKE {id:Int} {t:List UInt8} {h:φ1E} (k:φ17 id t=(h,true)) (hd:φ1i h.2.2=true) (h0:0≤h.2.1) (B:List φB):φ1y ([],0,0) (((scan t).1.map fun x=>((id,x):φB))++B)=φ1y (h.2.2,h.2.1,0) B:=by
 obtain ⟨l,z,e,z5,hf,hk,hh,_,_⟩:=φDy k
 have hsrt:srt ([]++l.map (entS id)):=by have:=φ5L hd;rw[hh] at this;simpa using this
 have hlen:(l.map (entS id)).length≤20:=by
  unfold φ1i at hd
  rw[hh] at hd
  simp only[bA,decide_eq_true_eq] at hd
  exact hd.2
 rw[hh] at h0
 have h0:0≤z.2.2.2.1:=h0
 rw[e,hh]
 -- over the segment itself
 obtain ⟨z',hz',eg⟩:=φ9L id z.2.2.2.1 l [] 0 hk h0
 have e1:φp [] ((l++[z]).map fun x=>((id,x):φB)) ([],0,0)=(l.map (entS id),z.2.2.2.1,0):=by
  rw[mp,φ5F _ _ _ _ (by rw[eg]),eg,List.nil_append,List.map_singleton,φp,if_neg (by simp)]
  have eo:ownL z.2.2.1 z.2.2.2.1 (l.map fun x=>((id,x):φB))=l.map fun x=>((id,x):φB):=by
   rw[z5];unfold ownL;rw[φAa id _ l [] fun x hx=>(hk x hx).1];rfl
  have ea:φ1o [] (l.map fun x=>((id,x):φB))=l.map (entS id):=by
   rw[φAS id l [] (fun x hx=>(hk x hx).1) hsrt];rfl
  have er:(l.map fun x=>((id,x):φB)).map (·.2.2.2)=l.map (·.2.2):=by rw[List.map_map];rfl
  have es:φ1Z (l.map fun x=>((id,x):φB)) ((id,z):φB) ([],z',0)=(l.map (entS id),z.2.2.2.1,0):=by
   unfold φ1Z
   simp only
   have el:(if z.2.2.2.1 > z' then z.2.2.2.1 else z')=z.2.2.2.1:=by split<;>omega
   rw[if_pos (.inr z5),eo,er,if_pos hf,ea,el]
   unfold φ52
   rw[if_neg (Nat.not_lt.2 hlen)]
  rw[es];rfl
 have hA:∀k b,k=3∨k=5→ownL k b ((l++[z]).map fun x=>((id,x):φB))=[]:=fun k b hk2=>by
  rcases hk2 with rfl | rfl
  ·unfold ownL
   exact φDm id b (l++[z]) [] fun x hx=>by
    rcases mA.1 hx with hx | hx
    ·exact .inl (hk x hx).1
    ·rw[mZ.1 hx];exact .inr z5
  ·unfold ownL
   rw[mp,List.foldl_append,List.map_singleton,List.foldl_cons,List.foldl_nil]
   unfold φ1N
   rw[if_neg (by simp),if_pos z5]
 unfold φ1y
 rw[φ5F _ _ _ _ (by rw[e1]),e1]
 have:=φDa hA B [] (l.map (entS id),z.2.2.2.1,0)
 rw[List.append_nil] at this
 rw[List.nil_append,this]
 unfold φ6n
 have eo:ownL 5 0 (((l++[z]).map fun x=>((id,x):φB))++B)=ownL 5 0 B:=by
  have:=hA 5 0 (.inr rfl)
  unfold ownL at *
  rw[List.foldl_append,this]
 rw[eo]
theorem φ5e {d:φ1} {act:List φ6→Int×List φ6} (h:φ5 d=true) (hf:Free d):φW d act=(((act d.1).2,d.2),(act d.1).1):=by
 have:=φ5K (d:=d) (c:=d.2.1) h (by rw[show d.2=(d.2.1,d.2.2) from rfl,show d.2.2=(-1,false) from hf]) act
 rw[this]
 congr 2
 rw[show d.2=(d.2.1,d.2.2) from rfl,show d.2.2=(-1,false) from hf]
theorem φBb {d:φ1} (h:φ5 d=true) (hf:Free d) {n:List UInt8} (hn:(φ2 d n).2=true):(φN n d).2=0:=by
 obtain ⟨i,hi,e,_⟩:=φ94 hn
 show (φW d (φ2a n)).2=0
 rw[φ5e h hf]
 unfold φ2a
 rw[e]
theorem φKh {d:φ1} (h:φ5 d=true) (hf:Free d) (n:List UInt8):(φF n d).2=0:=by
 unfold φF
 split
 ·rename_i c
  show (φW d (φ2X n)).2=0
  rw[φ5e h hf]
  unfold φ2X
  rcases φz d.1 n with ⟨e,_⟩ | ⟨i,hi,e,_⟩
  ·rw[e] at c;simp at c
  ·rw[φ16 e]
 ·rfl
theorem φAO:∀(names:List (List UInt8)) {w:φH},φ5 w.1=true→Free w.1→w.2=0→(φh names w).2=0
 | [],w,_,_,h=>h
 | n::names,w,hk,hf,h=>by
  have e:φI (φF n) w=φF n w.1:=by unfold φI;rw[if_pos h]
  show (φh names (φI (φF n) w)).2=0
  rw[e]
  exact φAO names (φ2U hk n) (φ5E (P:=Free) (fun d act k=>φ1Y k) n hf) (φKh hk hf n)
theorem φFx {id mark:Int}:∀(l:List φ1S) (p:Option (List UInt8)),(∀x∈l,x.2.2.1=4∧x.2.2.2.1≤mark)→srt (l.map (entS id))→(∀q,p=some q→∀x∈l,Op.bytesLess q x.2.2.2.2.1=true)→φ2Z mark p l=true
 | [],_,_,_,_=>rfl
 | x::l,p,h,hs,hp=>by
  obtain ⟨h4,hb⟩:=h x (by simp)
  obtain ⟨s1,s2⟩:=List.pairwise_cons.1 hs
  simp only[φ2Z,bA,beq_iff_eq,Bool.not_eq_true',decide_eq_false_iff_not]
  refine ⟨h4,by omega,?_,φFx l _ (fun y hy=>h y (by simp[hy])) s2 fun q hq y hy=>?_⟩
  ·cases p with
   | none=>rfl
   | some q=>exact hp q rfl x (by simp)
  ·simp only[Option.some.injEq] at hq
   subst hq
   exact s1 (entS id y) (mM.2 ⟨y,hy,rfl⟩)
theorem φKp {id:Int} {t:List UInt8} {l:List φ1S} {z:φ1S} (hs:scan t=(l++[z],t.length)) (hi:1≤id∧id≤100000) (z5:z.2.2.1=5) (hf:φ2j z.2.2 (l.map (·.2.2))=true) (hr:φ2Z z.2.2.2.1 none l=true) :
  φ17 id t=(((t.length:Int),z.2.2.2.1,l.map (entS id)),true):=by
 unfold φ17
 have e1:(l++[z]).length - 1=l.length:=by simp
 have e2:(l++[z]).getD l.length φ27=z:=by simp
 have e3:(l++[z]).take l.length=l:=by simp
 simp only[hs,e1,e2,e3]
 rw[if_neg]
 simp only[not_or,Bool.not_eq_false,ne_eq,Decidable.not_not]
 exact ⟨by simp,trivial,hi,z5,hf,hr⟩
theorem φCf (m:Int):∀(recs:List RecT) (a:Nat),(∀r∈recs,r.1=4)→φw m (a:Int) recs=(φ1Q a recs).map (entS m)
 | [],_,_=>rfl
 | r::recs,a,h=>by
  have h4:=h r (by simp)
  have ih:=φCf m recs (a+(fr r).length) fun x hx=>h x (by simp[hx])
  rw[φw,if_pos h4,φ1Q,List.map_cons,←ih]
  have:((a+(fr r).length:Nat):Int)=(a:Int)+((frame (φ7 r)).length:Int):=by simp only[fr];omega
  rw[this]
  rfl
theorem φF6 {p:RecT→Prop}:∀(recs:List RecT) (a:Nat),(∀r∈recs,p r)→∀x∈φ1Q a recs,p x.2.2
 | [],_,_,x,hx=>by simp[φ1Q] at hx
 | r::recs,a,h,x,hx=>by
  rw[φ1Q] at hx
  rcases mc.1 hx with rfl | hx
  ·exact h r (by simp)
  ·exact φF6 recs _ (fun y hy=>h y (by simp[hy])) x hx
theorem φEX:∀(recs:List RecT) (a:Nat),∀x∈φ1Q a recs,x.1≤((a+(txt recs).length:Nat):Int)
 | [],_,x,hx=>by simp[φ1Q] at hx
 | r::recs,a,x,hx=>by
  rw[φ1Q] at hx
  rw[φ3R,lA]
  rcases mc.1 hx with rfl | hx
  ·show (a:Int)≤_
   omega
  ·have:=φEX recs _ x hx
   omega
theorem φK0 {s S:φA} {d y:φ1} (h:φo s d=true) (h2:s.1.1+2≤100000) (hM:Merged s d (φT s d).1 S y) :
  φ17 s.1.1 (txt (φb (φT s d).1 (s.2.2.1 - 1)))=((((txt (φb (φT s d).1 (s.2.2.1 - 1))).length:Int),s.2.2.1 - 1,S.2.1),true)∧φ2J (((txt (φb (φT s d).1 (s.2.2.1 - 1))).length:Int),s.2.2.1 - 1,S.2.1)=true:=by
 obtain ⟨m1,m2,m3,m4⟩:=φAL h h2 hM
 obtain ⟨q1,q2,q3,q4,q5,q6⟩:=φ15.1 h
 obtain ⟨k1,k2,k3,k4⟩:=(φ12 s.1).1 q2
 have hkeep:=φFq h
 have hbat:=φDh h
 have hl20:(φT s d).1.length≤20:=by have:=φ95 s d;have:=(φ3x q3).1;omega
 have hdir:=(φ15.1 m1).2.2.1
 have hone:=hM.one
 have htl:=φ5I hM.dk (φ0 s.1.1)
 rw[hone] at htl
 have hst:=hM.st
 generalize (φT s d).1=l at *
 have hents:S.2.1=(φ1Q 0 (l.map φQ)).map (entS s.1.1):=by
  rw[hst]
  show φw s.1.1 0 (φb l (s.2.2.1 - 1))=_
  have e:φw s.1.1 0 (φb l (s.2.2.1 - 1))=φw s.1.1 0 (l.map φQ):=φ7s s.1.1 _ (show (5:Int)≠4 by decide) _ _
  rw[e]
  exact φCf s.1.1 (l.map φQ) 0 fun r hr=>(hkeep r hr).2
 have hmk:φc (5,s.2.2.1 - 1,[],[],(l.length:Int),φ1I (l.map φQ))=true:=φD4 (by omega) (by omega) (φ4i _)
 have hall:∀r∈φb l (s.2.2.1 - 1),φc r=true:=fun r hr=>by
  unfold φb at hr
  rcases mA.1 hr with hr | hr
  ·exact (hkeep r hr).1
  ·rw[mZ.1 hr];exact hmk
 have hsc:=φ8a hall
 have hk:∀x∈φ1Q 0 (l.map φQ),x.2.2.1=4∧x.2.2.2.1≤s.2.2.1 - 1:=φF6 (p:=fun r=>r.1=4∧r.2.1≤s.2.2.1 - 1) (l.map φQ) 0 fun r hr=>by
  refine ⟨(hkeep r hr).2,?_⟩
  obtain ⟨p,hp,rfl⟩:=mM.1 hr
  have:=hbat p hp
  show p.2.2≤_
  omega
 have hsrt:srt ((φ1Q 0 (l.map φQ)).map (entS s.1.1)):=by rw[←hents];exact φ5L hdir
 refine ⟨?_,?_⟩
 ·rw[hents]
  refine φKp (id:=s.1.1) (l:=φ1Q 0 (l.map φQ)) (z:=(((0+(txt (l.map φQ)).length:Nat):Int),((fr (5,s.2.2.1 - 1,[],[],(l.length:Int),φ1I (l.map φQ))).length:Int),(5,s.2.2.1 - 1,[],[],(l.length:Int),φ1I (l.map φQ)))) ?_ ⟨by omega,by omega⟩ rfl ?_ ?_
  ·rw[hsc]
   unfold φb
   rw[φ9s]
   rfl
  ·rw[φFD]
   unfold φ2j
   simp
  ·exact φFx (id:=s.1.1) _ none hk hsrt fun q hq=>by simp at hq
 ·unfold φ2J
  simp only[bA,decide_eq_true_eq]
  have hlen:((txt (φb l (s.2.2.1 - 1))).length:Int)≤100000:=by simp only at htl;omega
  refine ⟨List.all_eq_true.2 fun e he=>?_,⟨Int.natCast_nonneg _,hlen⟩,⟨by show 0≤s.2.2.1 - 1;omega,by show s.2.2.1 - 1≤1000000;omega⟩,hdir⟩
  have he:e∈S.2.1:=he
  have hseg:∀e∈S.2.1,e.2.1=s.1.1∧e.2.2.1≤100000:=fun e he=>by
   rw[hents] at he
   obtain ⟨x,hx,rfl⟩:=mM.1 he
   refine ⟨rfl,?_⟩
   have:=φEX (l.map φQ) 0 x hx
   have hle:(txt (l.map φQ)).length≤(txt (φb l (s.2.2.1 - 1))).length:=by
    unfold φb;rw[φIs,lA];omega
   show x.1≤100000
   omega
  have hpos:=List.length_pos_of_mem he
  have hg:(S.2.1.getD 0 ([],0,0,0,0)).2.1=s.1.1:=by
   rw[φ8 hpos];exact (hseg _ (gM hpos)).1
  unfold φ4N
  simp only
  rw[hg,(hseg e he).1]
  have:=(hseg e he).2
  simp;omega
theorem Free.up {d:φ1} (h:Free d):d.2.2.2=false:=by rw[show d.2.2=(-1,false) from h]
theorem φMH {d:φ1} (h:φ5 d=true) {l:List φ6} (hs:l.Sublist d.1):φ5 (l,d.2)=true:=by
 obtain ⟨h1,h2,h3,h4,h5,h6⟩:=(φ3f d).1 h
 have hl:=hs.length_le
 have hu:φO l≤φO d.1:=φ70 _ hs
 rw[φ3f]
 exact ⟨h1,h2,by show l.length≤_;omega,by show (φO l:Int)≤d.2.1;omega,fun f hf=>h5 f (hs.subset hf),h6.sublist hs⟩
theorem φHZ {l:List φ6} (hp:l.Pairwise fun a b=>Op.bytesLess a.1 b.1=true) {i:Nat} (hi:i<l.length):∀j,(hj:j<l.length)→j≠i→l[j].1≠l[i].1:=fun j hj hne e=>by
 rcases Nat.lt_or_gt_of_ne hne with h | h
 ·have:=List.pairwise_iff_getElem.1 hp j i hj hi h
  rw[e,φ4u] at this;simp at this
 ·have:=List.pairwise_iff_getElem.1 hp i j hi hj h
  rw[e,φ4u] at this;simp at this
theorem φKO {l:List φ6} (hp:l.Pairwise fun a b=>Op.bytesLess a.1 b.1=true) {i:Nat} (hi:i<l.length) {n:List UInt8} (hn:l[i].1=n) (g:φ6→φ6):l.set i (g l[i])=l.map fun f=>if f.1=n then g f else f:=by
 refine List.ext_getElem (by simp) fun j h1 h2=>?_
 rw[List.getElem_map,List.getElem_set]
 have hj:j<l.length:=by simpa using h1
 by_cases c:i=j
 ·subst c;rw[if_pos rfl,if_pos hn]
 ·rw[if_neg c,if_neg]
  intro e
  exact φHZ hp hi j hj (fun e2=>c e2.symm) (e.trans hn.symm)
theorem φKq {l:List φ6} (hp:l.Pairwise fun a b=>Op.bytesLess a.1 b.1=true) {i:Nat} (hi:i<l.length) {n:List UInt8} (hn:l[i].1=n):φl l i=l.filter fun f=>!(f.1==n):=by
 induction l generalizing i with
 | nil=>simp at hi
 | cons x l ih=>
  obtain ⟨h1,h2⟩:=List.pairwise_cons.1 hp
  cases i with
  | zero=>
   have hx:x.1=n:=hn
   have e:l.filter (fun f=>!(f.1==n))=l:=List.filter_eq_self.2 fun f hf=>by
    have:=φ5f (h1 f hf)
    simp only[Bool.not_eq_true',beq_eq_false_iff_ne,ne_eq]
    intro e;exact this (hx.trans e.symm)
   rw[List.filter_cons_of_neg (by simp[hx]),e]
   simp[φl]
  | succ i=>
   have hi':i<l.length:=by simpa using hi
   have hx:x.1≠n:=fun e=>by
    have:=h1 l[i] (gM hi')
    have hn:l[i].1=n:=hn
    rw[e,hn,φ4u] at this;simp at this
   rw[List.filter_cons_of_pos (by simpa using hx),←ih h2 hi' hn]
   simp[φl]
def φ7S (f:φ6):φ6:=(f.1,f.2.1,(f.2.1.length:Int))
def onF (n:List UInt8) (g:φ6→φ6) (l:List φ6):List φ6:=l.map fun f=>if f.1=n then g f else f
theorem φLJ {d:φ1} (h:φ5 d=true) (hf:Free d) {n:List UInt8} (hn:(φ2 d n).2=true):φN n d=((onF n φ7S d.1,d.2),0):=by
 obtain ⟨i,hi,e,hx,_⟩:=φ94 hn
 show φW d (φ2a n)=_
 rw[φ5e h hf]
 unfold φ2a
 rw[e]
 simp only[φ8 hi]
 congr 2
 exact φKO (φ6K h) hi hx φ7S
theorem φJM {d:φ1} (h:φ5 d=true) (hf:Free d) (n:List UInt8):φF n d=((d.1.filter (fun f=>!(f.1==n)),d.2),0):=by
 unfold φF
 rcases φz d.1 n with ⟨e,hno⟩ | ⟨i,hi,e,hx⟩
 ·rw[e,if_neg (by simp)]
  have:d.1.filter (fun f=>!(f.1==n))=d.1:=List.filter_eq_self.2 fun f hf=>by simpa using hno f hf
  rw[this]
 ·rw[e,if_pos (by omega)]
  show φW d (φ2X n)=_
  rw[φ5e h hf]
  unfold φ2X
  rw[φ16 e]
  simp only
  rw[φKq (φ6K h) hi hx]
theorem φCp:∀(names:List (List UInt8)) {d:φ1},φ5 d=true→Free d→φh names (d,0)=((d.1.filter (fun f=>!(names.any fun n=>f.1==n)),d.2),0)
 | [],d,_,_=>by
  show (d,(0:Int))=_
  have:d.1.filter (fun f=>!(([]:List (List UInt8)).any fun n=>f.1==n))=d.1:=List.filter_eq_self.2 fun f hf=>by simp
  rw[this]
 | n::names,d,h,hf=>by
  show φh names (φI (φF n) (d,0))=_
  have e:φI (φF n) (d,0)=φF n d:=by unfold φI;rw[if_pos rfl]
  rw[e,φJM h hf,φCp names (φMH h List.filter_sublist) hf]
  simp only[List.filter_filter]
  congr 2
  refine List.filter_congr fun f _=>?_
  simp[Bool.not_or,Bool.and_comm]
theorem φMc {d:φ1} (h:φ5 d=true) (hf:Free d) (v:φS):φ13 v d=((d.1.filter (fun f=>!φ4T v f),d.2),0):=by
 unfold φ13
 rw[φCp _ h hf]
 congr 2
 refine List.filter_congr fun f hf=>?_
 unfold φ2u
 rw[if_neg (by rw[h];simp)]
 congr 1
 have hB:∀g:φ6,g.1=f.1→φ4T v g=φ4T v f:=fun g e=>by unfold φ4T;rw[e]
 cases ho:φ4T v f with
 | true=>
  refine List.any_eq_true.2 ⟨f.1,mM.2 ⟨f,List.mem_filter.2 ⟨hf,ho⟩,rfl⟩,by simp⟩
 | false=>
  refine List.any_eq_false.2 fun n hn=>?_
  obtain ⟨g,hg,rfl⟩:=mM.1 hn
  intro e
  have e:f.1=g.1:=by simpa using e
  have:=hB g e.symm
  rw[(List.mem_filter.1 hg).2,ho] at this
  simp at this
theorem φJN {s:φA} {d:φ1} (h:SmallS s d) (l:List PutT) (hl:l.length≤1000):ψ2B.f s d l=some (φ2K s d l):=by
 obtain ⟨hd,hu⟩:=h.lim
 have h1:=h.ids
 have h2:=h.dir
 have h3:=h.sm.1
 unfold ψ2B.f φ2K
 simp only[φFk s d hd hu (show s.1.2.length<1000000000 by omega) (show s.2.1.length<1000000000 by omega),φ9h s (show s.1.2.length<1000000000 by omega) (show s.2.1.length<1000000000 by omega),φ4y d (show d.1.length<1000000000000 by omega),φ9B l (show l.length<2 ^ 62 by omega),φMg s.2.1 l (show s.2.1.length<100000000 by omega) (show l.length<100000000 by omega),bS]
 cases hk:φo s d with
 | false=>simp
 | true=>
  obtain ⟨q1,q2,q3,q4,q5⟩:=φ56 hk
  have hg:=φAk hk
  have hd20:s.2.1.length≤20:=(φ3x q3).1
  cases hp:φ1m l with
  | false=>simp
  | true=>
   have hl8:l.length≤8:=by
    unfold φ1m at hp
    simp only[bA,decide_eq_true_eq] at hp
    exact hp.1
   simp only[nZ,cF,Bool.true_eq_false,or_self,if_false]
   by_cases e1:l.length=0
   ·have d1:((l.length:Int)==0)=true:=by rw[e1];rfl
    simp only[d1,cT]
    rw[if_pos e1]
   have d1:((l.length:Int)==0)=false:=by
    have:¬(l.length:Int)=0:=by omega
    simpa using this
   simp only[d1,cF]
   rw[if_neg e1]
   by_cases e2:(φ35 s.2.1 l:Int) > 20
   ·simp only[e2,dT,cT]
    rw[if_pos (.inl (by omega))]
   simp only[e2,dF,cF]
   by_cases e3:s.2.2.1 > 1000000
   ·simp only[e3,dT,cT]
    rw[if_pos (.inr trivial)]
   rw[if_neg (by omega)]
   simp only[e3,dF,cF,φHC hg (by omega) l (by omega) hp (by omega) (by omega),bS]
theorem φMB {v:φS} (h:φm v=true):∃r,v.2=v.2.getD 0 0::r∧v.2.drop 1=r∧(1≤v.2.getD 0 0∧v.2.getD 0 0≤100000):=by
 have hr:=fun id=>φBY (id:=id) h
 obtain ⟨k1,k2,k3,k4⟩:=(φ12 v).1 h
 obtain ⟨a,l⟩:=v
 cases l with
 | nil=>simp at k3
 | cons i r=>
  have:=hr i (by simp)
  exact ⟨r,rfl,rfl,this.1,this.2.1⟩
theorem φDc {v:φS} {d:φ1} (h:φ5 d=true) (hl:(φ2 d (φ0 (φL v.2))).2=true) (hc:(cutW v d).2=0) (ids:List Int):φR (cutW v d).1 ids=φR d ids:=by
 unfold φR
 congr 1
 funext id
 exact φMz h hl hc id
theorem φHN {v:φS} {d:φ1} (h:φ5 d=true) (hv:φm v=true) (hl:(φ2 d (φ0 (φL v.2))).2=true) (hc:(cutW v d).2=0) :
  ∃hin,φ4p v d=φ4k v (cutW v d).1 (cutN v d:Int) (φ1y ([],0,0) (φR d v.2)) hin∧(φ2Q (cutW v d).1 (v.2.getD 0 0)=none→hin=0):=by
 rw[φBy,if_neg (by rw[hc];simp)]
 obtain ⟨r,er,ed,hr⟩:=φMB hv
 cases hg:φ2Q (cutW v d).1 (v.2.getD 0 0) with
 | none=>
  refine ⟨0,?_,fun _=>rfl⟩
  simp only
  rw[φDc h hl hc]
 | some g=>
  refine ⟨v.2.getD 0 0,?_,fun e=>by simp at e⟩
  simp only
  congr 1
  have e1:=φDc h hl hc v.2
  unfold φ2Q at hg
  split at hg
  ·rename_i c
   obtain ⟨_,c2,c3⟩:=c
   rcases φDV (φ2 (cutW v d).1 (φM (v.2.getD 0 0))).1 with ⟨e,_⟩ | ⟨H,e,hH⟩
   ·rw[e] at c2;simp at c2
   rw[e] at hg c3
   simp only[Option.some.injEq] at hg
   have c3:φ17 (v.2.getD 0 0) (φ2 (cutW v d).1 (φ0 (v.2.getD 0 0))).1=(H,true):=by
    unfold φ6z at c3
    simpa using c3
   have hok:=hH.1
   unfold φ2J at hok
   simp only[bA,decide_eq_true_eq] at hok
   have:=φKE c3 hok.2.2.2 hok.2.2.1.1 (φR (cutW v d).1 (v.2.drop 1))
   rw[←hg,←this,←e1]
   conv=>rhs;rw[er]
   rw[ed]
   rfl
  ·simp at hg
theorem φHr {t:List UInt8} (h:φ2V t) {r:RecT} (hr:φc r=true):(scan (t++fr r)).1=(scan t).1++[((t.length:Int),((fr r).length:Int),r)]:=by
 obtain ⟨rs,h1,rfl⟩:=(φ92 t).1 h
 have h2:∀x∈rs++[r],φc x=true:=fun x hx=>by
  rcases mA.1 hx with hx | hx
  ·exact h1 x hx
  ·rw[mZ.1 hx];exact hr
 have e:=φ8a h2
 rw[φAz] at e
 rw[e,φ8a h1,φ9s]
 simp[φ1Q]
theorem φ9n (d:φ1) (a b:List Int):φR d (a++b)=φR d a++φR d b:=List.flatMap_append
theorem φ88 (d:φ1) (i:Int):φR d [i]=φ1u d i:=by unfold φR;simp
theorem φ6g {d d':φ1} {ids:List Int} (h:∀id∈ids,φ2 d' (φ0 id)=φ2 d (φ0 id)):φR d' ids=φR d ids:=by
 induction ids with
 | nil=>rfl
 | cons i ids ih=>
  have e1:φR d' (i::ids)=φ1u d' i++φR d' ids:=by unfold φR;simp
  have e2:φR d (i::ids)=φ1u d i++φR d ids:=by unfold φR;simp
  rw[e1,e2,ih fun id hid=>h id (by simp[hid])]
  unfold φ1u
  rw[h i (by simp)]
theorem φId {l:List Int} (h:l≠[]):l=l.take (l.length - 1)++[φL l]:=by
 have hl:l.length - 1<l.length:=by have:=List.length_pos_iff.2 h;omega
 unfold φL
 rw[φ8 hl]
 have:=List.take_succ_eq_append_getElem hl
 rw[show l.length - 1+1=l.length by omega,List.take_length] at this
 exact this
theorem φHs {d d':φ1} {ids:List Int} (hne:ids≠[]) (hp:ids.Pairwise (·<·)) {r:RecT} (hr:φc r=true) (hw:φ2V (φ2 d (φ0 (φL ids))).1)
  (h1:φ2 d' (φ0 (φL ids))=((φ2 d (φ0 (φL ids))).1++fr r,true)) (h2:∀id∈ids,id≠φL ids→φ2 d' (φ0 id)=φ2 d (φ0 id)) :
  φR d' ids=φR d ids++[((φL ids,((φ2 d (φ0 (φL ids))).1.length:Int),((fr r).length:Int),r):φB)]:=by
 have e:=φId hne
 have hin:∀id∈ids.take (ids.length - 1),id≠φL ids∧id∈ids:=fun id hid=>by
  rw[e] at hp
  have:=(List.pairwise_append.1 hp).2.2 id hid (φL ids) (by simp)
  exact ⟨by omega,List.mem_of_mem_take hid⟩
 have e3:φR d' (ids.take (ids.length - 1))=φR d (ids.take (ids.length - 1)):=φ6g fun id hid=>h2 id (hin id hid).2 (hin id hid).1
 have e4:φ1u d' (φL ids)=φ1u d (φL ids)++[((φL ids,((φ2 d (φ0 (φL ids))).1.length:Int),((fr r).length:Int),r):φB)]:=by
  unfold φ1u
  rw[h1,φHr hw hr,mp]
  rfl
 conv=>lhs;rw[e]
 conv=>rhs;rw[e]
 rw[φ9n,φ9n,e3,φ88,φ88]
 have e5:φL (ids.take (ids.length - 1)++[φL ids])=φL ids:=φLq _ _
 rw[e5,e4,aA]
def φIo (s:φA) (d:φ1):Prop:=∃nx,nx≤s.1.1∧φm (nx,s.1.2)=true∧φ2 d φn=(φ10 (nx,s.1.2),true)
structure JB (s:φA) (d:φ1):Prop where
 ok:φo s d=true
 lt:φ49 s
 liv:φIo s d
 fre:Free d
structure Grow (s:φA) (d:φ1) (s':φA) (d':φ1) (P:List φB):Prop where
 jb:JB s' d'
 dir:s'.2.1=s.2.1
 bat:s'.2.2.1=s.2.2.1
 pl:φR d' s'.1.2=φR d s.1.2++P
 kp:φ2i s.1.1 d d'
 nxt:s.1.1≤s'.1.1
theorem Grow.refl {s:φA} {d:φ1} (h:JB s d):Grow s d s d []:=⟨h,rfl,rfl,by simp,fun _ _ _ _=>rfl,Int.le_refl _⟩
theorem Grow.trans {s s' s'':φA} {d d' d'':φ1} {P Q:List φB} (h:Grow s d s' d' P) (k:Grow s' d' s'' d'' Q):Grow s d s'' d'' (P++Q):=
 ⟨k.jb,by rw[k.dir,h.dir],by rw[k.bat,h.bat],by rw[k.pl,h.pl,aA],h.kp.trans k.kp h.nxt,by have:=h.nxt;have:=k.nxt;omega⟩
theorem φJD {d:φ1} (h:φ5 d=true) (hf:Free d) (n t:List UInt8) (hc:(φU n t d).2≠0):(φU n t d).1=d:=by
 unfold φU at hc ⊢
 rw[φ5e h hf] at hc ⊢
 unfold φ2f at hc ⊢
 cases e:d.1.findIdx? (fun f=>f.1==n) with
 | none=>rfl
 | some i=>
  rw[e] at hc
  simp only at hc ⊢
  split
  ·rfl
  ·rename_i c
   rw[if_neg c] at hc
   exact absurd rfl hc
theorem φFF {v:φS} {w:φH} (h:φ5 w.1=true) (hf:Free w.1) (hc:(sPut v w).2≠0):φ2 (sPut v w).1 φn=φ2 w.1 φn:=by
 have hk:=φ4L h [116,101,109,112] (φ10 v)
 have hF:Free (φ1f [116,101,109,112] (φ10 v) w).1:=φ7n (P:=Free) (fun d act k=>φ1Y k) _ _ hf
 have e1:φ2 (φ1f [116,101,109,112] (φ10 v) w).1 φn=φ2 w.1 φn:=φ58 h (show φn≠[116,101,109,112] by decide)
 unfold sPut at hc ⊢
 unfold φI at hc ⊢
 by_cases c:(φ1f [116,101,109,112] (φ10 v) w).2=0
 ·rw[if_pos c] at hc
  exfalso
  obtain ⟨_,ht⟩:=φ9H c
  obtain ⟨i,hi,e,hx,_⟩:=φ94 (by rw[ht])
  apply hc
  show (φW _ (φ2n [116,101,109,112] [108,105,118,101])).2=0
  rw[φ5e hk hF]
  unfold φ2n
  rw[if_neg (by decide),e]
 ·rw[if_neg c]
  exact e1
theorem φDW {hi hi':Int} (h1:hi≤hi'):∀(l:List Int) (p:Option Int),φ1X hi p l=true→φ1X hi' p l=true
 | [],p,h=>h
 | x::l,p,h=>by
  simp only[φ1X,bA,decide_eq_true_eq] at h ⊢
  exact ⟨⟨h.1.1,by omega⟩,h.2.1,φDW h1 l _ h.2.2⟩
theorem φC3 {a b:Int} {ids:List Int} (h:φm (a,ids)=true) (hab:a≤b) (hb:b≤100000):φm (b,ids)=true:=by
 obtain ⟨k1,k2,k3,k4⟩:=(φ12 (a,ids)).1 h
 have k2:1≤a∧a≤100000:=k2
 rw[φE (by simp only;omega) (by simp only;omega)] at k1
 refine (φ12 (b,ids)).2 ⟨?_,⟨by show 1≤b;omega,hb⟩,k3,k4⟩
 rw[φE (by simp only;omega) (by simp only;omega)]
 exact φDW (by simp only;omega) _ _ k1
theorem φL9 {s:φA} {d:φ1} (h:JB s d) (hc:(rotP s d).2.2≠0):(rotP s d).1.1.2=s.1.2∧(rotP s d).1.2=s.2∧s.1.1≤(rotP s d).1.1.1∧(rotP s d).1.1.1≤100000∧φ2 (rotP s d).2.1 φn=φ2 d φn:=by
 obtain ⟨q1,q2,q3,q4,q5,q6⟩:=φ15.1 h.ok
 obtain ⟨k1,k2,k3,k4⟩:=(φ12 s.1).1 q2
 have hF:=h.fre
 obtain ⟨g1,g2⟩:=(φ2d _).1 q5
 have hex:(φ2 d (actN s)).2=true:=(g1 _ (φ4H (φ77 q2))).1
 have hs:=φ36 q1 (actN s)
 have hsF:Free (φN (actN s) d).1:=φ1Y hF
 have hs0:=φBb q1 hF hex
 have hg:=φ2U hs (φ0 s.1.1)
 have hgF:Free (φF (φ0 s.1.1) (φN (actN s) d).1).1:=φ5E (P:=Free) (fun d act k=>φ1Y k) _ hsF
 have hcd:φ5 (φI (φa (φ0 s.1.1)) (φF (φ0 s.1.1) (φN (actN s) d).1)).1=true:=φ1e (op:=φa _) hg fun k=>φ34 k _
 have hcF:Free (φI (φa (φ0 s.1.1)) (φF (φ0 s.1.1) (φN (actN s) d).1)).1:=φ3U (P:=Free) (fun d act k=>φ1Y k) (fun d k=>φ1Y k) hgF
 have hl1:φ2 (φI (φa (φ0 s.1.1)) (φF (φ0 s.1.1) (φN (actN s) d).1)).1 φn=φ2 d φn:=by
  rw[φ2c (op:=φa _) (φAY hg (φ2N _).symm),φ4e hs (φ2N _).symm,φ2e q1]
 unfold rotP at hc ⊢
 split
 ·exact ⟨rfl,rfl,Int.le_refl _,k2.2,rfl⟩
 rename_i c0
 rw[if_neg c0] at hc
 rw[if_neg (by rw[hs0];simp)] at hc ⊢
 simp only at hc ⊢
 split
 ·refine ⟨rfl,rfl,by show s.1.1≤s.1.1+1;omega,by show s.1.1+1≤100000;omega,hl1⟩
 rename_i c2
 rw[if_neg c2] at hc
 split
 ·rename_i c3
  refine ⟨rfl,rfl,by show s.1.1≤s.1.1+1;omega,by show s.1.1+1≤100000;omega,?_⟩
  generalize (φI (φa (φ0 s.1.1)) (φF (φ0 s.1.1) (φN (actN s) d).1))=w2 at *
  have c3':(sPut (s.1.1+1,s.1.2++[s.1.1]) (w2.1,0)).2≠0:=fun e=>c3 ((φ1L _).2 e)
  have hp:=φ3r (v:=(s.1.1+1,s.1.2++[s.1.1])) (w:=(w2.1,0)) hcd
  rw[φ8g (w:=φC (sPut (s.1.1+1,s.1.2++[s.1.1]) (w2.1,0))) hp (fun m hm=>by
   simp only[mc,List.not_mem_nil,or_false] at hm
   rcases hm with rfl | rfl
   ·decide
   ·exact (φ2N _).symm)]
  show φ2 (sPut (s.1.1+1,s.1.2++[s.1.1]) (w2.1,0)).1 φn=_
  rw[φFF (w:=(w2.1,0)) hcd hcF c3']
  exact hl1
 ·rename_i c3
  rw[if_neg c3] at hc
  exact absurd rfl hc
theorem φEK {s:φA} {d:φ1} (hF:Free d):Free (rotP s d).2.1:=by
 have hsF:Free (φN (actN s) d).1:=φ1Y hF
 have hgF:Free (φF (φ0 s.1.1) (φN (actN s) d).1).1:=φ5E (P:=Free) (fun d act k=>φ1Y k) _ hsF
 have hcF:Free (φI (φa (φ0 s.1.1)) (φF (φ0 s.1.1) (φN (actN s) d).1)).1:=φ3U (P:=Free) (fun d act k=>φ1Y k) (fun d k=>φ1Y k) hgF
 have hpF:Free (sPut (s.1.1+1,s.1.2++[s.1.1]) ((φI (φa (φ0 s.1.1)) (φF (φ0 s.1.1) (φN (actN s) d).1)).1,0)).1:=φBa (P:=Free) (fun d act k=>φ1Y k) _ hcF
 unfold rotP
 split
 ·exact hF
 split
 ·exact hsF
 simp only
 split
 ·exact hcF
 split
 ·unfold φ1c
  have:=φ67 (P:=Free) (fun d act k=>φ1Y k) [[116,101,109,112],φ0 s.1.1] (w:=((φC (sPut (s.1.1+1,s.1.2++[s.1.1]) ((φI (φa (φ0 s.1.1)) (φF (φ0 s.1.1) (φN (actN s) d).1)).1,0))).1,0)) hpF
  split
  ·split
   ·exact this
   ·exact this
  ·exact hpF
 ·exact hpF
theorem φJd {s:φA} {d:φ1} (h:φ5 d=true) (hc:(rotP s d).2.2=0):φ2 (rotP s d).2.1 φn=(φ10 (s.1.1+1,s.1.2++[s.1.1]),true):=by
 unfold rotP at hc ⊢
 split
 ·rename_i c;rw[if_pos c] at hc;simp at hc
 rename_i c0
 rw[if_neg c0] at hc
 split
 ·rename_i c;rw[if_pos c] at hc;exact absurd ((φ1L _).1 hc) c
 rename_i c1
 rw[if_neg c1] at hc
 simp only at hc ⊢
 split
 ·rename_i c;rw[if_pos c] at hc;exact absurd ((φ1L _).1 hc) c
 rename_i c2
 rw[if_neg c2] at hc
 split
 ·rename_i c
  rw[if_pos c] at hc
  exfalso
  revert hc
  unfold φ1c
  split
  ·split
   ·simp
   ·rename_i c4;exact c4
  ·exact c
 ·rename_i c
  have c:(sPut (s.1.1+1,s.1.2++[s.1.1]) ((φI (φa (φ0 s.1.1)) (φF (φ0 s.1.1) (φN (actN s) d).1)).1,0)).2=0:=(φ1L _).1 (Decidable.not_not.1 c)
  exact (φD9 c).2
theorem φMj {s:φA} {d:φ1} (h:JB s d):Grow s d (rotP s d).1 (rotP s d).2.1 []:=by
 obtain ⟨q1,q2,q3,q4,q5,q6⟩:=φ15.1 h.ok
 obtain ⟨k1,k2,k3,k4⟩:=(φ12 s.1).1 q2
 rw[φE (by omega) (by omega)] at k1
 have hids:=φ3g _ _ k1
 obtain ⟨r1,r2,r3,r4,r5,r6⟩:=φ8h q1 q2
 have hkp:=φFp (s:=s) q1 k2.2
 have hft:∀id∈s.1.2,φ2 (rotP s d).2.1 (φ0 id)=φ2 d (φ0 id):=fun id hid=>by
  have:=hids id hid
  rcases φA7 (s:=s) q1 with ⟨_,e2⟩ | ⟨_,_,e2⟩
  ·exact e2 _
  ·exact e2 _ (fun hh=>by have:=φ3p (by omega) (by omega) hh;omega) (φ43 _) (φ2N _)
 have hpl:=φ6g hft
 by_cases c:(rotP s d).2.2=0
 ·have hx:∀e∈s.2.1,e.2.1≠s.1.1:=fun e he=>by have:=h.lt e he;omega
  obtain ⟨e1,e2,e3,e4⟩:=φBf q1 c
  refine ⟨⟨(φDS h.ok hx c).1,fun e he=>?_,⟨s.1.1+1,by rw[e1];exact Int.le_refl _,by rw[e1];have:=r5 c;rw[e1] at this;exact this,by rw[φJd q1 c,e1]⟩,φEK h.fre⟩,r3,r4,?_,hkp,by rw[e1];show s.1.1≤s.1.1+1;omega⟩
  ·rw[r3] at he
   have:=h.lt e he
   rw[e1];show e.2.1<s.1.1+1;omega
  ·have ei:(rotP s d).1.1.2=s.1.2++[s.1.1]:=by rw[e1]
   rw[ei,φ9n,hpl,φ88]
   unfold φ1u
   rw[e2,φ7X]
   rfl
 ·obtain ⟨f1,f2,f3,f4,f5⟩:=φL9 h c
  obtain ⟨nx,n1,n2,n3⟩:=h.liv
  have hlv:φm (rotP s d).1.1=true:=by
   have:=φC3 (a:=s.1.1) (ids:=s.1.2) q2 f3 f4
   rw[←f1] at this
   exact this
  refine ⟨⟨φ15.2 ⟨r1,hlv,by rw[f2];exact q3,by rw[f2];exact q4,?_,?_⟩,fun e he=>?_,⟨nx,by omega,by rw[f1];exact n2,by rw[f5,f1];exact n3⟩,φEK h.fre⟩,by rw[f2],by rw[f2],by rw[f1,hpl];simp,hkp,f3⟩
  ·rw[f2,f1]
   obtain ⟨g1,g2⟩:=(φ2d _).1 q5
   refine (φ2d _).2 ⟨fun id hid=>by rw[hft id hid];exact g1 id hid,fun hne=>by rw[hft _ (φ4H hne)];exact g2 hne⟩
  ·rw[f2]
   exact φ6e h.ok hkp h.lt (Int.le_refl _)
  ·rw[f2] at he
   have:=h.lt e he
   omega
def entP (p:φB):φ9:=(p.2.2.2.2.2.1,p.1,p.2.1,p.2.2.1,p.2.2.2.2.1)
theorem φMl {s:φA} {d:φ1} {r:RecT} (h:JB s d) (hr:φc r=true) :
  ((addP s d r).2.2.1=0→∃p:φB,Grow s d (addP s d r).1 (addP s d r).2.1 [p]∧p.2.2.2=r∧(addP s d r).2.2.2=entP p) ∧
  ((addP s d r).2.2.1≠0→Grow s d (addP s d r).1 (addP s d r).2.1 []):=by
 have hR:Grow s d (addR s d (frame (φ7 r))).1 (addR s d (frame (φ7 r))).2.1 []:=by
  unfold addR
  split
  ·exact φMj h
  ·exact Grow.refl h
 unfold addP
 generalize addR s d (frame (φ7 r))=R at *
 simp only
 by_cases c:R.2.2=0
 rotate_left
 ·rw[if_pos c]
  exact ⟨fun e=>absurd e c,fun _=>hR⟩
 rw[if_neg (by simpa using c)]
 have hJ:=hR.jb
 obtain ⟨q1,q2,q3,q4,q5,q6⟩:=φ15.1 hJ.ok
 by_cases c2:(φU (actN R.1) (frame (φ7 r)) R.2.1).2=0
 rotate_left
 ·rw[if_pos c2]
  refine ⟨fun e=>absurd ((φ1L _).1 e) c2,fun _=>?_⟩
  show Grow s d R.1 (φU (actN R.1) (frame (φ7 r)) R.2.1).1 []
  rw[φJD q1 hJ.fre _ _ c2]
  exact hR
 rw[if_neg (by simpa using c2)]
 refine ⟨fun _=>?_,fun e=>absurd rfl e⟩
 obtain ⟨a1,a2,a3⟩:=φGn hJ.ok hr c2
 obtain ⟨b1,b2⟩:=φ8i c2
 obtain ⟨g1,g2⟩:=(φ2d _).1 q5
 have hne:=φ77 q2
 have hl:=φBF q2
 have hlt:∀id∈R.1.1.2,1≤id∧id≤100000:=fun id hid=>by have:=φBY q2 hid;omega
 obtain ⟨nx,n1,n2,n3⟩:=hJ.liv
 have hsz:=g2 hne
 have hpm:=φHs (d:=R.2.1) (d':=(φU (actN R.1) (frame (φ7 r)) R.2.1).1) hne (φGa q2) hr (g1 _ (φ4H hne)).2 b2 (fun id hid hne2=>φ7A q1 (fun hh=>hne2 (φ3p (hlt id hid) ⟨hl.1,hl.2.2⟩ hh)))
 refine ⟨(φL R.1.1.2,((φ2 R.2.1 (φ0 (φL R.1.1.2))).1.length:Int),((fr r).length:Int),r),?_,rfl,?_⟩
 ·refine Grow.trans (P:=[]) hR ⟨⟨a1,hJ.lt,⟨nx,n1,n2,?_⟩,φ1Y hJ.fre⟩,rfl,rfl,hpm,fun e h1 h2 h3=>a2 e h1 (by have:=(φ12 _).1 q2;omega) h3,Int.le_refl _⟩
  show φ2 (φU (actN R.1) (frame (φ7 r)) R.2.1).1 φn=_
  rw[φ7A q1 (show φn≠actN R.1 from (φ2N _).symm)]
  exact n3
 ·unfold entP
  rw[hsz]
  rfl
theorem φBC:∀(rs:List RecT) (s:φA) (d:φ1),JB s d→(∀r∈rs,φc r=true)→∃P:List φB,Grow s d (φP rs s d).1 (φP rs s d).2.1 P∧P.map (·.2.2.2)=rs.take P.length∧P.length≤rs.length ∧
  ((φP rs s d).2.2.1=0→P.length=rs.length∧(φP rs s d).2.2.2=P.map entP)∧((φP rs s d).2.2.1≠0→P.length<rs.length)
 | [],s,d,h,_=>⟨[],Grow.refl h,rfl,Nat.le_refl _,fun _=>⟨rfl,rfl⟩,fun e=>absurd rfl e⟩
 | r::rs,s,d,h,hr=>by
  obtain ⟨a1,a2⟩:=φMl h (hr r (by simp))
  unfold φP
  by_cases c:(addP s d r).2.2.1=0
  rotate_left
  ·rw[if_pos c]
   exact ⟨[],a2 c,rfl,Nat.zero_le _,fun e=>absurd e c,fun _=>by simp⟩
  rw[if_neg (by simpa using c)]
  obtain ⟨p,p1,p2,p3⟩:=a1 c
  obtain ⟨P,g1,g2,g3,g4,g5⟩:=φBC rs _ _ p1.jb fun x hx=>hr x (by simp[hx])
  refine ⟨p::P,Grow.trans p1 g1,?_,by simp;omega,fun e=>?_,fun e=>by have:=g5 e;simp;omega⟩
  ·simp[p2,g2]
  ·obtain ⟨x1,x2⟩:=g4 e
   exact ⟨by simp[x1],by simp only[List.map_cons];rw[←p3,←x2]⟩
structure JR (s:φA) (d:φ1):Prop extends JB s d where
 reg:∃last,φp [] (φR d s.1.2) ([],0,0)=(s.2.1,last,0)∧last<s.2.2.1
 pb:∀p∈φR d s.1.2,p.2.2.2.2.1<s.2.2.1
 own:ownL 5 0 (φR d s.1.2)=[]
theorem φBe (b:Int):∀(P pre:List φB) (dir:List φ9) (z:Int),(∀p∈P,(p.2.2.2.1=1∨p.2.2.2.1=2)∧p.2.2.2.2.1=b)→z≤b→∃z',z'≤b∧φp pre P (dir,z,0)=(dir,z',0)
 | [],pre,dir,z,_,hz=>⟨z,hz,rfl⟩
 | p::P,pre,dir,z,h,hz=>by
  obtain ⟨hk,hb⟩:=h p (by simp)
  rw[φp,if_neg (by simp)]
  have e:φ1Z pre p (dir,z,0)=(dir,if p.2.2.2.2.1 > z then p.2.2.2.2.1 else z,0):=by
   unfold φ1Z
   simp only
   rw[if_neg (by rcases hk with e | e<;>rw[e]<;>decide)]
  rw[e]
  exact φBe b P _ _ _ (fun q hq=>h q (by simp[hq])) (by split<;>omega)
theorem φ9W (b:Int):∀(P acc:List φB),(∀p∈P,p.2.2.2.1=1∨p.2.2.2.1=2∨p.2.2.2.1=3)→P.foldl (φ1N 5 b) acc=acc
 | [],acc,_=>rfl
 | p::P,acc,h=>by
  have hk:=h p (by simp)
  have e:φ1N 5 b acc p=acc:=by
   unfold φ1N
   rw[if_neg (by simp),if_neg (by rcases hk with e | e | e<;>rw[e]<;>decide),if_neg (by rcases hk with e | e | e<;>rw[e]<;>simp)]
  rw[List.foldl_cons,e,φ9W b P acc fun q hq=>h q (by simp[hq])]
theorem φDT (b:Int):∀(A:List φB) (acc:List φB),(∀p∈A,p.2.2.2.2.1<b)→A.foldl (φ1N 3 b) acc=acc
 | [],acc,_=>rfl
 | p::A,acc,h=>by
  have hb:=h p (by simp)
  have e:φ1N 3 b acc p=acc:=by
   unfold φ1N
   rw[if_pos ⟨rfl,by omega⟩]
  rw[List.foldl_cons,e,φDT b A acc fun q hq=>h q (by simp[hq])]
theorem φGf (b:Int):∀(P acc:List φB),(∀p∈P,(p.2.2.2.1=1∨p.2.2.2.1=2)∧p.2.2.2.2.1=b)→P.foldl (φ1N 3 b) acc=acc++P
 | [],acc,_=>by simp
 | p::P,acc,h=>by
  obtain ⟨hk,hb⟩:=h p (by simp)
  have e:φ1N 3 b acc p=acc++[p]:=by
   unfold φ1N
   rw[if_neg (by rw[hb];simp),if_neg (by rcases hk with e | e<;>rw[e]<;>decide),if_pos (.inl ⟨rfl,hk⟩)]
  rw[List.foldl_cons,e,φGf b P _ fun q hq=>h q (by simp[hq])]
  simp
theorem φET (b:Int):∀(P:List φB) (l:List PutT) (dir:List φ9),P.map (·.2.2.2)=l.map (φV b)→φ1o dir P=dirW dir (l.zip (P.map entP))
 | [],l,dir,h=>by
  cases l with
  | nil=>rfl
  | cons x l=>simp at h
 | p::P,l,dir,h=>by
  cases l with
  | nil=>simp at h
  | cons q l=>
   simp only[List.map_cons,List.cons.injEq] at h
   obtain ⟨h1,h2⟩:=h
   have e:putD dir p=φ22 dir (q,entP p):=by
    unfold putD φ22 entP
    rw[h1]
    unfold φV
    cases q.2.1<;>rfl
   show φ1o (putD dir p) P=dirW (φ22 dir (q,entP p)) (l.zip (P.map entP))
   rw[e]
   exact φET b P l _ h2
theorem φHE (b:Int) (p:PutT):((φV b p).1=1∨(φV b p).1=2)∧(φV b p).2.1=b:=by
 unfold φV
 split
 ·exact ⟨.inr rfl,rfl⟩
 ·exact ⟨.inl rfl,rfl⟩
theorem JB.bump {s:φA} {d:φ1} (h:JB s d) (hb:s.2.2.1≤1000000):JB (s.1,s.2.1,s.2.2.1+1,s.2.2.2) d:=by
 obtain ⟨q1,q2,q3,q4,q5,q6⟩:=φ15.1 h.ok
 refine ⟨φ15.2 ⟨q1,q2,q3,by show 1≤s.2.2.1+1∧s.2.2.1+1≤1000001;omega,q5,fun e he=>?_⟩,h.lt,h.liv,h.fre⟩
 have:=q6 e he
 rw[φ3L] at this ⊢
 obtain ⟨a1,a2,a3,a4,a5⟩:=this
 exact ⟨a1,a2,a3,a4,by show e.2.2.2.2<s.2.2.1+1;omega⟩
theorem φIh {s:φA} {d:φ1} (h:JR s d) {l:List PutT} (hp:φ1m l=true) (hb:s.2.2.1≤1000000) (hk:φ35 s.2.1 l≤20):JR (φ1n s d l).1 (φ1n s d l).2.1:=by
 obtain ⟨q1,q2,q3,q4,q5,q6⟩:=φ15.1 h.ok
 have hrec:=φBV (b:=s.2.2.1) (l:=l) ⟨q4.1,hb⟩ hp
 have hJ1:=h.toJB.bump hb
 obtain ⟨P,g1,g2,g3,g4,g5⟩:=φBC (φ2G s.2.2.1 l) _ _ hJ1 hrec
 obtain ⟨last,hreg,hlast⟩:=h.reg
 have hrl:=φAK s.2.2.1 l
 have hright:=φD6 h.ok h.lt hp hb hk
 -- the places of a part of a batch
 have part:∀Q:List φB,(∃k,k≤l.length∧Q.map (·.2.2.2)=(l.map (φV s.2.2.1)).take k)→∀p∈Q,(p.2.2.2.1=1∨p.2.2.2.1=2)∧p.2.2.2.2.1=s.2.2.1:=fun Q ⟨k,_,hQ⟩ p hpQ=>by
  have:p.2.2.2∈Q.map (·.2.2.2):=mM.2 ⟨p,hpQ,rfl⟩
  rw[hQ] at this
  obtain ⟨q,_,e⟩:=mM.1 (List.mem_of_mem_take this)
  have:=φHE s.2.2.1 q
  rw[e] at this
  exact this
 unfold φ1n at hright ⊢
 generalize hG:φP (φ2G s.2.2.1 l) (s.1,s.2.1,s.2.2.1+1,s.2.2.2) d=g at *
 simp only at hright ⊢
 have hbat:g.1.2.2.1=s.2.2.1+1:=g1.bat
 have hdir:g.1.2.1=s.2.1:=g1.dir
 have hpl:φR g.2.1 g.1.1.2=φR d s.1.2++P:=g1.pl
 by_cases c:g.2.2.1=0
 rotate_left
 ·-- the batch was not written φ2V
  rw[if_pos c]
  have hlt:=g5 c
  have hP:=part P ⟨P.length,by omega,by
   rw[g2]
   unfold φ2G
   rw[List.take_append_of_le_length (by rw[lM];omega)]⟩
  obtain ⟨z',hz',e⟩:=φBe s.2.2.1 P (φR d s.1.2) s.2.1 last hP (by omega)
  refine ⟨g1.jb,⟨z',?_,by show z'<g.1.2.2.1;omega⟩,fun p hp=>?_,?_⟩
  ·show φp [] (φR g.2.1 g.1.1.2) _=_
   rw[hpl,φ5F _ _ _ _ (by rw[hreg]),hreg,List.nil_append,e,hdir]
  ·have hp:p∈φR g.2.1 g.1.1.2:=hp
   rw[hpl] at hp
   show _<g.1.2.2.1
   rcases mA.1 hp with hp | hp
   ·have:=h.pb p hp;omega
   ·have:=(hP p hp).2;omega
  ·show ownL 5 0 (φR g.2.1 g.1.1.2)=[]
   have ho:=h.own
   rw[hpl]
   unfold ownL at ho ⊢
   rw[List.foldl_append,ho,φ9W 0 P [] fun p hp=>by rcases (hP p hp).1 with e | e<;>simp[e]]
 rw[if_neg (by simpa using c)] at hright ⊢
 obtain ⟨x1,x2⟩:=g4 c
 -- the last sync is done
 obtain ⟨b1,b2,b3,b4,b5,b6⟩:=φ15.1 g1.jb.ok
 have hex:(φ2 g.2.1 (actN g.1)).2=true:=(((φ2d _).1 b5).1 _ (φ4H (φ77 b2))).1
 have hs0:(φN (actN g.1) g.2.1).2=0:=φBb b1 g1.jb.fre hex
 rw[if_neg (by rw[hs0];simp)] at hright ⊢
 obtain ⟨r1,r2,r3,r4,r5⟩:=hright rfl
 have hpl2:φR (φN (actN g.1) g.2.1).1 g.1.1.2=φR d s.1.2++P:=by
  rw[φ6g (d:=g.2.1) fun id _=>φ2e b1 _ _]
  exact hpl
 -- the last place is the seal's
 have hP0:P≠[]:=fun e=>by rw[e] at x1;simp at x1;omega
 obtain ⟨Q,pz,rfl⟩:∃Q pz,P=Q++[pz]:=⟨P.dropLast,P.getLast hP0,(List.dropLast_concat_getLast hP0).symm⟩
 have hQl:Q.length=l.length:=by simp at x1;omega
 have hmap:(Q++[pz]).map (·.2.2.2)=l.map (φV s.2.2.1)++[(3,s.2.2.1,[],[],(l.length:Int),φ1I (l.map (φV s.2.2.1)))]:=by
  rw[g2,x1,List.take_length];rfl
 rw[mp,List.map_singleton] at hmap
 obtain ⟨hQ,hz⟩:=List.append_inj hmap (by simp[hQl])
 have hz:pz.2.2.2=(3,s.2.2.1,[],[],(l.length:Int),φ1I (l.map (φV s.2.2.1))):=by simpa using hz
 have hPQ:=part Q ⟨l.length,Nat.le_refl _,by rw[hQ,List.take_of_length_le (by simp)]⟩
 obtain ⟨z',hz',e⟩:=φBe s.2.2.1 Q (φR d s.1.2) s.2.1 last hPQ (by omega)
 have hown3:ownL 3 s.2.2.1 (φR d s.1.2++Q)=Q:=by
  unfold ownL
  rw[List.foldl_append,φDT _ _ _ h.pb,φGf _ _ _ hPQ];rfl
 have hdw:φ1o s.2.1 Q=dirW s.2.1 (l.zip g.2.2.2):=by
  rw[φET s.2.2.1 Q l s.2.1 hQ,x2,mp,φAM _ _ _ (by simp[hQl])]
 have hseal:φ1Z (φR d s.1.2++Q) pz (s.2.1,z',0)=(dirW s.2.1 (l.zip g.2.2.2),s.2.2.1,0):=by
  unfold φ1Z
  simp only
  rw[hz]
  simp only
  rw[if_pos (.inl trivial),hown3,hQ]
  have hfit:φ2j (3,s.2.2.1,[],[],(l.length:Int),φ1I (l.map (φV s.2.2.1))) (l.map (φV s.2.2.1))=true:=by
   unfold φ2j;simp
  have el:(if s.2.2.1 > z' then s.2.2.1 else z')=s.2.2.1:=by split<;>omega
  rw[if_pos hfit,hdw,el]
  unfold φ52
  rw[if_neg]
  have r5':(dirW g.1.2.1 (l.zip g.2.2.2)).length=φ35 s.2.1 l:=r5
  rw[hdir] at r5'
  omega
 refine ⟨⟨r1,r2,?_,φ1Y g1.jb.fre⟩,⟨s.2.2.1,?_,by show s.2.2.1<g.1.2.2.1;omega⟩,fun p hp=>?_,?_⟩
 ·obtain ⟨nx,n1,n2,n3⟩:=g1.jb.liv
  exact ⟨nx,n1,n2,by rw[φ2e b1];exact n3⟩
 ·show φp [] (φR (φN (actN g.1) g.2.1).1 g.1.1.2) _=_
  rw[hpl2,φ5F _ _ _ _ (by rw[hreg]),hreg,List.nil_append,φ5F _ _ _ _ (by rw[e]),e,φp,if_neg (by simp),hseal,hdir]
  rfl
 ·have hp:p∈φR (φN (actN g.1) g.2.1).1 g.1.1.2:=hp
  rw[hpl2] at hp
  show _<g.1.2.2.1
  rcases mA.1 hp with hp | hp
  ·have:=h.pb p hp;omega
  ·rcases mA.1 hp with hp | hp
   ·have:=(hPQ p hp).2;omega
   ·rw[mZ.1 hp,hz];show s.2.2.1<_;omega
 ·show ownL 5 0 (φR (φN (actN g.1) g.2.1).1 g.1.1.2)=[]
  have ho:=h.own
  rw[hpl2]
  unfold ownL at ho ⊢
  rw[List.foldl_append,ho,φ9W 0 (Q++[pz]) [] fun p hp=>by
   rcases mA.1 hp with hp | hp
   ·rcases (hPQ p hp).1 with e | e<;>simp[e]
   ·rw[mZ.1 hp,hz];simp]
theorem φL8 {id:Int} {t:List UInt8} {h:φ1E} (k:φ17 id t=(h,true)) (hd:φ1i h.2.2=true) (h0:0≤h.2.1) :
  φp [] ((scan t).1.map fun x=>((id,x):φB)) ([],0,0)=(h.2.2,h.2.1,0)∧ownL 5 0 ((scan t).1.map fun x=>((id,x):φB))=[]∧∀p∈(scan t).1.map (fun x=>((id,x):φB)),p.2.2.2.2.1≤h.2.1:=by
 obtain ⟨l,z,e,z5,hf,hk,hh,_,_⟩:=φDy k
 have hsrt:srt ([]++l.map (entS id)):=by have:=φ5L hd;rw[hh] at this;simpa using this
 have hlen:(l.map (entS id)).length≤20:=by
  unfold φ1i at hd
  rw[hh] at hd
  simp only[bA,decide_eq_true_eq] at hd
  exact hd.2
 rw[hh] at h0
 have h0:0≤z.2.2.2.1:=h0
 rw[e,hh]
 obtain ⟨z',hz',eg⟩:=φ9L id z.2.2.2.1 l [] 0 hk h0
 refine ⟨?_,?_,fun p hp=>?_⟩
 ·rw[mp,φ5F _ _ _ _ (by rw[eg]),eg,List.nil_append,List.map_singleton,φp,if_neg (by simp)]
  have eo:ownL z.2.2.1 z.2.2.2.1 (l.map fun x=>((id,x):φB))=l.map fun x=>((id,x):φB):=by
   rw[z5];unfold ownL;rw[φAa id _ l [] fun x hx=>(hk x hx).1];rfl
  have ea:φ1o [] (l.map fun x=>((id,x):φB))=l.map (entS id):=by
   rw[φAS id l [] (fun x hx=>(hk x hx).1) hsrt];rfl
  have er:(l.map fun x=>((id,x):φB)).map (·.2.2.2)=l.map (·.2.2):=by rw[List.map_map];rfl
  have es:φ1Z (l.map fun x=>((id,x):φB)) ((id,z):φB) ([],z',0)=(l.map (entS id),z.2.2.2.1,0):=by
   unfold φ1Z
   simp only
   have el:(if z.2.2.2.1 > z' then z.2.2.2.1 else z')=z.2.2.2.1:=by split<;>omega
   rw[if_pos (.inr z5),eo,er,if_pos hf,ea,el]
   unfold φ52
   rw[if_neg (Nat.not_lt.2 hlen)]
  rw[es];rfl
 ·unfold ownL
  rw[mp,List.foldl_append,List.map_singleton,List.foldl_cons,List.foldl_nil]
  unfold φ1N
  rw[if_neg (by simp),if_pos z5]
 ·obtain ⟨x,hx,rfl⟩:=mM.1 hp
  show x.2.2.2.1≤z.2.2.2.1
  rcases mA.1 hx with hx | hx
  ·exact (hk x hx).2
  ·rw[mZ.1 hx];exact Int.le_refl _
theorem φFR:∀(ids:List Int) {w:φH},φ5 w.1=true→Free w.1→w.2=0→(sOld ids w).2=0
 | [],w,_,_,h=>h
 | i::ids,w,hk,hf,h=>φFR ids (w:=φh [φ0 i,φM i] w) (φ4c _ hk) (φ67 (P:=Free) (fun d act k=>φ1Y k) _ hf) (φAO _ hk hf h)
theorem φEQ {s:φA} {d:φ1} (l:List φg) (h:JB s d) (h2:s.1.1+2≤100000) (hc:(φ1C s d l).2.2≠0) :
  (φ1C s d l).1=((s.1.1+2,s.1.2),s.2)∧φ5 (φ1C s d l).2.1=true∧Free (φ1C s d l).2.1∧φ2 (φ1C s d l).2.1 φn=φ2 d φn ∧
  ∀id,1≤id∧id<s.1.1→φ2 (φ1C s d l).2.1 (φ0 id)=φ2 d (φ0 id):=by
 obtain ⟨q1,q2,q3,q4,q5,q6⟩:=φ15.1 h.ok
 obtain ⟨k1,k2,k3,k4⟩:=(φ12 s.1).1 q2
 have hF:=h.fre
 have g1:=φ6E s.1.1 (φb l (s.2.2.1 - 1)) (w:=(d,0)) q1
 have g0:=φ3v (w:=(d,0)) q1 (φ0 s.1.1)
 have g0a:=φ6Q (φ0 s.1.1) (φb l (s.2.2.1 - 1)) g0
 have g2:=φ3v g1 (φ0 (s.1.1+1))
 have F1:Free (sNew (φ0 (s.1.1+1)) (sWM s.1.1 (φb l (s.2.2.1 - 1)) (d,0))).1:=φ8l (P:=Free) (fun d act k=>φ1Y k) _ (φB8 (P:=Free) (fun d act k=>φ1Y k) _ _ hF)
 have f1:∀n,n≠φ0 s.1.1→n≠φ0 (s.1.1+1)→φ2 (sNew (φ0 (s.1.1+1)) (sWM s.1.1 (φb l (s.2.2.1 - 1)) (d,0))).1 n=φ2 d n:=fun n q1' q2'=>by
  rw[φ6M g1 q2']
  unfold sWM
  rw[φ2c (op:=φN _) (φ2e g0a _ n),φAZ q1' _ g0,φ6M (w:=(d,0)) q1 q1']
 unfold φ1C at hc ⊢
 simp only at hc ⊢
 generalize sNew (φ0 (s.1.1+1)) (sWM s.1.1 (φb l (s.2.2.1 - 1)) (d,0))=w1 at *
 have g3:φ5 (φ11 s.1.1 w1).1=true:=by
  unfold φ11;split
  ·exact g2
  ·exact φ7L _ g2
 have F2:Free (φ11 s.1.1 w1).1:=by
  unfold φ11;split
  ·exact F1
  ·exact φBQ (P:=Free) (fun d act k=>φ1Y k) _ F1
 have f2:∀n,n≠φM s.1.1→φ2 (φ11 s.1.1 w1).1 n=φ2 w1.1 n:=fun n q=>by
  unfold φ11
  split
  ·rfl
  ·unfold φ2D
   simp only
   have hf:=φ4L (w:=(w1.1,0)) g2 (φM s.1.1) (φ1P (φ17 s.1.1 (φ2 w1.1 (φ0 s.1.1)).1).1)
   split
   ·rw[φ4e hf q,φ58 (w:=(w1.1,0)) g2 q]
   ·rw[φ58 (w:=(w1.1,0)) g2 q]
 generalize φ11 s.1.1 w1=w2 at *
 have g5:φ5 (if w2.2=0 then φC (sPut (s.1.1+2,[s.1.1,s.1.1+1]) w2) else φC w2).1=true:=by
  split
  ·exact φ3r g3 _
  ·exact g3
 have F5:Free (if w2.2=0 then φC (sPut (s.1.1+2,[s.1.1,s.1.1+1]) w2) else φC w2).1:=by
  split
  ·exact φBa (P:=Free) (fun d act k=>φ1Y k) _ F2
  ·exact F2
 have f3:∀n,n≠φ2O→n≠φn→φ2 (if w2.2=0 then φC (sPut (s.1.1+2,[s.1.1,s.1.1+1]) w2) else φC w2).1 n=φ2 w2.1 n:=fun n q1 q2=>by
  split
  ·exact φ74 g3 _ q1 q2
  ·rfl
 have fl:(if w2.2=0 then φC (sPut (s.1.1+2,[s.1.1,s.1.1+1]) w2) else φC w2).2≠0→φ2 (if w2.2=0 then φC (sPut (s.1.1+2,[s.1.1,s.1.1+1]) w2) else φC w2).1 φn=φ2 w2.1 φn:=fun e=>by
  by_cases c:w2.2=0
  ·rw[if_pos c] at e ⊢
   exact φFF g3 F2 fun e2=>e ((φ1L _).2 e2)
  ·rw[if_neg c];rfl
 generalize (if w2.2=0 then φC (sPut (s.1.1+2,[s.1.1,s.1.1+1]) w2) else φC w2)=w3 at *
 by_cases c:w3.2=0
 ·rw[if_neg (by simpa using c)] at hc
  exfalso
  apply hc
  show told (sOld s.1.2 (w3.1,0)).2=0
  rw[φFR s.1.2 (w:=(w3.1,0)) g5 F5 rfl];rfl
 rw[if_pos (by simpa using c)]
 refine ⟨rfl,φGX _ g5,?_,?_,fun id hid=>?_⟩
 ·show Free (φ1c (φ3q s.1.1) w3).1
  have:=φ67 (P:=Free) (fun d act k=>φ1Y k) (φ3q s.1.1) (w:=(w3.1,0)) F5
  unfold φ1c
  split
  ·split
   ·exact this
   ·exact this
  ·exact F5
 ·show φ2 (φ1c (φ3q s.1.1) w3).1 φn=_
  rw[φ8g g5 (fun m hm=>by
   unfold φ3q at hm
   simp only[mc,List.not_mem_nil,or_false] at hm
   rcases hm with rfl | rfl | rfl | rfl
   ·decide
   ·exact (φ2N _).symm
   ·exact (φ2N _).symm
   ·exact (φ6l _).symm),fl c,f2 _ (φ6l _).symm,f1 _ (φ2N _).symm (φ2N _).symm]
 ·have n1:φ0 id≠φ0 s.1.1:=fun e=>by have:=φ3p (by omega) (by omega) e;omega
  have n2:φ0 id≠φ0 (s.1.1+1):=fun e=>by have:=φ3p (by omega) (by omega) e;omega
  have n3:φ0 id≠φM s.1.1:=φ3o _ _ (by omega)
  show φ2 (φ1c (φ3q s.1.1) w3).1 (φ0 id)=_
  rw[φ8g g5 (fun m hm=>by
   unfold φ3q at hm
   simp only[mc,List.not_mem_nil,or_false] at hm
   rcases hm with rfl | rfl | rfl | rfl
   ·exact φ43 _
   ·exact n1
   ·exact n2
   ·exact n3),f3 _ (φ43 _) (φ2N _),f2 _ n3,f1 _ n1 n2]
theorem φIy {s:φA} {d:φ1} (h:JR s d) (h2:s.1.1+2≤100000):JR (φ1C s d (φT s d).1).1 (φ1C s d (φT s d).1).2.1:=by
 obtain ⟨q1,q2,q3,q4,q5,q6⟩:=φ15.1 h.ok
 obtain ⟨k1,k2,k3,k4⟩:=(φ12 s.1).1 q2
 rw[φE (by omega) (by omega)] at k1
 have hids:=φ3g _ _ k1
 by_cases hc:(φ1C s d (φT s d).1).2.2=0
 ·have hM:=φJa (φT s d).1 q1 q2 h2 hc
  obtain ⟨m1,m2,m3,m4⟩:=φAL h.ok h2 hM.toMerged
  obtain ⟨k,ok⟩:=φK0 h.ok h2 hM.toMerged
  have hfu:0 > d.2.2.1:=by rw[show d.2.2=(-1,false) from h.fre];decide
  have hF:=hM.fre hfu
  have hst:=hM.st
  have hone:=hM.one
  have htwo:=hM.two
  have hliv:=hM.liv
  generalize φ1C s d (φT s d).1=M at *
  obtain ⟨S,y,c⟩:=M
  simp only at hc hM m1 m2 m3 m4 k ok hF hst hone htwo hliv ⊢
  unfold φ2J at ok
  simp only[bA,decide_eq_true_eq] at ok
  obtain ⟨r1,r2,r3⟩:=φL8 k ok.2.2.2 ok.2.2.1.1
  have hI:S.1.2=[s.1.1,s.1.1+1]:=by rw[hst]
  have hB:S.2.2.1=s.2.2.1:=by rw[hst]
  have hpl:φR y S.1.2=(scan (txt (φb (φT s d).1 (s.2.2.1 - 1)))).1.map fun x=>((s.1.1,x):φB):=by
   rw[hI]
   unfold φR φ1u
   simp[hone,htwo,φ7X]
  refine ⟨⟨m1,m3,⟨s.1.1+2,by rw[hst];exact Int.le_refl _,by rw[hI];exact φAc s.1.1 k2.1 h2,by rw[hI];exact hliv⟩,hF⟩,⟨s.2.2.1 - 1,by rw[hpl];exact r1,by rw[hB];omega⟩,fun p hp=>?_,by rw[hpl];exact r2⟩
  rw[hpl] at hp
  have:=r3 p hp
  have:p.2.2.2.2.1≤s.2.2.1 - 1:=this
  rw[hB];omega
 ·obtain ⟨f1,f2,f3,f4,f5⟩:=φEQ (φT s d).1 h.toJB h2 hc
  have hft:∀id∈s.1.2,φ2 (φ1C s d (φT s d).1).2.1 (φ0 id)=φ2 d (φ0 id):=fun id hid=>f5 id (by have:=hids id hid;omega)
  have hkp:φ2i s.1.1 d (φ1C s d (φT s d).1).2.1:=fun e e1 e2 e3=>by
   unfold φ1H
   rw[f5 _ ⟨e1,e2⟩]
  have hpl:=φ6g hft
  generalize φ1C s d (φT s d).1=M at *
  obtain ⟨S,y,c⟩:=M
  simp only at f1 f2 f3 f4 f5 hft hkp hpl ⊢
  subst f1
  obtain ⟨last,r1,r2⟩:=h.reg
  obtain ⟨nx,n1,n2,n3⟩:=h.liv
  refine ⟨⟨φ15.2 ⟨f2,φC3 (a:=s.1.1) q2 (by omega) h2,q3,q4,?_,fun e he=>φ6e (s:=s) h.ok hkp h.lt (Int.le_refl _) e he⟩,fun e he=>by have:=h.lt e he;show e.2.1<s.1.1+2;omega,⟨nx,by show nx≤s.1.1+2;omega,n2,by rw[f4];exact n3⟩,f3⟩,⟨last,by show φp [] (φR y s.1.2) _=_;rw[hpl];exact r1,r2⟩,?_,?_⟩
  ·obtain ⟨g1,g2⟩:=(φ2d _).1 q5
   exact (φ2d _).2 ⟨fun id hid=>by rw[hft id hid];exact g1 id hid,fun hne=>by rw[hft _ (φ4H hne)];exact g2 hne⟩
  ·intro p hp
   have hp:p∈φR y s.1.2:=hp
   rw[hpl] at hp
   exact h.pb p hp
  ·show ownL 5 0 (φR y s.1.2)=[]
   rw[hpl];exact h.own
theorem φLc (k b:Int) (acc:List φB) (p:φB):∀x∈φ1N k b acc p,x∈acc∨x=p:=by
 intro x hx
 unfold φ1N at hx
 split at hx
 ·exact .inl hx
 split at hx
 ·simp at hx
 split at hx
 ·rcases mA.1 hx with h | h
  ·exact .inl h
  ·exact .inr (mZ.1 h)
 ·exact .inl hx
theorem φEU (k b:Int):∀(l acc:List φB),∀x∈l.foldl (φ1N k b) acc,x∈acc∨x∈l
 | [],acc,x,hx=>.inl hx
 | p::l,acc,x,hx=>by
  rcases φEU k b l _ x hx with h | h
  ·rcases φLc k b acc p x h with h | h
   ·exact .inl h
   ·exact .inr (by simp[h])
  ·exact .inr (by simp[h])
theorem φJo {k b:Int} {l:List φB}:∀x∈ownL k b l,x∈l:=fun x hx=>by
 rcases φEU k b l [] x hx with h | h
 ·simp at h
 ·exact h
theorem φDd:∀(own:List φB) (dir:List φ9),∀e∈φ1o dir own,e∈dir∨∃p∈own,e=entP p
 | [],dir,e,he=>.inl he
 | p::own,dir,e,he=>by
  rcases φDd own (putD dir p) e he with h | ⟨q,hq,x⟩
  ·unfold putD at h
   split at h
   ·exact .inl ((φ6d _ _ _).1 h).1
   ·rcases (φ3Y _ _ _).1 h with h | h
    ·exact .inr ⟨p,by simp,h⟩
    ·exact .inl ((φ6d _ _ _).1 h).1
  ·exact .inr ⟨q,by simp[hq],x⟩
theorem φL6 (pre:List φB) (p:φB) (g:φ1A):∀e∈(φ1Z pre p g).1,e∈g.1∨∃q∈pre,e=entP q:=by
 intro e he
 unfold φ1Z at he
 simp only at he
 split at he
 ·split at he
  ·rcases φDd _ _ e he with h | ⟨q,hq,x⟩
   ·exact .inl h
   ·exact .inr ⟨q,φJo q hq,x⟩
  ·split at he
   ·exact .inl he
   ·exact .inl he
 ·exact .inl he
theorem φK4 (pre:List φB) (p:φB) (g:φ1A):(φ1Z pre p g).2.1=if p.2.2.2.2.1 > g.2.1 then p.2.2.2.2.1 else g.2.1:=by
 unfold φ1Z
 simp only
 split
 ·split
  ·rfl
  ·split<;>rfl
 ·rfl
theorem φFm:∀(P pre:List φB) (g:φ1A),∀e∈(φp pre P g).1,e∈g.1∨∃q∈pre++P,e=entP q
 | [],pre,g,e,he=>.inl he
 | p::P,pre,g,e,he=>by
  rw[φp] at he
  split at he
  ·exact .inl he
  ·rcases φFm P _ _ e he with h | ⟨q,hq,x⟩
   ·rcases φL6 pre p g e h with h | ⟨q,hq,x⟩
    ·exact .inl h
    ·exact .inr ⟨q,mL _ hq,x⟩
   ·exact .inr ⟨q,by simpa using hq,x⟩
theorem φGC:∀(P pre:List φB) (g:φ1A),(φp pre P g).2.2=0→g.2.1≤(φp pre P g).2.1∧∀p∈P,p.2.2.2.2.1≤(φp pre P g).2.1
 | [],pre,g,_=>⟨Int.le_refl _,fun p hp=>by simp at hp⟩
 | p::P,pre,g,h=>by
  rw[φp] at h ⊢
  by_cases c:g.2.2≠0
  ·rw[if_pos c] at h;exact absurd h c
  rw[if_neg c] at h ⊢
  obtain ⟨h1,h2⟩:=φGC P _ _ h
  rw[φK4] at h1
  have:g.2.1≤(φp (pre++[p]) P (φ1Z pre p g)).2.1∧p.2.2.2.2.1≤(φp (pre++[p]) P (φ1Z pre p g)).2.1:=by
   split at h1<;>omega
  refine ⟨this.1,fun q hq=>?_⟩
  rcases mc.1 hq with rfl | hq
  ·exact this.2
  ·exact h2 q hq
theorem φFe {d:φ1}:∀{l:List Int},(∀id∈l,(φ2 d (φ0 id)).2=true∧φ2V (φ2 d (φ0 id)).1)→φ47 d l=true
 | [],_=>rfl
 | id::r,h=>by
  obtain ⟨h1,h2⟩:=h id (by simp)
  unfold φ2V at h2
  rw[φ47,h1,φFe fun i hi=>h i (by simp[hi])]
  simp[h2]
theorem φLl {d:φ1} {ids:List Int}:∀p∈φR d ids,p.1∈ids:=fun p hp=>by
 unfold φR at hp
 obtain ⟨i,hi,hp⟩:=List.mem_flatMap.1 hp
 unfold φ1u at hp
 obtain ⟨x,_,rfl⟩:=mM.1 hp
 exact hi
theorem φI3 {s:φA} {d:φ1} (h:JR s d):∃t y,φ3m d=(t,y,0)∧JR t y∧t.1.2=s.1.2∧t.2.1=s.2.1∧t.2.2.1≤s.2.2.1∧φT t y=φT s d∧y.2.1=d.2.1∧φO y.1≤φO d.1:=by
 obtain ⟨q1,q2,q3,q4,q5,q6⟩:=φ15.1 h.ok
 obtain ⟨nx,n1,n2,n3⟩:=h.liv
 obtain ⟨last,r1,r2⟩:=h.reg
 have hF:=h.fre
 obtain ⟨g1,g2⟩:=(φ2d _).1 q5
 have hne:=φ77 q2
 have g2:=g2 hne
 have hl1:=φAg (nx,s.1.2)
 have hrl:φ3l (φ10 (nx,s.1.2))=((nx,s.1.2),true):=φLV ⟨n2,rfl⟩ (by omega)
 have hsh:φ47 d s.1.2=true:=φFe g1
 obtain ⟨e1,e2⟩:=g1 _ (φ4H hne)
 have hcn:cutN (nx,s.1.2) d=(φ2 d (φ0 (φL s.1.2))).1.length:=e2
 have hcut:cutW (nx,s.1.2) d=φN (φ0 (φL s.1.2)) d:=by
  unfold cutW
  rw[if_pos hcn.symm]
  rfl
 have hs0:(φN (φ0 (φL s.1.2)) d).2=0:=φBb q1 hF e1
 have hx:=φ36 q1 (φ0 (φL s.1.2))
 have hxF:Free (φN (φ0 (φL s.1.2)) d).1:=φ1Y hF
 have hft:∀n,φ2 (φN (φ0 (φL s.1.2)) d).1 n=φ2 d n:=fun n=>φ2e q1 _ n
 have hsw:(φ13 (nx,s.1.2) (φN (φ0 (φL s.1.2)) d).1).2=0:=φAO _ (w:=((φN (φ0 (φL s.1.2)) d).1,0)) hx hxF rfl
 have hrg:φ1y ([],0,0) (φR d s.1.2)=(s.2.1,last,0):=by
  unfold φ1y φ6n
  rw[r1,h.own,if_neg (by simp)]
 obtain ⟨hin,eo,_⟩:=φHN (v:=(nx,s.1.2)) q1 n2 e1 (by rw[hcut];exact hs0)
 have ho:φ3m d=(((nx,s.1.2),s.2.1,w64 (last+1),(cutN (nx,s.1.2) d:Int),hin),(φ13 (nx,s.1.2) (φN (φ0 (φL s.1.2)) d).1).1,0):=by
  unfold φ3m
  rw[if_neg (by rw[q1];simp),if_neg (by rw[hF.up];simp),n3,if_neg (by simp),hrl,if_neg (by simp),if_neg (by rw[hsh];simp),eo,hcut,hrg]
  unfold φ4k
  rw[if_neg (by simp),if_neg (by rw[hsw];simp)]
 refine ⟨_,_,ho,?_⟩
 -- what the disk has
 have hy:=φ8k hx (nx,s.1.2)
 have hyF:Free (φ13 (nx,s.1.2) (φN (φ0 (φL s.1.2)) d).1).1:=φ67 (P:=Free) (fun d act k=>φ1Y k) _ hxF
 have hrange:∀id∈s.1.2,1≤id∧id≤100000∧id<nx:=fun id hid=>φBY (v:=(nx,s.1.2)) n2 hid
 have hsegs:∀id∈s.1.2,φ2 (φ13 (nx,s.1.2) (φN (φ0 (φL s.1.2)) d).1).1 (φ0 id)=φ2 d (φ0 id):=fun id hid=>by
  have hr:=hrange id hid
  rw[φF7 hx (fun j hj=>by rw[φDU hj (φGz ⟨hr.1,hr.2.1⟩)];exact hid) (φ43 id),hft]
 have hlv:φ2 (φ13 (nx,s.1.2) (φN (φ0 (φL s.1.2)) d).1).1 φn=(φ10 (nx,s.1.2),true):=by
  rw[φF7 hx (fun j hj=>absurd ⟨j,hj⟩ φID) (by decide),hft,n3]
 have hcap:(φ13 (nx,s.1.2) (φN (φ0 (φL s.1.2)) d).1).1.2.1=d.2.1∧φO (φ13 (nx,s.1.2) (φN (φ0 (φL s.1.2)) d).1).1.1≤φO d.1:=by
  rw[φMc hx hxF,φLJ q1 hF e1]
  refine ⟨rfl,?_⟩
  show φO ((onF _ φ7S d.1).filter _)≤_
  refine Nat.le_trans (φ70 _ List.filter_sublist) ?_
  show φO (onF _ φ7S d.1)≤_
  have:∀l:List φ6,φO (onF (φ0 (φL s.1.2)) φ7S l)=φO l:=fun l=>by
   unfold φO onF
   induction l with
   | nil=>rfl
   | cons f l ih=>
    simp only[List.map_cons,sumN,ih]
    congr 1
    split<;>rfl
  rw[this];exact Nat.le_refl _
 generalize (φ13 (nx,s.1.2) (φN (φ0 (φL s.1.2)) d).1).1=y at *
 have hpl:=φ6g hsegs
 -- what the directory's entries are
 have hmem:∀e∈s.2.1,∃p∈φR d s.1.2,e=entP p:=fun e he=>by
  have:e∈(φp [] (φR d s.1.2) ([],0,0)).1:=by rw[r1];exact he
  rcases φFm _ _ _ e this with k | ⟨p,hp,x⟩
  ·simp at k
  ·exact ⟨p,by simpa using hp,x⟩
 obtain ⟨l0,lall⟩:=φGC (φR d s.1.2) [] ([],0,0) (by rw[r1])
 rw[r1] at l0 lall
 have l0:0≤last:=l0
 have lall:∀p∈φR d s.1.2,p.2.2.2.2.1≤last:=lall
 have hseg:∀e∈s.2.1,e.2.1∈s.1.2∧e.2.2.2.2≤last:=fun e he=>by
  obtain ⟨p,hp,rfl⟩:=hmem e he
  exact ⟨φLl p hp,lall p hp⟩
 have hw:w64 (last+1)=last+1:=φE (by omega) (by omega)
 rw[hw]
 have hok:φo ((nx,s.1.2),s.2.1,last+1,(cutN (nx,s.1.2) d:Int),hin) y=true:=φ15.2 ⟨hy,n2,q3,⟨by show 1≤last+1;omega,by show last+1≤1000001;omega⟩,(φ2d _).2 ⟨fun id hid=>by rw[hsegs id hid];exact g1 id hid,fun hne=>by rw[hsegs _ (φ4H hne),hcn]⟩,fun e he=>by
  obtain ⟨s1,s2⟩:=hseg e he
  have k:=φ3L.1 (q6 e he)
  have:φ1H y e=φ1H d e:=by unfold φ1H;rw[hsegs _ s1]
  rw[φ3L,this]
  exact ⟨k.1,k.2.1,k.2.2.1,k.2.2.2.1,by show e.2.2.2.2<last+1;omega⟩⟩
 refine ⟨⟨⟨hok,fun e he=>?_,⟨nx,Int.le_refl _,n2,hlv⟩,hyF⟩,⟨last,by show φp [] (φR y s.1.2) _=_;rw[hpl];exact r1,by show last<last+1;omega⟩,fun p hp=>?_,by show ownL 5 0 (φR y s.1.2)=[];rw[hpl];exact h.own⟩,rfl,rfl,by show last+1≤_;omega,?_,hcap⟩
 ·have:=hrange _ (hseg e he).1
  exact this.2.2
 ·have hp:p∈φR y s.1.2:=hp
  rw[hpl] at hp
  have:=lall p hp
  show _<last+1
  omega
 ·rw[φ2q hok,φ2q h.ok]
  congr 1
  show mapG (φ1O y) s.2.1=mapG (φ1O d) s.2.1
  unfold mapG
  refine List.map_congr_left fun e he=>?_
  have:=hsegs _ (hseg e he).1
  congr 1
  unfold φ1O
  rw[this]
theorem φHn (n:Nat) (h:n≤100000) (h8:8≤n):JR ((2,[1]),[],1,0,0) (dNew n):=by
 obtain ⟨f1,f2,f3⟩:=φGH n h h8
 have hpl:φR (dNew n) [1]=[]:=by
  rw[φ88]
  unfold φ1u
  rw[f2,φ7X];rfl
 refine ⟨⟨φJU n h h8,fun e he=>by simp at he,⟨2,Int.le_refl _,φCc,f1⟩,rfl⟩,⟨0,by show φp [] (φR (dNew n) [1]) _=_;rw[hpl];rfl,by decide⟩,fun p hp=>?_,by show ownL 5 0 (φR (dNew n) [1])=[];rw[hpl];rfl⟩
 have hp:p∈φR (dNew n) [1]:=hp
 rw[hpl] at hp
 simp at hp
theorem φHF (c:Int):told c=0∨told c=1∨told c=2∨told c=3:=by
 unfold told
 split
 ·exact .inl rfl
 split
 ·exact .inr (.inl rfl)
 split
 ·exact .inr (.inr (.inl rfl))
 ·exact .inr (.inr (.inr rfl))
def φ3P (c:Int):Prop:=0≤c∧c≤5
theorem φ65 (c:Int):φ3P (told c):=by
 unfold φ3P
 rcases φHF c with e | e | e | e<;>rw[e]<;>decide
theorem φK7 {names:List (List UInt8)} {w:φH} (h:φ3P w.2):φ3P (φ1c names w).2:=by
 unfold φ1c
 split
 ·split
  ·exact ⟨by show (0:Int)≤2;decide,by show (2:Int)≤5;decide⟩
  ·exact φ65 _
 ·exact h
theorem φKH (s:φA) (d:φ1):φ3P (rotP s d).2.2:=by
 unfold rotP
 split
 ·exact ⟨by show (0:Int)≤5;decide,by show (5:Int)≤5;decide⟩
 split
 ·exact φ65 _
 simp only
 split
 ·exact φ65 _
 split
 ·exact φK7 (φ65 _)
 ·exact ⟨Int.le_refl _,by show (0:Int)≤5;decide⟩
theorem φKS (s:φA) (d:φ1) (r:RecT):φ3P (addP s d r).2.2.1:=by
 have h:φ3P (addR s d (frame (φ7 r))).2.2:=by
  unfold addR
  split
  ·exact φKH s d
  ·exact ⟨Int.le_refl _,by show (0:Int)≤5;decide⟩
 unfold addP
 simp only
 split
 ·exact h
 split
 ·exact φ65 _
 ·exact ⟨Int.le_refl _,by show (0:Int)≤5;decide⟩
theorem φCj:∀(rs:List RecT) (s:φA) (d:φ1),φ3P (φP rs s d).2.2.1
 | [],_,_=>⟨Int.le_refl _,by show (0:Int)≤5;decide⟩
 | r::rs,s,d=>by
  unfold φP
  split
  ·exact φKS s d r
  ·exact φCj rs _ _
theorem φLb (s:φA) (d:φ1) (l:List PutT):φ3P (φ1n s d l).2.2:=by
 unfold φ1n
 simp only
 split
 ·exact φCj _ _ _
 split
 ·exact φ65 _
 ·exact ⟨Int.le_refl _,by show (0:Int)≤5;decide⟩
theorem φDG {s s':φA} {d d':φ1} {m:Int} (h:φo s d=true) (h':φo s' d'=true) (hd:s'.2.1=s.2.1) (hk:φ2i m d d') (hm:∀e∈s.2.1,e.2.1<m):φT s' d'=φT s d:=by
 rw[φ2q h,φ2q h',hd,φFt h hk hm]
theorem φLs {s:φA} {d:φ1} (h:JR s d) {l:List PutT} (hp:φ1m l=true) (hb:s.2.2.1≤1000000) (hc:(φ1n s d l).2.2≠0):(φ1n s d l).1.2.1=s.2.1∧φ2i s.1.1 d (φ1n s d l).2.1:=by
 obtain ⟨q1,q2,q3,q4,q5,q6⟩:=φ15.1 h.ok
 have hrec:=φBV (b:=s.2.2.1) (l:=l) ⟨q4.1,hb⟩ hp
 obtain ⟨P,g1,g2,g3,g4,g5⟩:=φBC (φ2G s.2.2.1 l) _ _ (h.toJB.bump hb) hrec
 unfold φ1n at hc ⊢
 generalize φP (φ2G s.2.2.1 l) (s.1,s.2.1,s.2.2.1+1,s.2.2.2) d=g at *
 simp only at hc ⊢
 by_cases c:g.2.2.1=0
 rotate_left
 ·rw[if_pos c]
  exact ⟨g1.dir,g1.kp⟩
 rw[if_neg (by simpa using c)] at hc ⊢
 by_cases c2:(φN (actN g.1) g.2.1).2=0
 rotate_left
 ·rw[if_pos c2]
  refine ⟨g1.dir,fun e e1 e2 e3=>?_⟩
  obtain ⟨b1,_⟩:=φ15.1 g1.jb.ok
  have:=g1.kp e e1 e2 e3
  unfold φ1H at this ⊢
  show φ1D (φ2 (φN (actN g.1) g.2.1).1 (φ0 e.2.1)).1 _ _=_
  rw[φ2e b1]
  exact this
 ·rw[if_neg (by simpa using c2)] at hc
  exact absurd rfl hc
theorem φE9 {s:φA} {d:φ1} (h:JR s d) (l:List PutT):JR (φ2K s d l).1 (φ2K s d l).2.1∧φ3P (φ2K s d l).2.2 ∧
  ((φ2K s d l).2.2=0→φT (φ2K s d l).1 (φ2K s d l).2.1=(φ72 (φT s d).1 l s.2.2.1,0))∧((φ2K s d l).2.2≠0→φT (φ2K s d l).1 (φ2K s d l).2.1=φT s d):=by
 have hd0:φT s d=((φT s d).1,0):=by rw[φ2q h.ok]
 unfold φ2K
 by_cases c1:φo s d=false∨φ1m l=false
 ·rw[if_pos c1]
  exact ⟨h,by show φ3P 4;exact ⟨by decide,by decide⟩,fun e=>by simp at e,fun _=>rfl⟩
 rw[if_neg c1]
 by_cases c2:l.length=0
 ·rw[if_pos c2]
  refine ⟨h,by show φ3P 0;exact ⟨by decide,by decide⟩,fun _=>?_,fun e=>absurd rfl e⟩
  have:l=[]:=List.length_eq_zero_iff.1 c2
  subst this
  exact hd0
 rw[if_neg c2]
 by_cases c3:20<φ35 s.2.1 l∨s.2.2.1 > 1000000
 ·rw[if_pos c3]
  exact ⟨h,by show φ3P 5;exact ⟨by decide,by decide⟩,fun e=>by simp at e,fun _=>rfl⟩
 rw[if_neg c3]
 have hp:φ1m l=true:=by
  cases hp:φ1m l with
  | true=>rfl
  | false=>exact absurd (.inr hp) c1
 have hJ:=φIh h hp (by omega) (by omega)
 refine ⟨hJ,φLb s d l,fun hc=>?_,fun hc=>?_⟩
 ·obtain ⟨r1,r2,r3,r4,r5⟩:=φD6 h.ok h.lt hp (by omega) (by omega) hc
  rw[←r3,φ2q r1]
 ·obtain ⟨f1,f2⟩:=φLs h hp (by omega) hc
  exact φDG h.ok hJ.ok f1 f2 h.lt
theorem φHx {s:φA} {d:φ1} (h:JR s d):JR (φ4f s d).1 (φ4f s d).2.1∧φT (φ4f s d).1 (φ4f s d).2.1=φT s d:=by
 unfold φ4f
 rw[if_neg (by rw[h.ok];simp)]
 by_cases c:s.1.1+2 > 100000
 ·rw[if_pos c];exact ⟨h,rfl⟩
 rw[if_neg c]
 have hJ:=φIy h (by omega)
 refine ⟨hJ,?_⟩
 obtain ⟨q1,q2,q3,q4,q5,q6⟩:=φ15.1 h.ok
 by_cases hc:(φ1C s d (φT s d).1).2.2=0
 ·have hM:=φGp (φT s d).1 q1 q2 (by omega) hc
  exact (φAL h.ok (by omega) hM).2.1
 ·obtain ⟨f1,f2,f3,f4,f5⟩:=φEQ (φT s d).1 h.toJB (by omega) hc
  refine φDG (m:=s.1.1) h.ok hJ.ok (by rw[f1]) (fun e e1 e2 e3=>?_) h.lt
  unfold φ1H
  rw[f5 _ ⟨e1,e2⟩]
abbrev EngT:=Bool×φA×φ1×List TxnT
abbrev φ2P:=Int×Int×List UInt8×List UInt8×Int
def TB (l:List TxnT):Prop:=l.length=3∧∀t∈l,t.2.1.length≤20∧t.2.2.length≤50
structure EI (e:EngT):Prop where
 up:e.1=true→JR e.2.1 e.2.2.1
 dn:e.1=false→(∃s,JR s e.2.2.1)∧e.2.1.1.2.length≤100∧e.2.1.2.1.length≤100
 tx:TB e.2.2.2
theorem TB.new:TB (List.replicate 3 ((false,[],[]):TxnT)):=⟨rfl,fun t ht=>by
 have:=List.eq_of_mem_replicate ht
 subst this
 exact ⟨by simp,by simp⟩⟩
theorem TB.set {l:List TxnT} (h:TB l) (i:Nat) {t:TxnT} (ht:t.2.1.length≤20∧t.2.2.length≤50):TB (l.set i t):=⟨by rw[List.length_set];exact h.1,fun x hx=>by
 rcases List.mem_or_eq_of_mem_set hx with hx | rfl
 ·exact h.2 x hx
 ·exact ht⟩
theorem JR.small {s:φA} {d:φ1} (h:JR s d):SmallS s d:=by
 have:=φGy h.ok
 exact this
theorem EI.small {e:EngT} (h:EI e):SmallS e.2.1 e.2.2.1∧φ5 e.2.2.1=true:=by
 cases c:e.1 with
 | true=>exact ⟨(h.up c).small,(φ15.1 (h.up c).ok).1⟩
 | false=>
  obtain ⟨⟨s,hs⟩,h1,h2⟩:=h.dn c
  have hd:=(φ15.1 hs.ok).1
  exact ⟨⟨φ3T (φu hd) (by omega),by omega,by omega⟩,hd⟩
theorem φJx (e:EngT) (h:EI e):ψ3Y.f e=some e:=by
 obtain ⟨hs,hd⟩:=h.small
 have h1:=hs.ids
 have h2:=hs.dir
 have h3:=hs.sm.1
 have htl:=h.tx.1
 have key:=φ8s (step:=ψ3Y.l0) (fun n (l:List TxnT)=>(e,((false,((0,[]),[],0,0,0),([],0,0,false),[]):EngT),l,(n:Int))) e.2.2.2.length (fun n l=>l=e.2.2.2.take n) (fun b=>b.1=e∧b.2.2=e.2.2.2)
  (fun rec l hi=>⟨_,by simp[ψ3Y.l0];rfl,rfl,by rw[hi,List.take_length]⟩)
  (fun rec n l hn hi=>by
   have e0:(n:Int)<(e.2.2.2.length:Int):=by omega
   have hw:=φJ (show n+1<9223372036854775808 by omega)
   have ht:=h.tx.2 _ (gM hn)
   have hc:=φAv e.2.2.2[n] (by omega) (by omega)
   have hl:l.length=n:=by rw[hi,lT];omega
   have q:decide ((l.length+(0+1)) * 56≤140737488355328)=true:=by simp;omega
   refine ⟨l++[e.2.2.2[n]],by rw[hi,List.take_succ_eq_append_getElem hn],?_⟩
   simp only[ψ3Y.l0,e0,dT,cT,φD,hn,φG,φ8 hn,φ1g,hc,bS,lC,lN,q,hw])
  [] (by simp) (by omega)
 obtain ⟨⟨b1,b2,b3⟩,k,kb1,kb2⟩:=key
 simp only at kb1 kb2
 subst kb1;subst kb2
 unfold ψ3Y.f
 have k:lp ψ3Y.l0 (b1,((false,((0,[]),[],0,0,0),([],0,0,false),[]):EngT),[],0)=_:=k
 simp only[φ9h b1.2.1 (by omega) (by omega),φ4y b1.2.2.1 (by omega),bS,φ1g,k]
theorem φKN {t:TxnT} (h:t.2.1.length≤20∧t.2.2.length≤50) (k:List UInt8) (b:Int):(φ5l t k b).1.2.1.length≤20∧(φ5l t k b).1.2.2.length≤50:=by
 unfold φ5l
 split
 ·exact h
 ·split
  ·split
   ·exact h
   ·exact h
  ·split
   ·exact h
   ·refine ⟨?_,h.2⟩
    simp;omega
theorem φJ7 {t:TxnT} (h:t.2.1.length≤20∧t.2.2.length≤50) (p:PutT):(φ63 t p).1.2.1.length≤20∧(φ63 t p).1.2.2.length≤50:=by
 unfold φ63
 split
 ·refine ⟨h.1,?_⟩
  simp;omega
 ·exact h
theorem EI.same {e:EngT} (h:EI e) {l:List TxnT} (hl:TB l):EI (e.1,e.2.1,e.2.2.1,l):=⟨h.up,h.dn,hl⟩
theorem φMY {e:EngT} (h:EI e) (s:φ2P) (hs:0≤s.2.1∧s.2.1≤2):∃e' a,ψ3a.f e s=some (e',a)∧EI e':=by
 obtain ⟨hS,hd⟩:=h.small
 obtain ⟨hlim,hu⟩:=hS.lim
 have hdr:=hS.dir
 obtain ⟨n,hn⟩:∃n:Nat,s.2.1=(n:Int):=⟨s.2.1.toNat,by omega⟩
 have hn3:n<e.2.2.2.length:=by rw[h.tx.1];omega
 have ht:=h.tx.2 _ (gM hn3)
 unfold ψ3a.f
 rw[hn]
 simp only[φD,hn3,dT,cT,φG,φ8 hn3,φ71,bS,φ1g]
 cases hk:φ1T s.2.2.1
 ·simp only[nF,cT]
  exact ⟨_,_,rfl,h⟩
 simp only[nZ,cF,φED e.2.2.2[n] s.2.2.1 (by omega),bS]
 cases ho:(ownW e.2.2.2[n].2.2 s.2.2.1).2
 ·simp only[cF,φFy e.2.1 e.2.2.1 s.2.2.1 hlim hu (by omega),bS]
  cases hg:((getP e.2.1 e.2.2.1 s.2.2.1).2==3)
  ·simp only[cF,φM9 e.2.2.2[n] s.2.2.1 _ (by omega) (by omega),bS]
   cases hr:((φ5l e.2.2.2[n] s.2.2.1 (getP e.2.1 e.2.2.1 s.2.2.1).1.2.2).2 != 0)
   ·simp only[cF,tN]
    exact ⟨_,_,rfl,h.same (h.tx.set n (φKN ht _ _))⟩
   ·simp only[cT]
    exact ⟨_,_,rfl,h⟩
  ·simp only[cT]
   exact ⟨_,_,rfl,h⟩
 ·simp only[cT]
  cases (ownW e.2.2.2[n].2.2 s.2.2.1).1.2.1
  ·simp only[cF]
   exact ⟨_,_,rfl,h⟩
  ·simp only[cT]
   exact ⟨_,_,rfl,h⟩
theorem φKD (l:List φ9) (hl:l.length<1000000000):ψ2H.f l=some (l.map (·.1)):=by
 have key:=φ8s (step:=ψ2H.l0) (fun n (a:List (List UInt8))=>(l,a,(n:Int))) l.length (fun n a=>a=(l.take n).map (·.1)) (fun b=>b=l.map (·.1))
  (fun rec a hi=>⟨_,by simp[ψ2H.l0];rfl,by rw[hi,List.take_length]⟩)
  (fun rec n a hn hi=>by
   have e0:(n:Int)<(l.length:Int):=by omega
   have hw:=φJ (show n+1<9223372036854775808 by omega)
   have hal:a.length=n:=by rw[hi,lM,lT];omega
   have q:decide ((a.length+(0+1)) * 16≤140737488355328)=true:=by simp;omega
   refine ⟨a++[l[n].1],by rw[hi,List.take_succ_eq_append_getElem hn,mp];rfl,?_⟩
   simp only[ψ2H.l0,e0,dT,cT,φD,hn,φG,φ8 hn,lC,lN,q,hw])
  [] (by simp) (by omega)
 obtain ⟨b,k,kb⟩:=key
 unfold ψ2H.f
 have k:lp ψ2H.l0 (l,[],0)=some b:=k
 rw[k,kb];rfl
theorem EI.store {e:EngT} (h:EI e) (hu:e.1=true) {s:φA} {d:φ1} (hj:JR s d) {l:List TxnT} (hl:TB l):EI (e.1,s,d,l):=⟨fun _=>hj,fun c=>by rw[hu] at c;simp at c,hl⟩
theorem φMn {e:EngT} (h:EI e) (hu:e.1=true) (s:φ2P) (hs:0≤s.2.1∧s.2.1≤2):∃e' a,ψ3X.f e s=some (e',a)∧EI e':=by
 obtain ⟨hS,hd⟩:=h.small
 have hdr:=hS.dir
 obtain ⟨n,hn⟩:∃n:Nat,s.2.1=(n:Int):=⟨s.2.1.toNat,by omega⟩
 have hn3:n<e.2.2.2.length:=by rw[h.tx.1];omega
 have ht:=h.tx.2 _ (gM hn3)
 have htb:=h.tx.set n (t:=(false,[],[])) ⟨by simp,by simp⟩
 unfold ψ3X.f
 rw[hn]
 simp only[φD,hn3,dT,cT,φG,φ8 hn3,tN,φ1g,φFc e.2.2.2[n] e.2.1.2.1 (by omega) (by omega),bS]
 cases φ4U e.2.2.2[n] e.2.1.2.1
 ·simp only[nF,cT]
  exact ⟨_,_,rfl,h.same htb⟩
 ·have hnl:=φ9g e.2.2.2[n].2.2
  simp only[nZ,cF,φ9F e.2.2.2[n] (by omega),bS,φJN hS (netW e.2.2.2[n].2.2) (by omega)]
  exact ⟨_,_,rfl,h.store hu (φE9 (h.up hu) _).1 htb⟩
theorem φKI {d:φ1} (h:∃s,JR s d):∃e' c,ψ2P.f d=some (e',c)∧EI e':=by
 obtain ⟨s,hs⟩:=h
 have hd:=(φ15.1 hs.ok).1
 obtain ⟨t,y,ho,hj,_⟩:=φI3 hs
 unfold ψ2P.f
 rw[φFr d (φ3T (φu hd) (by omega)),ho]
 exact ⟨_,_,rfl,⟨fun _=>hj,fun c=>by simp at c,TB.new⟩⟩
theorem φLt {e:EngT} (h:EI e) (s:φ2P) (h11:s.1≠11):∃e' a,ψ2Q.f e s=some (e',a)∧EI e':=by
 obtain ⟨hS,hd⟩:=h.small
 have hdr:=hS.dir
 have htx:=h.tx.1
 unfold ψ2Q.f
 simp only[φJx e h,bS]
 cases c10:(s.1==10)
 rotate_left
 ·simp only[cT]
  cases hu:e.1
  ·simp only[cF]
   obtain ⟨e',c,k1,k2⟩:=φKI (h.dn hu).1
   simp only[k1,bS]
   exact ⟨_,_,rfl,k2⟩
  ·simp only[cT]
   exact ⟨_,_,rfl,h⟩
 have c11:(s.1==11)=false:=by simpa using h11
 simp only[c11,cF]
 cases hu:e.1
 ·simp only[nF,cT]
  exact ⟨_,_,rfl,h⟩
 simp only[nZ,cF]
 have hJ:=h.up hu
 cases c7:(s.1==7)
 rotate_left
 ·simp only[cT,(φMQ hS).2,bS]
  refine ⟨_,_,rfl,?_⟩
  rw[←hu]
  exact h.store hu (φHx hJ).1 h.tx
 simp only[cF]
 cases c8:(s.1==8)
 rotate_left
 ·simp only[cT,φKD e.2.1.2.1 (by omega),bS]
  exact ⟨_,_,rfl,h⟩
 simp only[cF]
 cases c9:(s.1==9)
 rotate_left
 ·simp only[cT]
  exact ⟨_,_,rfl,⟨fun c=>by simp at c,fun _=>⟨⟨_,hJ⟩,by simp,by simp⟩,TB.new⟩⟩
 simp only[cF]
 have hw:w64 ((e.2.2.2.length:Int) - 1)=2:=by rw[htx];rfl
 simp only[φ1r,hw,bS]
 by_cases hse:0≤s.2.1∧s.2.1≤2
 rotate_left
 ·simp only[hse,dF,nF,cT,bS,φK]
  exact ⟨_,_,rfl,h⟩
 simp only[hse,and_self,dT,nZ,cF]
 by_cases hk6:1≤s.1∧s.1≤6
 rotate_left
 ·simp only[hk6,dF,nF,cT,bS,φK]
  exact ⟨_,_,rfl,h⟩
 simp only[hk6,and_self,dT,nZ,cF]
 obtain ⟨n,hn⟩:∃n:Nat,s.2.1=(n:Int):=⟨s.2.1.toNat,by omega⟩
 have hn3:n<e.2.2.2.length:=by rw[htx];omega
 have ht:=h.tx.2 _ (gM hn3)
 have hin:inB s.2.1 e.2.2.2.length=true:=by rw[hn,φD];simp[hn3]
 have hrd:rdA (false,[],[]) e.2.2.2 s.2.1=e.2.2.2[n]:=by rw[hn,φG,φ8 hn3]
 have hnt:s.2.1.toNat=n:=by rw[hn];rfl
 simp only[hin,hrd,cT]
 cases c1:(s.1==1)
 rotate_left
 ·have cn1:(s.1 != 1)=false:=by simpa using c1
  simp only[cT,cn1,cF]
  cases e.2.2.2[n].1
  ·simp only[cF,bS,φK,hin,c1,cT,hnt]
   exact ⟨_,_,rfl,h.same (h.tx.set n ⟨by simp,by simp⟩)⟩
  ·simp only[cT,bS,φK]
   exact ⟨_,_,rfl,h⟩
 have cn1:(s.1 != 1)=true:=by simpa using c1
 simp only[cF,cn1,cT]
 cases e.2.2.2[n].1
 ·simp only[nF,cT,bS,φK]
  exact ⟨_,_,rfl,h⟩
 simp only[nZ,cF,bS,φK,c1,hin,cT,hrd,hnt]
 cases c6:(s.1==6)
 rotate_left
 ·simp only[cT,bS,φK]
  exact ⟨_,_,rfl,h.same (h.tx.set n ⟨by simp,by simp⟩)⟩
 simp only[cF]
 cases c2:(s.1==2)
 rotate_left
 ·obtain ⟨e',a,k1,k2⟩:=φMY h s hse
  simp only[cT,k1,bS,φK]
  exact ⟨_,_,rfl,k2⟩
 simp only[cF]
 cases c5:(s.1==5)
 rotate_left
 ·obtain ⟨e',a,k1,k2⟩:=φMn h hu s hse
  simp only[cT,k1,bS,φK]
  exact ⟨_,_,rfl,k2⟩
 simp only[cF,φ9B [(s.2.2.1,s.1==4,s.2.2.2.1)] (by simp),bS,φ1g,φHW e.2.2.2[n] (s.2.2.1,s.1==4,s.2.2.2.1) (by omega) (by omega)]
 cases φ1m [(s.2.2.1,s.1==4,s.2.2.2.1)]
 ·simp only[nF,cT,bS,φK]
  exact ⟨_,_,rfl,h⟩
 simp only[nZ,cF]
 have hb:=φJ7 ht (s.2.2.1,s.1==4,s.2.2.2.1)
 cases (φ63 e.2.2.2[n] (s.2.2.1,s.1==4,s.2.2.2.1)).2
 ·simp only[nF,cT,bS,φK]
  exact ⟨_,_,rfl,h⟩
 ·simp only[nZ,cF,bS,φK]
  exact ⟨_,_,rfl,h.same (h.tx.set n hb)⟩
theorem φCY {c:CurT} (h:Cur c):∃s c',ψ3b.f c=some (s,c')∧s.1≠11∧Cur c':=by
 obtain ⟨k,c1,e1,hk,h1⟩:=φ6i h [1,2,2,3,3,3,4,5,5,6,7,8,1,5] (by decide)
 obtain ⟨z,c2,e2,a2,b2,_,h2⟩:=φ3y h1 3
 have hk11:k≠11:=by
  simp only[mc,List.not_mem_nil,or_false] at hk
  omega
 unfold ψ3b.f
 simp only[e1,e2,bS]
 -- what follows
 have fin:∀(x0:CurT) (x3:φ2P),Cur x0→x3.1≠11→∃s c',((ψ3d.f x0 40).bind fun x=>
   bif x.1==0 then some (((9,0,[],[],0):φ2P),x.2) else
   (bif x.1==1 then some (x.2,((0,0,[],[],0):φ2P),x3,x.1,x.1==1) else some (x.2,((0,0,[],[],0):φ2P),x3,x.1,x.1==2)).bind fun x=>
    bif x.2.2.2.2 then some (((10,0,[],[],0):φ2P),x.1) else
    bif x.2.2.2.1==3 then (ψ3j.f x.1 [(-1),3]).bind fun x_1=>some (((x.2.2.1.1,x_1.1,x.2.2.1.2.2):φ2P),x_1.2) else
    bif x.2.2.2.1==4 then (ψ3i.f x.1 [[],[110,105,110,101,98,121,116,101,115]]).bind fun x_1=>some (((x.2.2.1.1,x.2.2.1.2.1,x_1.1,x.2.2.1.2.2.2):φ2P),x_1.2) else
    bif x.2.2.2.1==5 then (ψ3j.f x.1 [0,12]).bind fun x_1=>some (((x_1.1,x.2.2.1.2):φ2P),x_1.2) else some (x.2.2.1,x.1))=some (s,c')∧s.1≠11∧Cur c':=by
  intro x0 x3 hx h3
  obtain ⟨y,c4,e4,_,_,_,h4⟩:=φ3y hx 40
  simp only[e4,bS]
  cases d0:(y==0)
  rotate_left
  ·exact ⟨_,_,rfl,by decide,h4⟩
  simp only[cF]
  cases d1:(y==1)
  rotate_left
  ·simp only[cT,bS]
   exact ⟨_,_,rfl,by decide,h4⟩
  simp only[cF,bS]
  cases d2:(y==2)
  rotate_left
  ·exact ⟨_,_,rfl,by decide,h4⟩
  simp only[cF]
  cases d3:(y==3)
  rotate_left
  ·obtain ⟨v,c5,e5,_,h5⟩:=φ6i h4 [(-1),3] (by decide)
   simp only[cT,e5,bS]
   exact ⟨_,_,rfl,h3,h5⟩
  simp only[cF]
  cases d4:(y==4)
  rotate_left
  ·obtain ⟨v,c5,e5,_,h5⟩:=φEo h4 [[],[110,105,110,101,98,121,116,101,115]] (by decide)
   simp only[cT,e5,bS]
   exact ⟨_,_,rfl,h3,h5⟩
  simp only[cF]
  cases d5:(y==5)
  rotate_left
  ·obtain ⟨v,c5,e5,hv,h5⟩:=φ6i h4 [0,12] (by decide)
   simp only[cT,e5,bS]
   refine ⟨_,_,rfl,?_,h5⟩
   simp only[mc,List.not_mem_nil,or_false] at hv
   show v≠11
   omega
  ·exact ⟨_,_,rfl,h3,h4⟩
 cases d2:(k==2)
 ·simp only[cF,bS]
  cases d4:(k==4)
  ·simp only[cF]
   cases d3:(k==3)
   ·simp only[cF,bS]
    exact fin c2 (k,z,[],[],0) h2 hk11
   ·obtain ⟨x,c3,e3,_,h3⟩:=φ9M h2
    obtain ⟨y,c4,e4,_,h4⟩:=φIt h3 12 (by omega) (by omega)
    simp only[cT,e3,e4,bS]
    exact fin c4 (k,z,x,y,0) h4 hk11
  ·obtain ⟨x,c3,e3,_,h3⟩:=φ9M h2
   simp only[cT,e3,bS]
   exact fin c3 (k,z,x,[],0) h3 hk11
 ·obtain ⟨x,c3,e3,_,h3⟩:=φ9M h2
  simp only[cT,e3,bS]
  exact fin c3 (k,z,x,[],0) h3 hk11
end Go.Rf.G
