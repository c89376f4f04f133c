import Derived.Test.YtaijadchooalpaaGreatDoorXEngineNewLem2
open Option renaming bind_some→bS
open List renaming length_append→lA,append_assoc→aA,mem_cons_of_mem→mC,mem_append→mA,mem_append_right→mR,mem_append_left→mL,mem_cons→mc,drop_eq_getElem_cons→dG,length_take→lT,length_drop→lD,mem_map→mM,length_map→lM,length_cons→lC,length_nil→lN,getElem_mem→gM,map_append→mp,mem_singleton→mZ,take_succ_eq_append_getElem→κ2,length_singleton→κ3,append_nil→κ4,mem_cons_self→κ6,take_append_drop→κ9,map_cons→κC,nodup_append→κD,drop_zero→κE,nil_append→κG,flatMap_append→κH,nodup_cons→κJ,foldl_cons→κK,cons_append→κM,take_length→κN,range'→κO,drop_left→κP,replicate→κU,flatten_cons→κY
open Bool renaming and_eq_true→bA,eq_false_or_eq_true→bE,not_true→nZ,not_false→nF,true_and→tA,not_not→nn,false_eq_true→κ1,true_eq_false→κ8,or_eq_false_iff→κF,false_and→κL,and_true→κV,not_eq_true'→κX
open Int renaming toNat_natCast→tN,ofNat_lt→oL
open Nat renaming lt_or_ge→κ0,zero_le→κ5,le_refl→κ7,lt_of_lt_of_le→κA,eq_of_beq_eq_true→κB,le_of_ble_eq_true→κI,zero_add→κQ,pow_succ→κS,pow_le_pow_right→κT,mod_eq_of_lt→κW
open Array renaming length_toList→κR
set_option linter.unusedVariables false
set_option linter.unusedSimpArgs false
namespace Go.Rf.G
open Go Go.Rf
set_option synthInstance.maxSize 4000
theorem φEU (s:List UInt8) (u:Int) (B:List UInt8) (hB:B.length<1000000000000) (n1:Int) (st:φ32) (pre:List UInt8) (cnt:Int) (hst:st.1.length≤B.length) (hpre:st.2=false→0≤cnt∧B=pre++st.1) :
  ∃st' ids,lp ψT.l0 (s,(0,[]),u,st,(n1,[]),cnt,0)=some (s,(0,[]),u,st',(n1,ids))∧ids.length≤B.length+1 ∧
   (st'.2=false→st.2=false∧(ids.length:Int)=cnt∧(∀x∈ids,φk x)∧B=pre++((ids.map varT).flatten++st'.1)):=by
 have key:=φ4s (step:=ψT.l0) (a:=(s,((0,[]):φE),u,st,((n1,[]):φE),cnt,0))
  (fun a=>∃(st':φ32) (ids:List Int),a=(s,(0,[]),u,st',(n1,ids),cnt,(ids.length:Int))∧st'.1.length≤B.length∧(st'.2=false→ids.length+st'.1.length≤B.length)∧ids.length≤B.length+1 ∧
   (st'.2=false→st.2=false∧(ids.length:Int)≤cnt∧(∀x∈ids,φk x)∧B=pre++((ids.map varT).flatten++st'.1)))
  (fun a=>if a.2.2.2.1.2=true then 0 else a.2.2.2.1.1.length+1)
  (fun b=>∃(st':φ32) (ids:List Int),b=(s,(0,[]),u,st',(n1,ids))∧ids.length≤B.length+1∧(st'.2=false→st.2=false∧(ids.length:Int)=cnt∧(∀x∈ids,φk x)∧B=pre++((ids.map varT).flatten++st'.1)))
  (fun rec a ha=>by
   obtain ⟨st',ids,rfl,h1,h2,h4,h3⟩:=ha
   obtain ⟨t,bad⟩:=st'
   simp only at h1 h2 h3 h4
   by_cases c:(ids.length:Int)<cnt
   ·cases bad with
    | true=>
     left
     exact ⟨(s,(0,[]),u,(t,true),(n1,ids)),by simp only[ψT.l0,c,dT,cT,nZ,cF],(t,true),ids,rfl,h4,fun e=>by simp at e⟩
    | false=>
     right
     obtain ⟨g1,g2,g3,g4⟩:=h3 rfl
     have g5:=h2 rfl
     have hw:=φB (show ids.length+1<9223372036854775808 by omega)
     rcases φ3g t (by omega) with ⟨x,r,m,et,hx⟩ | m
     ·have hx1:=(φ2H hx []).2
      have hle:t.length=(varT x).length+r.length:=by rw[et,lA]
      have hb:(ids.length+([x]:List Int).length) * 8≤140737488355328:=lim8 (by omega)
      refine ⟨(s,(0,[]),u,(r,false),(n1,ids++[x]),cnt,((ids.length+1:Nat):Int)),⟨(r,false),ids++[x],by simp only[lA,κ3],by show r.length≤_;omega,fun _=>by simp only[lA,κ3];omega,by simp only[lA,κ3];omega,fun _=>⟨g1,by simp only[lA,κ3];omega,fun y hy=>?_,?_⟩⟩,?_,?_⟩
      ·rcases mA.1 hy with hy | hy
       ·exact g3 y hy
       ·rw[mZ.1 hy];exact hx
      ·rw[g4,et];simp
      ·simp only[κ1,if_false];omega
      ·simp only[ψT.l0,c,dT,cT,nF,m,bS,hb,hw]
     ·have hb:(ids.length+([0]:List Int).length) * 8≤140737488355328:=lim8 (by omega)
      refine ⟨(s,(0,[]),u,(t,true),(n1,ids++[0]),cnt,((ids.length+1:Nat):Int)),⟨(t,true),ids++[0],by simp only[lA,κ3],h1,fun e=>by simp at e,by simp only[lA,κ3];omega,fun e=>by simp at e⟩,?_,?_⟩
      ·simp only[if_true,κ1,if_false];omega
      ·simp only[ψT.l0,c,dT,cT,nF,m,bS,hb,hw]
   ·left
    refine ⟨(s,(0,[]),u,(t,bad),(n1,ids)),by simp only[ψT.l0,c,dF,cF],(t,bad),ids,rfl,h4,fun e=>?_⟩
    obtain ⟨g1,g2,g3,g4⟩:=h3 e
    exact ⟨g1,by omega,g3,g4⟩)
  ⟨st,[],rfl,hst,fun _=>by simp;exact hst,by simp,fun e=>⟨e,by simpa using (hpre e).1,by simp,by simpa using (hpre e).2⟩⟩ (by simp only;split<;>omega)
 obtain ⟨b,eb,st',ids,rfl,h1,h2⟩:=key
 exact ⟨st',ids,eb,h1,h2⟩
theorem φI4 (s:List UInt8) (hl:s.length<1000000000):∃res:φE×Bool,ψT.f s=some res∧(res=(φi,false)∨∃v,res=(v,true)∧φ2N s v):=by
 have hul:=φ6a s
 unfold ψT.f
 rw[φ8e s (by omega),bS]
 -- the two numbers ahead
 have first:∃(n1 n2:Int) (st:φ32) (pre:List UInt8),((ψ10.f ((φD s).1,false)).bind fun (t2_0,t2_1)=>(ψ10.f t2_1).bind fun (t3_0,t3_1)=>some (t2_0,t3_0,t3_1))=some (n1,n2,st)∧st.1.length≤(φD s).1.length ∧
   (st.2=false→φk n1∧φk n2∧pre=varT n1++varT n2∧(φD s).1=pre++st.1):=by
  rcases φ3g (φD s).1 (by omega) with ⟨x,r,m,et,hx⟩ | m
  ·have hle:(φD s).1.length=(varT x).length+r.length:=by
    have:=congrArg List.length et
    rw[lA] at this;exact this
   rcases φ3g r (by omega) with ⟨y,q,m2,et2,hy⟩ | m2
   ·have hle2:r.length=(varT y).length+q.length:=by
     have:=congrArg List.length et2
     rw[lA] at this;exact this
    exact ⟨x,y,(q,false),varT x++varT y,by simp only[m,m2,bS],by show q.length≤_;omega,fun _=>⟨hx,hy,rfl,by rw[et,et2,aA]⟩⟩
   ·exact ⟨x,0,(r,true),[],by simp only[m,m2,bS],by show r.length≤_;omega,fun e=>by simp at e⟩
  ·exact ⟨0,0,((φD s).1,true),[],by simp only[m,φ5c _ (show (φD s).1.length<2 ^ 62 by omega),bS],κ7 _,fun e=>by simp at e⟩
 obtain ⟨n1,n2,st,pre,e1,e2,e3⟩:=first
 obtain ⟨st',ids,eL,h1,h2⟩:=φEU s (φD s).2 (φD s).1 (by omega) n1 st pre n2 e2 (fun e=>⟨(e3 e).2.1.1,(e3 e).2.2.2⟩)
 have hrest:((ψ10.f ((φD s).1,false)).bind fun (t2_0,t2_1)=>(ψ10.f t2_1).bind fun (t3_0,t3_1)=>
   (lp ψT.l0 (s,((0,[]):φE),(φD s).2,t3_1,(t2_0,[]),t3_0,0)).bind (fun (x0,x2,x5,x6,x7)=>
   bif x5==0 then some ((0,[]),false) else
   bif x5 != (x0.length:Int) then some ((0,[]),false) else
   bif x6.2 then some ((0,[]),false) else
   bif !(x6.1==[]) then some ((0,[]),false) else
   (ψM.f x7).bind fun t6=>bif !t6 then some ((0,[]),false) else some (x7,true))) =
   (bif (φD s).2==0 then some (((0,[]):φE),false) else
   bif (φD s).2 != (s.length:Int) then some ((0,[]),false) else
   bif st'.2 then some ((0,[]),false) else
   bif !(st'.1==[]) then some ((0,[]),false) else
   (ψM.f (n1,ids)).bind fun t6=>bif !t6 then some ((0,[]),false) else some ((n1,ids),true)):=by
  cases ha:ψ10.f ((φD s).1,false) with
  | none=>rw[ha] at e1;simp at e1
  | some p=>
   obtain ⟨a1,a2⟩:=p
   rw[ha] at e1
   simp only[bS] at e1 ⊢
   cases hb:ψ10.f a2 with
   | none=>rw[hb] at e1;simp at e1
   | some q=>
    obtain ⟨b1,b2⟩:=q
    rw[hb] at e1
    simp only[bS,Option.some.injEq,Prod.mk.injEq] at e1 ⊢
    obtain ⟨rfl,rfl,rfl⟩:=e1
    rw[eL];rfl
 suffices hs:∃res:φE×Bool,(bif (φD s).2==0 then some (((0,[]):φE),false) else
   bif (φD s).2 != (s.length:Int) then some ((0,[]),false) else
   bif st'.2 then some ((0,[]),false) else
   bif !(st'.1==[]) then some ((0,[]),false) else
   (ψM.f (n1,ids)).bind fun t6=>bif !t6 then some ((0,[]),false) else some ((n1,ids),true))=some res∧(res=(φi,false)∨∃v,res=(v,true)∧φ2N s v) by
  obtain ⟨res,e,p⟩:=hs
  exact ⟨res,hrest.trans e,p⟩
 by_cases c1:(φD s).2=0
 ·have d1:((φD s).2==0)=true:=by simpa using c1
  exact ⟨(φi,false),by rw[d1];rfl,.inl rfl⟩
 have d1:((φD s).2==0)=false:=by simpa using c1
 rw[d1,cF]
 by_cases c2:(φD s).2=(s.length:Int)
 rotate_left
 ·have d2:((φD s).2 != (s.length:Int))=true:=by simpa using c2
  exact ⟨(φi,false),by rw[d2];rfl,.inl rfl⟩
 have d2:((φD s).2 != (s.length:Int))=false:=by simpa using c2
 rw[d2,cF]
 cases c3:st'.2 with
 | true=>exact ⟨(φi,false),rfl,.inl rfl⟩
 | false=>
  rw[cF]
  obtain ⟨g1,g2,g3,g4⟩:=h2 c3
  by_cases c4:st'.1=[]
  rotate_left
  ·have d4:(st'.1==[])=false:=by simpa using c4
   exact ⟨(φi,false),by rw[d4];rfl,.inl rfl⟩
  have d4:(st'.1==[])=true:=by simpa using c4
  rw[d4,nZ,cF,φ7v (n1,ids) (by show ids.length<2 ^ 62;omega),bS]
  cases c5:φ1C (n1,ids) with
  | false=>exact ⟨(φi,false),rfl,.inl rfl⟩
  | true=>
   refine ⟨((n1,ids),true),rfl,.inr ⟨(n1,ids),rfl,c5,?_⟩⟩
   obtain ⟨t,r,f1,f2,f3⟩:=φAx c1
   obtain ⟨k1,k2,k3,k4⟩:=e3 g1
   have ht:(φD s).1=t:=by rw[f3]
   have hlen:((frame t).length:Int)=(s.length:Int):=by rw[←c2,f3]
   have hr:r=[]:=by
    have:=congrArg List.length f1
    rw[lA] at this
    exact List.length_eq_zero_iff.1 (by omega)
   unfold φ1E
   rw[if_neg (by rw[c5];simp)]
   rw[f1,hr,κ4,←ht,g4,k3,c4,←g2]
   simp only[κ4]
theorem φDz {s:List UInt8} {v:φE} (h:φ2N s v):ψ2W.f s=some (v,true):=by
 obtain ⟨e1,e2,e3⟩:=φC6 h
 obtain ⟨n1,n2,n3,n4,n5⟩:=φ8Q h.1
 have hbl:=φ7V h.1
 have hsl:s.length≤211:=by rw[e1];exact φ8K _
 have hsh:=h.2
 obtain ⟨nx,ids⟩:=v
 have n4:ids.length≤60:=n4
 have hcnt:φk (ids.length:Int):=⟨by omega,by omega⟩
 have hbd:φ3W (nx,ids)=varT nx++(varT (ids.length:Int)++(ids.map varT).flatten):=by unfold φ3W;rw[aA]
 have hbl2:=hbl
 rw[hbd] at hbl2
 simp only[lA] at hbl2
 have r1:=φ2H n1 (varT (ids.length:Int)++(ids.map varT).flatten)
 have r2:=φ2H hcnt (ids.map varT).flatten
 generalize hT:varT nx++(varT (ids.length:Int)++(ids.map varT).flatten)=T at *
 have hTl:T.length=(varT nx).length+((varT (ids.length:Int)).length+((ids.map varT).flatten).length):=by rw[←hT];simp only[lA]
 have hat:∀n,n≤ids.length→T.drop ((varT nx).length+(varT (ids.length:Int)).length+((ids.take n).map varT).flatten.length)=((ids.drop n).map varT).flatten:=fun n hn=>by
  have e:T=(varT nx++varT (ids.length:Int)++((ids.take n).map varT).flatten)++((ids.drop n).map varT).flatten:=by
   rw[←hT]
   simp only[aA]
   congr 2
   rw[←List.flatten_append,←mp,κ9]
  rw[e,show (varT nx).length+(varT (ids.length:Int)).length+((ids.take n).map varT).flatten.length=(varT nx++varT (ids.length:Int)++((ids.take n).map varT).flatten).length by simp only[lA],κP]
 have hfle:∀n,((ids.take n).map varT).flatten.length≤200:=fun n=>by
  have:((ids.take n).map varT).flatten.length≤3 * (ids.take n).length:=φ8o (fun x hx=>⟨(n2 x (List.mem_of_mem_take hx)).1.1,(n2 x (List.mem_of_mem_take hx)).2⟩)
  rw[lT] at this;omega
 have key:=φO (step:=ψ2W.l0) (fun n (_:Unit)=>(s,((0,[]):φE),T,(ids.length:Int),((nx,ids.take n):φE),(((varT nx).length+(varT (ids.length:Int)).length+((ids.take n).map varT).flatten.length:Nat):Int),(n:Int))) ids.length (fun _ _=>(s,(0,[]),(nx,ids))) (fun _ _=>True)
  (fun rec n _ hn _ ih=>by
   rcases κ0 n ids.length with h1 | h1
   ·have hw:=φB (show n+1<9223372036854775808 by omega)
    have hin:=(n2 _ (gM h1)).1
    have hc60:(n:Int)<60:=by omega
    have hd:((ids.drop n).map varT).flatten=varT ids[n]++((ids.drop (n+1)).map varT).flatten:=by
     rw[dG h1];rfl
    have hta:((ids.take (n+1)).map varT).flatten.length=((ids.take n).map varT).flatten.length+(varT ids[n]).length:=by
     rw[κ2 h1,mp,List.flatten_append,lA]
     show _+(varT ids[n]++[]).length=_
     rw[κ4]
    have hdl:=congrArg List.length (hat n hn)
    rw[lD] at hdl
    have r3:=φ2H hin ((ids.drop (n+1)).map varT).flatten
    have h200:=hfle n
    have hvl:=φR ids[n]
    have hvl1:=φR nx
    have hvl2:=φR (ids.length:Int)
    have hdl2:=congrArg List.length hd
    rw[lA] at hdl2
    have hin2:(decide (0≤(((varT nx).length+(varT (ids.length:Int)).length+((ids.take n).map varT).flatten.length:Nat):Int)) && decide ((((varT nx).length+(varT (ids.length:Int)).length+((ids.take n).map varT).flatten.length:Nat):Int)≤(T.length:Int)))=true:=by
     simp only[bA,decide_eq_true_eq];omega
    have hb:((ids.take n).length+([ids[n]]:List Int).length) * 8≤140737488355328:=lim8 (by rw[lT];omega)
    have hi:ids.take n++[ids[n]]=ids.take (n+1):=(κ2 h1).symm
    have hwo:w64 ((((varT nx).length+(varT (ids.length:Int)).length+((ids.take n).map varT).flatten.length:Nat):Int)+((varT ids[n]).length:Int))=(((varT nx).length+(varT (ids.length:Int)).length+((ids.take (n+1)).map varT).flatten.length:Nat):Int):=by
     rw[φ9 (by omega) (by omega),hta];omega
    simp only[ψ2W.l0,oL,h1,hc60,dT,cT,hin2,tN,hat n hn]
    rw[φ1e _ (by omega),hd,r3.1,bS]
    simp only[hb,dT,cT,hi,hwo,hw,ih () h1 trivial]
   ·have:n=ids.length:=by omega
    subst this
    simp[ψ2W.l0])
  (by omega) 0 () (κ5 _) trivial
 have key:lp ψ2W.l0 (s,(0,[]),T,(ids.length:Int),(nx,[]),(((varT nx).length+(varT (ids.length:Int)).length+((ids.take 0).map varT).flatten.length:Nat):Int),((0:Nat):Int))=_:=key
 have hv1:=φR nx
 have hv2:=φR (ids.length:Int)
 have c1:((s.length:Int)==0)=false:=by
  have:¬(s.length:Int)=0:=by omega
  simpa using this
 have c2:(((varT nx).length:Int)==0)=false:=by
  have:1≤(varT nx).length:=r1.2
  have:¬((varT nx).length:Int)=0:=by omega
  simpa using this
 have c3:(decide (0≤((varT nx).length:Int)) && decide (((varT nx).length:Int)≤(T.length:Int)))=true:=by simp only[bA,decide_eq_true_eq];omega
 have hd1:T.drop (varT nx).length=varT (ids.length:Int)++(ids.map varT).flatten:=by rw[←hT,κP]
 have hw1:w64 (((varT nx).length:Int)+((varT (ids.length:Int)).length:Int))=(((varT nx).length+(varT (ids.length:Int)).length+((ids.take 0).map varT).flatten.length:Nat):Int):=by
  rw[φ9 (by omega) (by omega)];simp
 unfold ψ2W.f
 rw[φ8p s (by omega),e2,hbd,bS]
 simp only
 rw[φ1e T (by omega),r1.1,bS]
 simp only[bne_self_eq_false,cF,c1,c2,c3,cT,tN,hd1]
 rw[φ1e _ (by rw[←hd1,lD];omega),r2.1,bS]
 simp only[hw1]
 have key:lp ψ2W.l0 (s,(0,[]),T,(ids.length:Int),(nx,[]),(((varT nx).length+(varT (ids.length:Int)).length+((ids.take 0).map varT).flatten.length:Nat):Int),0)=_:=key
 rw[key,bS]
 simp only[φ8t (nx,ids) (by show ids.length<2 ^ 62;omega),bS,hsh,beq_self_eq_true,nZ,cF]
theorem φGU (s:List UInt8) (hl:s.length<1000000000):∃res:φE×Bool,ψ2W.f s=some res∧(res=(φi,false)∨∃v,res=(v,true)∧φ2N s v):=by
 have hul:=φ6a s
 unfold ψ2W.f
 rw[φ8p s (by omega),bS]
 simp only
 rw[φ1e _ (by omega),bS]
 by_cases c2:(φD s).2=(s.length:Int)
 rotate_left
 ·have d2:((φD s).2 != (s.length:Int))=true:=by simpa using c2
  exact ⟨(φi,false),by simp only[d2,cT];rfl,.inl rfl⟩
 have d2:((φD s).2 != (s.length:Int))=false:=by simpa using c2
 simp only[d2,cF]
 by_cases c1:(φD s).2=0
 ·have d1:((φD s).2==0)=true:=by simpa using c1
  exact ⟨(φi,false),by simp only[d1,cT];rfl,.inl rfl⟩
 have d1:((φD s).2==0)=false:=by simpa using c1
 simp only[d1,cF]
 generalize hT:(φD s).1=T at *
 have v1:=φ4I T
 by_cases c3:(φP T).2=0
 ·have d3:((φP T).2==0)=true:=by simpa using c3
  exact ⟨(φi,false),by simp only[d3,cT];rfl,.inl rfl⟩
 have d3:((φP T).2==0)=false:=by simpa using c3
 have d4:(decide (0≤(φP T).2) && decide ((φP T).2≤(T.length:Int)))=true:=by simp only[bA,decide_eq_true_eq];omega
 simp only[d3,d4,cF,cT]
 rw[φ1e _ (by rw[lD];omega),bS]
 generalize hR:T.drop (φP T).2.toNat=R
 have v2:=φ4I R
 have hRl:R.length+(φP T).2.toNat=T.length:=by rw[←hR,lD];omega
 generalize (φP T).1=n1
 generalize (φP R).1=cnt
 have hw1:w64 ((φP T).2+(φP R).2)=(φP T).2+(φP R).2:=φ9 (by omega) (by omega)
 simp only[hw1]
 have hp0:0≤(φP T).2+(φP R).2∧(φP T).2+(φP R).2≤T.length:=by omega
 generalize (φP T).2+(φP R).2=pos at hp0
 have key:=φ4s (step:=ψ2W.l0) (a:=(s,((0,[]):φE),T,cnt,((n1,[]):φE),pos,0))
  (fun a=>∃(ids:List Int) (p:Int),a=(s,(0,[]),T,cnt,(n1,ids),p,(ids.length:Int))∧0≤p∧p≤(T.length:Int)∧ids.length≤60)
  (fun a=>61 - a.2.2.2.2.1.2.length)
  (fun b=>∃ids:List Int,b=(s,(0,[]),(n1,ids))∧ids.length≤60)
  (fun rec a ha=>by
   obtain ⟨ids,p,rfl,h1,h2,h3⟩:=ha
   by_cases c:(ids.length:Int)<cnt
   rotate_left
   ·left;exact ⟨_,by simp only[ψ2W.l0,c,dF,cF,cT],ids,rfl,h3⟩
   by_cases cc:(ids.length:Int)<60
   rotate_left
   ·left;exact ⟨_,by simp only[ψ2W.l0,c,cc,dT,dF,cT,cF,cT],ids,rfl,h3⟩
   right
   have hin:(decide (0≤p) && decide (p≤(T.length:Int)))=true:=by simp only[bA,decide_eq_true_eq];omega
   have v3:=φ4I (T.drop p.toNat)
   rw[lD] at v3
   have hw:=φB (show ids.length+1<9223372036854775808 by omega)
   have hwp:w64 (p+(φP (T.drop p.toNat)).2)=p+(φP (T.drop p.toNat)).2:=φ9 (by omega) (by omega)
   have hb:(ids.length+([(φP (T.drop p.toNat)).1]:List Int).length) * 8≤140737488355328:=lim8 (by omega)
   refine ⟨(s,(0,[]),T,cnt,(n1,ids++[(φP (T.drop p.toNat)).1]),p+(φP (T.drop p.toNat)).2,((ids.length+1:Nat):Int)),⟨ids++[(φP (T.drop p.toNat)).1],p+(φP (T.drop p.toNat)).2,by simp only[lA,κ3],by omega,by omega,by simp only[lA,κ3];omega⟩,by simp only[lA,κ3];omega,?_⟩
   simp only[ψ2W.l0,c,cc,dT,cT,hin]
   rw[φ1e _ (by rw[lD];omega),bS]
   simp only[hb,dT,cT,hwp,hw])
  ⟨[],pos,rfl,hp0.1,by omega,by simp⟩ (by simp)
 obtain ⟨b,eb,ids,rfl,h60⟩:=key
 rw[eb,bS]
 simp only[φ8t (n1,ids) (by show ids.length<2 ^ 62;omega),bS]
 by_cases c5:φ1E (n1,ids)=s
 rotate_left
 ·have d5:(φ1E (n1,ids)==s)=false:=by simpa using c5
  exact ⟨(φi,false),by simp only[d5,nF,cT];rfl,.inl rfl⟩
 have d5:(φ1E (n1,ids)==s)=true:=by simpa using c5
 refine ⟨((n1,ids),true),by simp only[d5,nZ,cF],.inr ⟨(n1,ids),rfl,?_,c5⟩⟩
 cases hk:φ1C (n1,ids) with
 | true=>rfl
 | false=>
  exfalso
  have:φ1E (n1,ids)=[]:=by unfold φ1E;rw[if_pos hk]
  rw[this] at c5
  apply c1
  rw[c2,←c5];rfl
noncomputable def φ2R (s:List UInt8):φE×Bool:=@dite (φE×Bool) (∃v,φ2N s v) (Classical.propDecidable _) (fun h=>(h.choose,true)) (fun _=>(φi,false))
theorem φAu {s:List UInt8} {o:Option (φE×Bool)} (h1:∀v,φ2N s v→o=some (v,true)) (h2:∃res:φE×Bool,o=some res∧(res=(φi,false)∨∃v,res=(v,true)∧φ2N s v)):o=some (φ2R s):=by
 unfold φ2R
 by_cases h:∃v,φ2N s v
 ·rw[dif_pos h];exact h1 _ h.choose_spec
 ·rw[dif_neg h]
  obtain ⟨res,e,k | ⟨v,_,hv⟩⟩:=h2
  ·rw[e,k]
  ·exact absurd ⟨v,hv⟩ h
theorem φFw (s:List UInt8) (hl:s.length<1000000000):ψT.f s=some (φ2R s):=φAu (fun _ h=>φDg h) (φI4 s hl)
theorem φF1 (s:List UInt8) (hl:s.length<1000000000):ψ2W.f s=some (φ2R s):=φAu (fun _ h=>φDz h) (φGU s hl)
theorem φ8N (s:List UInt8):φ2R s=(φi,false)∧(¬∃v,φ2N s v)∨∃v,φ2R s=(v,true)∧φ2N s v:=by
 unfold φ2R
 by_cases h:∃v,φ2N s v
 ·rw[dif_pos h];exact .inr ⟨_,rfl,h.choose_spec⟩
 ·rw[dif_neg h];exact .inl ⟨rfl,h⟩
def φ2c (s:List UInt8) (h:φj):Prop:=φ1u h=true∧φ25 h=s
def φ2K:φj:=(0,0,[])
theorem φ4M (st:φ32) (hl:st.1.length<2 ^ 62):∃n st',ψ10.f st=some (n,st')∧st'.1.length≤st.1.length∧(st'.2=false→st.2=false∧st'.1.length+1≤st.1.length):=by
 obtain ⟨s,b⟩:=st
 cases b with
 | true=>exact ⟨0,(s,true),φ5c s hl,κ7 _,fun e=>by simp at e⟩
 | false=>
  rcases φ3g s hl with ⟨n,r,m,e,hn⟩ | m
  ·have h1:=(φ2H hn []).2
   have hle:s.length=(varT n).length+r.length:=by rw[e,lA]
   exact ⟨n,(r,false),m,by show r.length≤s.length;omega,fun _=>⟨rfl,by show r.length+1≤s.length;omega⟩⟩
  ·exact ⟨0,(s,true),m,κ7 _,fun e=>by simp at e⟩
theorem φEI (st:φ32) (hl:st.1.length<2 ^ 62):∃t st',ψ11.f st=some (t,st')∧st'.1.length≤st.1.length∧(st'.2=false→st.2=false∧st'.1.length+1≤st.1.length):=by
 obtain ⟨s,b⟩:=st
 cases b with
 | true=>exact ⟨[],(s,true),φ6R s hl,κ7 _,fun e=>by simp at e⟩
 | false=>
  rcases φ6Y s hl with ⟨t,r,m,e,hn⟩ | ⟨r,m,hr⟩
  ·have h1:=(φ2H hn []).2
   have hle:s.length=(varT (t.length:Int)).length+(t.length+r.length):=by
    have:=congrArg List.length e
    simp only[lA] at this;exact this
   exact ⟨t,(r,false),m,by show r.length≤s.length;omega,fun _=>⟨rfl,by show r.length+1≤s.length;omega⟩⟩
  ·exact ⟨[],(r,true),m,hr,fun e=>by simp at e⟩
theorem φES (s:List UInt8):∃t st',ψz.f (s,false) 4=some (t,st')∧st'.1.length≤s.length:=by
 rcases φ8L s 4 (by decide) with ⟨t,r,e,es,_⟩ | e
 ·exact ⟨t,(r,false),e,by rw[es,lA];show r.length≤_;omega⟩
 ·exact ⟨[],(s,true),e,κ7 _⟩
theorem φ7W {a:Nat} (h:a<1000000000001):(a+1) * 48≤140737488355328:=by omega
theorem φFI (s:List UInt8) (hl:s.length<900000000):∃res:φj×Bool,ψS.f s=some res∧(res=(φ2K,false)∨∃h,res=(h,true)∧φ2c s h):=by
 obtain ⟨t,st1,e1,l1⟩:=φES s
 obtain ⟨n2,st2,e2,l2,_⟩:=φ4M st1 (by omega)
 obtain ⟨n3,st3,e3,l3,_⟩:=φ4M st2 (by omega)
 obtain ⟨n4,st4,e4,l4,_⟩:=φ4M st3 (by omega)
 have key:=φ4s (step:=ψS.l0) (a:=(s,((0,0,[]):φj),st4,((n2,n3,[]):φj),n4,0))
  (fun a=>∃(st:φ32) (es:List φG),a=(s,(0,0,[]),st,(n2,n3,es),n4,(es.length:Int))∧st.1.length≤s.length∧(st.2=false→es.length+st.1.length≤s.length)∧es.length≤s.length+1)
  (fun a=>if a.2.2.1.2=true then 0 else a.2.2.1.1.length+1)
  (fun b=>∃(st:φ32) (es:List φG),b=(s,(0,0,[]),st,(n2,n3,es))∧es.length≤s.length+1)
  (fun rec a ha=>by
   obtain ⟨st,es,rfl,h1,h2,h4⟩:=ha
   by_cases c:(es.length:Int)<n4
   rotate_left
   ·left;exact ⟨_,by simp only[ψS.l0,c,dF,cF],st,es,rfl,h4⟩
   obtain ⟨u,bad⟩:=st
   simp only at h1 h2
   cases bad with
   | true=>
    left
    exact ⟨_,by simp only[ψS.l0,c,dT,cT,nZ,cF],(u,true),es,rfl,h4⟩
   | false=>
    right
    have h2:=h2 rfl
    obtain ⟨x5,s5,m5,q5,r5⟩:=φEI (u,false) (show u.length<2 ^ 62 by omega)
    have q5:s5.1.length≤u.length:=q5
    obtain ⟨x6,s6,m6,q6,r6⟩:=φ4M s5 (by omega)
    obtain ⟨x7,s7,m7,q7,r7⟩:=φ4M s6 (by omega)
    obtain ⟨x8,s8,m8,q8,r8⟩:=φ4M s7 (by omega)
    obtain ⟨x9,s9,m9,q9,r9⟩:=φ4M s8 (by omega)
    have hw:=φB (show es.length+1<9223372036854775808 by omega)
    have hb:(es.length+([(x5,x6,x7,x8,x9)]:List φG).length) * 48≤140737488355328:=φ7W (by omega)
    have hdec:s9.2=false→s9.1.length+1≤u.length:=fun e=>by
     have a9:=r9 e
     have a8:=r8 a9.1
     have a7:=r7 a8.1
     have a6:=r6 a7.1
     have a5:=(r5 a6.1).2
     have a5:s5.1.length+1≤u.length:=a5
     omega
    refine ⟨(s,(0,0,[]),s9,(n2,n3,es++[(x5,x6,x7,x8,x9)]),n4,((es.length+1:Nat):Int)),⟨s9,es++[(x5,x6,x7,x8,x9)],by simp only[lA,κ3],by omega,fun e=>by simp only[lA,κ3];have:=hdec e;omega,by simp only[lA,κ3];omega⟩,?_,?_⟩
    ·simp only[κ1,if_false]
     split
     ·omega
     ·rename_i z
      have:=hdec (by simpa using z)
      omega
    ·simp only[ψS.l0,c,dT,cT,nF,m5,m6,m7,m8,m9,bS,hb,hw])
  ⟨st4,[],rfl,by omega,fun _=>by simp;omega,by simp⟩ (by simp only;split<;>omega)
 obtain ⟨b,eb,st,es,rfl,hes⟩:=key
 unfold ψS.f
 simp only[e1,e2,e3,e4,bS,eb]
 cases c1:st.2 with
 | true=>exact ⟨(φ2K,false),rfl,.inl rfl⟩
 | false=>
  simp only[cF,φ8T (n2,n3,es) (show es.length<1000000000 by omega),bS]
  cases c2:φ1u (n2,n3,es) with
  | false=>exact ⟨(φ2K,false),rfl,.inl rfl⟩
  | true=>
   simp only[nZ,cF,φB0 (n2,n3,es) (show es.length<1000000000 by omega),bS]
   by_cases c3:φ25 (n2,n3,es)=s
   ·have d3:(φ25 (n2,n3,es)==s)=true:=by simpa using c3
    exact ⟨((n2,n3,es),true),by simp only[d3,nZ,cF],.inr ⟨_,rfl,c2,c3⟩⟩
   ·have d3:(φ25 (n2,n3,es)==s)=false:=by simpa using c3
    exact ⟨(φ2K,false),by simp only[d3,nF,cT];rfl,.inl rfl⟩
theorem φ8m {h:φj} (k:φ1u h=true):φk h.1∧φk h.2.1∧h.2.2.length≤20∧∀e∈h.2.2,e.1.length≤8∧φk e.2.1∧φk e.2.2.1∧φk e.2.2.2.1∧φk e.2.2.2.2:=by
 unfold φ1u at k
 simp only[bA,decide_eq_true_eq,List.all_eq_true] at k
 obtain ⟨k1,k2,k3,k4⟩:=k
 have hd:=φBO k4
 refine ⟨⟨k2.1,by omega⟩,⟨k3.1,by omega⟩,hd.1,fun e he=>?_⟩
 have ho:=hd.2 e he
 have hs:=k1 e he
 have hk:=φDB ho
 unfold φ3k at ho
 unfold φ3l at hs
 simp only[bA,decide_eq_true_eq,κX,decide_eq_false_iff_not] at ho hs
 unfold φk
 omega
theorem φCm {s:List UInt8} {h:φj} (k:φ2c s h):s=fix4 (crcT (φ11 h))++φ11 h∧(fix4 (crcT (φ11 h))).length=4:=by
 refine ⟨?_,φ62 (φ5a _)⟩
 rw[←k.2];unfold φ25;rw[if_neg (by rw[k.1];simp)]
theorem φ84 (e:φG) (r:List UInt8):entT e++r=varT (e.1.length:Int)++(e.1++(varT e.2.1++(varT e.2.2.1++(varT e.2.2.2.1++(varT e.2.2.2.2++r))))):=by
 unfold entT;simp only[aA]
theorem φGC {s:List UInt8} {h:φj} (k:φ2c s h):ψS.f s=some (h,true):=by
 obtain ⟨es,h4⟩:=φCm k
 obtain ⟨n1,n2,n3,n4⟩:=φ8m k.1
 have hbl:=φ6i k.1
 have hsh:=k.2
 have hok:=k.1
 obtain ⟨z,m,l⟩:=h
 simp only at n1 n2 n3 n4
 have hcnt:φk (l.length:Int):=⟨by omega,by omega⟩
 have hbd:φ11 (z,m,l)=varT z++(varT m++(varT (l.length:Int)++(l.map entT).flatten)):=by unfold φ11;simp only[aA]
 have hbl2:=hbl
 rw[hbd] at hbl2
 simp only[lA] at hbl2
 have b0:=φ4w (fix4 (crcT (φ11 (z,m,l)))) (φ11 (z,m,l))
 rw[←es,h4,hbd] at b0
 have b0:ψz.f (s,false) 4=_:=b0
 have m1:=φ1Z n1 (varT m++(varT (l.length:Int)++(l.map entT).flatten)) (by simp only[lA];omega)
 have m2:=φ1Z n2 (varT (l.length:Int)++(l.map entT).flatten) (by simp only[lA];omega)
 have m3:=φ1Z hcnt (l.map entT).flatten (by simp only[lA];omega)
 have hfl:∀n,((l.drop n).map entT).flatten.length≤43 * (l.drop n).length:=fun n=>φ90 (fun x hx=>(n4 x (List.mem_of_mem_drop hx)).1)
 have key:=φO (step:=ψS.l0) (fun n (_:Unit)=>(s,((0,0,[]):φj),(((l.drop n).map entT).flatten,false),((z,m,l.take n):φj),(l.length:Int),(n:Int))) l.length (fun _ _=>(s,(0,0,[]),([],false),(z,m,l))) (fun _ _=>True)
  (fun rec n _ hn _ ih=>by
   rcases κ0 n l.length with h1 | h1
   ·have hw:=φB (show n+1<9223372036854775808 by omega)
    obtain ⟨k0,k1,k2,k3,k5⟩:=n4 _ (gM h1)
    have hk0:φk (l[n].1.length:Int):=⟨by omega,by omega⟩
    have hd:((l.drop n).map entT).flatten=entT l[n]++((l.drop (n+1)).map entT).flatten:=by
     rw[dG h1];rfl
    have hlen:=hfl n
    rw[hd,φ84] at hlen
    rw[lD] at hlen
    simp only[lA] at hlen
    have t0:=φ6s l[n].1 (varT l[n].2.1++(varT l[n].2.2.1++(varT l[n].2.2.2.1++(varT l[n].2.2.2.2++((l.drop (n+1)).map entT).flatten)))) hk0 (by simp only[lA];omega)
    have t1:=φ1Z k1 (varT l[n].2.2.1++(varT l[n].2.2.2.1++(varT l[n].2.2.2.2++((l.drop (n+1)).map entT).flatten))) (by simp only[lA];omega)
    have t2:=φ1Z k2 (varT l[n].2.2.2.1++(varT l[n].2.2.2.2++((l.drop (n+1)).map entT).flatten)) (by simp only[lA];omega)
    have t3:=φ1Z k3 (varT l[n].2.2.2.2++((l.drop (n+1)).map entT).flatten) (by simp only[lA];omega)
    have t4:=φ1Z k5 ((l.drop (n+1)).map entT).flatten (by simp only[lA];omega)
    have hb:((l.take n).length+([l[n]]:List φG).length) * 48≤140737488355328:=φ7W (by rw[lT];omega)
    have hi:l.take n++[l[n]]=l.take (n+1):=(κ2 h1).symm
    have hp:((l[n].1,l[n].2.1,l[n].2.2.1,l[n].2.2.2.1,l[n].2.2.2.2):φG)=l[n]:=rfl
    simp only[ψS.l0,oL,h1,dT,cT,hd,φ84,nF,t0,t1,t2,t3,t4,bS,hp,hb,hw,hi,ih () h1 trivial]
   ·have:n=l.length:=by omega
    subst this
    simp[ψS.l0])
  (by omega) 0 () (κ5 _) trivial
 have key:lp ψS.l0 (s,(0,0,[]),((l.map entT).flatten,false),(z,m,[]),(l.length:Int),0)=_:=key
 unfold ψS.f
 simp only[b0,m1,m2,m3,bS,key,cF,φ8T (z,m,l) (show l.length<1000000000 by omega),hok,nZ,φB0 (z,m,l) (show l.length<1000000000 by omega),hsh,beq_self_eq_true]
theorem φC1 (pre:List UInt8) (ns:List Int) (r:List UInt8) (hn:∀x∈ns,φk x) (hl:(pre++((ns.map varT).flatten++r)).length<1000000000) :
  ψ2p.f (pre++((ns.map varT).flatten++r)) (pre.length:Int) (ns.length:Int)=some (ns,(((pre++(ns.map varT).flatten).length:Nat):Int)):=by
 have hat:∀n,(pre++((ns.map varT).flatten++r)).drop (pre++((ns.take n).map varT).flatten).length=((ns.drop n).map varT).flatten++r:=fun n=>by
  have e:pre++((ns.map varT).flatten++r)=(pre++((ns.take n).map varT).flatten)++(((ns.drop n).map varT).flatten++r):=by
   simp only[aA]
   congr 1
   rw[←aA,←List.flatten_append,←mp,κ9]
  rw[e,κP]
 have hnl:ns.length≤((ns.map varT).flatten).length:=by
  clear hl hat
  induction ns with
  | nil=>simp
  | cons x l ih=>
   have:=(φ2H (hn x κ6) []).2
   have:=ih (fun y hy=>hn y (mC _ hy))
   simp only[κC,κY,lA,lC];omega
 generalize hT:pre++((ns.map varT).flatten++r)=T at *
 have hTl:T.length=pre.length+(((ns.map varT).flatten).length+r.length):=by rw[←hT];simp only[lA]
 have key:=φO (step:=ψ2p.l0) (fun n (_:Unit)=>(T,(((pre++((ns.take n).map varT).flatten).length:Nat):Int),(ns.length:Int),ns.take n,(n:Int))) ns.length (fun _ _=>.inl ((((pre++(ns.map varT).flatten).length:Nat):Int),ns)) (fun _ _=>True)
  (fun rec n _ hn' _ ih=>by
   rcases κ0 n ns.length with h1 | h1
   ·have hw:=φB (show n+1<9223372036854775808 by omega)
    have hin:=hn _ (gM h1)
    have hd:((ns.drop n).map varT).flatten=varT ns[n]++((ns.drop (n+1)).map varT).flatten:=by
     rw[dG h1];rfl
    have hta:(pre++((ns.take (n+1)).map varT).flatten).length=(pre++((ns.take n).map varT).flatten).length+(varT ns[n]).length:=by
     rw[κ2 h1,mp,List.flatten_append,lA,lA,lA]
     show _+(_+(varT ns[n]++[]).length)=_
     rw[κ4,Nat.add_assoc]
    have r3:=φ2H hin (((ns.drop (n+1)).map varT).flatten++r)
    have hv:=φR ns[n]
    have hdl:T.length - (pre++((ns.take n).map varT).flatten).length=(varT ns[n]).length+(((ns.drop (n+1)).map varT).flatten++r).length:=by
     have:=congrArg List.length (hat n)
     rw[lD,hd,aA] at this
     rw[this,lA]
    have hin2:(decide (0≤(((pre++((ns.take n).map varT).flatten).length:Nat):Int)) && decide ((((pre++((ns.take n).map varT).flatten).length:Nat):Int)≤(T.length:Int)))=true:=by
     simp only[bA,decide_eq_true_eq];omega
    have hb:((ns.take n).length+([ns[n]]:List Int).length) * 8≤140737488355328:=lim8 (by rw[lT];omega)
    have hi:ns.take n++[ns[n]]=ns.take (n+1):=(κ2 h1).symm
    have hwo:w64 ((((pre++((ns.take n).map varT).flatten).length:Nat):Int)+((varT ns[n]).length:Int))=(((pre++((ns.take (n+1)).map varT).flatten).length:Nat):Int):=by
     rw[φ9 (by omega) (by omega),hta];omega
    have hz:(((varT ns[n]).length:Int)==0)=false:=by
     have:=r3.2
     have:¬((varT ns[n]).length:Int)=0:=by omega
     simpa using this
    simp only[ψ2p.l0,oL,h1,dT,cT,hin2,tN,hat n,hd,aA]
    rw[φ1e _ (by rw[lA];omega),r3.1,bS]
    simp only[hz,cF,hb,dT,cT,hi,hwo,hw,ih () h1 trivial]
   ·have:n=ns.length:=by omega
    subst this
    simp[ψ2p.l0])
  (by omega) 0 () (κ5 _) trivial
 have key:lp ψ2p.l0 (T,(((pre++((ns.take 0).map varT).flatten).length:Nat):Int),(ns.length:Int),ns.take 0,0)=_:=key
 have h0:(pre++((ns.take 0).map varT).flatten).length=pre.length:=by simp
 rw[h0] at key
 have key:lp ψ2p.l0 (T,(pre.length:Int),(ns.length:Int),[],0)=_:=key
 unfold ψ2p.f
 rw[key,bS]
 simp only[φL]
theorem φBl (s:List UInt8) (a:Int) (n:Nat) (ha:0≤a∧a≤(s.length:Int)) (hn:n≤10) (hl:s.length<1000000000) :
  ∃l b,ψ2p.f s a (n:Int)=some (l,b)∧l.length=n∧(b=-1∨(0≤b∧b≤(s.length:Int))):=by
 have key:=φ4s (step:=ψ2p.l0) (a:=(s,a,(n:Int),[],0))
  (fun x=>∃(l:List Int) (p:Int),x=(s,p,(n:Int),l,(l.length:Int))∧0≤p∧p≤(s.length:Int)∧l.length≤n)
  (fun x=>11 - x.2.2.2.1.length)
  (fun b=>(∃(l:List Int) (p:Int),b=.inl (p,l)∧0≤p∧p≤(s.length:Int)∧l.length=n)∨b=.inr (κU n 0,-1))
  (fun rec x hx=>by
   obtain ⟨l,p,rfl,h1,h2,h3⟩:=hx
   by_cases c:l.length<n
   rotate_left
   ·left
    exact ⟨.inl (p,l),by simp[ψ2p.l0,c],.inl ⟨l,p,rfl,h1,h2,by omega⟩⟩
   have hin:(decide (0≤p) && decide (p≤(s.length:Int)))=true:=by simp only[bA,decide_eq_true_eq];omega
   have v3:=φ4I (s.drop p.toNat)
   rw[lD] at v3
   have hw:=φB (show l.length+1<9223372036854775808 by omega)
   have hwp:w64 (p+(φP (s.drop p.toNat)).2)=p+(φP (s.drop p.toNat)).2:=φ9 (by omega) (by omega)
   have hb:(l.length+([(φP (s.drop p.toNat)).1]:List Int).length) * 8≤140737488355328:=lim8 (by omega)
   have hrv:=φ1e (s.drop p.toNat) (by rw[lD];omega)
   by_cases c2:(φP (s.drop p.toNat)).2=0
   ·left
    have d2:((φP (s.drop p.toNat)).2==0)=true:=by simpa using c2
    have d3:(decide (0≤(n:Int)) && decide (8 * (n:Int)≤140737488355328))=true:=by simp only[bA,decide_eq_true_eq];omega
    refine ⟨.inr (κU n 0,-1),?_,.inr rfl⟩
    simp only[ψ2p.l0,oL,c,dT,cT,hin,hrv,bS,d2,beq_self_eq_true,d3,tN]
   ·right
    have d2:((φP (s.drop p.toNat)).2==0)=false:=by simpa using c2
    refine ⟨(s,p+(φP (s.drop p.toNat)).2,(n:Int),l++[(φP (s.drop p.toNat)).1],((l.length+1:Nat):Int)),⟨l++[(φP (s.drop p.toNat)).1],p+(φP (s.drop p.toNat)).2,by simp only[lA,κ3],by omega,by omega,by simp only[lA,κ3];omega⟩,by simp only[lA,κ3];omega,?_⟩
    simp only[ψ2p.l0,oL,c,dT,cT,hin,hrv,bS,d2,cF,hb,hwp,hw])
  ⟨[],a,rfl,ha.1,ha.2,by simp⟩ (by simp)
 obtain ⟨b,eb,hb⟩:=key
 unfold ψ2p.f
 rw[eb,bS]
 rcases hb with ⟨l,p,rfl,h1,h2,h3⟩ | rfl
 ·simp only[φL];exact ⟨l,p,rfl,h3,.inr ⟨h1,h2⟩⟩
 ·simp only[φS];exact ⟨_,_,rfl,by simp,.inl rfl⟩
theorem φFL {s:List UInt8} {h:φj} (k:φ2c s h):ψ2V.f s=some (h,true):=by
 obtain ⟨es,h4⟩:=φCm k
 obtain ⟨n1,n2,n3,n4⟩:=φ8m k.1
 have hbl:=φ6i k.1
 have hsh:=k.2
 obtain ⟨z,m,l⟩:=h
 simp only at n1 n2 n3 n4
 have hcnt:φk (l.length:Int):=⟨by omega,by omega⟩
 generalize hF:fix4 (crcT (φ11 (z,m,l)))=F at *
 have hbd:φ11 (z,m,l)=(([z,m,(l.length:Int)]:List Int).map varT).flatten++(l.map entT).flatten:=by
  unfold φ11;simp
 rw[hbd] at es hbl
 have hsl:s.length≤1004:=by rw[es,lA,h4];omega
 have v0:=φC1 F [z,m,(l.length:Int)] (l.map entT).flatten (by
  intro x hx
  simp only[mc,List.not_mem_nil,or_false] at hx
  rcases hx with rfl | rfl | rfl
  ·exact n1
  ·exact n2
  ·exact hcnt) (by rw[←es];omega)
 rw[←es,h4] at v0
 have v0:ψ2p.f s 4 3=_:=v0
 have hfl:∀n,((l.drop n).map entT).flatten.length≤s.length:=fun n=>by
  have e:l.map entT=(l.take n).map entT++(l.drop n).map entT:=by rw[←mp,κ9]
  rw[es,e,List.flatten_append]
  simp only[lA];omega
 have hat:∀n,s.drop (s.length - ((l.drop n).map entT).flatten.length)=((l.drop n).map entT).flatten:=fun n=>by
  have e:l.map entT=(l.take n).map entT++(l.drop n).map entT:=by rw[←mp,κ9]
  have es2:s=(F++((([z,m,(l.length:Int)]:List Int).map varT).flatten++((l.take n).map entT).flatten))++((l.drop n).map entT).flatten:=by
   rw[es,e,List.flatten_append];simp only[aA]
  have hl:s.length - ((l.drop n).map entT).flatten.length=(F++((([z,m,(l.length:Int)]:List Int).map varT).flatten++((l.take n).map entT).flatten)).length:=by
   have:=congrArg List.length es2
   rw[lA] at this;omega
  rw[hl]
  conv=>lhs;rw[es2]
  exact κP
 have key:=φO (step:=ψ2V.l0) (fun n (_:Unit)=>(s,((0,0,[]):φj),([z,m,(l.length:Int)]:List Int),(((s.length - ((l.drop n).map entT).flatten.length:Nat)):Int),((z,m,l.take n):φj),(n:Int))) l.length (fun _ _=>.inl (s,(0,0,[]),(z,m,l))) (fun _ _=>True)
  (fun rec n _ hn _ ih=>by
   have hrd:rdA 0 ([z,m,(l.length:Int)]:List Int) 2=(l.length:Int):=rfl
   rcases κ0 n l.length with h1 | h1
   ·have hw:=φB (show n+1<9223372036854775808 by omega)
    obtain ⟨k0,k1,k2,k3,k5⟩:=n4 _ (gM h1)
    have hk0:φk (l[n].1.length:Int):=⟨by omega,by omega⟩
    have hd:((l.drop n).map entT).flatten=entT l[n]++((l.drop (n+1)).map entT).flatten:=by
     rw[dG h1];rfl
    have hf0:=hfl n
    have hf1:=hfl (n+1)
    generalize hR:((l.drop (n+1)).map entT).flatten=R at *
    generalize hD:((l.drop n).map entT).flatten=D at *
    have hat0:=hat n
    rw[hD] at hat0
    rw[φ84] at hd
    have hlen:=congrArg List.length hd
    simp only[lA] at hlen
    have t0:=φ5y l[n].1 (varT l[n].2.1++(varT l[n].2.2.1++(varT l[n].2.2.2.1++(varT l[n].2.2.2.2++R)))) hk0 (by simp only[lA];omega)
    rw[←hd] at t0
    have t1:=φC1 [] [l[n].2.1,l[n].2.2.1,l[n].2.2.2.1,l[n].2.2.2.2] R (by
     intro x hx
     simp only[mc,List.not_mem_nil,or_false] at hx
     rcases hx with rfl | rfl | rfl | rfl
     ·exact k1
     ·exact k2
     ·exact k3
     ·exact k5) (by simp only[κG,κC,List.map_nil,κY,List.flatten_nil,κ4,lA];omega)
    have e4:([]:List UInt8)++((([l[n].2.1,l[n].2.2.1,l[n].2.2.2.1,l[n].2.2.2.2]:List Int).map varT).flatten++R)=varT l[n].2.1++(varT l[n].2.2.1++(varT l[n].2.2.2.1++(varT l[n].2.2.2.2++R))):=by simp
    rw[e4] at t1
    have t1:ψ2p.f (varT l[n].2.1++(varT l[n].2.2.1++(varT l[n].2.2.2.1++(varT l[n].2.2.2.2++R)))) 0 4=_:=t1
    have hE:((([]:List UInt8)++(([l[n].2.1,l[n].2.2.1,l[n].2.2.2.1,l[n].2.2.2.2]:List Int).map varT).flatten).length:Nat)=(varT l[n].2.1).length+((varT l[n].2.2.1).length+((varT l[n].2.2.2.1).length+(varT l[n].2.2.2.2).length)):=by
     simp
    rw[hE] at t1
    have hT:(varT l[n].2.1++(varT l[n].2.2.1++(varT l[n].2.2.2.1++(varT l[n].2.2.2.2++R)))).length=(varT l[n].2.1).length+((varT l[n].2.2.1).length+((varT l[n].2.2.2.1).length+((varT l[n].2.2.2.2).length+R.length))):=by simp only[lA]
    have hin:(decide (0≤(((s.length - D.length:Nat)):Int)) && decide ((((s.length - D.length:Nat)):Int)≤(s.length:Int)))=true:=by simp only[bA,decide_eq_true_eq];omega
    have hpos:decide ((((varT l[n].2.1).length+((varT l[n].2.2.1).length+((varT l[n].2.2.2.1).length+(varT l[n].2.2.2.2).length)):Nat):Int)<0)=false:=by simp;omega
    have hb:((l.take n).length+([l[n]]:List φG).length) * 48≤140737488355328:=φ7W (by rw[lT];omega)
    have hi:l.take n++[l[n]]=l.take (n+1):=(κ2 h1).symm
    have hp:((l[n].1,l[n].2.1,l[n].2.2.1,l[n].2.2.2.1,l[n].2.2.2.2):φG)=l[n]:=rfl
    have hy:w64 (w64 ((s.length:Int) - ((varT l[n].2.1++(varT l[n].2.2.1++(varT l[n].2.2.2.1++(varT l[n].2.2.2.2++R)))).length:Int))+(((varT l[n].2.1).length+((varT l[n].2.2.1).length+((varT l[n].2.2.2.1).length+(varT l[n].2.2.2.2).length)):Nat):Int))=(((s.length - R.length:Nat)):Int):=by
     have w1:=φ9 (n:=(s.length:Int) - (((varT l[n].2.1).length+((varT l[n].2.2.1).length+((varT l[n].2.2.2.1).length+((varT l[n].2.2.2.2).length+R.length))):Nat):Int)) (by omega) (by omega)
     rw[hT,w1,φ9 (by omega) (by omega)];omega
    have i2:inB 2 ([z,m,(l.length:Int)]:List Int).length=true:=rfl
    have j0:inB 0 ([l[n].2.1,l[n].2.2.1,l[n].2.2.2.1,l[n].2.2.2.2]:List Int).length=true:=rfl
    have j1:inB 1 ([l[n].2.1,l[n].2.2.1,l[n].2.2.2.1,l[n].2.2.2.2]:List Int).length=true:=rfl
    have j2:inB 2 ([l[n].2.1,l[n].2.2.1,l[n].2.2.2.1,l[n].2.2.2.2]:List Int).length=true:=rfl
    have j3:inB 3 ([l[n].2.1,l[n].2.2.1,l[n].2.2.2.1,l[n].2.2.2.2]:List Int).length=true:=rfl
    have r0:rdA 0 ([l[n].2.1,l[n].2.2.1,l[n].2.2.2.1,l[n].2.2.2.2]:List Int) 0=l[n].2.1:=rfl
    have r1:rdA 0 ([l[n].2.1,l[n].2.2.1,l[n].2.2.2.1,l[n].2.2.2.2]:List Int) 1=l[n].2.2.1:=rfl
    have r2:rdA 0 ([l[n].2.1,l[n].2.2.1,l[n].2.2.2.1,l[n].2.2.2.2]:List Int) 2=l[n].2.2.2.1:=rfl
    have r3:rdA 0 ([l[n].2.1,l[n].2.2.1,l[n].2.2.2.1,l[n].2.2.2.2]:List Int) 3=l[n].2.2.2.2:=rfl
    have ih:=ih () h1 trivial
    have ht:(s.drop ((((s.length - D.length:Nat)):Int)).toNat)=D:=by rw[tN];exact hat0
    simp only[ψ2V.l0,i2,cT,hrd,oL,h1,dT,hin,ht,t0,bS,t1,nZ,cF,hpos,j0,j1,j2,j3,r0,r1,r2,r3,hp,hb,hi,hy,hw,ih]
   ·have:n=l.length:=by omega
    subst this
    have i2:inB 2 ([z,m,(l.length:Int)]:List Int).length=true:=rfl
    simp only[ψ2V.l0,i2,cT,hrd,Int.lt_irrefl,dF,cF,κN])
  (by omega) 0 () (κ5 _) trivial
 have hp0:(F++(([z,m,(l.length:Int)]:List Int).map varT).flatten).length=s.length - ((l.drop 0).map entT).flatten.length:=by
  rw[κE,es];simp only[lA];omega
 have key:lp ψ2V.l0 (s,(0,0,[]),[z,m,(l.length:Int)],(((s.length - ((l.drop 0).map entT).flatten.length:Nat)):Int),(z,m,[]),0)=_:=key
 rw[←hp0] at key
 have c0:decide ((s.length:Int)<4)=false:=by rw[es];simp;omega
 have c1:decide ((((F++(([z,m,(l.length:Int)]:List Int).map varT).flatten).length:Nat):Int)<0)=false:=by simp;omega
 have i2:inB 2 ([z,m,(l.length:Int)]:List Int).length=true:=rfl
 have i1:inB 1 ([z,m,(l.length:Int)]:List Int).length=true:=rfl
 have i0:inB 0 ([z,m,(l.length:Int)]:List Int).length=true:=rfl
 have q2:rdA 0 ([z,m,(l.length:Int)]:List Int) 2=(l.length:Int):=rfl
 have q1:rdA 0 ([z,m,(l.length:Int)]:List Int) 1=m:=rfl
 have q0:rdA 0 ([z,m,(l.length:Int)]:List Int) 0=z:=rfl
 have c2:decide ((l.length:Int) > 20)=false:=by simp;omega
 have c3:(φ25 (z,m,l)==s)=true:=by simpa using hsh
 unfold ψ2V.f
 simp only[c0,cF,v0,bS,c1,i0,i1,i2,q0,q1,q2,c2,cT,key,φL,φCJ (z,m,l) (show l.length<1000000000 by omega),c3,nZ]
theorem φDa (s:List UInt8) (hl:s.length<900000000):∃res:φj×Bool,ψ2V.f s=some res∧(res=(φ2K,false)∨∃h,res=(h,true)∧φ2c s h):=by
 unfold ψ2V.f
 by_cases c0:(s.length:Int)<4
 ·exact ⟨(φ2K,false),by rw[decide_eq_true c0];rfl,.inl rfl⟩
 rw[decide_eq_false c0,cF]
 obtain ⟨a,b,e1,la,hb⟩:=φBl s 4 3 (by omega) (by omega) (by omega)
 have e1:ψ2p.f s 4 3=_:=e1
 rw[e1,bS]
 simp only
 rcases hb with rfl | hb
 ·exact ⟨(φ2K,false),rfl,.inl rfl⟩
 have c1:decide (b<0)=false:=by simp;omega
 obtain ⟨a0,a1,a2,rfl⟩:∃a0 a1 a2:Int,a=[a0,a1,a2]:=by
  match a,la with
  | [a0,a1,a2],_=>exact ⟨a0,a1,a2,rfl⟩
 have i2:inB 2 ([a0,a1,a2]:List Int).length=true:=rfl
 have i1:inB 1 ([a0,a1,a2]:List Int).length=true:=rfl
 have i0:inB 0 ([a0,a1,a2]:List Int).length=true:=rfl
 have q2:rdA 0 ([a0,a1,a2]:List Int) 2=a2:=rfl
 have q1:rdA 0 ([a0,a1,a2]:List Int) 1=a1:=rfl
 have q0:rdA 0 ([a0,a1,a2]:List Int) 0=a0:=rfl
 rw[c1,i0,i1,i2,q0,q1,q2]
 simp only[cF,cT]
 by_cases c2:a2 > 20
 ·exact ⟨(φ2K,false),by rw[decide_eq_true c2];rfl,.inl rfl⟩
 rw[decide_eq_false c2,cF]
 have key:=φ4s (step:=ψ2V.l0) (a:=(s,((0,0,[]):φj),([a0,a1,a2]:List Int),b,((a0,a1,[]):φj),0))
  (fun x=>∃(es:List φG) (p:Int),x=(s,(0,0,[]),[a0,a1,a2],p,(a0,a1,es),(es.length:Int))∧0≤p∧p≤(s.length:Int)∧es.length≤20)
  (fun x=>21 - x.2.2.2.2.1.2.2.length)
  (fun y=>(∃es:List φG,y=.inl (s,(0,0,[]),(a0,a1,es))∧es.length≤20)∨y=.inr ((0,0,[]),false))
  (fun rec x hx=>by
   obtain ⟨es,p,rfl,h1,h2,h3⟩:=hx
   by_cases c:(es.length:Int)<a2
   rotate_left
   ·left;exact ⟨_,by simp only[ψ2V.l0,i2,cT,q2,c,dF,cF],.inl ⟨es,rfl,h3⟩⟩
   have hin:(decide (0≤p) && decide (p≤(s.length:Int)))=true:=by simp only[bA,decide_eq_true_eq];omega
   obtain ⟨t,r,tb,t0,tl,rl⟩:=φ7B (s.drop p.toNat) (by rw[lD];omega)
   rw[lD] at tl rl
   obtain ⟨bl,e,t1,lb,he⟩:=φBl r 0 4 (by omega) (by omega) (by omega)
   have t1:ψ2p.f r 0 4=_:=t1
   obtain ⟨b0,b1,b2,b3,rfl⟩:∃b0 b1 b2 b3:Int,bl=[b0,b1,b2,b3]:=by
    match bl,lb with
    | [b0,b1,b2,b3],_=>exact ⟨b0,b1,b2,b3,rfl⟩
   cases tb with
   | false=>left;exact ⟨_,by simp only[ψ2V.l0,i2,cT,q2,c,dT,hin,t0,bS,t1,nF],.inr rfl⟩
   | true=>
    rcases he with rfl | he
    ·left;exact ⟨_,by simp only[ψ2V.l0,i2,cT,q2,c,dT,hin,t0,bS,t1,nZ,cF,show decide ((-1:Int)<0)=true from rfl],.inr rfl⟩
    right
    have ce:decide (e<0)=false:=by simp;omega
    have hw:=φB (show es.length+1<9223372036854775808 by omega)
    have hb:(es.length+([(t,b0,b1,b2,b3)]:List φG).length) * 48≤140737488355328:=φ7W (by omega)
    have hy:w64 (w64 ((s.length:Int) - (r.length:Int))+e)=(s.length:Int) - (r.length:Int)+e:=by
     rw[φ9 (n:=(s.length:Int) - (r.length:Int)) (by omega) (by omega),φ9 (by omega) (by omega)]
    have j0:inB 0 ([b0,b1,b2,b3]:List Int).length=true:=rfl
    have j1:inB 1 ([b0,b1,b2,b3]:List Int).length=true:=rfl
    have j2:inB 2 ([b0,b1,b2,b3]:List Int).length=true:=rfl
    have j3:inB 3 ([b0,b1,b2,b3]:List Int).length=true:=rfl
    have r0:rdA 0 ([b0,b1,b2,b3]:List Int) 0=b0:=rfl
    have r1:rdA 0 ([b0,b1,b2,b3]:List Int) 1=b1:=rfl
    have r2:rdA 0 ([b0,b1,b2,b3]:List Int) 2=b2:=rfl
    have r3:rdA 0 ([b0,b1,b2,b3]:List Int) 3=b3:=rfl
    refine ⟨(s,(0,0,[]),[a0,a1,a2],(s.length:Int) - (r.length:Int)+e,(a0,a1,es++[(t,b0,b1,b2,b3)]),((es.length+1:Nat):Int)),⟨es++[(t,b0,b1,b2,b3)],(s.length:Int) - (r.length:Int)+e,by simp only[lA,κ3],by omega,by omega,by simp only[lA,κ3];omega⟩,by simp only[lA,κ3];omega,?_⟩
    simp only[ψ2V.l0,i2,cT,q2,c,dT,hin,t0,bS,t1,nZ,cF,ce,j0,j1,j2,j3,r0,r1,r2,r3,hb,hy,hw])
  ⟨[],b,rfl,hb.1,hb.2,by simp⟩ (by simp)
 obtain ⟨y,ey,hy⟩:=key
 rw[ey,bS]
 rcases hy with ⟨es,rfl,h20⟩ | rfl
 rotate_left
 ·exact ⟨(φ2K,false),by simp only[φS];rfl,.inl rfl⟩
 simp only[φL,φCJ (a0,a1,es) (show es.length<1000000000 by omega),bS]
 by_cases c5:φ25 (a0,a1,es)=s
 rotate_left
 ·have d5:(φ25 (a0,a1,es)==s)=false:=by simpa using c5
  exact ⟨(φ2K,false),by simp only[d5,nF,cT];rfl,.inl rfl⟩
 have d5:(φ25 (a0,a1,es)==s)=true:=by simpa using c5
 refine ⟨((a0,a1,es),true),by simp only[d5,nZ,cF],.inr ⟨_,rfl,?_,c5⟩⟩
 cases hk:φ1u (a0,a1,es) with
 | true=>rfl
 | false=>
  exfalso
  have:φ25 (a0,a1,es)=[]:=by unfold φ25;rw[if_pos hk]
  rw[this] at c5
  rw[←c5] at c0
  simp at c0
noncomputable def φ1W (s:List UInt8):φj×Bool:=@dite (φj×Bool) (∃v,φ2c s v) (Classical.propDecidable _) (fun h=>(h.choose,true)) (fun _=>(φ2K,false))
theorem φBD {s:List UInt8} {o:Option (φj×Bool)} (h1:∀v,φ2c s v→o=some (v,true)) (h2:∃res:φj×Bool,o=some res∧(res=(φ2K,false)∨∃v,res=(v,true)∧φ2c s v)):o=some (φ1W s):=by
 unfold φ1W
 by_cases h:∃v,φ2c s v
 ·rw[dif_pos h];exact h1 _ h.choose_spec
 ·rw[dif_neg h]
  obtain ⟨res,e,k | ⟨v,_,hv⟩⟩:=h2
  ·rw[e,k]
  ·exact absurd ⟨v,hv⟩ h
theorem φGf (s:List UInt8) (hl:s.length<900000000):ψS.f s=some (φ1W s):=φBD (fun _ h=>φGC h) (φFI s hl)
theorem φE2 (s:List UInt8) (hl:s.length<900000000):ψ2V.f s=some (φ1W s):=φBD (fun _ h=>φFL h) (φDa s hl)
theorem φHC (s:List UInt8):φ1W s=(φ2K,false)∧(¬∃v,φ2c s v)∨∃v,φ1W s=(v,true)∧φ2c s v:=by
 unfold φ1W
 by_cases h:∃v,φ2c s v
 ·rw[dif_pos h];exact .inr ⟨_,rfl,h.choose_spec⟩
 ·rw[dif_neg h];exact .inl ⟨rfl,h⟩
theorem φCH (x y:φG):(x.1==y.1 && (x.2.1==y.2.1 && (x.2.2.1==y.2.2.1 && (x.2.2.2.1==y.2.2.2.1 && x.2.2.2.2==y.2.2.2.2))))=decide (x=y):=by
 obtain ⟨a,b,c,d,e⟩:=x
 obtain ⟨a',b',c',d',e'⟩:=y
 apply Bool.eq_iff_iff.2
 simp
theorem φIX (a b:List φG) (ha:a.length<2 ^ 62):ψc.f a b=some (decide (a=b)):=by
 unfold ψc.f
 by_cases hl:a.length=b.length
 rotate_left
 ·rw[φ79 hl]
  have:¬a=b:=fun e=>hl (by rw[e])
  rw[decide_eq_false this];rfl
 rw[φ6P hl,cF]
 have key:=φ58 (step:=ψc.l0) (List.range a.length) (fun i=>decide (a.getD i ([],0,0,0,0)=b.getD i ([],0,0,0,0))) (fun n=>(a,b,(a.length:Int),(n:Int))) () (by simpa using ha)
  (fun rec n h=>by
   have h1:n<a.length:=by simpa using h
   have h2:n<b.length:=by omega
   have hw:=φB (show n+1<9223372036854775808 by omega)
   have hr:(List.range a.length)[n]=n:=by simp
   simp only[ψc.l0,oL,h1,dT,cT,φ8,h2,φA,φCH,hw,hr]
   cases decide (a.getD n ([],0,0,0,0)=b.getD n ([],0,0,0,0))<;>simp)
  (fun rec=>by simp[ψc.l0])
 have key:lp ψc.l0 (a,b,(a.length:Int),0)=_:=key
 rw[key,bS]
 have hall:(List.range a.length).all (fun i=>decide (a.getD i ([],0,0,0,0)=b.getD i ([],0,0,0,0)))=decide (a=b):=by
  apply Bool.eq_iff_iff.2
  rw[List.all_eq_true,decide_eq_true_eq]
  constructor
  ·intro h
   apply List.ext_getElem hl
   intro i h1 h2
   have:=h i (by simpa using h1)
   simp only[decide_eq_true_eq] at this
   rwa [φ5 h1,φ5 h2] at this
  ·rintro rfl i _;simp
 rw[hall]
 by_cases e:a=b
 ·rw[decide_eq_true e];simp[φL]
 ·rw[decide_eq_false e];simp[φS]
theorem φDr (a b:List φG) (ha:a.length<2 ^ 62):ψ2d.f a b=some (decide (a=b)):=by
 unfold ψ2d.f
 by_cases hl:a.length=b.length
 rotate_left
 ·rw[φ79 hl]
  have:¬a=b:=fun e=>hl (by rw[e])
  rw[decide_eq_false this];rfl
 rw[φ6P hl,cF]
 have key:=φ58 (step:=ψ2d.l0) (List.range a.length) (fun i=>decide (a.getD i ([],0,0,0,0)=b.getD i ([],0,0,0,0))) (fun n=>(a,b,(n:Int))) () (by simpa using ha)
  (fun rec n h=>by
   have h1:n<a.length:=by simpa using h
   have h2:n<b.length:=by omega
   have hw:=φB (show n+1<9223372036854775808 by omega)
   have hr:(List.range a.length)[n]=n:=by simp
   simp only[ψ2d.l0,oL,h1,dT,cT,φ8,h2,φA,φCH,hw,hr]
   cases decide (a.getD n ([],0,0,0,0)=b.getD n ([],0,0,0,0))<;>simp)
  (fun rec=>by simp[ψ2d.l0])
 have key:lp ψ2d.l0 (a,b,0)=_:=key
 rw[key,bS]
 have hall:(List.range a.length).all (fun i=>decide (a.getD i ([],0,0,0,0)=b.getD i ([],0,0,0,0)))=decide (a=b):=by
  apply Bool.eq_iff_iff.2
  rw[List.all_eq_true,decide_eq_true_eq]
  constructor
  ·intro h
   apply List.ext_getElem hl
   intro i h1 h2
   have:=h i (by simpa using h1)
   simp only[decide_eq_true_eq] at this
   rwa [φ5 h1,φ5 h2] at this
  ·rintro rfl i _;simp
 rw[hall]
 by_cases e:a=b
 ·rw[decide_eq_true e];simp[φL]
 ·rw[decide_eq_false e];simp[φS]
noncomputable def φ4J (id:Int) (t:List UInt8) (h:φj):Bool:=decide (φ3M id t=(h,true))
theorem φAa (x:φj×Bool) (h:φj):(bif x.2 then bif x.1.1==h.1 then bif x.1.2.1==h.2.1 then decide (x.1.2.2=h.2.2) else false else false else false)=decide (x=(h,true)):=by
 obtain ⟨⟨a,b,c⟩,d⟩:=x
 obtain ⟨a',b',c'⟩:=h
 apply Bool.eq_iff_iff.2
 cases d
 ·simp
 ·simp only[cT,decide_eq_true_eq,Prod.mk.injEq,and_true]
  by_cases e1:a=a'
  ·by_cases e2:b=b'
   ·simp[e1,e2]
   ·have:(b==b')=false:=by simpa using e2
    simp[e1,e2,this]
  ·have:(a==a')=false:=by simpa using e1
   simp[e1,this]
theorem φIV (id:Int) (t:List UInt8) (h:φj) (ht:t.length<100000000):ψH.f id t h=some (φ4J id t h):=by
 unfold ψH.f φ4J
 rw[φIj id t ht,bS,←φAa]
 have hl:=φAl id t
 generalize φ3M id t=x at hl ⊢
 obtain ⟨⟨a,b,c⟩,d⟩:=x
 simp only[φIX c h.2.2 (show c.length<2 ^ 62 by have:c.length≤t.length:=hl;omega),bS]
 cases d<;>simp only[cT,cF]
 cases (a==h.1)<;>cases (b==h.2.1)<;>rfl
theorem φEH (id:Int) (t:List UInt8) (h:φj) (ht:t.length<100000000):ψ2J.f id t h=some (φ4J id t h):=by
 unfold ψ2J.f φ4J
 rw[φGY id t ht,bS,←φAa]
 have hl:=φAl id t
 generalize φ3M id t=x at hl ⊢
 obtain ⟨⟨a,b,c⟩,d⟩:=x
 simp only[φDr c h.2.2 (show c.length<2 ^ 62 by have:c.length≤t.length:=hl;omega),bS]
 cases d<;>simp only[cT,cF]
 cases (a==h.1)<;>cases (b==h.2.1)<;>rfl
abbrev φa:=List φG×Int×Int
abbrev φ7O:φC:=(0,0,0,0,0,[],[],0,0)
def φ2p (k b:Int) (acc:List φC) (p:φC):List φC:=
 if k=3∧p.2.2.2.2.1≠b then acc
 else if p.2.2.2.1=k then []
 else if (k=3∧(p.2.2.2.1=1∨p.2.2.2.1=2))∨(k=5∧p.2.2.2.1=4) then acc++[p] else acc
def ownL (k b:Int) (l:List φC):List φC:=l.foldl (φ2p k b) []
theorem φ7d (k b:Int) (acc:List φC) (p:φC):(φ2p k b acc p).length≤acc.length+1:=by
 unfold φ2p
 split
 ·omega
 ·split
  ·simp
  ·split
   ·simp
   ·omega
theorem φ7h (k b:Int) (l:List φC):(ownL k b l).length≤l.length:=by
 have:∀(l acc:List φC),(l.foldl (φ2p k b) acc).length≤acc.length+l.length:=by
  intro l
  induction l with
  | nil=>intro acc;simp
  | cons x l ih=>intro acc;have:=ih (φ2p k b acc x);have:=φ7d k b acc x;simp only[κK,lC];omega
 have:=this l []
 unfold ownL
 simpa using this
theorem φ7E {a:Nat} (h:a<1000000000001):(a+1) * 88≤140737488355328:=by omega
theorem φBM (l:List φC) (r:RecT) (hl:l.length<1000000000):ψx.f l r=some (ownL r.1 r.2.1 l):=by
 have hk:=φ1z (step:=ψx.l0) l (φ2p r.1 r.2.1) (fun n (s:List φC)=>(r,s,l,(l.length:Int),(n:Int))) (fun s=>s) (fun n s=>s.length≤n) (by omega)
  (fun rec n s h hi=>by
   have hw:=φB (show n+1<9223372036854775808 by omega)
   have hb:(s.length+([l[n]]:List φC).length) * 88≤140737488355328:=φ7E (by omega)
   have hb2:decide ((s.length+1) * 88≤140737488355328)=true:=by simp only[decide_eq_true_eq];omega
   unfold φ2p
   simp only[ψx.l0,oL,h,dT,cT,φ8,φA,φ5 h]
   generalize l[n]=p at *
   obtain ⟨sg,at_,ln,k,b,key,v,c,z⟩:=p
   obtain ⟨rk,rb,rr⟩:=r
   simp only at hb ⊢
   by_cases c1:rk=3
   ·subst c1
    simp only[beq_self_eq_true,cT,true_and,show ¬((3:Int)=5) by decide,false_and,or_false]
    by_cases c2:b=rb
    ·subst c2
     simp only[bne_self_eq_false,cF,ne_eq,not_true,if_false]
     by_cases c3:k=3
     ·subst c3;simp[hw]
     ·have d3:(k==3)=false:=by simpa using c3
      simp only[d3,cF,c3,if_false]
      by_cases c4:k=1
      ·subst c4;simp[hw,hb2]
      ·have d4:(k==1)=false:=by simpa using c4
       simp only[d4,cF,c4,false_or]
       by_cases c5:k=2
       ·subst c5;simp[hw,hb2]
       ·have d5:(k==2)=false:=by simpa using c5
        have d6:((3:Int)==5)=false:=rfl
        simp[d5,c5,d6,hw]
    ·have d2:(b != rb)=true:=by simpa using c2
     simp[d2,c2,hw]
   ·have d1:(rk==3)=false:=by simpa using c1
    simp only[d1,cF,c1,false_and,if_false,false_or]
    by_cases c3:k=rk
    ·have d3:(k==rk)=true:=by simpa using c3
     simp[d3,c3,hw]
    ·have d3:(k==rk)=false:=by simpa using c3
     simp only[d3,cF,c3,if_false]
     by_cases c4:rk=5
     ·subst c4
      simp only[beq_self_eq_true,cT,true_and]
      by_cases c5:k=4
      ·subst c5;simp[hw,hb2]
      ·have d5:(k==4)=false:=by simpa using c5
       simp[d5,c5,hw]
     ·have d4:(rk==5)=false:=by simpa using c4
      simp[d4,c4,hw])
  (fun n s h hi=>by have:=φ7d r.1 r.2.1 s l[n];omega)
  (fun rec s hi=>by simp[ψx.l0]) [] (κ7 _)
 have hk:lp ψx.l0 (r,[],l,(l.length:Int),0)=_:=hk
 unfold ψx.f
 rw[hk];rfl
theorem φIe (l:List φC) (n:Nat) (hn:n≤l.length) (b:Int) (hl:l.length<1000000000):ψ36.f l (n:Int) b=some (ownL 3 b (l.take n)):=by
 have htl:(l.take n).length=n:=by rw[lT];omega
 have hk:=φ1z (step:=ψ36.l0) (l.take n) (φ2p 3 b) (fun i (s:List φC)=>(l,(n:Int),b,s,(i:Int))) (fun s=>s) (fun i s=>s.length≤i) (by omega)
  (fun rec i s h hi=>by
   have h1:i<n:=by omega
   have h2:i<l.length:=by omega
   have hw:=φB (show i+1<9223372036854775808 by omega)
   have hb:(s.length+([l[i]]:List φC).length) * 88≤140737488355328:=φ7E (by omega)
   have hb2:decide ((s.length+1) * 88≤140737488355328)=true:=by simp only[decide_eq_true_eq];omega
   unfold φ2p
   simp only[ψ36.l0,oL,h1,dT,cT,List.getElem_take]
   obtain ⟨⟨sg,at_,ln,k,bb,key,v,c,z⟩,hp⟩:∃p,l[i]=p:=⟨_,rfl⟩
   have hr:rdA φ7O l (i:Int)=(sg,at_,ln,k,bb,key,v,c,z):=by rw[φA,φ5 h2,hp]
   have hx:inB (i:Int) l.length=true:=by rw[φ8,decide_eq_true h2]
   simp only[hp,hr,hx,cT]
   simp only[true_and,show ¬((3:Int)=5) by decide,false_and,or_false]
   by_cases c2:bb=b
   ·subst c2
    simp only[beq_self_eq_true,cT,ne_eq,not_true,if_false]
    by_cases c3:k=3
    ·subst c3;simp[hw,hr,hx]
    ·have d3:(k==3)=false:=by simpa using c3
     simp only[d3,cF,c3,if_false,bS,beq_self_eq_true,cT]
     by_cases c4:k=1
     ·subst c4;simp[hw,hb2,hr,hx]
     ·have d4:(k==1)=false:=by simpa using c4
      simp only[d4,cF,c4,false_or]
      by_cases c5:k=2
      ·subst c5;simp[hw,hb2,hr,hx]
      ·have d5:(k==2)=false:=by simpa using c5
       simp[d5,c5,hw,hr,hx]
   ·have d2:(bb==b)=false:=by simpa using c2
    simp[d2,c2,hw,hr,hx])
  (fun i s h hi=>by have:=φ7d 3 b s (l.take n)[i];omega)
  (fun rec s hi=>by rw[htl];simp[ψ36.l0]) [] (κ7 _)
 have hk:lp ψ36.l0 (l,(n:Int),b,[],0)=_:=hk
 unfold ψ36.f
 rw[hk];rfl
theorem φDU (l:List φC) (n:Nat) (hn:n≤l.length) (b:Int) (hl:l.length<1000000000):ψ35.f l (n:Int)=some (ownL 5 b (l.take n)):=by
 have htl:(l.take n).length=n:=by rw[lT];omega
 have hk:=φ1z (step:=ψ35.l0) (l.take n) (φ2p 5 b) (fun i (s:List φC)=>(l,(n:Int),s,(i:Int))) (fun s=>s) (fun i s=>s.length≤i) (by omega)
  (fun rec i s h hi=>by
   have h1:i<n:=by omega
   have h2:i<l.length:=by omega
   have hw:=φB (show i+1<9223372036854775808 by omega)
   have hb:(s.length+([l[i]]:List φC).length) * 88≤140737488355328:=φ7E (by omega)
   have hb2:decide ((s.length+1) * 88≤140737488355328)=true:=by simp only[decide_eq_true_eq];omega
   unfold φ2p
   simp only[ψ35.l0,oL,h1,dT,cT,List.getElem_take]
   obtain ⟨⟨sg,at_,ln,k,bb,key,v,c,z⟩,hp⟩:∃p,l[i]=p:=⟨_,rfl⟩
   have hr:rdA φ7O l (i:Int)=(sg,at_,ln,k,bb,key,v,c,z):=by rw[φA,φ5 h2,hp]
   have hx:inB (i:Int) l.length=true:=by rw[φ8,decide_eq_true h2]
   simp only[hp,hr,hx,cT]
   simp only[show ¬((5:Int)=3) by decide,false_and,if_false,false_or,true_and]
   by_cases c3:k=5
   ·subst c3;simp[hw,hr,hx]
   ·have d3:(k==5)=false:=by simpa using c3
    simp only[d3,cF,c3,if_false,bS]
    by_cases c4:k=4
    ·subst c4;simp[hw,hb2,hr,hx]
    ·have d4:(k==4)=false:=by simpa using c4
     simp[d4,c4,hw,hr,hx])
  (fun i s h hi=>by have:=φ7d 5 b s (l.take n)[i];omega)
  (fun rec s hi=>by rw[htl];simp[ψ35.l0]) [] (κ7 _)
 have hk:lp ψ35.l0 (l,(n:Int),[],0)=_:=hk
 unfold ψ35.f
 rw[hk];rfl
theorem φH9 (l:List φC) (hl:l.length<1000000000):ψ38.f l=some (l.map (·.2.2.2)):=by
 have hk:=φ1z (step:=ψ38.l0) l (fun (s:List RecT) (p:φC)=>s++[p.2.2.2]) (fun n (s:List RecT)=>(l,s,(n:Int))) (fun s=>s) (fun n s=>s.length≤n) (by omega)
  (fun rec n s h hi=>by
   have hw:=φB (show n+1<9223372036854775808 by omega)
   have hb:(s.length+([l[n].2.2.2]:List RecT).length) * 64≤140737488355328:=φ85 (by omega)
   simp only[ψ38.l0,oL,h,dT,cT,φ8,φA,φ5 h,hb,hw])
  (fun n s h hi=>by simp;omega)
  (fun rec s hi=>by simp[ψ38.l0]) [] (κ7 _)
 have hk:lp ψ38.l0 (l,[],0)=_:=hk
 unfold ψ38.f
 rw[hk,bS]
 have:∀(l:List φC) (s:List RecT),l.foldl (fun (s:List RecT) (p:φC)=>s++[p.2.2.2]) s=s++l.map (·.2.2.2):=by
  intro l
  induction l with
  | nil=>intro s;simp
  | cons x l ih=>intro s;rw[κK,ih];simp
 rw[this];rfl
theorem φEN (r:RecT) (l:List φC) (hl:l.length<1000000000):ψ34.f r l=some (φ2Y r (l.map (·.2.2.2))):=by
 unfold ψ34.f φ2Y
 rw[φH9 l hl,lM]
 cases (r.2.2.2.2.1==(l.length:Int)) with
 | false=>rfl
 | true=>
  simp only[cT,bS,φBS (l.map (·.2.2.2)) (by rw[lM];omega),tA]
def putD (dir:List φG) (p:φC):List φG:=
 if p.2.2.2.1=2 then φp dir p.2.2.2.2.2.1 else insB (φp dir p.2.2.2.2.2.1) (p.2.2.2.2.2.1,p.1,p.2.1,p.2.2.1,p.2.2.2.2.1)
def φ1U (dir:List φG) (own:List φC):List φG:=own.foldl putD dir
theorem φ7p (dir:List φG) (p:φC):(putD dir p).length≤dir.length+1:=by
 unfold putD
 have:=φCA dir p.2.2.2.2.2.1
 split
 ·omega
 ·rw[φ8D];omega
theorem φFj (own:List φC):∀dir,(φ1U dir own).length≤dir.length+own.length:=by
 unfold φ1U
 induction own with
 | nil=>intro dir;simp
 | cons x l ih=>intro dir;have:=ih (putD dir x);have:=φ7p dir x;simp only[κK,lC];omega
def φ4C (dir:List φG) (c:Int):Int:=if 20<dir.length then 2 else c
theorem φHI (g:φa) (own:List φC) (hg:g.1.length<100000000) (ho:own.length<100000000):ψG.f g own=some (φ1U g.1 own,g.2.1,φ4C (φ1U g.1 own) g.2.2):=by
 have hk:=φ1z (step:=ψG.l0) own putD (fun n (s:List φG)=>((s,g.2),own,(own.length:Int),(n:Int))) (fun s=>(s,g.2)) (fun n s=>s.length≤g.1.length+n) (by omega)
  (fun rec n s h hi=>by
   have hw:=φB (show n+1<9223372036854775808 by omega)
   unfold putD
   simp only[ψG.l0,oL,h,dT,cT,φ8,φA,φ5 h]
   by_cases c:own[n].2.2.2.1=2
   ·have d:(own[n].2.2.2.1==2)=true:=by simpa using c
    rw[if_pos c]
    simp only[d,cT,φD5 s own[n].2.2.2.2.2.1 (by omega),bS,hw]
   ·have d:(own[n].2.2.2.1==2)=false:=by simpa using c
    rw[if_neg c]
    simp only[d,cF,φGd s (own[n].2.2.2.2.2.1,own[n].1,own[n].2.1,own[n].2.2.1,own[n].2.2.2.2.1) (by omega),bS,hw])
  (fun n s h hi=>by have:=φ7p s own[n];omega)
  (fun rec s hi=>by simp[ψG.l0]) g.1 (κ7 _)
 have hk:lp ψG.l0 (g,own,(own.length:Int),0)=some (φ1U g.1 own,g.2):=hk
 unfold ψG.f φ4C
 rw[hk,bS]
 simp only
 by_cases c:20<(φ1U g.1 own).length
 ·have d:decide (((φ1U g.1 own).length:Int) > 20)=true:=by simp;omega
  rw[d,if_pos c];rfl
 ·have d:decide (((φ1U g.1 own).length:Int) > 20)=false:=by simp;omega
  rw[d,if_neg c];rfl
theorem φGn (x1:List φC) (x4:φa) (d0:List φG) (z:Int×Int) (x6:Int) (own:List φC) (hg:d0.length<40000000) (ho:own.length<40000000) :
  lp ψ2a.l3 (x1,x4,(d0,z),x6,own,0)=some (x1,x4,(φ1U d0 own,z),x6):=by
 have hk:=φ1z (step:=ψ2a.l3) own putD (fun n (s:List φG)=>(x1,x4,(s,z),x6,own,(n:Int))) (fun s=>(x1,x4,(s,z),x6)) (fun n s=>s.length≤d0.length+n) (by omega)
  (fun rec n s h hi=>by
   have hw:=φB (show n+1<9223372036854775808 by omega)
   have e:ψ37.f s (own[n].1,own[n].2.1,own[n].2.2.1,own[n].2.2.2.1,own[n].2.2.2.2.1,own[n].2.2.2.2.2.1,own[n].2.2.2.2.2.2.1,own[n].2.2.2.2.2.2.2)=some (putD s own[n]):=φHs s own[n] (by omega)
   simp only[ψ2a.l3,oL,h,dT,cT,φ8,φA,φ5 h,e,bS,hw])
  (fun n s h hi=>by have:=φ7p s own[n];omega)
  (fun rec s hi=>by simp[ψ2a.l3]) d0 (κ7 _)
 exact hk
def φ2d (pre:List φC) (p:φC) (g:φa):φa:=
 let last:=if p.2.2.2.2.1 > g.2.1 then p.2.2.2.2.1 else g.2.1
 if p.2.2.2.1=3∨p.2.2.2.1=5 then
  let own:=ownL p.2.2.2.1 p.2.2.2.2.1 pre
  if φ2Y p.2.2.2 (own.map (·.2.2.2))=true then (φ1U g.1 own,last,φ4C (φ1U g.1 own) g.2.2)
  else if p.2.2.2.1=5 then (g.1,last,1) else (g.1,last,g.2.2)
 else (g.1,last,g.2.2)
def φ1c:List φC→List φC→φa→φa
 | _,[],g=>g
 | pre,p::r,g=>if g.2.2≠0 then g else φ1c (pre++[p]) r (φ2d pre p g)
def φ77 (l:List φC) (g:φa):φa:=if g.2.2=0∧0<(ownL 5 0 l).length then (g.1,g.2.1,1) else g
def φ18 (g:φa) (l:List φC):φa:=φ77 l (φ1c [] l g)
theorem φEa (pre:List φC) (p:φC) (g:φa):(φ2d pre p g).1.length≤g.1.length+pre.length:=by
 unfold φ2d
 have h1:=φFj (ownL p.2.2.2.1 p.2.2.2.2.1 pre) g.1
 have h2:=φ7h p.2.2.2.1 p.2.2.2.2.1 pre
 simp only
 split
 ·split
  ·show (φ1U g.1 (ownL p.2.2.2.1 p.2.2.2.2.1 pre)).length≤_;omega
  ·split<;>exact Nat.le_add_right _ _
 ·exact Nat.le_add_right _ _
theorem φHL (pre:List φC) (p:φC) (g:φa) (h:g.2.2=0) (hc:(φ2d pre p g).2.2=0):(φ2d pre p g).1.length≤max g.1.length 20:=by
 unfold φ2d at hc ⊢
 simp only at hc ⊢
 split
 ·rename_i c
  rw[if_pos c] at hc
  split
  ·rename_i c2
   rw[if_pos c2] at hc
   have hc:φ4C (φ1U g.1 (ownL p.2.2.2.1 p.2.2.2.2.1 pre)) g.2.2=0:=hc
   show (φ1U g.1 (ownL p.2.2.2.1 p.2.2.2.2.1 pre)).length≤_
   unfold φ4C at hc
   split at hc
   ·simp at hc
   ·omega
  ·split<;>exact Nat.le_max_left _ _
 ·exact Nat.le_max_left _ _
def regF (l:List φC):List φC→List φC→φa→(List φC×φa×φa) ⊕ φa
 | _,[],g=>.inl (l,([],0,0),g)
 | pre,p::r,g=>if g.2.2≠0 then .inr g else regF l (pre++[p]) r (φ2d pre p g)
theorem φDJ (l:List φC):∀(r pre:List φC) (g:φa),regF l pre r g=.inl (l,([],0,0),φ1c pre r g)∨(regF l pre r g=.inr (φ1c pre r g)∧(φ1c pre r g).2.2≠0)
 | [],pre,g=>.inl rfl
 | p::r,pre,g=>by
  unfold regF φ1c
  by_cases c:g.2.2≠0
  ·rw[if_pos c,if_pos c];exact .inr ⟨rfl,c⟩
  ·rw[if_neg c,if_neg c];exact φDJ l r _ _
def φ1D (g:φa):Prop:=g.1.length≤(if g.2.2=0 then 1000020 else 11000020)
theorem φ99 {pre:List φC} {p:φC} {g:φa} (h:φ1D g) (hc:g.2.2=0) (hp:pre.length<10000000):φ1D (φ2d pre p g):=by
 unfold φ1D at h ⊢
 rw[if_pos hc] at h
 split
 ·rename_i c
  have:=φHL pre p g hc c
  omega
 ·have:=φEa pre p g
  omega
theorem φFF (l:List φC) (hl:l.length<10000000) (g0:φa) (hg:φ1D g0) :
  lp ψX.l0 (l,([],0,0),g0,l,(l.length:Int),0)=some (regF l [] l g0):=by
 have key:=φO (step:=ψX.l0) (fun n (g:φa)=>(l,(([],0,0):φa),g,l,(l.length:Int),(n:Int))) l.length (fun n g=>regF l (l.take n) (l.drop n) g) (fun _ g=>φ1D g)
  (fun rec n g hn hi ih=>by
   rcases κ0 n l.length with h | h
   ·have hw:=φB (show n+1<9223372036854775808 by omega)
    have htl:(l.take n).length=n:=by rw[lT];omega
    rw[dG h]
    unfold regF
    obtain ⟨⟨sg,at_,ln,k,b,key,v,c,z⟩,hp⟩:∃p,l[n]=p:=⟨_,rfl⟩
    have hr:rdA φ7O l (n:Int)=(sg,at_,ln,k,b,key,v,c,z):=by rw[φA,φ5 h,hp]
    have hx:inB (n:Int) l.length=true:=by rw[φ8,decide_eq_true h]
    have ht:l.take n++[(sg,at_,ln,k,b,key,v,c,z)]=l.take (n+1):=by rw[←hp];exact (κ2 h).symm
    by_cases c0:g.2.2=0
    rotate_left
    ·rw[if_pos c0]
     have d0:(g.2.2 != 0)=true:=by simpa using c0
     simp only[ψX.l0,oL,h,dT,cT,hx,d0,bS,φS]
    rw[if_neg (fun z=>z c0),hp]
    have d0:(g.2.2 != 0)=false:=by simpa using c0
    have hs:=ih (φ2d (l.take n) (sg,at_,ln,k,b,key,v,c,z) g) h (φ99 hi c0 (by omega))
    rw[ht]
    rw[←hs]
    have hg1:g.1.length<100000000:=by unfold φ1D at hi;rw[if_pos c0] at hi;omega
    have hin:(decide (0≤(n:Int)) && decide ((n:Int)≤(l.length:Int)))=true:=by simp only[bA,decide_eq_true_eq];omega
    have how:=φBM (l.take n) (k,b,key,v,c,z) (by omega)
    have hol:=φ7h k b (l.take n)
    have hft:=φBK (k,b,key,v,c,z) (ownL k b (l.take n)) (by omega)
    have hap:=fun last=>φHI (g.1,last,g.2.2) (ownL k b (l.take n)) hg1 (by omega)
    simp only[ψX.l0,oL,h,dT,cT,hx,hr,d0,cF]
    unfold φ2d
    simp only
    by_cases c3:k=3
    ·subst c3
     simp only[bne_self_eq_false,cF,bS,φL,hin,cT,tN,how,hft,true_or,if_true,show ¬((3:Int)=5) by decide,if_false,show ((3:Int)==5)=false from rfl]
     cases φ2Y (3,b,key,v,c,z) ((ownL 3 b (l.take n)).map (·.2.2.2))
     ·simp only[cF,bS,φL,hw,κ1,if_false]
     ·simp only[cT,hap,bS,φL,hw,if_true]
    ·have d3:(k != 3)=true:=by simpa using c3
     simp only[d3,cT,c3,false_or]
     by_cases c5:k=5
     ·subst c5
      simp only[bne_self_eq_false,cF,bS,φL,hin,cT,tN,how,hft,if_true,beq_self_eq_true]
      cases φ2Y (5,b,key,v,c,z) ((ownL 5 b (l.take n)).map (·.2.2.2))
      ·simp only[cF,bS,φL,hw,κ1,if_false]
      ·simp only[cT,hap,bS,φL,hw,if_true]
     ·have d5:(k != 5)=true:=by simpa using c5
      simp only[d5,cT,c5,if_false,bS,φS,φL,hw]
   ·have:n=l.length:=by omega
    subst this
    simp only[ψX.l0,Int.lt_irrefl,dF,cF,κN,List.drop_length,regF])
  (by omega) 0 g0 (κ5 _) hg
 exact key
theorem φHg (g:φa) (l:List φC) (hl:l.length<10000000) (hg:φ1D g):ψX.f g l=some (φ18 g l):=by
 have hg1:g.1.length<1000000000:=by unfold φ1D at hg;split at hg<;>omega
 unfold ψX.f
 rw[φCx g.1 hg1,bS,φFF l hl (g.1,g.2) hg,bS]
 unfold φ18 φ77
 rcases φDJ l l [] g with e | ⟨e,hc⟩
 ·rw[show ((g.1,g.2):φa)=g from rfl,e]
  simp only[φL]
  by_cases c:(φ1c [] l g).2.2=0
  ·have d:((φ1c [] l g).2.2==0)=true:=by simpa using c
   have ho:=φBM l (5,0,[],[],0,0) (by omega)
   simp only[d,cT,ho,bS]
   by_cases c2:0<(ownL 5 0 l).length
   ·have d2:decide (((ownL 5 0 l).length:Int) > 0)=true:=by simp;omega
    rw[d2,if_pos ⟨c,c2⟩];rfl
   ·have d2:decide (((ownL 5 0 l).length:Int) > 0)=false:=by simp only[decide_eq_false_iff_not];omega
    rw[d2,if_neg (fun z=>c2 z.2)];rfl
  ·have d:((φ1c [] l g).2.2==0)=false:=by simpa using c
   simp only[d,cF]
   rw[if_neg (fun z=>c z.1)]
 ·rw[show ((g.1,g.2):φa)=g from rfl,e]
  simp only[φS]
  rw[if_neg (fun z=>hc z.1)]
theorem φFQ (l:List φC) (hl:l.length<10000000) (g0:φa) (hg:φ1D g0) :
  lp ψ2a.l0 (l,([],0,0),g0,0)=some (l,([],0,0),φ1c [] l g0):=by
 have key:=φO (step:=ψ2a.l0) (fun n (g:φa)=>(l,(([],0,0):φa),g,(n:Int))) l.length (fun n g=>(l,(([],0,0):φa),φ1c (l.take n) (l.drop n) g)) (fun _ g=>φ1D g)
  (fun rec n g hn hi ih=>by
   rcases κ0 n l.length with h | h
   ·have hw:=φB (show n+1<9223372036854775808 by omega)
    have htl:(l.take n).length=n:=by rw[lT];omega
    rw[dG h]
    unfold φ1c
    obtain ⟨⟨sg,at_,ln,k,b,key,v,c,z⟩,hp⟩:∃p,l[n]=p:=⟨_,rfl⟩
    have hr:rdA φ7O l (n:Int)=(sg,at_,ln,k,b,key,v,c,z):=by rw[φA,φ5 h,hp]
    have hx:inB (n:Int) l.length=true:=by rw[φ8,decide_eq_true h]
    have ht:l.take n++[(sg,at_,ln,k,b,key,v,c,z)]=l.take (n+1):=by rw[←hp];exact (κ2 h).symm
    by_cases c0:g.2.2=0
    rotate_left
    ·rw[if_pos c0]
     have d0:(g.2.2==0)=false:=by simpa using c0
     simp only[ψ2a.l0,oL,h,dT,cT,d0,cF]
    rw[if_neg (fun z=>z c0),hp]
    have d0:(g.2.2==0)=true:=by simpa using c0
    have hs:=ih (φ2d (l.take n) (sg,at_,ln,k,b,key,v,c,z) g) h (φ99 hi c0 (by omega))
    rw[ht]
    rw[←hs]
    have hg1:g.1.length<40000000:=by unfold φ1D at hi;rw[if_pos c0] at hi;omega
    have ho3:=φIe l n (by omega) b (by omega)
    have ho5:=φDU l n (by omega) b (by omega)
    have hol3:=φ7h 3 b (l.take n)
    have hol5:=φ7h 5 b (l.take n)
    have hft:=fun o ho=>φEN (k,b,key,v,c,z) o ho
    have hap:=fun (zz:Int×Int) (o:List φC) ho=>φGn l ([],0,0) g.1 zz (n:Int) o hg1 ho
    simp only[ψ2a.l0,oL,h,dT,cT,hx,hr,d0]
    unfold φ2d
    simp only
    by_cases c3:k=3
    ·subst c3
     have hft:=hft (ownL 3 b (l.take n)) (by omega)
     have hap:=fun zz=>hap zz (ownL 3 b (l.take n)) (by omega)
     simp only[beq_self_eq_true,cT,ho3,bS,hft,true_or,if_true,show ¬((3:Int)=5) by decide,if_false]
     cases φ2Y (3,b,key,v,c,z) ((ownL 3 b (l.take n)).map (·.2.2.2))
     ·simp only[nF,cT,bS,φS,hw,κ1,if_false]
     ·simp only[nZ,cF,bS,φL,hap,hw,if_true]
      unfold φ4C
      by_cases c9:20<(φ1U g.1 (ownL 3 b (l.take n))).length
      ·have d9:decide (((φ1U g.1 (ownL 3 b (l.take n))).length:Int) > 20)=true:=by simp;omega
       simp only[d9,cT,bS,if_pos c9,hw]
      ·have d9:decide (((φ1U g.1 (ownL 3 b (l.take n))).length:Int) > 20)=false:=by simp;omega
       simp only[d9,cF,bS,if_neg c9,hw]
    ·have d3:(k==3)=false:=by simpa using c3
     simp only[d3,cF,c3,false_or]
     by_cases c5:k=5
     ·subst c5
      have hft:=hft (ownL 5 b (l.take n)) (by omega)
      have hap:=fun zz=>hap zz (ownL 5 b (l.take n)) (by omega)
      simp only[beq_self_eq_true,cT,ho5,bS,hft,if_true]
      cases φ2Y (5,b,key,v,c,z) ((ownL 5 b (l.take n)).map (·.2.2.2))
      ·simp only[nF,cT,bS,φS,hw,κ1,if_false]
      ·simp only[nZ,cF,bS,φL,hap,hw,if_true]
       unfold φ4C
       by_cases c9:20<(φ1U g.1 (ownL 5 b (l.take n))).length
       ·have d9:decide (((φ1U g.1 (ownL 5 b (l.take n))).length:Int) > 20)=true:=by simp;omega
        simp only[d9,cT,bS,if_pos c9,hw]
       ·have d9:decide (((φ1U g.1 (ownL 5 b (l.take n))).length:Int) > 20)=false:=by simp;omega
        simp only[d9,cF,bS,if_neg c9,hw]
     ·have d5:(k==5)=false:=by simpa using c5
      simp only[d5,cF,c5,if_false,bS,φS,hw]
   ·have:n=l.length:=by omega
    subst this
    simp only[ψ2a.l0,Int.lt_irrefl,dF,cF,κN,List.drop_length,φ1c])
  (by omega) 0 g0 (κ5 _) hg
 exact key
theorem φEv (g:φa) (l:List φC) (hl:l.length<10000000) (hg:φ1D g):ψ2a.f g l=some (φ18 g l):=by
 have hg1:g.1.length<1000000000:=by unfold φ1D at hg;split at hg<;>omega
 unfold ψ2a.f
 have hb:decide ((([]:List φG).length+g.1.length) * 48≤140737488355328)=true:=by simp only[decide_eq_true_eq];exact φCf (by omega)
 simp only[hb,cT,κG]
 rw[φFQ l hl (g.1,g.2) hg,bS]
 unfold φ18 φ77
 rw[show ((g.1,g.2):φa)=g from rfl]
 simp only
 by_cases c:(φ1c [] l g).2.2=0
 ·have d:((φ1c [] l g).2.2==0)=true:=by simpa using c
  have ho:=φDU l l.length (κ7 _) 0 (by omega)
  rw[κN] at ho
  simp only[d,cT,ho,bS]
  by_cases c2:0<(ownL 5 0 l).length
  ·have d2:decide (((ownL 5 0 l).length:Int) > 0)=true:=by simp;omega
   rw[d2,if_pos ⟨c,c2⟩];rfl
  ·have d2:decide (((ownL 5 0 l).length:Int) > 0)=false:=by simp only[decide_eq_false_iff_not];omega
   rw[d2,if_neg (fun z=>c2 z.2)];rfl
 ·have d:((φ1c [] l g).2.2==0)=false:=by simpa using c
  simp only[d,cF]
  rw[if_neg (fun z=>c z.1)]
def φ3c:Nat→List RecT→List φ1g
 | _,[]=>[]
 | a,r::rs=>((a:Int),((fr r).length:Int),r)::φ3c (a+(fr r).length) rs
theorem φBB:∀(rs:List RecT) (p:List UInt8),(∀r∈rs,φ12 r=true)→φ1m (p++txt rs) p.length=(φ3c p.length rs,p.length+(txt rs).length)
 | [],p,_=>by
  have:p++txt []=p:=by simp[txt]
  rw[this,φDK];simp[txt,φ3c]
 | r::rs,p,h=>by
  have hs:=φ4F r
  have hb:=φ8c (t:=φc r) (by omega) (txt rs)
  have hd:(p++txt (r::rs)).drop p.length=frame (φc r)++txt rs:=by rw[κP];rfl
  have hl:=φIn r
  have hrr:=φEg (h r κ6)
  rw[φ5v (n:=(fr r).length) (by rw[hd,hb];rfl) hl.1 (by rw[φ6g];simp only[lA];omega) (by rw[hd,hb];simp only;rw[hrr])]
  have ih:=φBB rs (p++fr r) (fun x hx=>h x (mC _ hx))
  rw[aA,lA] at ih
  rw[hd,hb]
  simp only[hrr]
  have e:p++txt (r::rs)=p++(fr r++txt rs):=rfl
  rw[e,ih]
  simp only[φ3c,φ6g,lA,Nat.add_assoc]
theorem φDt {rs:List RecT} (h:∀r∈rs,φ12 r=true):scan (txt rs)=(φ3c 0 rs,(txt rs).length):=by
 have:=φBB rs [] h
 simp only[κG,lN,κQ] at this
 exact this
theorem φFN:∀(k:Nat) (s:List UInt8) (a:Nat),a≤s.length→s.length - a=k→∃(rs:List RecT) (q:List UInt8),(∀r∈rs,φ12 r=true)∧s.drop a=txt rs++q∧φ1m s a=(φ3c a rs,a+(txt rs).length):=by
 intro k
 induction k using Nat.strongRecOn with
 | ind k ih=>
  intro s a ha hk
  by_cases c:(φD (s.drop a)).2=0∨(φ19 (φD (s.drop a)).1).2=false
  ·exact ⟨[],s.drop a,by simp,rfl,φ4N ha c⟩
  ·have c1:(φD (s.drop a)).2≠0:=fun e=>c (.inl e)
   have hr:(φ19 (φD (s.drop a)).1).2=true:=by
    cases e:(φ19 (φD (s.drop a)).1).2 with
    | true=>rfl
    | false=>exact absurd (.inr e) c
   obtain ⟨t,r,e1,e2,e3⟩:=φAx c1
   have h5:=φ9F e2
   have hlen:a+(frame t).length≤s.length:=by
    have:(s.drop a).length=(frame t++r).length:=by rw[←e1]
    rw[lD,lA] at this;omega
   have hst:=φ5v (n:=(frame t).length) (by rw[e3]) h5 hlen hr
   obtain ⟨rs,q,g1,g2,g3⟩:=ih (s.length - (a+(frame t).length)) (by omega) s (a+(frame t).length) hlen rfl
   have hd:s.drop (a+(frame t).length)=r:=by rw[←List.drop_drop,e1,κP]
   rw[e3] at hr
   rcases φAR t with ⟨z,_⟩ | ⟨x,z,hx⟩
   ·rw[z] at hr;simp at hr
   ·refine ⟨x::rs,q,?_,?_,?_⟩
    ·intro y hy
     rcases mc.1 hy with rfl | hy
     ·exact hx.1
     ·exact g1 y hy
    ·rw[e1,φ6g,←hd,g2]
     show frame t++(txt rs++q)=frame (φc x)++txt rs++q
     rw[hx.2,aA]
    ·rw[hst,g3,e3]
     have hf:(fr x).length=(frame t).length:=by show (frame (φc x)).length=_;rw[hx.2]
     simp only[z,φ3c,φ6g,lA,hf,Nat.add_assoc]
theorem φDl (s:List UInt8):∃(rs:List RecT) (q:List UInt8),(∀r∈rs,φ12 r=true)∧s=txt rs++q∧scan s=(φ3c 0 rs,(txt rs).length):=by
 obtain ⟨rs,q,h1,h2,h3⟩:=φFN s.length s 0 (κ5 _) (by omega)
 rw[κE] at h2
 rw[κQ] at h3
 exact ⟨rs,q,h1,h2,h3⟩
theorem φEK (s:List UInt8):scan (s.take (scan s).2)=scan s:=by
 obtain ⟨rs,q,h1,h2,h3⟩:=φDl s
 rw[h3]
 have:s.take (txt rs).length=txt rs:=by rw[h2,List.take_left]
 rw[this,φDt h1]
theorem φAd {d:φ2} (h:φ6 d=true) (v:φE):(φ1q d v).length≤130:=by
 unfold φ1q
 rw[if_neg (by rw[h];simp),lM]
 exact Nat.le_trans (List.length_filter_le _ _) (φ69 h).2.2
theorem φEZ {d:φ2} (h:φ6 d=true) (v:φE):∀n∈φ1q d v,(φ7 d n).2=true:=by
 intro n hn
 unfold φ1q at hn
 rw[if_neg (by rw[h];simp)] at hn
 obtain ⟨f,hf,rfl⟩:=mM.1 hn
 rw[φ5R h ((List.mem_filter.1 hf).1)]
theorem φED {d:φ2} (h:φ6 d=true) (v:φE):(φ1q d v).Nodup:=by
 unfold φ1q
 rw[if_neg (by rw[h];simp)]
 have hs:srt d.1:=φ8M h
 exact (List.filter_sublist.map _).nodup (φGT hs)
noncomputable def φd (v:φE) (d:φ2):φN:=φ26 (φ1q d v) (d,0)
theorem φ6c {d:φ2} (h:φ6 d=true) (v:φE):φ6 (φd v d).1=true:=φGb _ h
theorem φAn (w:φN) (v:φE) (h:φ6 w.1=true) (hv:v.2.length<1000000000):ψ1J.f w v=some (φ4y (φ1q w.1 v) w):=by
 unfold ψ1J.f
 rw[φIU w.1 v (φ1A (φ1s h) (by omega)) hv,bS]
 have hl:=φAd h v
 generalize φ1q w.1 v=names at hl ⊢
 have key:=φ1z (step:=ψ1J.l0) names (fun (w:φN) n=>φ13 (φu n) w) (fun n (a:φN)=>(a,names,(names.length:Int),(n:Int))) (fun a=>a) (fun _ a=>φ6 a.1=true) (by omega)
  (fun rec n a h1 ha=>by
   have hw:=φB (show n+1<9223372036854775808 by omega)
   simp only[ψ1J.l0,oL,h1,dT,cT,φ8,φA,φ5 h1,φB8 a names[n] (φ1s ha) (by omega),bS,hw])
  (fun n a h1 ha=>φFn (op:=φu names[n]) ha fun k=>φ9d k _)
  (fun rec a ha=>by simp[ψ1J.l0])
  w h
 have key:lp ψ1J.l0 (w,names,(names.length:Int),0)=some (φ4y names w):=key
 rw[key];rfl
theorem φEf {d:φ2} {n:List UInt8} (h:(φ7 d n).2=true):φu n d=φ2U n d:=by
 obtain ⟨i,hi,_,_,e⟩:=φG4 h
 unfold φu
 rw[if_pos (by omega)]
theorem φH0 {d:φ2} (h:φ6 d=true) {m n:List UInt8} (hne:n≠m) (hn:(φ7 d n).2=true):(φ7 (φ2U m d).1 n).2=true:=by
 rw[φIP h hne];exact hn
theorem φCl (d:φ2) (v:φE) (h:φ6 d=true) (hv:v.2.length<1000000000):ψ2v.f d v=some (φg (φd v d)):=by
 unfold ψ2v.f φd
 rw[φI2 d v (φ1A (φ1s h) (by omega)) hv,bS]
 have hl:=φAd h v
 have hh:=φEZ h v
 have hn:=φED h v
 generalize φ1q d v=names at hl hh hn ⊢
 have key:=φO (step:=ψ2v.l0) (fun n (x:φ2)=>(x,(([],0,0,false):φ2),names,(n:Int))) names.length
  (fun n x=>if (φ26 (names.drop n) (x,0)).2=0 then .inl ((φ26 (names.drop n) (x,0)).1,([],0,0,false)) else .inr (φg (φ26 (names.drop n) (x,0))))
  (fun n x=>φ6 x=true∧∀m∈names.drop n,(φ7 x m).2=true)
  (fun rec n x hnn hx ih=>by
   rcases κ0 n names.length with h1 | h1
   ·have hw:=φB (show n+1<9223372036854775808 by omega)
    have hd:names.drop n=names[n]::names.drop (n+1):=dG h1
    have hnd:(names.drop n).Nodup:=(List.drop_sublist n names).nodup hn
    rw[hd,κJ] at hnd
    have hin:(φ7 x names[n]).2=true:=hx.2 _ (by rw[hd];exact κ6)
    have hg:=φEf hin
    have hs:φ26 (names.drop n) (x,0)=φ26 (names.drop (n+1)) (φ2U names[n] x):=by
     rw[hd]
     show φ26 (names.drop (n+1)) (φe (φu names[n]) (x,0))=_
     rw[φ3O,hg]
    rw[hs]
    have hr:=φBo x names[n] (φ1A (φ1s hx.1) (by omega))
    have hr:ψ2b.f x names[n]=some (φ2U names[n] x):=hr
    simp only[ψ2v.l0,oL,h1,dT,cT,φ8,φA,φ5 h1,hr,bS]
    have ih:=ih (φ2U names[n] x).1 h1 ⟨φ8b hx.1 _,fun m hm=>φH0 hx.1 (fun e=>hnd.1 (e ▸ hm)) (hx.2 m (by rw[hd];exact mC _ hm))⟩
    generalize φ2U names[n] x=p at ih ⊢
    obtain ⟨y,c⟩:=p
    by_cases c0:c=0
    ·subst c0
     simp only[bne_self_eq_false,cF,hw,ih]
    ·have d0:(c != 0)=true:=by simpa using c0
     rw[φHa _ c0]
     simp only[d0,cT,φ4f,bS]
     rw[if_neg c0];rfl
   ·have:n=names.length:=by omega
    subst this
    rw[List.drop_length]
    simp[ψ2v.l0,φ26])
  (by omega) 0 d (κ5 _) ⟨h,by rw[κE];exact hh⟩
 have key:lp ψ2v.l0 (d,([],0,0,false),names,0)=_:=key
 rw[key,bS,κE]
 by_cases c:(φ26 names (d,0)).2=0
 ·rw[if_pos c]
  simp only[φL]
  unfold φg
  rw[c];rfl
 ·rw[if_neg c]
  simp only[φS]
noncomputable def φo (d:φ2) (id:Int):List φC:=(scan (φ7 d (φ3 id)).1).1.map fun x=>((id,x):φC)
theorem φ38 {d:φ2} (h:φ6 d=true) (n:List UInt8):(φ7 d n).1.length≤100000:=by
 have h1:=φI7 d n (φ1A (φ1s h) (by omega))
 have h2:=φ8G h
 omega
theorem φ9H {d:φ2} (h:φ6 d=true) (id:Int):(φo d id).length≤100000:=by
 unfold φo
 rw[lM]
 exact Nat.le_trans (φ3o _).2 (φ38 h _)
theorem φA7 {d:φ2} (h:φ6 d=true):∀ids:List Int,(ids.flatMap (φo d)).length≤100000 * ids.length
 | []=>by simp
 | id::r=>by
  have:=φ9H h id
  have:=φA7 h r
  simp only[List.flatMap_cons,lA,lC];omega
theorem φIM (id:Int) (t:List UInt8) (ht:t.length<1000000000):ψ2u.f id t=some ((scan t).1.map fun x=>((id,x):φC)):=by
 unfold ψ2u.f
 rw[φ75 t ht,bS]
 have hl:=(φ3o t).2
 generalize (scan t).1=l at hl ⊢
 have hk:=φ1z (step:=ψ2u.l0) l (fun (s:List φC) (p:φ1g)=>s++[((id,p):φC)]) (fun n (s:List φC)=>(id,s,l,(n:Int))) (fun s=>s) (fun n s=>s.length≤n) (by omega)
  (fun rec n s h hi=>by
   have hw:=φB (show n+1<9223372036854775808 by omega)
   have hb:(s.length+([((id,l[n]):φC)]:List φC).length) * 88≤140737488355328:=φ7E (by omega)
   simp only[ψ2u.l0,oL,h,dT,cT,φ8,φA,φ5 h,hb,hw])
  (fun n s h hi=>by simp;omega)
  (fun rec s hi=>by simp[ψ2u.l0]) [] (κ7 _)
 have hk:lp ψ2u.l0 (id,[],l,0)=_:=hk
 have:∀(l:List φ1g) (s:List φC),l.foldl (fun (s:List φC) (p:φ1g)=>s++[((id,p):φC)]) s=s++l.map (fun x=>((id,x):φC)):=by
  intro l
  induction l with
  | nil=>intro s;simp
  | cons x l ih=>intro s;rw[κK,ih];simp
 simp only
 rw[hk,bS,this];rfl
abbrev φH:φ2b:=((0,[]),[],0,0,0)
abbrev φ2P:φ2:=([],0,0,false)
theorem φCO (v:φE) {d:φ2} {c:Int} (h:c≠0):sPut v (d,c)=(d,c):=by
 unfold sPut φ3I
 simp only[φ3a h]
noncomputable def φ5t (d:φ2):φ2b×φ2×Int:=
 let w:=sPut (2,[1]) (φe (φ16 (φ3 1)) (φd φi d))
 if w.2≠0 then (φH,w.1,told w.2) else (((2,[1]),[],1,0,0),w.1,0)
theorem φFm:φ1C (2,[1])=true:=by decide
theorem φHw (d:φ2) (h:φ6 d=true):∃w:φN,ψ1F.f (d,0)=some (((2,[1]),[],1,0,0),w)∧w=φg (sPut (2,[1]) (φe (φ16 (φ3 1)) (φd φi d))):=by
 refine ⟨_,?_,rfl⟩
 unfold ψ1F.f
 have h1:=φAn (d,0) φi h (by show 0<_;omega)
 have e1:φ4y (φ1q d φi) (d,0)=φg (φd φi d):=φBc _ (d,0)
 have hd1:=φ6c h φi
 have h2:=φBt (φg (φd φi d)) (φ3 1) (k:=100001) (φ1s hd1) (by omega) (by have:=φBT 1;omega)
 have e2:φ13 (φ16 (φ3 1)) (φg (φd φi d))=φg (φe (φ16 (φ3 1)) (φd φi d)):=φ3z _ _
 have hd2:φ6 (φe (φ16 (φ3 1)) (φd φi d)).1=true:=φ3D hd1 fun k=>φ6U k _
 have h3:=φFO (φg (φe (φ16 (φ3 1)) (φd φi d))) (2,[1]) (k:=100001) (φ1s hd2) (by omega) (by show 1<_;decide)
 have e3:=φG5 (2,[1]) (φe (φ16 (φ3 1)) (φd φi d))
 have h1:ψ1J.f (d,0) (0,[])=some (φg (φd φi d)):=h1.trans (by rw[e1])
 rw[e2] at h2
 rw[e3] at h3
 simp only[h1,bS,φ6n,h2,h3]
theorem φIW (d:φ2) (h:φ6 d=true):ψ2s.f d=some (φ5t d):=by
 unfold ψ2s.f φ5t
 have hd1:=φ6c h φi
 have h1:=φCl d φi h (by show 0<_;omega)
 have h1:ψ2v.f d (0,[])=some (φg (φd φi d)):=h1
 rw[h1,bS]
 generalize φd φi d=w1 at hd1 ⊢
 obtain ⟨d1,c1⟩:=w1
 by_cases z1:c1=0
 rotate_left
 ·have t1:(told c1 != 0)=true:=by rw[φ5x];simpa using z1
  rw[φ3a z1,φCO _ z1]
  simp only[φg,t1,cT]
  rw[if_pos z1]
 subst z1
 have hd1:φ6 d1=true:=hd1
 have t1:(told 0 != 0)=false:=rfl
 have h2:=φ8O d1 (φ3 1) (φ1A (φ1s hd1) (by omega)) (by have:=φBT 1;omega)
 have h2:ψ29.f d1 (φ3 1)=some (φ16 (φ3 1) d1):=h2
 have hd2:=φ6U hd1 (φ3 1)
 simp only[φg,t1,cF,φ40,bS,h2,φ3O]
 generalize φ16 (φ3 1) d1=w2 at hd2 ⊢
 obtain ⟨d2,c2⟩:=w2
 by_cases z2:c2=0
 rotate_left
 ·have t2:(c2 != 0)=true:=by simpa using z2
  rw[φCO _ z2]
  simp only[t2,cT,φ4f,bS]
  rw[if_pos z2]
 subst z2
 have hd2:φ6 d2=true:=hd2
 have h3:=φIg d2 (2,[1]) (k:=100001) (φ1s hd2) (by omega) (by show 1<_;decide)
 have h3:ψ2S.f d2 (2,[1])=some (φg (sPut (2,[1]) (d2,0))):=by
  rw[h3];unfold φ9k
  rw[if_neg (by rw[hd2,φFm];simp)]
 simp only[bne_self_eq_false,cF,h3,bS]
 generalize sPut (2,[1]) (d2,0)=w3
 obtain ⟨d3,c3⟩:=w3
 by_cases z3:c3=0
 ·subst z3;simp[φg,told]
 ·have t3:(told c3 != 0)=true:=by rw[φ5x];simpa using z3
  simp only[φg,t3,cT]
  rw[if_pos z3]
noncomputable def φ1S (d:φ2):List Int→Bool
 | []=>true
 | id::r=>(φ7 d (φ3 id)).2 && ((r.isEmpty || decide ((scan (φ7 d (φ3 id)).1).2=(φ7 d (φ3 id)).1.length)) && φ1S d r)
noncomputable def φ2w (d:φ2):List Int→Int→Int
 | [],z=>z
 | id::r,_=>φ2w d r ((scan (φ7 d (φ3 id)).1).2:Int)
theorem φBz (d:φ2):∀(l:List Int) (z:Int),l≠[]→φ2w d l z=((scan (φ7 d (φ3 (φI l))).1).2:Int)
 | [],_,h=>absurd rfl h
 | [x],z,_=>by rw[φ2w,φ2w,φCZ]
 | x::y::l,z,_=>by rw[φ2w,φCo];exact φBz d (y::l) _ (by simp)
theorem φAD {α:Type} (l:List α) (n:Nat) (h:n<l.length):(l.drop (n+1)).isEmpty=decide (¬n<l.length - 1):=by
 apply Bool.eq_iff_iff.2
 rw[List.isEmpty_iff,List.drop_eq_nil_iff,decide_eq_true_eq];omega
theorem φDA (w:φN) (v:φE) (h:φ6 w.1=true) (hv:v.2.length<1000000) :
  ψ1N.f w v=some (if φ1S w.1 v.2=true then (v.2.map (φo w.1),φ2w w.1 v.2 0,true,w) else ([],0,false,w)):=by
 have key:=φO (step:=ψ1N.l0) (fun n (s:List (List φC)×Int)=>(w,v,s.1,s.2,v.2,(v.2.length:Int),(n:Int))) v.2.length
  (fun n s=>if φ1S w.1 (v.2.drop n)=true then .inl (w,s.1++(v.2.drop n).map (φo w.1),φ2w w.1 (v.2.drop n) s.2) else .inr (w,[],0,false)) (fun n s=>s.1.length≤n)
  (fun rec n s hn hs ih=>by
   rcases κ0 n v.2.length with h1 | h1
   ·have hw:=φB (show n+1<9223372036854775808 by omega)
    have hwl:w64 ((v.2.length:Int) - 1)=((v.2.length - 1:Nat):Int):=by rw[φ9 (by omega) (by omega)];omega
    have hd:v.2.drop n=v.2[n]::v.2.drop (n+1):=dG h1
    have htx:=φ38 h (φ3 v.2[n])
    have hsc:=φ3o (φ7 w.1 (φ3 v.2[n])).1
    have hpl:=φAL v.2[n] (scan (φ7 w.1 (φ3 v.2[n])).1).1 (by omega)
    have hb:decide ((s.1.length+([φo w.1 v.2[n]]:List (List φC)).length) * 24≤140737488355328)=true:=by simp only[decide_eq_true_eq];exact φEE (by omega)
    have ih:=ih (s.1++[φo w.1 v.2[n]],((scan (φ7 w.1 (φ3 v.2[n])).1).2:Int)) h1 (by simp only[lA,κ3];omega)
    have hft:=φ5e w.1 (φ3 v.2[n]) (φ1A (φ1s h) (by omega))
    have hsr:=φCM (φ7 w.1 (φ3 v.2[n])).1 (by omega)
    rw[hd]
    simp only[φ1S,φ2w,κC,φAD v.2 n h1]
    simp only[ψ1N.l0,oL,h1,dT,cT,φ8,φA,φ5 h1,φ6n,bS,hft,hsr,hwl]
    have hpl2:ψy.f v.2[n] (scan (φ7 w.1 (φ3 v.2[n])).1).1=some (φo w.1 v.2[n]):=hpl
    have hgo:((ψy.f v.2[n] (scan (φ7 w.1 (φ3 v.2[n])).1).1).bind fun t5=>bif decide ((s.1.length+[t5].length) * 24≤140737488355328) then rec (w,v,s.1++[t5],((scan (φ7 w.1 (φ3 v.2[n])).1).2:Int),v.2,(v.2.length:Int),w64 ((n:Int)+1)) else none) =
      some (if φ1S w.1 (v.2.drop (n+1))=true then .inl (w,s.1++(φo w.1 v.2[n]::(v.2.drop (n+1)).map (φo w.1)),φ2w w.1 (v.2.drop (n+1)) ((scan (φ7 w.1 (φ3 v.2[n])).1).2:Int)) else .inr (w,[],0,false)):=by
     rw[hpl2,bS,hb,cT,hw]
     have:s.1++(φo w.1 v.2[n]::(v.2.drop (n+1)).map (φo w.1))=s.1++[φo w.1 v.2[n]]++(v.2.drop (n+1)).map (φo w.1):=by simp
     rw[this];exact ih
    cases hk:(φ7 w.1 (φ3 v.2[n])).2 with
    | false=>simp only[nF,cT,bS,φS,κL,κ1,if_false]
    | true=>
     simp only[nZ,cF,tA]
     by_cases c1:n<v.2.length - 1
     ·simp only[c1,dT,cT,not_true,dF,Bool.false_or]
      by_cases c2:(scan (φ7 w.1 (φ3 v.2[n])).1).2=(φ7 w.1 (φ3 v.2[n])).1.length
      ·rw[φ6P c2,cF]
       simp only[bS,φL,decide_eq_true c2,tA]
       exact hgo
      ·rw[φ79 c2,cT]
       simp only[bS,φS,decide_eq_false c2,κL,κ1,if_false]
     ·simp only[c1,dF,cF,not_false_iff,dT,Bool.true_or,tA,bS,φL]
      exact hgo
   ·have:n=v.2.length:=by omega
    subst this
    rw[List.drop_length]
    simp[ψ1N.l0,φ1S,φ2w])
  (by omega) 0 ([],0) (κ5 _) (κ7 _)
 have key:lp ψ1N.l0 (w,v,[],0,v.2,(v.2.length:Int),0)=_:=key
 unfold ψ1N.f
 rw[key,bS,κE]
 by_cases c:φ1S w.1 v.2=true
 ·rw[if_pos c,if_pos c];simp only[φL,κG]
 ·rw[if_neg c,if_neg c];simp only[φS]
theorem φBR {hi:Int}:∀(l:List Int) (p:Option Int),φ1h hi p l=true→l.Pairwise (·<·)∧∀q,p=some q→∀x∈l,q<x
 | [],p,_=>⟨List.Pairwise.nil,by simp⟩
 | x::r,p,h=>by
  simp only[φ1h,bA,decide_eq_true_eq] at h
  obtain ⟨h1,h2,h3⟩:=h
  obtain ⟨k1,k2⟩:=φBR r (some x) h3
  have k2:=k2 x rfl
  refine ⟨List.Pairwise.cons k2 k1,?_⟩
  rintro q rfl y hy
  have h2:q<x:=by simpa using h2
  rcases mc.1 hy with rfl | hy
  ·exact h2
  ·exact Int.lt_trans h2 (k2 y hy)
theorem φFp {v:φE} (h:φ1C v=true):v.2.Pairwise (·<·):=(φBR v.2 none ((φ5k v).1 h).1).1
theorem φEe {l:List Int} (h:l.Pairwise (·<·)) {n:Nat} (hn:n<l.length):(l[n] != φI l)=decide (n<l.length - 1):=by
 have hl:l.length - 1<l.length:=by omega
 have hg:φI l=l[l.length - 1]:=by unfold φI;rw[φ5 hl]
 by_cases c:n<l.length - 1
 ·have:=(List.pairwise_iff_getElem.1 h) n (l.length - 1) hn hl c
  rw[decide_eq_true c,hg]
  simpa using (show ¬l[n]=l[l.length - 1] by omega)
 ·have e:n=l.length - 1:=by omega
  rw[decide_eq_false c,hg]
  subst e;simp
theorem φGN (d:φ2) (v:φE) (h:φ6 d=true) (hv:φ1C v=true) :
  lp ψ2Q.l0 (d,φH,φ2P,φH,v,φI v.2,0)=some (if φ1S d v.2=true then .inl (d,φH,φ2P,φH,v,φI v.2) else .inr (φH,d,3)):=by
 have hlen:=φ4A hv
 have hpw:=φFp hv
 have key:=φO (step:=ψ2Q.l0) (fun n (_:Unit)=>(d,φH,φ2P,φH,v,φI v.2,(n:Int))) v.2.length
  (fun n _=>if φ1S d (v.2.drop n)=true then .inl (d,φH,φ2P,φH,v,φI v.2) else .inr (φH,d,3)) (fun _ _=>True)
  (fun rec n s hn hs ih=>by
   rcases κ0 n v.2.length with h1 | h1
   ·have hw:=φB (show n+1<9223372036854775808 by omega)
    have hd:v.2.drop n=v.2[n]::v.2.drop (n+1):=dG h1
    have htx:=φ38 h (φ3 v.2[n])
    have hsc:=φ3o (φ7 d (φ3 v.2[n])).1
    have ih:=ih () h1 trivial
    have hft:=φ7j d (φ3 v.2[n]) (φ1A (φ1s h) (by omega))
    have hsr:=φ75 (φ7 d (φ3 v.2[n])).1 (by omega)
    have hcp:=φ5S d (by have:=(φ69 h).2.2;omega)
    rw[hd]
    simp only[φ1S,φAD v.2 n h1]
    simp only[ψ2Q.l0,oL,h1,dT,cT,φ8,φA,φ5 h1,φ40,bS,hft,hsr,φEe hpw h1]
    cases hk:(φ7 d (φ3 v.2[n])).2 with
    | false=>simp only[nF,cT,hcp,bS,φS,κL,κ1,if_false]
    | true=>
     simp only[nZ,cF,tA]
     by_cases c1:n<v.2.length - 1
     ·simp only[c1,dT,cT,not_true,dF,Bool.false_or]
      by_cases c2:(scan (φ7 d (φ3 v.2[n])).1).2=(φ7 d (φ3 v.2[n])).1.length
      ·have c3:decide ((scan (φ7 d (φ3 v.2[n])).1).2<(φ7 d (φ3 v.2[n])).1.length)=false:=decide_eq_false (by omega)
       simp only[c3,cF,bS,φL,decide_eq_true c2,tA,hw,ih]
      ·have c3:decide ((scan (φ7 d (φ3 v.2[n])).1).2<(φ7 d (φ3 v.2[n])).1.length)=true:=decide_eq_true (by omega)
       simp only[c3,cT,hcp,bS,φS,decide_eq_false c2,κL,κ1,if_false]
     ·simp only[c1,dF,cF,not_false_iff,dT,Bool.true_or,tA,bS,φL,hw,ih]
   ·have:n=v.2.length:=by omega
    subst this
    rw[List.drop_length]
    simp[ψ2Q.l0,φ1S])
  (by omega) 0 () (κ5 _) trivial
 exact key
noncomputable def φ1d (d:φ2) (id:Int):Option φa:=
 if (φ7 d (φf id)).2=true∧(φ1W (φ7 d (φf id)).1).2=true∧φ4J id (φ7 d (φ3 id)).1 (φ1W (φ7 d (φf id)).1).1=true then
  some ((φ1W (φ7 d (φf id)).1).1.2.2,(φ1W (φ7 d (φf id)).1).1.2.1,0) else none
theorem φIh (w:φN) (id:Int) (h:φ6 w.1=true):ψ1I.f w id=some (match φ1d w.1 id with | some g=>(g,true,w) | none=>(([],0,0),false,w)):=by
 have hlm:=φ1A (φ1s h) (show 100001≤1000000000 by omega)
 have ht:=φ38 h (φf id)
 have ht2:=φ38 h (φ3 id)
 unfold ψ1I.f φ1d
 simp only[φHY,bS,φ5e w.1 (φf id) hlm,φGf _ (show (φ7 w.1 (φf id)).1.length<900000000 by omega),φ6n,φ5e w.1 (φ3 id) hlm,
  φIV id (φ7 w.1 (φ3 id)).1 (φ1W (φ7 w.1 (φf id)).1).1 (by omega)]
 cases (φ7 w.1 (φf id)).2<;>cases (φ1W (φ7 w.1 (φf id)).1).2<;>cases φ4J id (φ7 w.1 (φ3 id)).1 (φ1W (φ7 w.1 (φf id)).1).1<;>simp
noncomputable def φn (x:φ2) (ids:List Int):List φC:=ids.flatMap (φo x)
theorem φIQ (x:φ2) (v:φE) (e:Int) (h:φ6 x=true) (hv:φ1C v=true) :
  lp ψ2Q.l2 (φH,φ2P,φH,v,x,(v,[],0,e,0),([],0,0),[],0) =
   some (match φ1d x (v.2.getD 0 0) with
    | some g=>(φH,φ2P,φH,v,x,(v,[],0,e,v.2.getD 0 0),g,φn x (v.2.drop 1))
    | none=>(φH,φ2P,φH,v,x,(v,[],0,e,0),([],0,0),φn x v.2)):=by
 have hlm:=φ1A (φ1s h) (show 100001≤1000000000 by omega)
 have hlen:=φ4A hv
 have key:=φO (step:=ψ2Q.l2) (fun n (s:φ2b×φa×List φC)=>(φH,φ2P,φH,v,x,s.1,s.2.1,s.2.2,(n:Int))) v.2.length
  (fun n s=>if n=0 then (match φ1d x (v.2.getD 0 0) with
    | some g=>(φH,φ2P,φH,v,x,(s.1.1,s.1.2.1,s.1.2.2.1,s.1.2.2.2.1,v.2.getD 0 0),g,s.2.2++φn x (v.2.drop 1))
    | none=>(φH,φ2P,φH,v,x,s.1,s.2.1,s.2.2++φn x v.2)) else (φH,φ2P,φH,v,x,s.1,s.2.1,s.2.2++φn x (v.2.drop n)))
  (fun n s=>s.2.2.length≤100000 * n∧(n=0→s.2.1.2.2=0∧0<v.2.length))
  (fun rec n s hn hs ih=>by
   rcases κ0 n v.2.length with h1 | h1
   ·have hw:=φB (show n+1<9223372036854775808 by omega)
    have hd:v.2.drop n=v.2[n]::v.2.drop (n+1):=dG h1
    have ht:=φ38 h (φf v.2[n])
    have ht2:=φ38 h (φ3 v.2[n])
    have hpl:=φ9H h v.2[n]
    have hb:decide ((s.2.2.length+(φo x v.2[n]).length) * 88≤140737488355328)=true:=by
     have:=hs.1
     simp only[decide_eq_true_eq];omega
    have hi:(ψ2u.f v.2[n] (φ7 x (φ3 v.2[n])).1)=some (φo x v.2[n]):=φIM _ _ (by omega)
    have hpd:φn x (v.2.drop n)=φo x v.2[n]++φn x (v.2.drop (n+1)):=by rw[hd];rfl
    have hx:inB (n:Int) v.2.length=true:=by rw[φ8,decide_eq_true h1]
    have hr:rdA 0 v.2 (n:Int)=v.2[n]:=by rw[φA,φ5 h1]
    have hrh:=φE2 (φ7 x (φf v.2[n])).1 (show (φ7 x (φf v.2[n])).1.length<900000000 by omega)
    have hhf:=φEH v.2[n] (φ7 x (φ3 v.2[n])).1 (φ1W (φ7 x (φf v.2[n])).1).1 (by omega)
    simp only[ψ2Q.l2,oL,h1,dT,cT,hx,hr,φ40,bS,φ7j x _ hlm,φBX,hrh]
    have ih1:=ih (s.1,s.2.1,s.2.2++φo x v.2[n]) h1 ⟨by simp only[lA];have:=hs.1;omega,by omega⟩
    rw[if_neg (by omega)] at ih1
    simp only[aA,←hpd] at ih1
    by_cases c:n=0
    ·subst c
     rw[if_pos rfl]
     have hx0:inB 0 v.2.length=true:=hx
     have hr0:rdA 0 v.2 0=v.2[0]:=hr
     have hg0:v.2.getD 0 0=v.2[0]:=φ5 h1
     have hn0:(((0:Nat):Int)==0)=true:=rfl
     have hcode:=(hs.2 rfl).1
     have ih2:=ih ((s.1.1,s.1.2.1,s.1.2.2.1,s.1.2.2.2.1,v.2[0]),((φ1W (φ7 x (φf v.2[0])).1).1.2.2,(φ1W (φ7 x (φf v.2[0])).1).1.2.1,0),s.2.2) h1 ⟨by have:=hs.1;show s.2.2.length≤_;omega,by omega⟩
     rw[if_neg (by omega)] at ih2
     rw[κE] at ih1
     simp only[hn0,cT,hx0,hr0,hhf,hg0,hcode,bS]
     unfold φ1d
     cases c1:(φ7 x (φf v.2[0])).2 with
     | false=>simp only[cF,bS,φL,hx,hr,hi,hb,cT,hw,ih1,κ1,false_and,if_false]
     | true=>
      cases c2:(φ1W (φ7 x (φf v.2[0])).1).2 with
      | false=>simp only[cT,cF,bS,φL,hx,hr,hi,hb,hw,ih1,κ1,false_and,and_false,if_false]
      | true=>
       cases c3:φ4J v.2[0] (φ7 x (φ3 v.2[0])).1 (φ1W (φ7 x (φf v.2[0])).1).1 with
       | false=>simp only[cT,cF,bS,φL,hx,hr,hi,hb,hw,ih1,κ1,false_and,and_false,if_false]
       | true=>simp only[cT,bS,φS,hw,ih2,and_true,if_true]
    ·rw[if_neg c]
     have hn0:((n:Int)==0)=false:=by simpa using (show ¬(n:Int)=0 by omega)
     simp only[hn0,cF,bS,φL,hx,hr,hi,hb,cT,hw,ih1]
   ·have:n=v.2.length:=by omega
    subst this
    have:¬v.2.length=0:=fun e=>by have:=(hs.2 e).2;omega
    rw[if_neg this,List.drop_length]
    simp[ψ2Q.l2,φn])
  (by omega) 0 ((v,[],0,e,0),([],0,0),[]) (κ5 _) ⟨κ7 _,fun _=>⟨rfl,by have:=((φ5k v).1 hv).2.2.1;omega⟩⟩
 have key:lp ψ2Q.l2 (φH,φ2P,φH,v,x,(v,[],0,e,0),([],0,0),[],0)=_:=key
 rw[key,if_pos rfl]
 cases φ1d x (v.2.getD 0 0)<;>simp
theorem φFd (w:φN) (v:φE) (S:φ2b) (g:φa) (L:List (List φC)) (z:φE) (hL:∀l∈L,l.length≤100000) (hl:L.length≤1000) :
  lp ψ1G.l0 (w,φH,(v.1,[]),S,g,[],L,(L.length:Int),0)=some (w,φH,(v.1,[]),S,g,L.flatten):=by
 have hk:=φ1z (step:=ψ1G.l0) L (fun (s:List φC) l=>s++l) (fun n s=>(w,φH,(v.1,[]),S,g,s,L,(L.length:Int),(n:Int))) (fun s=>(w,φH,(v.1,[]),S,g,s)) (fun n s=>s.length≤100000 * n) (by omega)
  (fun rec n s h hi=>by
   have hw:=φB (show n+1<9223372036854775808 by omega)
   have h1:=hL _ (gM h)
   have hb:decide ((s.length+L[n].length) * 88≤140737488355328)=true:=by simp only[decide_eq_true_eq];omega
   simp only[ψ1G.l0,oL,h,dT,cT,φ8,φA,φ5 h,hb,hw])
  (fun n s h hi=>by have h1:=hL _ (gM h);simp only[lA];omega)
  (fun rec s hi=>by simp[ψ1G.l0]) [] (κ7 _)
 have hk:lp ψ1G.l0 (w,φH,(v.1,[]),S,g,[],L,(L.length:Int),0)=_:=hk
 rw[hk]
 have:∀(L:List (List φC)) (s:List φC),L.foldl (fun (s:List φC) l=>s++l) s=s++L.flatten:=by
  intro L
  induction L with
  | nil=>intro s;simp
  | cons x L ih=>intro s;rw[κK,ih];simp
 rw[this];rfl
theorem φIi {d:φ2} (h:φ6 d=true) {m n:List UInt8} (z:Int) (hne:n≠m):φ7 (φ1l m z d).1 n=φ7 d n:=by
 refine φ9h h (φ4P h m z) n fun t=>?_
 unfold φ2X
 rcases φt d.1 m with ⟨e,_⟩ | ⟨i,hi,e,hn⟩
 ·rw[φy e]
 ·rw[φv e]
  simp only
  split
  ·rw[φ5 hi]
   constructor
   ·rintro ⟨s,hs⟩;exact ⟨s,(φ7G (f:=(d.1[i].1,d.1[i].2.1.take z.toNat,if z<d.1[i].2.2 then z else d.1[i].2.2)) hi rfl (by rw[hn];exact hne)).2 hs⟩
   ·rintro ⟨s,hs⟩;exact ⟨s,(φ7G (f:=(d.1[i].1,d.1[i].2.1.take z.toNat,if z<d.1[i].2.2 then z else d.1[i].2.2)) hi rfl (by rw[hn];exact hne)).1 hs⟩
  ·exact Iff.rfl
theorem φIN {d:φ2} {n:List UInt8} {z:Int} (h:(φ1l n z d).2=0):φ7 (φ1l n z d).1 n=((φ7 d n).1.take z.toNat,true):=by
 obtain ⟨k,ha,hx⟩:=φHj h
 have hk:φ6 (φ1l n z d).1=true:=φ4P k n z
 have hx:(φ1l n z d).1=_:=hx
 unfold φ2X at ha hx
 rcases φt d.1 n with ⟨e,_⟩ | ⟨i,hi,e,hn⟩
 ·rw[φy e] at ha;simp at ha
 rw[φv e] at ha hx
 simp only at ha hx
 split at ha
 ·rename_i c
  rw[if_pos c,φ5 hi] at hx
  have e1:=φ5R k (gM hi)
  rw[hn] at e1
  have hm:((n,d.1[i].2.1.take z.toNat,if z<d.1[i].2.2 then z else d.1[i].2.2):φ4)∈(φ1l n z d).1.1:=by
   rw[hx,←hn]
   exact List.mem_iff_getElem.2 ⟨i,by simpa using hi,by simp⟩
  have e2:=φ5R hk hm
  rw[e1]
  exact e2
 ·simp at ha
noncomputable def cutN (v:φE) (d:φ2):Nat:=(scan (φ7 d (φ3 (φI v.2))).1).2
noncomputable def cutW (v:φE) (d:φ2):φN:=
 φe (φ2J (φ3 (φI v.2))) (if (φ7 d (φ3 (φI v.2))).1.length=cutN v d then (d,0) else φ1l (φ3 (φI v.2)) (cutN v d:Int) d)
theorem φBx {v:φE} {d:φ2} (h:φ6 d=true):φ6 (cutW v d).1=true:=by
 unfold cutW
 refine φ3D ?_ fun k=>φ6t k _
 split
 ·exact h
 ·exact φ4P h _ _
theorem φF6 {v:φE} {d:φ2} (h:φ6 d=true) (n:List UInt8) (hne:n≠φ3 (φI v.2)):φ7 (cutW v d).1 n=φ7 d n:=by
 unfold cutW
 split
 ·rw[φ6l (φ6G h _ _)]
 ·have hk:φ6 (φ1l (φ3 (φI v.2)) (cutN v d:Int) d).1=true:=φ4P h _ _
  rw[φ6l (φ6G hk _ _)]
  exact φIi h _ hne
theorem φE9 {v:φE} {d:φ2} (h:φ6 d=true) (hl:(φ7 d (φ3 (φI v.2))).2=true) (hc:(cutW v d).2=0) :
  φ7 (cutW v d).1 (φ3 (φI v.2))=((φ7 d (φ3 (φI v.2))).1.take (cutN v d),true):=by
 unfold cutW at hc ⊢
 have h0:=(φGh hc).1
 split
 ·rename_i c
  rw[φ6l (φ6G h _ _),←c,κN]
  exact Prod.ext rfl hl
 ·rename_i c
  rw[if_neg c] at h0
  have hk:φ6 (φ1l (φ3 (φI v.2)) (cutN v d:Int) d).1=true:=φ4P h _ _
  rw[φ6l (φ6G hk _ _),φIN h0,tN]
theorem φIE {v:φE} {d:φ2} (h:φ6 d=true) (hl:(φ7 d (φ3 (φI v.2))).2=true) (hc:(cutW v d).2=0) (id:Int):φo (cutW v d).1 id=φo d id:=by
 unfold φo
 by_cases c:φ3 id=φ3 (φI v.2)
 ·rw[c,φE9 h hl hc]
  show List.map _ (scan ((φ7 d (φ3 (φI v.2))).1.take (cutN v d))).1=_
  unfold cutN
  rw[φEK]
 ·rw[φF6 h _ c]
theorem φB1 {d:φ2}:∀(l:List Int),l≠[]→φ1S d l=true→(φ7 d (φ3 (φI l))).2=true
 | [],h,_=>absurd rfl h
 | [x],_,h=>by
  simp only[φ1S,bA] at h
  rw[φCZ];exact h.1
 | x::y::l,_,h=>by
  rw[φCo]
  have h:φ1S d (x::(y::l))=true:=h
  rw[φ1S,bA,bA] at h
  exact φB1 (y::l) (by simp) h.2.2
noncomputable def φ3N (v:φE) (d:φ2):φ2b×φ2×Int:=
 if (cutW v d).2≠0 then (φH,(cutW v d).1,told (cutW v d).2) else
 let x:=(cutW v d).1
 let g:=match φ1d x (v.2.getD 0 0) with
  | some g=>φ18 g (φn x (v.2.drop 1))
  | none=>φ18 ([],0,0) (φn x v.2)
 let hinted:=match φ1d x (v.2.getD 0 0) with
  | some _=>v.2.getD 0 0
  | none=>0
 if g.2.2≠0 then (φH,x,3) else
 if (φd v x).2≠0 then (φH,(φd v x).1,told (φd v x).2) else
 ((v,g.1,w64 (g.2.1+1),(cutN v d:Int),hinted),(φd v x).1,0)
noncomputable def φ1M (d:φ2):φ2b×φ2×Int:=
 if φ6 d=false then (φH,d,4) else if d.2.2.2=true then (φH,d,1) else
 if (φ7 d φ2y).2=false then φ5t d else
 if (φ2R (φ7 d φ2y).1).2=false then (φH,d,3) else
 if φ1S d (φ2R (φ7 d φ2y).1).1.2=false then (φH,d,3) else φ3N (φ2R (φ7 d φ2y).1).1 d
theorem φID {x:φ2} {id:Int} {g:φa} (h:φ1d x id=some g):g.1.length≤20∧g.2.2=0:=by
 unfold φ1d at h
 split at h
 ·rename_i c
  simp only[Option.some.injEq] at h
  subst h
  refine ⟨?_,rfl⟩
  rcases φHC (φ7 x (φf id)).1 with ⟨e,_⟩ | ⟨u,e,hu⟩
  ·rw[e] at c;simp at c
  ·rw[e];exact (φ8m hu.1).2.2.1
 ·simp at h
theorem φ8a {x:φ2} {id:Int} {g:φa} (h:φ1d x id=some g):φ1D g:=by
 obtain ⟨h1,h2⟩:=φID h
 unfold φ1D
 rw[if_pos h2];omega
theorem φ9T:φ1D ([],0,0):=by unfold φ1D;simp
theorem φ6D {x:φ2} (h:φ6 x=true) {ids:List Int} (hl:ids.length≤60):(φn x ids).length<10000000:=by
 have:=φA7 h ids
 unfold φn;omega
theorem φGS (d:φ2) (t:List UInt8) (h:φ6 d=true) (ht:t.length<1000000000) :
  ∃S w,ψ1G.f (d,0) t=some (S,w) ∧
   (if w.2≠0 then (φH,w.1,w.2) else (S,w.1,(0:Int))) =
   (if (φ2R t).2=false then (φH,d,3) else if φ1S d (φ2R t).1.2=false then (φH,d,3) else φ3N (φ2R t).1 d):=by
 unfold ψ1G.f
 rw[φFw t ht,bS]
 rcases φ8N t with ⟨e,_⟩ | ⟨v,e,hv⟩
 ·rw[e]
  have hs:=φDA (d,0) φi h (by show 0<_;omega)
  rw[if_pos (show φ1S d φi.2=true from rfl)] at hs
  simp only[hs,bS,nF,cT,if_true]
  exact ⟨_,_,rfl,by simp⟩
 rw[e]
 have hlen:=φ4A hv.1
 have hpos:=((φ5k v).1 hv.1).2.2.1
 have hs:=φDA (d,0) v h (by omega)
 simp only[hs,bS]
 cases hc:φ1S d v.2 with
 | false=>
  simp only[κ1,if_false,nZ,cF,nF,cT]
  exact ⟨_,_,rfl,by simp⟩
 | true=>
  have hlast:=φB1 v.2 (fun z=>by rw[z] at hpos;simp at hpos) hc
  obtain ⟨l1,l2,l3⟩:=φBW hpos (by omega)
  have hle:=φBz d v.2 0 (fun z=>by rw[z] at hpos;simp at hpos)
  have hlm:=φ1A (φ1s h) (show 100001≤1000000000 by omega)
  have hT:=φDc d (φ3 (φI v.2)) (cutN v d:Int) hlm
  have hT:ψl.f d (φ3 (φI v.2)) (cutN v d:Int)=some (φ1l (φ3 (φI v.2)) (cutN v d:Int) d):=hT
  have hcw:φ2w d v.2 0=(cutN v d:Int):=hle
  simp only[if_true,nZ,cF,κ8,if_false,l1,l2,cT,l3,φ6n,bS,φ5e d _ hlm,hcw]
  -- cut and kept
  have hmid:∃w0:φN,w0=φg (if (φ7 d (φ3 (φI v.2))).1.length=cutN v d then (d,0) else φ1l (φ3 (φI v.2)) (cutN v d:Int) d) ∧
    ((bif ((φ7 d (φ3 (φI v.2))).1.length:Int) != (cutN v d:Int) then
     (ψl.f d (φ3 (φI v.2)) (cutN v d:Int)).bind fun (t5_0,t5_1)=>(ψ1P.f (d,0) t5_0 t5_1).bind fun t6=>some (t6,φH,v,v.2.map (φo d),(cutN v d:Int),φ3 (φI v.2))
     else some ((d,0),φH,v,v.2.map (φo d),(cutN v d:Int),φ3 (φI v.2)):Option (φN×φ2b×φE×List (List φC)×Int×List UInt8)))=some (w0,φH,v,v.2.map (φo d),(cutN v d:Int),φ3 (φI v.2)):=by
   refine ⟨_,rfl,?_⟩
   by_cases c:(φ7 d (φ3 (φI v.2))).1.length=cutN v d
   ·rw[φ6P c,if_pos c];rfl
   ·rw[φ79 c,if_neg c,cT,hT,bS]
    generalize φ1l (φ3 (φI v.2)) (cutN v d:Int) d=p
    obtain ⟨p1,p2⟩:=p
    simp only[φ4l,bS];rfl
  obtain ⟨w0,ew0,hmid⟩:=hmid
  have hmid:=hmid
  have hsync:ψ1O.f w0 (φ3 (φI v.2))=some (φg (cutW v d)):=by
   have hd0:φ6 w0.1=true:=by
    rw[ew0]
    show φ6 (if (φ7 d (φ3 (φI v.2))).1.length=cutN v d then (d,(0:Int)) else φ1l (φ3 (φI v.2)) (cutN v d:Int) d).1=true
    split
    ·exact h
    ·exact φ4P h _ _
   rw[φDI w0 (φ3 (φI v.2)) (φ1s hd0) (by omega),ew0,φ3z];rfl
  refine (show ∃S w,_∧_ from ?_)
  have hx0:inB 0 v.2.length=true:=by rw[show (0:Int)=((0:Nat):Int) from rfl,φ8];simp;omega
  have hr0:rdA 0 v.2 0=v.2.getD 0 0:=by rw[show (0:Int)=((0:Nat):Int) from rfl,φA]
  have hsl:(decide (0≤(1:Int)) && decide (1≤((v.2.map (φo d)).length:Int)))=true:=by rw[lM];simp;omega
  have hd1:=φBx (v:=v) h
  have hpl:=fun hc2=>φIE (v:=v) h hlast hc2
  unfold φ3N
  have hfl:∀ids:List Int,(cutW v d).2=0→(ids.map (φo d)).flatten=φn (cutW v d).1 ids:=fun ids hc2=>by
   unfold φn
   rw[List.flatMap_def]
   congr 1
   exact List.map_congr_left fun id _=>(hpl hc2 id).symm
  have hmap:∀(ids:List Int),∀l∈ids.map (φo d),l.length≤100000:=fun ids l hl=>by
   obtain ⟨id,_,rfl⟩:=mM.1 hl;exact φ9H h id
  rw[show (((d,(0:Int)):φN).1)=d from rfl] at *
  rw[hmid,bS]
  simp only[hsync,bS]
  generalize hW:cutW v d=W at *
  obtain ⟨x,c⟩:=W
  by_cases c0:c=0
  rotate_left
  ·have t1:(told c != 0)=true:=by rw[φ5x];simpa using c0
   have t2:told c≠0:=fun z=>c0 ((φ5q c).1 z)
   rw[if_pos c0]
   simp only[φg,t1,cT]
   exact ⟨_,_,rfl,by rw[if_pos t2]⟩
  subst c0
  have hd1:φ6 x=true:=hd1
  rw[if_neg (by simp)]
  have t1:(told 0 != 0)=false:=rfl
  have t0:told 0=0:=rfl
  have hh:=φIh (x,0) (v.2.getD 0 0) hd1
  simp only[φg,t1,t0,cF,hx0,cT,hr0,hh,bS]
  -- the end,alike for both ways
  have fin:∀(g0:φa) (ids:List Int) (hin:Int),φ1D g0→ids.length≤60 →
    ∃S w,((lp ψ1G.l0 ((x,0),φH,(v.1,[]),(v,[],0,(cutN v d:Int),hin),g0,[],ids.map (φo d),((ids.map (φo d)).length:Int),0)).bind (fun (x0,x4,x5,x13,x14,x16)=>
     (ψX.f x14 x16).bind fun t10=>
     bif t10.2.2 != 0 then some (φH,(x0.1,3)) else
     (ψ1J.f x0 (x5.1,x13.1.2)).bind fun t11=>some ((x13.1,t10.1,w64 (t10.2.1+1),x13.2.2.2),t11)):Option (φ2b×φN))=some (S,w) ∧
    (if w.2≠0 then (φH,w.1,w.2) else (S,w.1,(0:Int))) =
     (if (φ18 g0 (φn x ids)).2.2≠0 then (φH,x,3) else if (φd v x).2≠0 then (φH,(φd v x).1,told (φd v x).2) else
      ((v,(φ18 g0 (φn x ids)).1,w64 ((φ18 g0 (φn x ids)).2.1+1),(cutN v d:Int),hin),(φd v x).1,0)):=by
   intro g0 ids hin hg hi
   rw[φFd (x,0) v (v,[],0,(cutN v d:Int),hin) g0 (ids.map (φo d)) v (hmap ids) (by rw[lM];omega),bS]
   have hfl2:=hfl ids rfl
   have hrg:=φHg g0 (φn x ids) (φ6D hd1 hi) hg
   have hor:=φAn (x,0) (v.1,v.2) hd1 (by show v.2.length<_;omega)
   have ewd:φ4y (φ1q x v) (x,0)=φg (φd v x):=φBc _ (x,0)
   have hor:ψ1J.f (x,0) (v.1,v.2)=some (φg (φd v x)):=hor.trans (by rw[←ewd])
   simp only[hfl2,hrg,bS]
   by_cases c1:(φ18 g0 (φn x ids)).2.2=0
   rotate_left
   ·have d1:((φ18 g0 (φn x ids)).2.2 != 0)=true:=by simpa using c1
    rw[d1,cT,if_pos c1]
    exact ⟨_,_,rfl,by simp⟩
   have d1:((φ18 g0 (φn x ids)).2.2 != 0)=false:=by simpa using c1
   rw[d1,cF,if_neg (fun z=>z c1),hor,bS]
   refine ⟨_,_,rfl,?_⟩
   generalize φd v x=S2
   obtain ⟨y,c2⟩:=S2
   by_cases c3:c2=0
   ·subst c3;simp[φg,told]
   ·have t2:told c2≠0:=fun z=>c3 ((φ5q c2).1 z)
    simp[φg,t2,c3]
  cases hg:φ1d x (v.2.getD 0 0) with
  | some g=>
   simp only[cT,hx0,hsl,hr0,bS]
   have e1:(v.2.map (φo d)).drop 1=(v.2.drop 1).map (φo d):=by rw[List.map_drop]
   rw[e1]
   exact fin g (v.2.drop 1) (v.2.getD 0 0) (φ8a hg) (by rw[lD];omega)
  | none=>
   simp only[cF,bS]
   exact fin ([],0,0) v.2 0 φ9T hlen
theorem φFr (d:φ2) (hd:dl 1048577 d):ψO.f d=some (φ1M d):=by
 have hlm:=φ1A hd (by omega)
 unfold ψO.f φ1M
 rw[φ8r d (by have:=hd.1;omega),bS,φ7J d hlm,bS]
 cases h:φ6 d with
 | false=>rfl
 | true=>
  simp only[nZ,cF,κ8,if_false]
  obtain ⟨fs,cap,fuel,down⟩:=d
  cases hdn:down with
  | true=>rfl
  | false=>
   subst hdn
   simp only[cF,κ1,if_false]
   have hft:=φ5e (fs,cap,fuel,false) φ2y hlm
   have hft:ψD.f (fs,cap,fuel,false) [108,105,118,101]=_:=hft
   rw[hft,bS]
   have htl:=φ38 h φ2y
   generalize ((fs,cap,fuel,false):φ2)=d at *
   generalize φ7 d φ2y=q at htl ⊢
   obtain ⟨t,b⟩:=q
   cases b with
   | false=>
    simp only[cF,if_true]
    obtain ⟨w,e1,e2⟩:=φHw d h
    simp only[e1,bS]
    unfold φ5t
    rw[e2]
    generalize sPut (2,[1]) (φe (φ16 (φ3 1)) (φd φi d))=p
    obtain ⟨y,c⟩:=p
    by_cases c0:c=0
    ·subst c0;simp[φg,told]
    ·have t1:(told c != 0)=true:=by rw[φ5x];simpa using c0
     simp only[φg,t1,cT]
     rw[if_pos c0]
   | true=>
    simp only[cT,κ8,if_false]
    obtain ⟨S,w,e1,e2⟩:=φGS d t h (by have:t.length≤100000:=htl;omega)
    rw[←e2]
    simp only[e1,bS]
    obtain ⟨y,c⟩:=w
    by_cases c0:c=0
    ·subst c0;simp
    ·have t1:(c != 0)=true:=by simpa using c0
     simp only[t1,cT]
     rw[if_pos c0]
theorem φEX (d:φ2) (hd:dl 1048577 d):ψ2Q.f d=some (φ1M d):=by
 have hlm:=φ1A hd (by omega)
 unfold ψ2Q.f φ1M
 have hcp:=φ5S d (by have:=hd.1;omega)
 rw[φ5H d hlm,bS]
 cases h:φ6 d with
 | false=>simp only[nF,cT,hcp,bS,if_true]
 | true=>
  simp only[nZ,cF,κ8,if_false]
  cases hdn:d.2.2.2 with
  | true=>simp only[cT,hcp,bS,if_true]
  | false=>
   simp only[cF,κ1,if_false]
   have hft:=φ7j d φ2y hlm
   have hft:ψ2G.f d [108,105,118,101]=_:=hft
   rw[hft,bS]
   have htl:=φ38 h φ2y
   generalize φ7 d φ2y=q at htl ⊢
   obtain ⟨t,b⟩:=q
   cases b with
   | false=>simp only[nF,cT,φIW d h,bS,if_true]
   | true=>
    have htl:t.length≤100000:=htl
    simp only[nZ,cF,κ8,if_false,φF1 t (by omega),bS]
    rcases φ8N t with ⟨e,_⟩ | ⟨v,e,hv⟩
    ·rw[e]
     simp only[nF,cT,hcp,bS,if_true]
    rw[e]
    have hlen:=φ4A hv.1
    have hpos:=((φ5k v).1 hv.1).2.2.1
    obtain ⟨l1,l2,l3⟩:=φBW hpos (by omega)
    have h0:=φGN d v h hv.1
    simp only[nZ,cF,κ8,if_false,l1,l2,cT,l3,h0,bS]
    cases hc:φ1S d v.2 with
    | false=>simp only[κ1,if_false,φS,if_true]
    | true=>
     have hsc:=φ3o (φ7 d (φ3 (φI v.2))).1
     have htx:=φ38 h (φ3 (φI v.2))
     have hT:=φF4 d (φ3 (φI v.2)) (cutN v d:Int) hlm
     have hT:ψ2l.f d (φ3 (φI v.2)) (cutN v d:Int)=some (φ1l (φ3 (φI v.2)) (cutN v d:Int) d):=hT
     have hsr:=φ75 (φ7 d (φ3 (φI v.2))).1 (by omega)
     have hcn:((scan (φ7 d (φ3 (φI v.2))).1).2:Int)=(cutN v d:Int):=rfl
     rw[hcn] at hsr
     simp only[if_true,φL,κ8,if_false,φ40,bS,φ7j d _ hlm,hsr,hcp]
     have hle:cutN v d≤(φ7 d (φ3 (φI v.2))).1.length:=hsc.1
     unfold φ3N
     -- the end,alike for both ways
     have fin:∀(w:φN),φ6 w.1=true→w.2=0→cutW v d=φe (φ2J (φ3 (φI v.2))) w →
       ((ψ2k.f w.1 (φ3 (φI v.2))).bind fun (t25_0,t25_1)=>
        bif t25_1 != 0 then (ψ2q.f t25_1).bind fun t26=>some (φH,t25_0,t26) else
        (lp ψ2Q.l2 (φH,φ2P,φH,v,t25_0,(v,[],0,(cutN v d:Int),0),([],0,0),([]:List φC),0)).bind (fun (x2,x3,x5,x8,x19,x23,x24,x25)=>
        (ψ2a.f x24 x25).bind fun t35=>
        bif t35.2.2 != 0 then some (x5,x19,3) else
        (ψ2v.f x19 x8).bind fun (t36_0,t36_1)=>
        bif t36_1 != 0 then some (x5,t36_0,t36_1) else some ((x23.1,t35.1,w64 (t35.2.1+1),x23.2.2.2),t36_0,0))) =
       some (if (cutW v d).2≠0 then (φH,(cutW v d).1,told (cutW v d).2) else
        let x:=(cutW v d).1
        let g:=match φ1d x (v.2.getD 0 0) with
         | some g=>φ18 g (φn x (v.2.drop 1))
         | none=>φ18 ([],0,0) (φn x v.2)
        let hinted:=match φ1d x (v.2.getD 0 0) with
         | some _=>v.2.getD 0 0
         | none=>0
        if g.2.2≠0 then (φH,x,3) else
        if (φd v x).2≠0 then (φH,(φd v x).1,told (φd v x).2) else
        ((v,g.1,w64 (g.2.1+1),(cutN v d:Int),hinted),(φd v x).1,0)):=by
      intro w hw h0 ecut
      obtain ⟨w1,w2⟩:=w
      have h0:w2=0:=h0
      subst h0
      have hw:φ6 w1=true:=hw
      have hsy:=φBr w1 (φ3 (φI v.2)) (φ1A (φ1s hw) (by omega))
      have hsy:ψ2k.f w1 (φ3 (φI v.2))=some (φ2J (φ3 (φI v.2)) w1):=hsy
      rw[φ3O] at ecut
      have hdx:=φ6t hw (φ3 (φI v.2))
      rw[←ecut] at hsy hdx
      simp only[hsy,bS]
      generalize cutW v d=W at hdx ⊢
      obtain ⟨x,c⟩:=W
      have hdx:φ6 x=true:=hdx
      by_cases c0:c=0
      rotate_left
      ·have d0:(c != 0)=true:=by simpa using c0
       rw[if_pos c0]
       simp only[d0,cT,φ4f,bS]
      subst c0
      rw[if_neg (by simp)]
      have d0:((0:Int) != 0)=false:=rfl
      have h2:=φIQ x v (cutN v d:Int) hdx hv.1
      simp only[d0,cF,h2,bS]
      have fin2:∀(g0:φa) (ids:List Int) (hin:Int),φ1D g0→ids.length≤60 →
        ((ψ2a.f g0 (φn x ids)).bind fun t35=>bif t35.2.2 != 0 then some (φH,x,3) else (ψ2v.f x v).bind fun (t36_0,t36_1)=>
         bif t36_1 != 0 then some (φH,t36_0,t36_1) else some ((v,t35.1,w64 (t35.2.1+1),(cutN v d:Int),hin),t36_0,0)) =
        some (if (φ18 g0 (φn x ids)).2.2≠0 then (φH,x,3) else if (φd v x).2≠0 then (φH,(φd v x).1,told (φd v x).2) else
         ((v,(φ18 g0 (φn x ids)).1,w64 ((φ18 g0 (φn x ids)).2.1+1),(cutN v d:Int),hin),(φd v x).1,0)):=by
       intro g0 ids hin hg hi
       have hrg:=φEv g0 (φn x ids) (φ6D hdx hi) hg
       rw[hrg,bS]
       by_cases c1:(φ18 g0 (φn x ids)).2.2=0
       rotate_left
       ·have d1:((φ18 g0 (φn x ids)).2.2 != 0)=true:=by simpa using c1
        rw[d1,cT,if_pos c1]
       have d1:((φ18 g0 (φn x ids)).2.2 != 0)=false:=by simpa using c1
       rw[d1,cF,if_neg (fun z=>z c1),φCl x v hdx (by omega),bS]
       generalize φd v x=S2
       obtain ⟨y,c2⟩:=S2
       by_cases c3:c2=0
       ·subst c3;simp[φg,told]
       ·have t2:(told c2 != 0)=true:=by rw[φ5x];simpa using c3
        simp only[φg,t2,cT]
        rw[if_pos c3]
      cases hg:φ1d x (v.2.getD 0 0) with
      | some g=>exact fin2 g (v.2.drop 1) (v.2.getD 0 0) (φ8a hg) (by rw[lD];omega)
      | none=>exact fin2 ([],0,0) v.2 0 φ9T hlen
     by_cases c:(φ7 d (φ3 (φI v.2))).1.length=cutN v d
     ·have d1:decide ((cutN v d:Int)<((φ7 d (φ3 (φI v.2))).1.length:Int))=false:=decide_eq_false (by omega)
      rw[d1,cF,bS]
      simp only[φL,φ40,bS]
      exact fin (d,0) h rfl (by unfold cutW;rw[if_pos c])
     ·have d1:decide ((cutN v d:Int)<((φ7 d (φ3 (φI v.2))).1.length:Int))=true:=decide_eq_true (by omega)
      rw[d1,cT,hT,bS]
      have ecut:cutW v d=φe (φ2J (φ3 (φI v.2))) (φ1l (φ3 (φI v.2)) (cutN v d:Int) d):=by unfold cutW;rw[if_neg c]
      have hdt:φ6 (φ1l (φ3 (φI v.2)) (cutN v d:Int) d).1=true:=φ4P h _ _
      generalize φ1l (φ3 (φI v.2)) (cutN v d:Int) d=p at ecut hdt ⊢
      obtain ⟨y,c2⟩:=p
      by_cases c3:c2=0
      ·subst c3
       simp only[show ((0:Int) != 0)=false from rfl,cF,bS,φL,φ40]
       exact fin (y,0) hdt rfl ecut
      ·have d3:(c2 != 0)=true:=by simpa using c3
       rw[φ3a c3] at ecut
       simp only[d3,cT,φ4f,bS,φS]
       rw[ecut,if_pos c3]
theorem φDO:∀(r pre:List φC) (g:φa),φ1D g→pre.length+r.length<10000000→φ1D (φ1c pre r g)
 | [],_,g,h,_=>h
 | p::r,pre,g,h,hl=>by
  unfold φ1c
  simp only[lC] at hl
  split
  ·exact h
  ·rename_i c
   exact φDO r (pre++[p]) _ (φ99 h (by simpa using c) (by omega)) (by simp only[lA,κ3];omega)
theorem φBu {g:φa} {l:List φC} (h:φ1D g) (hl:l.length<10000000):(φ18 g l).1.length≤11000020:=by
 have:=φDO l [] g h (by simpa using hl)
 unfold φ1D at this
 unfold φ18 φ77
 split
 ·show (φ1c [] l g).1.length≤_
  split at this<;>omega
 ·split at this<;>omega
noncomputable def φ51 (v:φE) (x:φ2) (e:Int) (g:φa) (hin:Int):φ2b×φ2×Int:=
 if g.2.2≠0 then (φH,x,3) else
 if (φd v x).2≠0 then (φH,(φd v x).1,told (φd v x).2) else
 ((v,g.1,w64 (g.2.1+1),e,hin),(φd v x).1,0)
theorem φE1 (v:φE) (d:φ2):φ3N v d=if (cutW v d).2≠0 then (φH,(cutW v d).1,told (cutW v d).2) else
  match φ1d (cutW v d).1 (v.2.getD 0 0) with
  | some g=>φ51 v (cutW v d).1 (cutN v d:Int) (φ18 g (φn (cutW v d).1 (v.2.drop 1))) (v.2.getD 0 0)
  | none=>φ51 v (cutW v d).1 (cutN v d:Int) (φ18 ([],0,0) (φn (cutW v d).1 v.2)) 0:=by
 unfold φ3N
 by_cases c:(cutW v d).2≠0
 ·rw[if_pos c,if_pos c]
 ·rw[if_neg c,if_neg c]
  simp only
  cases φ1d (cutW v d).1 (v.2.getD 0 0)<;>rfl
theorem φD0 {v:φE} {x:φ2} (e:Int) (g:φa) (hin:Int) (h:φ6 x=true) (hl:v.2.length≤60) (hg:g.1.length≤11000020) :
  φ6 (φ51 v x e g hin).2.1=true∧(φ51 v x e g hin).1.1.2.length≤60∧(φ51 v x e g hin).1.2.1.length≤11000020:=by
 unfold φ51
 have hs:=φ6c h v
 split
 ·exact ⟨h,by simp,by simp⟩
 split
 ·exact ⟨hs,by simp,by simp⟩
 exact ⟨hs,hl,hg⟩
theorem φGr {d:φ2} (h:φ6 d=true):φ6 (φ1M d).2.1=true∧(φ1M d).1.1.2.length≤60∧(φ1M d).1.2.1.length≤11000020:=by
 unfold φ1M
 rw[if_neg (by rw[h];simp)]
 split
 ·exact ⟨h,by simp,by simp⟩
 split
 ·unfold φ5t
  have h1:φ6 (sPut (2,[1]) (φe (φ16 (φ3 1)) (φd φi d))).1=true:=φFv (φ3D (φ6c h φi) fun k=>φ6U k _) _
  simp only
  split
  ·exact ⟨h1,by simp,by simp⟩
  ·exact ⟨h1,by simp,by simp⟩
 split
 ·exact ⟨h,by simp,by simp⟩
 rename_i hv
 split
 ·exact ⟨h,by simp,by simp⟩
 rcases φ8N (φ7 d φ2y).1 with ⟨e,_⟩ | ⟨v,e,hlv⟩
 ·rw[e] at hv;simp at hv
 rw[e]
 show φ6 (φ3N v d).2.1=true∧(φ3N v d).1.1.2.length≤60∧(φ3N v d).1.2.1.length≤11000020
 have hlen:=φ4A hlv.1
 have hd1:=φBx (v:=v) h
 rw[φE1]
 split
 ·exact ⟨hd1,by simp,by simp⟩
 cases hg:φ1d (cutW v d).1 (v.2.getD 0 0) with
 | some g=>exact φD0 _ _ _ hd1 hlen (φBu (φ8a hg) (φ6D hd1 (by rw[lD];omega)))
 | none=>exact φD0 _ _ _ hd1 hlen (φBu φ9T (φ6D hd1 hlen))
abbrev EngT:=Bool×φ2b×φ2×List TxnT
abbrev zTx:List TxnT:=κU 3 (false,[],[])
def sumC {X:Type} (c:X→Nat):List X→Nat
 | []=>0
 | x::r=>c x+sumC c r
def φ1y {X:Type} (mk:Int→X→X) (c:X→Nat):List X→Int→List X
 | [],_=>[]
 | x::r,k=>mk k x::φ1y mk c r (k+(c x:Int))
theorem φ54 {X:Type} (mk:Int→X→X) (c:X→Nat):∀(l:List X) (k:Int),(φ1y mk c l k).length=l.length
 | [],_=>rfl
 | x::r,k=>by simp[φ1y,φ54 mk c r]
theorem φ5U {X:Type} (c:X→Nat):∀(l:List X) (n:Nat) (h:n<l.length),sumC c (l.take (n+1))=sumC c (l.take n)+c l[n]
 | [],n,h=>by simp at h
 | x::r,0,h=>by simp[sumC]
 | x::r,n+1,h=>by
  have:=φ5U c r n (by simpa using h)
  simp only[List.take_succ_cons,sumC,List.getElem_cons_succ,this]
  omega
theorem φ8A {X:Type} (c:X→Nat):∀(l:List X) (n:Nat),sumC c (l.take n)≤sumC c l
 | [],n=>by simp
 | x::r,0=>by simp[sumC]
 | x::r,n+1=>by
  have:=φ8A c r n
  simp only[List.take_succ_cons,sumC]
  omega
theorem φ8g {X:Type} (mk:Int→X→X) (c:X→Nat):∀(l:List X) (k:Int) (n:Nat) (h:n<l.length),(φ1y mk c l k)[n]'(by rw[φ54];exact h)=mk (k+(sumC c (l.take n):Nat)) l[n]
 | [],k,n,h=>by simp at h
 | x::r,k,0,h=>by simp[φ1y,sumC]
 | x::r,k,n+1,h=>by
  have:=φ8g mk c r (k+(c x:Int)) n (by simpa using h)
  simp only[φ1y,List.getElem_cons_succ,this,List.take_succ_cons,sumC]
  congr 1
  omega
theorem φEM {X:Type} {step:(List X×Int×Int→Option (List X×Int))→List X×Int×Int→Option (List X×Int)} (mk:Int→X→X) (c:X→Nat) (P:X→Prop) (l:List X) (hl:l.length<2 ^ 62) (hP:∀x∈l,P x)
  (hs:∀rec (r:List X) (k:Int) (n:Nat),r.length=l.length→(h:n<r.length)→P r[n]→0<k→k+(c r[n]:Int)<1000000000000→step rec (r,k,(n:Int))=rec (r.set n (mk k r[n]),k+(c r[n]:Int),((n+1:Nat):Int)))
  (he:∀rec (r:List X) (k:Int),r.length=l.length→step rec (r,k,(l.length:Int))=some (r,k)) (k:Int) (h0:0<k) (h1:k+(sumC c l:Nat)<1000000000000) :
  lp step (l,k,0)=some (φ1y mk c l k,k+(sumC c l:Nat)):=by
 have key:=φO (step:=step) (fun n (s:List X×Int)=>(s.1,s.2,(n:Int))) l.length (fun n s=>(φ1y mk c l k,k+(sumC c l:Nat)))
  (fun n s=>s.1.length=l.length∧s.2=k+(sumC c (l.take n):Nat)∧s.1.take n=(φ1y mk c l k).take n∧s.1.drop n=l.drop n)
  (fun rec n s hn hi ih=>by
   obtain ⟨i1,i2,i3,i4⟩:=hi
   rcases κ0 n l.length with h | h
   ·have hg:s.1[n]'(by omega)=l[n]:=by
     have:=i4
     rw[dG (by omega),dG h,List.cons.injEq] at this
     exact this.1
    have hb:=φ8A c l (n+1)
    rw[φ5U c l n h] at hb
    rw[hs rec s.1 s.2 n i1 (by omega) (by rw[hg];exact hP _ (gM h)) (by omega) (by rw[hg];omega)]
    refine ih (s.1.set n (mk s.2 (s.1[n]'(by omega))),s.2+(c (s.1[n]'(by omega)):Int)) h ⟨by simp[i1],?_,?_,?_⟩
    ·show s.2+_=_;rw[hg,i2,φ5U c l n h];omega
    ·show (s.1.set n _).take (n+1)=_
     rw[κ2 (by simp;omega),κ2 (by rw[φ54];omega),List.take_set_of_le (κ7 _),i3,φ8g mk c l k n h]
     simp[i2,hg]
    ·show (s.1.set n _).drop (n+1)=_
     rw[List.drop_set_of_lt (by omega)]
     have:=i4
     rw[dG (by omega),dG h,List.cons.injEq] at this
     exact this.2
   ·have:n=l.length:=by omega
    subst this
    rw[he rec s.1 s.2 i1,i2,κN]
    rw[←i1,κN,i1,←φ54 mk c l k,κN] at i3
    rw[i3])
  hl 0 (l,k) (κ5 _) ⟨rfl,by simp[sumC],by simp,by simp⟩
 simpa using key
theorem φE0 {X:Type} {step:(List X×Int×Int→Option (Int ⊕ Int))→List X×Int×Int→Option (Int ⊕ Int)} (mk:Int→X→X) (c:X→Nat) (P:X→Prop) (l:List X) (hl:l.length<2 ^ 62) (hP:∀x∈l,P x)
  (hs:∀rec (r:List X) (k:Int) (n:Nat) (x:X),(h:n<r.length)→n<4611686018427387904→r[n]=mk k x→P x→0<k→k+(c x:Int)<1000000000000→step rec (r,k,(n:Int))=rec (r,k+(c x:Int),((n+1:Nat):Int)))
  (he:∀rec (r:List X) (k:Int),step rec (r,k,(r.length:Int))=some (.inl k)) (k:Int) (h0:0<k) (h1:k+(sumC c l:Nat)<1000000000000) :
  lp step (φ1y mk c l k,k,0)=some (.inl (k+(sumC c l:Nat))):=by
 have key:=φO (step:=step) (fun n (s:Int)=>(φ1y mk c l k,s,(n:Int))) l.length (fun n s=>.inl (k+(sumC c l:Nat)))
  (fun n s=>s=k+(sumC c (l.take n):Nat))
  (fun rec n s hn hi ih=>by
   rcases κ0 n l.length with h | h
   ·have hb:=φ8A c l (n+1)
    rw[φ5U c l n h] at hb
    rw[hs rec _ s n l[n] (by rw[φ54];exact h) (by omega) (by rw[φ8g mk c l k n h,hi]) (hP _ (gM h)) (by omega) (by omega)]
    exact ih _ h (by rw[hi,φ5U c l n h];omega)
   ·have:n=l.length:=by omega
    subst this
    have:=he rec (φ1y mk c l k) s
    rw[φ54] at this
    rw[this,hi,κN])
  hl 0 k (κ5 _) (by simp[sumC])
 simpa using key
def φAZ (x:Bool×((Int×List (Int))×List (List UInt8×Int×Int×Int×Int)×Int×Int×Int)×(List (List UInt8×List UInt8×Int)×Int×Int×Bool)×List (Bool×List (List UInt8×Int)×List (List UInt8×Bool×List UInt8))):Prop:=φ9a (x.2.1)∧φ6d (x.2.2.1)∧(x.2.2.2.length<2 ^ 62∧∀y∈x.2.2.2,φ80 y)
theorem φEl (x y:Bool×((Int×List (Int))×List (List UInt8×Int×Int×Int×Int)×Int×Int×Int)×(List (List UInt8×List UInt8×Int)×Int×Int×Bool)×List (Bool×List (List UInt8×Int)×List (List UInt8×Bool×List UInt8))) (hx:φAZ x):ψ1S.f x y=some (decide (x=y)):=by
 obtain ⟨h1,h2,h3⟩:=hx
 obtain ⟨a0,a1,a2,a3⟩:=x
 obtain ⟨b0,b1,b2,b3⟩:=y
 unfold ψ1S.f
 simp only[φH2 a1 b1 h1,φCv a2 b2 h2,φGR a3 b3 h3.1 h3.2,bS]
 by_cases e0:a0=b0
 rotate_left
 ·have d2:(a0==b0)=false:=by simpa using e0
  have d3:(a0 != b0)=true:=by simpa using e0
  simp[e0,d2,d3]
 by_cases e1:a1=b1
 rotate_left
 ·simp[e1]
 by_cases e2:a2=b2
 rotate_left
 ·simp[e2]
 by_cases e3:a3=b3
 rotate_left
 ·simp[e3]
 simp[e0,e1,e2,e3]
noncomputable def φ42 (k:Int) (x:TxnT):TxnT:=(Int.tmod k 3==0,φx φ5B 2 x.2.1 (k+1),φx φ4Z 3 x.2.2 (k+1+2 * (x.2.1.length:Int)))
def φ2a (x:TxnT):Nat:=1+2 * x.2.1.length+3 * x.2.2.length
theorem φGx (l:List TxnT) (k:Int) (hl:l.length<2 ^ 62) (hP:∀x∈l,φ49 x) (h0:0<k) (h1:k+(sumC φ2a l:Nat)<1000000000000):ψ20.f l k=some (k+(sumC φ2a l:Nat),φ1y φ42 φ2a l k):=by
 unfold ψ20.f
 rw[φEM φ42 φ2a φ49 l hl hP (fun rec r k n hr h hp h0 h1=>?_) (fun rec r k hr=>?_) k h0 h1]
 ·rfl
 ·have hn:n<4611686018427387904:=by omega
  have h1':k+((1+2 * r[n].2.1.length+3 * r[n].2.2.length:Nat):Int)<1000000000000:=h1
  have e1:w64 (k+1)=k+1:=by rw[φ9 (by omega) (by omega)]
  have e2:k+((1+2 * r[n].2.1.length+3 * r[n].2.2.length:Nat):Int)=k+1+2 * (r[n].2.1.length:Int)+3 * (r[n].2.2.length:Int):=by omega
  have m1:=φDf r[n].2.1 (k+1) hp.1 (by omega) (by omega)
  have m2:=φGl r[n].2.2 (k+1+2 * (r[n].2.1.length:Int)) hp.2 (by omega) (by omega)
  show _=rec (_,k+((1+2 * r[n].2.1.length+3 * r[n].2.2.length:Nat):Int),_)
  rw[e2]
  simp only[ψ20.l0,oL,h,dT,cT,φ8,List.length_set,tN,φ3j h,φA,φ5 h,List.set_set,φB (show n+1<9223372036854775808 by omega),e1,m1,m2,bS,φ42]
 ·simp[ψ20.l0,hr]
theorem φGu (l:List TxnT) (k:Int) (hl:l.length<2 ^ 62) (hP:∀x∈l,φ49 x) (h0:0<k) (h1:k+(sumC φ2a l:Nat)<1000000000000):ψ1p.f (φ1y φ42 φ2a l k) k=some (k+(sumC φ2a l:Nat)):=by
 unfold ψ1p.f
 rw[φE0 φ42 φ2a φ49 l hl hP (fun rec r k n x h hn0 hx hp h0 h1=>?_) (fun rec r k=>?_) k h0 h1]
 ·rfl
 ·have hn:n+1<9223372036854775808:=by omega
  have h1':k+((1+2 * x.2.1.length+3 * x.2.2.length:Nat):Int)<1000000000000:=h1
  have e1:w64 (k+1)=k+1:=by rw[φ9 (by omega) (by omega)]
  have e2:k+((1+2 * x.2.1.length+3 * x.2.2.length:Nat):Int)=k+1+2 * (x.2.1.length:Int)+3 * (x.2.2.length:Int):=by omega
  have m1:=φFR x.2.1 (k+1) hp.1 (by omega) (by omega)
  have m2:=φHy x.2.2 (k+1+2 * (x.2.1.length:Int)) hp.2 (by omega) (by omega)
  show _=rec (_,k+((1+2 * x.2.1.length+3 * x.2.2.length:Nat):Int),_)
  rw[e2]
  simp only[ψ1p.l0,oL,h,dT,cT,φ8,φA,φ5 h,hx,φ42,φB hn,e1,m1,m2,bS,beq_self_eq_true,nZ,bne_self_eq_false,cF,dnn (show (0:Int)≤k+1+2 * (x.2.1.length:Int) by omega),dnn (show (0:Int)≤k+1+2 * (x.2.1.length:Int)+3 * (x.2.2.length:Int) by omega)]
 ·simp[ψ1p.l0]
noncomputable def φ3x (k:Int) (x:EngT):EngT:=(x.1,φ5L k x.2.1,φ5X (k+((φ1J x.2.1:Nat):Int)) x.2.2.1,φ1y φ42 φ2a x.2.2.2 (k+((φ1J x.2.1:Nat):Int)+((φ1f x.2.2.1:Nat):Int)))
def φ4G (x:EngT):Nat:=φ1J x.2.1+φ1f x.2.2.1+sumC φ2a x.2.2.2
structure EL (x:EngT):Prop where
 lim:φAZ x
 ms:φ4L x.2.1
 md:φ44 x.2.2.1
 tl:x.2.2.2.length<2 ^ 62
 tm:∀t∈x.2.2.2,φ49 t
 cc:1+((φ4G x:Nat):Int)<1000000000000
theorem φBn {x:EngT} (l1:x.2.2.1.1.length≤100000000) (l2:x.2.1.1.2.length≤100000000) (l3:x.2.1.2.1.length≤100000000) (l4:x.2.2.2.length≤100000000) (l5:∀t∈x.2.2.2,φ49 t) (l6:sumC φ2a x.2.2.2≤1000000000):EL x:=by
 have R:=φHc (y0:=x.2.1) (y1:=x.2.2.1) l1 l2 l3
 refine ⟨⟨R.xs,R.xd,by omega,l5⟩,R.ms,R.md,by omega,l5,?_⟩
 unfold φ4G φ1J φ2G φ1f;omega
theorem φEJ {x:EngT} (h:EL x):ψ1r.f x 1=some (1+((φ4G x:Nat):Int),φ3x 1 x):=by
 have hc:=h.cc
 unfold φ4G at hc ⊢
 unfold ψ1r.f
 rw[φEL x.2.1 1 h.ms (by omega) (by omega),bS]
 simp only
 rw[φBh x.2.2.1 (1+((φ1J x.2.1:Nat):Int)) h.md (by omega) (by omega),bS]
 simp only
 rw[φGx x.2.2.2 (1+((φ1J x.2.1:Nat):Int)+((φ1f x.2.2.1:Nat):Int)) h.tl h.tm (by omega) (by omega),bS]
 exact congrArg some (Prod.ext (by simp only;omega) rfl)
theorem φH8 {x:EngT} (h:EL x):ψ1h.f (φ3x 1 x) 1=some (1+((φ4G x:Nat):Int)):=by
 have hc:=h.cc
 unfold φ4G at hc ⊢
 unfold ψ1h.f φ3x
 simp only[φDx x.2.1 1 h.ms (by omega) (show 1+((φ1J x.2.1:Nat):Int)<1000000000000 by omega),bS,dnn (show (0:Int)≤1+((φ1J x.2.1:Nat):Int) by omega),cF,
  φH5 x.2.2.1 (1+((φ1J x.2.1:Nat):Int)) h.md (by omega) (by omega),dnn (show (0:Int)≤1+((φ1J x.2.1:Nat):Int)+((φ1f x.2.2.1:Nat):Int) by omega),
  φGu x.2.2.2 (1+((φ1J x.2.1:Nat):Int)+((φ1f x.2.2.1:Nat):Int)) h.tl h.tm (by omega) (by omega),dnn (show (0:Int)≤1+((φ1J x.2.1:Nat):Int)+((φ1f x.2.2.1:Nat):Int)+((sumC φ2a x.2.2.2:Nat):Int) by omega)]
 simp only[Option.some.injEq]
 omega
noncomputable def φ7D (d:φ2):EngT:=((φ1M d).2.2==0,(φ1M d).1,(φ1M d).2.1,zTx)
theorem φEm (x0:φ2) (w0:wfD (.pair (.sl false (.pair .str (.pair .str (.int .i64)))) (.pair (.int .i64) (.pair (.int .i64) .bool))) x0):ψ1Q.f x0=some true:=by
 have k1:=φG0 _ w0
 unfold ψ1Q.f
 rw[φGJ x0 1048576 (by omega) (by omega) k1,bS,φ91]
 by_cases c1:((φ3X x0:Nat):Int)≤1048576
 rotate_left
 ·simp[c1]
 simp only[c1,dT,nZ,cF]
 have hb1:φ3X x0≤1048576:=by omega
 have l1:x0.1.length≤1048576:=by unfold φ3X φ3Z at hb1;omega
 have hdl:=φFC hb1
 have e1:ψC.f x0=some (φ7D x0,(φ1M x0).2.2):=by
  unfold ψC.f
  rw[φFr x0 hdl];rfl
 have e2:ψ2F.f x0=some (φ7D x0,(φ1M x0).2.2):=by
  unfold ψ2F.f
  rw[φEX x0 hdl];rfl
 have hz:∀t∈zTx,φ49 t:=fun t ht=>by simp[zTx] at ht;subst ht;exact ⟨by show 0<2 ^ 62;omega,by show 0<2 ^ 62;omega⟩
 have hE:EL (φ7D x0):=by
  cases h:φ6 x0 with
  | true=>
   obtain ⟨h1,h2,h3⟩:=φGr h
   exact φBn (by show (φ1M x0).2.1.1.length≤_;have:=(φ69 h1).2.2;omega) (by show (φ1M x0).1.1.2.length≤_;omega) (by show (φ1M x0).1.2.1.length≤_;omega) (by show 3≤_;omega) hz (by show 3≤_;omega)
  | false=>
   have q:φ1M x0=(φH,x0,4):=by unfold φ1M;rw[if_pos h]
   exact φBn (by show (φ1M x0).2.1.1.length≤_;rw[q];show x0.1.length≤_;omega) (by show (φ1M x0).1.1.2.length≤_;rw[q];simp) (by show (φ1M x0).1.2.1.length≤_;rw[q];simp) (by show 3≤_;omega) hz (by show 3≤_;omega)
 have hx:φ6d x0:=show _<_ by omega
 have hm:φ44 x0:=show _<_ by omega
 have hc:1+((φ1f x0:Nat):Int)<1000000000000:=by unfold φ1f;omega
 have hcc:=hE.cc
 generalize φ7D x0=e at *
 have hk:((e.1,((e.2.1.1.1,(φ3x 1 e).2.1.1.2),(φ3x 1 e).2.1.2.1,e.2.1.2.2),((φ3x 1 e).2.2.1.1,e.2.2.1.2),(φ3x 1 e).2.2.2):EngT)=φ3x 1 e:=rfl
 simp only[φET _ k1 hb1,e1,e2,φEl e e hE.lim,φCv x0 x0 hx,φBh x0 1 hm (by omega) hc,φEJ hE,bS,dT,nZ,cF,bne_self_eq_false]
 simp only[dnn (show (0:Int)≤1+((φ1f x0:Nat):Int) by omega),cF]
 simp only[hk,φH8 hE,bS,dnn (show (0:Int)≤1+((φ4G e:Nat):Int) by omega),cF,bne_self_eq_false]
end Go.Rf.G
