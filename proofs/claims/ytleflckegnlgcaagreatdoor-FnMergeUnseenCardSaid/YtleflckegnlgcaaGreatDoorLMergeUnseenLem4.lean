import Derived.Test.YtleflckegnlgcaaGreatDoorLMergeUnseenLem3
open Option renaming bind_some→bS
open List renaming length_append→lA,append_assoc→aA,mem_cons_of_mem→mC,mem_append→mA,mem_append_right→mR,mem_append_left→mL,mem_cons→mc,drop_eq_getElem_cons→dG,length_take→lT,length_drop→lD,mem_map→mM,length_map→lM,length_cons→lC,length_nil→lN,getElem_mem→gM,map_append→mp,mem_singleton→mZ,mem_cons_self→κ0,take_succ_eq_append_getElem→κ4,map_cons→κ5,append_nil→κ7,nil_append→κ8,length_singleton→κA,drop_zero→κC,take_append_drop→κE,cons_append→κF,flatMap_append→κI,replicate→κJ,nodup_append→κK,foldl_cons→κN,drop_left→κP,nodup_cons→κQ,range'→κR,all_eq_true→κT,mem_of_mem_take→κV,take_length→κW,foldl_append→κY,pairwise_cons→κZ,take_append_of_le_length→κd,mem_or_eq_of_mem_set→κe,pairwise_append→κf
open Bool renaming and_eq_true→bA,eq_false_or_eq_true→bE,not_true→nZ,not_false→nF,true_and→tA,not_not→nn,false_eq_true→κ2,true_eq_false→κ9,false_and→κD,or_eq_false_iff→κH,and_true→κL,not_eq_true'→κM,false_or→κS,or_eq_true→κX
open Int renaming toNat_natCast→tN,ofNat_lt→oL,le_refl→κO
open Nat renaming lt_or_ge→κ1,zero_le→κ3,le_refl→κ6,eq_of_beq_eq_true→κB,lt_of_lt_of_le→κG,zero_add→κU,pow_succ→κa,mod_eq_of_lt→κc,le_trans→κg
open Array renaming length_toList→κb
set_option linter.unusedVariables false
set_option linter.unusedSimpArgs false
namespace Go.Rf.G
open Go Go.Rf
set_option synthInstance.maxSize 4000
theorem φIU (l:List φF) (hl:l.length<10000000) (g0:φ17) (hg:φ2f g0) :
  lp ψq.l0 (l,([],0,0),g0,l,(l.length:Int),0)=some (regF l [] l g0):=by
 have key:=φh (step:=ψq.l0) (fun n (g:φ17)=>(l,(([],0,0):φ17),g,l,(l.length:Int),(n:Int))) l.length (fun n g=>regF l (l.take n) (l.drop n) g) (fun _ g=>φ2f g)
  (fun rec n g hn hi ih=>by
   rcases κ1 n l.length with h | h
   ·have hw:=φQ (show n+1<9223372036854775808 by omega)
    have htl:(l.take n).length=n:=by rw[lT];omega
    rw[dG h]
    unfold regF
    obtain ⟨⟨sg,at_,ln,k,b,key,v,c,z⟩,hp⟩:∃p,l[n]=p:=⟨_,rfl⟩
    have hr:rdA φK6 l (n:Int)=(sg,at_,ln,k,b,key,v,c,z):=by rw[φN,φD h,hp]
    have hx:inB (n:Int) l.length=true:=by rw[φJ,decide_eq_true h]
    have ht:l.take n++[(sg,at_,ln,k,b,key,v,c,z)]=l.take (n+1):=by rw[←hp];exact (κ4 h).symm
    by_cases c0:g.2.2=0
    rotate_left
    ·rw[if_pos c0]
     have d0:(g.2.2 != 0)=true:=by simpa using c0
     simp only[ψq.l0,oL,h,dT,cT,hx,d0,bS,φo]
    rw[if_neg (fun z=>z c0),hp]
    have d0:(g.2.2 != 0)=false:=by simpa using c0
    have hs:=ih (φ1c (l.take n) (sg,at_,ln,k,b,key,v,c,z) g) h (φHz hi c0 (by omega))
    rw[ht]
    rw[←hs]
    have hg1:g.1.length<100000000:=by unfold φ2f at hi;rw[if_pos c0] at hi;omega
    have hin:(decide (0≤(n:Int)) && decide ((n:Int)≤(l.length:Int)))=true:=by simp only[bA,decide_eq_true_eq];omega
    have how:=φEj (l.take n) (k,b,key,v,c,z) (by omega)
    have hol:=φFf k b (l.take n)
    have hft:=φH4 (k,b,key,v,c,z) (ownL k b (l.take n)) (by omega)
    have hap:=fun last=>φL7 (g.1,last,g.2.2) (ownL k b (l.take n)) hg1 (by omega)
    simp only[ψq.l0,oL,h,dT,cT,hx,hr,d0,cF]
    unfold φ1c
    simp only
    by_cases c3:k=3
    ·subst c3
     simp only[bne_self_eq_false,cF,bS,φe,hin,cT,tN,how,hft,true_or,if_true,show ¬((3:Int)=5) by decide,if_false,show ((3:Int)==5)=false from rfl]
     cases φ3Q (3,b,key,v,c,z) ((ownL 3 b (l.take n)).map (·.2.2.2))
     ·simp only[cF,bS,φe,hw,κ2,if_false]
     ·simp only[cT,hap,bS,φe,hw,if_true]
    ·have d3:(k != 3)=true:=by simpa using c3
     simp only[d3,cT,c3,false_or]
     by_cases c5:k=5
     ·subst c5
      simp only[bne_self_eq_false,cF,bS,φe,hin,cT,tN,how,hft,if_true,beq_self_eq_true]
      cases φ3Q (5,b,key,v,c,z) ((ownL 5 b (l.take n)).map (·.2.2.2))
      ·simp only[cF,bS,φe,hw,κ2,if_false]
      ·simp only[cT,hap,bS,φe,hw,if_true]
     ·have d5:(k != 5)=true:=by simpa using c5
      simp only[d5,cT,c5,if_false,bS,φo,φe,hw]
   ·have:n=l.length:=by omega
    subst this
    simp only[ψq.l0,Int.lt_irrefl,dF,cF,κW,List.drop_length,regF])
  (by omega) 0 g0 (κ3 _) hg
 exact key
theorem φNe (g:φ17) (l:List φF) (hl:l.length<10000000) (hg:φ2f g):ψq.f g l=some (φ2E g l):=by
 have hg1:g.1.length<1000000000:=by unfold φ2f at hg;split at hg<;>omega
 unfold ψq.f
 rw[φCJ g.1 hg1,bS,φIU l hl (g.1,g.2) hg,bS]
 unfold φ2E φ7J
 rcases φCW l l [] g with e | ⟨e,hc⟩
 ·rw[show ((g.1,g.2):φ17)=g from rfl,e]
  simp only[φe]
  by_cases c:(φp [] l g).2.2=0
  ·have d:((φp [] l g).2.2==0)=true:=by simpa using c
   have ho:=φEj l (5,0,[],[],0,0) (by omega)
   simp only[d,cT,ho,bS]
   by_cases c2:0<(ownL 5 0 l).length
   ·have d2:decide (((ownL 5 0 l).length:Int) > 0)=true:=by simp;omega
    rw[d2,if_pos ⟨c,c2⟩];rfl
   ·have d2:decide (((ownL 5 0 l).length:Int) > 0)=false:=by simp only[decide_eq_false_iff_not];omega
    rw[d2,if_neg (fun z=>c2 z.2)];rfl
  ·have d:((φp [] l g).2.2==0)=false:=by simpa using c
   simp only[d,cF]
   rw[if_neg (fun z=>c z.1)]
 ·rw[show ((g.1,g.2):φ17)=g from rfl,e]
  simp only[φo]
  rw[if_neg (fun z=>hc z.1)]
def φ1U:Nat→List RecT→List φ1l
 | _,[]=>[]
 | a,r::rs=>((a:Int),((fr r).length:Int),r)::φ1U (a+(fr r).length) rs
theorem φDJ:∀(rs:List RecT) (a:Nat),(φ1U a rs).map (·.2.2)=rs
 | [],_=>rfl
 | r::rs,a=>by simp[φ1U,φDJ rs]
theorem φB7:∀(rs qs:List RecT) (a:Nat),φ1U a (rs++qs)=φ1U a rs++φ1U (a+(txt rs).length) qs
 | [],qs,a=>by simp[φ1U,txt]
 | r::rs,qs,a=>by
  rw[κF,φ1U,φ1U,φB7 rs qs,φ3A,lA,κF,Nat.add_assoc]
theorem φDe:∀(rs:List RecT) (p:List UInt8),(∀r∈rs,φZ r=true)→φ2F (p++txt rs) p.length=(φ1U p.length rs,p.length+(txt rs).length)
 | [],p,_=>by
  have:p++txt []=p:=by simp[txt]
  rw[this,φ9j];simp[txt,φ1U]
 | r::rs,p,h=>by
  have hs:=φ3W r
  have hb:=φ7P (t:=φ7 r) (by omega) (txt rs)
  have hd:(p++txt (r::rs)).drop p.length=frame (φ7 r)++txt rs:=by rw[κP];rfl
  have hl:=φ4N r
  have hrr:=φA1 (h r κ0)
  rw[φ5V (n:=(fr r).length) (by rw[hd,hb];rfl) hl.1 (by rw[φ3A];simp only[lA];omega) (by rw[hd,hb];simp only;rw[hrr])]
  have ih:=φDe rs (p++fr r) (fun x hx=>h x (mC _ hx))
  rw[aA,lA] at ih
  rw[hd,hb]
  simp only[hrr]
  have e:p++txt (r::rs)=p++(fr r++txt rs):=rfl
  rw[e,ih]
  simp only[φ1U,φ3A,lA,Nat.add_assoc]
theorem φ8k {rs:List RecT} (h:∀r∈rs,φZ r=true):scan (txt rs)=(φ1U 0 rs,(txt rs).length):=by
 have:=φDe rs [] h
 simp only[κ8,lN,κU] at this
 exact this
theorem φMh:∀(k:Nat) (s:List UInt8) (a:Nat),a≤s.length→s.length - a=k→∃(rs:List RecT) (q:List UInt8),(∀r∈rs,φZ r=true)∧s.drop a=txt rs++q∧φ2F s a=(φ1U a rs,a+(txt rs).length):=by
 intro k
 induction k using Nat.strongRecOn with
 | ind k ih=>
  intro s a ha hk
  by_cases c:(φO (s.drop a)).2=0∨(φ1T (φO (s.drop a)).1).2=false
  ·exact ⟨[],s.drop a,by simp,rfl,φ4t ha c⟩
  ·have c1:(φO (s.drop a)).2≠0:=fun e=>c (.inl e)
   have hr:(φ1T (φO (s.drop a)).1).2=true:=by
    cases e:(φ1T (φO (s.drop a)).1).2 with
    | true=>rfl
    | false=>exact absurd (.inr e) c
   obtain ⟨t,r,e1,e2,e3⟩:=φC9 c1
   have h5:=φ9c e2
   have hlen:a+(frame t).length≤s.length:=by
    have:(s.drop a).length=(frame t++r).length:=by rw[←e1]
    rw[lD,lA] at this;omega
   have hst:=φ5V (n:=(frame t).length) (by rw[e3]) h5 hlen hr
   obtain ⟨rs,q,g1,g2,g3⟩:=ih (s.length - (a+(frame t).length)) (by omega) s (a+(frame t).length) hlen rfl
   have hd:s.drop (a+(frame t).length)=r:=by rw[←List.drop_drop,e1,κP]
   rw[e3] at hr
   rcases φ7C t with ⟨z,_⟩ | ⟨x,z,hx⟩
   ·rw[z] at hr;simp at hr
   ·refine ⟨x::rs,q,?_,?_,?_⟩
    ·intro y hy
     rcases mc.1 hy with rfl | hy
     ·exact hx.1
     ·exact g1 y hy
    ·rw[e1,φ3A,←hd,g2]
     show frame t++(txt rs++q)=frame (φ7 x)++txt rs++q
     rw[hx.2,aA]
    ·rw[hst,g3,e3]
     have hf:(fr x).length=(frame t).length:=by show (frame (φ7 x)).length=_;rw[hx.2]
     simp only[z,φ1U,φ3A,lA,hf,Nat.add_assoc]
theorem φMT (s:List UInt8):∃(rs:List RecT) (q:List UInt8),(∀r∈rs,φZ r=true)∧s=txt rs++q∧scan s=(φ1U 0 rs,(txt rs).length):=by
 obtain ⟨rs,q,h1,h2,h3⟩:=φMh s.length s 0 (κ3 _) (by omega)
 rw[κC] at h2
 rw[κU] at h3
 exact ⟨rs,q,h1,h2,h3⟩
theorem φIc (s:List UInt8):scan (s.take (scan s).2)=scan s:=by
 obtain ⟨rs,q,h1,h2,h3⟩:=φMT s
 rw[h3]
 have:s.take (txt rs).length=txt rs:=by rw[h2,List.take_left]
 rw[this,φ8k h1]
theorem φJW {d:φ1} (h:φ3 d=true) (v:φP):(φ3M d v).length≤130:=by
 unfold φ3M
 rw[if_neg (by rw[h];simp),lM]
 exact κg (List.length_filter_le _ _) (φ9Z h).2.2
noncomputable def φs (v:φP) (d:φ1):φE:=φm (φ3M d v) (d,0)
theorem φ8g {d:φ1} (h:φ3 d=true) (v:φP):φ3 (φs v d).1=true:=φ4S _ h
theorem φDi (w:φE) (v:φP) (h:φ3 w.1=true) (hv:v.2.length<1000000000):ψ25.f w v=some (φ5J (φ3M w.1 v) w):=by
 unfold ψ25.f
 rw[φMO w.1 v (φ1a (φ12 h) (by omega)) hv,bS]
 have hl:=φJW h v
 generalize φ3M w.1 v=names at hl ⊢
 have key:=φ3p (step:=ψ25.l0) names (fun (w:φE) n=>φ1A (φB n) w) (fun n (a:φE)=>(a,names,(names.length:Int),(n:Int))) (fun a=>a) (fun _ a=>φ3 a.1=true) (by omega)
  (fun rec n a h1 ha=>by
   have hw:=φQ (show n+1<9223372036854775808 by omega)
   simp only[ψ25.l0,oL,h1,dT,cT,φJ,φN,φD h1,φ5E a names[n] (φ12 ha) (by omega),bS,hw])
  (fun n a h1 ha=>φ9O (op:=φB names[n]) ha fun k=>φ2L k _)
  (fun rec a ha=>by simp[ψ25.l0])
  w h
 have key:lp ψ25.l0 (w,names,(names.length:Int),0)=some (φ5J names w):=key
 rw[key];rfl
noncomputable def φ11 (d:φ1) (id:Int):List φF:=(scan (φ2 d (φ0 id)).1).1.map fun x=>((id,x):φF)
theorem φ6Y {d:φ1} (h:φ3 d=true) (n:List UInt8):(φ2 d n).1.length≤100000:=by
 have h1:=φ4Q d n (φ1a (φ12 h) (by omega))
 have h2:=φ8P h
 omega
theorem φDv {d:φ1} (h:φ3 d=true) (id:Int):(φ11 d id).length≤100000:=by
 unfold φ11
 rw[lM]
 exact κg (φ6S _).2 (φ6Y h _)
theorem φGg {d:φ1} (h:φ3 d=true):∀ids:List Int,(ids.flatMap (φ11 d)).length≤100000 * ids.length
 | []=>by simp
 | id::r=>by
  have:=φDv h id
  have:=φGg h r
  simp only[List.flatMap_cons,lA,lC];omega
abbrev φ1Z:φ8:=((0,[]),[],0,0,0)
noncomputable def φ8l (d:φ1):φ8×φ1×Int:=
 let w:=sPut (2,[1]) (φ9 (φV (φ0 1)) (φs φ1F d))
 if w.2≠0 then (φ1Z,w.1,told w.2) else (((2,[1]),[],1,0,0),w.1,0)
theorem φIh:φl (2,[1])=true:=by decide
theorem φKy (d:φ1) (h:φ3 d=true):∃w:φE,ψ21.f (d,0)=some (((2,[1]),[],1,0,0),w)∧w=φA (sPut (2,[1]) (φ9 (φV (φ0 1)) (φs φ1F d))):=by
 refine ⟨_,?_,rfl⟩
 unfold ψ21.f
 have h1:=φDi (d,0) φ1F h (by show 0<_;omega)
 have e1:φ5J (φ3M d φ1F) (d,0)=φA (φs φ1F d):=φ9n _ (d,0)
 have hd1:=φ8g h φ1F
 have h2:=φ9M (φA (φs φ1F d)) (φ0 1) (k:=100001) (φ12 hd1) (by omega) (by have:=φ4E 1;omega)
 have e2:φ1A (φV (φ0 1)) (φA (φs φ1F d))=φA (φ9 (φV (φ0 1)) (φs φ1F d)):=φ2o _ _
 have hd2:φ3 (φ9 (φV (φ0 1)) (φs φ1F d)).1=true:=φ1m hd1 fun k=>φ34 k _
 have h3:=φBT (φA (φ9 (φV (φ0 1)) (φs φ1F d))) (2,[1]) (k:=100001) (φ12 hd2) (by omega) (by show 1<_;decide)
 have e3:=φAW (2,[1]) (φ9 (φV (φ0 1)) (φs φ1F d))
 have h1:ψ25.f (d,0) (0,[])=some (φA (φs φ1F d)):=h1.trans (by rw[e1])
 rw[e2] at h2
 rw[e3] at h3
 simp only[h1,bS,φ3C,h2,h3]
noncomputable def φ2U (d:φ1):List Int→Bool
 | []=>true
 | id::r=>(φ2 d (φ0 id)).2 && ((r.isEmpty || decide ((scan (φ2 d (φ0 id)).1).2=(φ2 d (φ0 id)).1.length)) && φ2U d r)
noncomputable def φ40 (d:φ1):List Int→Int→Int
 | [],z=>z
 | id::r,_=>φ40 d r ((scan (φ2 d (φ0 id)).1).2:Int)
theorem φGV (d:φ1):∀(l:List Int) (z:Int),l≠[]→φ40 d l z=((scan (φ2 d (φ0 (φM l))).1).2:Int)
 | [],_,h=>absurd rfl h
 | [x],z,_=>by rw[φ40,φ40,φ8h]
 | x::y::l,z,_=>by rw[φ40,φ9T];exact φGV d (y::l) _ (by simp)
theorem φOD {α:Type} (l:List α) (n:Nat) (h:n<l.length):(l.drop (n+1)).isEmpty=decide (¬n<l.length - 1):=by
 apply Bool.eq_iff_iff.2
 rw[List.isEmpty_iff,List.drop_eq_nil_iff,decide_eq_true_eq];omega
theorem φHH (w:φE) (v:φP) (h:φ3 w.1=true) (hv:v.2.length<1000000) :
  ψ29.f w v=some (if φ2U w.1 v.2=true then (v.2.map (φ11 w.1),φ40 w.1 v.2 0,true,w) else ([],0,false,w)):=by
 have key:=φh (step:=ψ29.l0) (fun n (s:List (List φF)×Int)=>(w,v,s.1,s.2,v.2,(v.2.length:Int),(n:Int))) v.2.length
  (fun n s=>if φ2U w.1 (v.2.drop n)=true then .inl (w,s.1++(v.2.drop n).map (φ11 w.1),φ40 w.1 (v.2.drop n) s.2) else .inr (w,[],0,false)) (fun n s=>s.1.length≤n)
  (fun rec n s hn hs ih=>by
   rcases κ1 n v.2.length with h1 | h1
   ·have hw:=φQ (show n+1<9223372036854775808 by omega)
    have hwl:w64 ((v.2.length:Int) - 1)=((v.2.length - 1:Nat):Int):=by rw[φH (by omega) (by omega)];omega
    have hd:v.2.drop n=v.2[n]::v.2.drop (n+1):=dG h1
    have htx:=φ6Y h (φ0 v.2[n])
    have hsc:=φ6S (φ2 w.1 (φ0 v.2[n])).1
    have hpl:=φCU v.2[n] (scan (φ2 w.1 (φ0 v.2[n])).1).1 (by omega)
    have hb:decide ((s.1.length+([φ11 w.1 v.2[n]]:List (List φF)).length) * 24≤140737488355328)=true:=by simp only[decide_eq_true_eq];exact φCl (by omega)
    have ih:=ih (s.1++[φ11 w.1 v.2[n]],((scan (φ2 w.1 (φ0 v.2[n])).1).2:Int)) h1 (by simp only[lA,κA];omega)
    have hft:=φ4b w.1 (φ0 v.2[n]) (φ1a (φ12 h) (by omega))
    have hsr:=φ9w (φ2 w.1 (φ0 v.2[n])).1 (by omega)
    rw[hd]
    simp only[φ2U,φ40,κ5,φOD v.2 n h1]
    simp only[ψ29.l0,oL,h1,dT,cT,φJ,φN,φD h1,φ3C,bS,hft,hsr,hwl]
    have hpl2:ψ1f.f v.2[n] (scan (φ2 w.1 (φ0 v.2[n])).1).1=some (φ11 w.1 v.2[n]):=hpl
    have hgo:((ψ1f.f v.2[n] (scan (φ2 w.1 (φ0 v.2[n])).1).1).bind fun t5=>bif decide ((s.1.length+[t5].length) * 24≤140737488355328) then rec (w,v,s.1++[t5],((scan (φ2 w.1 (φ0 v.2[n])).1).2:Int),v.2,(v.2.length:Int),w64 ((n:Int)+1)) else none) =
      some (if φ2U w.1 (v.2.drop (n+1))=true then .inl (w,s.1++(φ11 w.1 v.2[n]::(v.2.drop (n+1)).map (φ11 w.1)),φ40 w.1 (v.2.drop (n+1)) ((scan (φ2 w.1 (φ0 v.2[n])).1).2:Int)) else .inr (w,[],0,false)):=by
     rw[hpl2,bS,hb,cT,hw]
     have:s.1++(φ11 w.1 v.2[n]::(v.2.drop (n+1)).map (φ11 w.1))=s.1++[φ11 w.1 v.2[n]]++(v.2.drop (n+1)).map (φ11 w.1):=by simp
     rw[this];exact ih
    cases hk:(φ2 w.1 (φ0 v.2[n])).2 with
    | false=>simp only[nF,cT,bS,φo,κD,κ2,if_false]
    | true=>
     simp only[nZ,cF,tA]
     by_cases c1:n<v.2.length - 1
     ·simp only[c1,dT,cT,not_true,dF,κS]
      by_cases c2:(scan (φ2 w.1 (φ0 v.2[n])).1).2=(φ2 w.1 (φ0 v.2[n])).1.length
      ·rw[φ6Q c2,cF]
       simp only[bS,φe,decide_eq_true c2,tA]
       exact hgo
      ·rw[φ6b c2,cT]
       simp only[bS,φo,decide_eq_false c2,κD,κ2,if_false]
     ·simp only[c1,dF,cF,not_false_iff,dT,Bool.true_or,tA,bS,φe]
      exact hgo
   ·have:n=v.2.length:=by omega
    subst this
    rw[List.drop_length]
    simp[ψ29.l0,φ2U,φ40])
  (by omega) 0 ([],0) (κ3 _) (κ6 _)
 have key:lp ψ29.l0 (w,v,[],0,v.2,(v.2.length:Int),0)=_:=key
 unfold ψ29.f
 rw[key,bS,κC]
 by_cases c:φ2U w.1 v.2=true
 ·rw[if_pos c,if_pos c];simp only[φe,κ8]
 ·rw[if_neg c,if_neg c];simp only[φo]
theorem φGD {hi:Int}:∀(l:List Int) (p:Option Int),φ1f hi p l=true→l.Pairwise (·<·)∧∀q,p=some q→∀x∈l,q<x
 | [],p,_=>⟨List.Pairwise.nil,by simp⟩
 | x::r,p,h=>by
  simp only[φ1f,bA,decide_eq_true_eq] at h
  obtain ⟨h1,h2,h3⟩:=h
  obtain ⟨k1,k2⟩:=φGD r (some x) h3
  have k2:=k2 x rfl
  refine ⟨List.Pairwise.cons k2 k1,?_⟩
  rintro q rfl y hy
  have h2:q<x:=by simpa using h2
  rcases mc.1 hy with rfl | hy
  ·exact h2
  ·exact Int.lt_trans h2 (k2 y hy)
theorem φLj {v:φP} (h:φl v=true):v.2.Pairwise (·<·):=(φGD v.2 none ((φ13 v).1 h).1).1
noncomputable def φ3B (d:φ1) (id:Int):Option φ17:=
 if (φ2 d (φK id)).2=true∧(φ3N (φ2 d (φK id)).1).2=true∧φ70 id (φ2 d (φ0 id)).1 (φ3N (φ2 d (φK id)).1).1=true then
  some ((φ3N (φ2 d (φK id)).1).1.2.2,(φ3N (φ2 d (φK id)).1).1.2.1,0) else none
theorem φKV (w:φE) (id:Int) (h:φ3 w.1=true):ψ24.f w id=some (match φ3B w.1 id with | some g=>(g,true,w) | none=>(([],0,0),false,w)):=by
 have hlm:=φ1a (φ12 h) (show 100001≤1000000000 by omega)
 have ht:=φ6Y h (φK id)
 have ht2:=φ6Y h (φ0 id)
 unfold ψ24.f φ3B
 simp only[φ81,bS,φ4b w.1 (φK id) hlm,φNN _ (show (φ2 w.1 (φK id)).1.length<900000000 by omega),φ3C,φ4b w.1 (φ0 id) hlm,
  φLg id (φ2 w.1 (φ0 id)).1 (φ3N (φ2 w.1 (φK id)).1).1 (by omega)]
 cases (φ2 w.1 (φK id)).2<;>cases (φ3N (φ2 w.1 (φK id)).1).2<;>cases φ70 id (φ2 w.1 (φ0 id)).1 (φ3N (φ2 w.1 (φK id)).1).1<;>simp
noncomputable def φS (x:φ1) (ids:List Int):List φF:=ids.flatMap (φ11 x)
theorem φNV (w:φE) (v:φP) (S:φ8) (g:φ17) (L:List (List φF)) (z:φP) (hL:∀l∈L,l.length≤100000) (hl:L.length≤1000) :
  lp ψ22.l0 (w,φ1Z,(v.1,[]),S,g,[],L,(L.length:Int),0)=some (w,φ1Z,(v.1,[]),S,g,L.flatten):=by
 have hk:=φ3p (step:=ψ22.l0) L (fun (s:List φF) l=>s++l) (fun n s=>(w,φ1Z,(v.1,[]),S,g,s,L,(L.length:Int),(n:Int))) (fun s=>(w,φ1Z,(v.1,[]),S,g,s)) (fun n s=>s.length≤100000 * n) (by omega)
  (fun rec n s h hi=>by
   have hw:=φQ (show n+1<9223372036854775808 by omega)
   have h1:=hL _ (gM h)
   have hb:decide ((s.length+L[n].length) * 88≤140737488355328)=true:=by simp only[decide_eq_true_eq];omega
   simp only[ψ22.l0,oL,h,dT,cT,φJ,φN,φD h,hb,hw])
  (fun n s h hi=>by have h1:=hL _ (gM h);simp only[lA];omega)
  (fun rec s hi=>by simp[ψ22.l0]) [] (κ6 _)
 have hk:lp ψ22.l0 (w,φ1Z,(v.1,[]),S,g,[],L,(L.length:Int),0)=_:=hk
 rw[hk]
 have:∀(L:List (List φF)) (s:List φF),L.foldl (fun (s:List φF) l=>s++l) s=s++L.flatten:=by
  intro L
  induction L with
  | nil=>intro s;simp
  | cons x L ih=>intro s;rw[κN,ih];simp
 rw[this];rfl
theorem φOA {d:φ1} (h:φ3 d=true) {m n:List UInt8} (z:Int) (hne:n≠m):φ2 (φ3S m z d).1 n=φ2 d n:=by
 refine φ65 h (φ5s h m z) n fun t=>?_
 unfold φ3w
 rcases φu d.1 m with ⟨e,_⟩ | ⟨i,hi,e,hn⟩
 ·rw[φ1B e]
 ·rw[φ16 e]
  simp only
  split
  ·rw[φD hi]
   constructor
   ·rintro ⟨s,hs⟩;exact ⟨s,(φ61 (f:=(d.1[i].1,d.1[i].2.1.take z.toNat,if z<d.1[i].2.2 then z else d.1[i].2.2)) hi rfl (by rw[hn];exact hne)).2 hs⟩
   ·rintro ⟨s,hs⟩;exact ⟨s,(φ61 (f:=(d.1[i].1,d.1[i].2.1.take z.toNat,if z<d.1[i].2.2 then z else d.1[i].2.2)) hi rfl (by rw[hn];exact hne)).1 hs⟩
  ·exact Iff.rfl
theorem φOK {d:φ1} {n:List UInt8} {z:Int} (h:(φ3S n z d).2=0):φ2 (φ3S n z d).1 n=((φ2 d n).1.take z.toNat,true):=by
 obtain ⟨k,ha,hx⟩:=φ5X h
 have hk:φ3 (φ3S n z d).1=true:=φ5s k n z
 have hx:(φ3S n z d).1=_:=hx
 unfold φ3w at ha hx
 rcases φu d.1 n with ⟨e,_⟩ | ⟨i,hi,e,hn⟩
 ·rw[φ1B e] at ha;simp at ha
 rw[φ16 e] at ha hx
 simp only at ha hx
 split at ha
 ·rename_i c
  rw[if_pos c,φD hi] at hx
  have e1:=φ2k k (gM hi)
  rw[hn] at e1
  have hm:((n,d.1[i].2.1.take z.toNat,if z<d.1[i].2.2 then z else d.1[i].2.2):φ4)∈(φ3S n z d).1.1:=by
   rw[hx,←hn]
   exact List.mem_iff_getElem.2 ⟨i,by simpa using hi,by simp⟩
  have e2:=φ2k hk hm
  rw[e1]
  exact e2
 ·simp at ha
noncomputable def cutN (v:φP) (d:φ1):Nat:=(scan (φ2 d (φ0 (φM v.2))).1).2
noncomputable def cutW (v:φP) (d:φ1):φE:=
 φ9 (φG (φ0 (φM v.2))) (if (φ2 d (φ0 (φM v.2))).1.length=cutN v d then (d,0) else φ3S (φ0 (φM v.2)) (cutN v d:Int) d)
theorem φFQ {v:φP} {d:φ1} (h:φ3 d=true):φ3 (cutW v d).1=true:=by
 unfold cutW
 refine φ1m ?_ fun k=>φ3K k _
 split
 ·exact h
 ·exact φ5s h _ _
theorem φO1 {v:φP} {d:φ1} (h:φ3 d=true) (n:List UInt8) (hne:n≠φ0 (φM v.2)):φ2 (cutW v d).1 n=φ2 d n:=by
 unfold cutW
 split
 ·rw[φ2g (φ2I h _ _)]
 ·have hk:φ3 (φ3S (φ0 (φM v.2)) (cutN v d:Int) d).1=true:=φ5s h _ _
  rw[φ2g (φ2I hk _ _)]
  exact φOA h _ hne
theorem φNP {v:φP} {d:φ1} (h:φ3 d=true) (hl:(φ2 d (φ0 (φM v.2))).2=true) (hc:(cutW v d).2=0) :
  φ2 (cutW v d).1 (φ0 (φM v.2))=((φ2 d (φ0 (φM v.2))).1.take (cutN v d),true):=by
 unfold cutW at hc ⊢
 have h0:=(φ3t hc).1
 split
 ·rename_i c
  rw[φ2g (φ2I h _ _),←c,κW]
  exact Prod.ext rfl hl
 ·rename_i c
  rw[if_neg c] at h0
  have hk:φ3 (φ3S (φ0 (φM v.2)) (cutN v d:Int) d).1=true:=φ5s h _ _
  rw[φ2g (φ2I hk _ _),φOK h0,tN]
theorem φDB {v:φP} {d:φ1} (h:φ3 d=true) (hl:(φ2 d (φ0 (φM v.2))).2=true) (hc:(cutW v d).2=0) (id:Int):φ11 (cutW v d).1 id=φ11 d id:=by
 unfold φ11
 by_cases c:φ0 id=φ0 (φM v.2)
 ·rw[c,φNP h hl hc]
  show List.map _ (scan ((φ2 d (φ0 (φM v.2))).1.take (cutN v d))).1=_
  unfold cutN
  rw[φIc]
 ·rw[φO1 h _ c]
theorem φGn {d:φ1}:∀(l:List Int),l≠[]→φ2U d l=true→(φ2 d (φ0 (φM l))).2=true
 | [],h,_=>absurd rfl h
 | [x],_,h=>by
  simp only[φ2U,bA] at h
  rw[φ8h];exact h.1
 | x::y::l,_,h=>by
  rw[φ9T]
  have h:φ2U d (x::(y::l))=true:=h
  rw[φ2U,bA,bA] at h
  exact φGn (y::l) (by simp) h.2.2
noncomputable def φ4k (v:φP) (d:φ1):φ8×φ1×Int:=
 if (cutW v d).2≠0 then (φ1Z,(cutW v d).1,told (cutW v d).2) else
 let x:=(cutW v d).1
 let g:=match φ3B x (v.2.getD 0 0) with
  | some g=>φ2E g (φS x (v.2.drop 1))
  | none=>φ2E ([],0,0) (φS x v.2)
 let hinted:=match φ3B x (v.2.getD 0 0) with
  | some _=>v.2.getD 0 0
  | none=>0
 if g.2.2≠0 then (φ1Z,x,3) else
 if (φs v x).2≠0 then (φ1Z,(φs v x).1,told (φs v x).2) else
 ((v,g.1,w64 (g.2.1+1),(cutN v d:Int),hinted),(φs v x).1,0)
noncomputable def φ2G (d:φ1):φ8×φ1×Int:=
 if φ3 d=false then (φ1Z,d,4) else if d.2.2.2=true then (φ1Z,d,1) else
 if (φ2 d φa).2=false then φ8l d else
 if (φ2p (φ2 d φa).1).2=false then (φ1Z,d,3) else
 if φ2U d (φ2p (φ2 d φa).1).1.2=false then (φ1Z,d,3) else φ4k (φ2p (φ2 d φa).1).1 d
theorem φM8 {x:φ1} {id:Int} {g:φ17} (h:φ3B x id=some g):g.1.length≤20∧g.2.2=0:=by
 unfold φ3B at h
 split at h
 ·rename_i c
  simp only[Option.some.injEq] at h
  subst h
  refine ⟨?_,rfl⟩
  rcases φGv (φ2 x (φK id)).1 with ⟨e,_⟩ | ⟨u,e,hu⟩
  ·rw[e] at c;simp at c
  ·rw[e];exact (φFg hu.1).2.2.1
 ·simp at h
theorem φF7 {x:φ1} {id:Int} {g:φ17} (h:φ3B x id=some g):φ2f g:=by
 obtain ⟨h1,h2⟩:=φM8 h
 unfold φ2f
 rw[if_pos h2];omega
theorem φDl:φ2f ([],0,0):=by unfold φ2f;simp
theorem φAi {x:φ1} (h:φ3 x=true) {ids:List Int} (hl:ids.length≤60):(φS x ids).length<10000000:=by
 have:=φGg h ids
 unfold φS;omega
theorem φJc (d:φ1) (t:List UInt8) (h:φ3 d=true) (ht:t.length<1000000000) :
  ∃S w,ψ22.f (d,0) t=some (S,w) ∧
   (if w.2≠0 then (φ1Z,w.1,w.2) else (S,w.1,(0:Int))) =
   (if (φ2p t).2=false then (φ1Z,d,3) else if φ2U d (φ2p t).1.2=false then (φ1Z,d,3) else φ4k (φ2p t).1 d):=by
 unfold ψ22.f
 rw[φO0 t ht,bS]
 rcases φHF t with ⟨e,_⟩ | ⟨v,e,hv⟩
 ·rw[e]
  have hs:=φHH (d,0) φ1F h (by show 0<_;omega)
  rw[if_pos (show φ2U d φ1F.2=true from rfl)] at hs
  simp only[hs,bS,nF,cT,if_true]
  exact ⟨_,_,rfl,by simp⟩
 rw[e]
 have hlen:=φ9G hv.1
 have hpos:=((φ13 v).1 hv.1).2.2.1
 have hs:=φHH (d,0) v h (by omega)
 simp only[hs,bS]
 cases hc:φ2U d v.2 with
 | false=>
  simp only[κ2,if_false,nZ,cF,nF,cT]
  exact ⟨_,_,rfl,by simp⟩
 | true=>
  have hlast:=φGn v.2 (fun z=>by rw[z] at hpos;simp at hpos) hc
  obtain ⟨l1,l2,l3⟩:=φA0 hpos (by omega)
  have hle:=φGV d v.2 0 (fun z=>by rw[z] at hpos;simp at hpos)
  have hlm:=φ1a (φ12 h) (show 100001≤1000000000 by omega)
  have hT:=φOS d (φ0 (φM v.2)) (cutN v d:Int) hlm
  have hT:ψ1B.f d (φ0 (φM v.2)) (cutN v d:Int)=some (φ3S (φ0 (φM v.2)) (cutN v d:Int) d):=hT
  have hcw:φ40 d v.2 0=(cutN v d:Int):=hle
  simp only[if_true,nZ,cF,κ9,if_false,l1,l2,cT,l3,φ3C,bS,φ4b d _ hlm,hcw]
  -- cut and kept
  have hmid:∃w0:φE,w0=φA (if (φ2 d (φ0 (φM v.2))).1.length=cutN v d then (d,0) else φ3S (φ0 (φM v.2)) (cutN v d:Int) d) ∧
    ((bif ((φ2 d (φ0 (φM v.2))).1.length:Int) != (cutN v d:Int) then
     (ψ1B.f d (φ0 (φM v.2)) (cutN v d:Int)).bind fun (t5_0,t5_1)=>(ψ2B.f (d,0) t5_0 t5_1).bind fun t6=>some (t6,φ1Z,v,v.2.map (φ11 d),(cutN v d:Int),φ0 (φM v.2))
     else some ((d,0),φ1Z,v,v.2.map (φ11 d),(cutN v d:Int),φ0 (φM v.2)):Option (φE×φ8×φP×List (List φF)×Int×List UInt8)))=some (w0,φ1Z,v,v.2.map (φ11 d),(cutN v d:Int),φ0 (φM v.2)):=by
   refine ⟨_,rfl,?_⟩
   by_cases c:(φ2 d (φ0 (φM v.2))).1.length=cutN v d
   ·rw[φ6Q c,if_pos c];rfl
   ·rw[φ6b c,if_neg c,cT,hT,bS]
    generalize φ3S (φ0 (φM v.2)) (cutN v d:Int) d=p
    obtain ⟨p1,p2⟩:=p
    simp only[φ5x,bS];rfl
  obtain ⟨w0,ew0,hmid⟩:=hmid
  have hmid:=hmid
  have hsync:ψ2A.f w0 (φ0 (φM v.2))=some (φA (cutW v d)):=by
   have hd0:φ3 w0.1=true:=by
    rw[ew0]
    show φ3 (if (φ2 d (φ0 (φM v.2))).1.length=cutN v d then (d,(0:Int)) else φ3S (φ0 (φM v.2)) (cutN v d:Int) d).1=true
    split
    ·exact h
    ·exact φ5s h _ _
   rw[φ6j w0 (φ0 (φM v.2)) (φ12 hd0) (by omega),ew0,φ2o];rfl
  refine (show ∃S w,_∧_ from ?_)
  have hx0:inB 0 v.2.length=true:=by rw[show (0:Int)=((0:Nat):Int) from rfl,φJ];simp;omega
  have hr0:rdA 0 v.2 0=v.2.getD 0 0:=by rw[show (0:Int)=((0:Nat):Int) from rfl,φN]
  have hsl:(decide (0≤(1:Int)) && decide (1≤((v.2.map (φ11 d)).length:Int)))=true:=by rw[lM];simp;omega
  have hd1:=φFQ (v:=v) h
  have hpl:=fun hc2=>φDB (v:=v) h hlast hc2
  unfold φ4k
  have hfl:∀ids:List Int,(cutW v d).2=0→(ids.map (φ11 d)).flatten=φS (cutW v d).1 ids:=fun ids hc2=>by
   unfold φS
   rw[List.flatMap_def]
   congr 1
   exact List.map_congr_left fun id _=>(hpl hc2 id).symm
  have hmap:∀(ids:List Int),∀l∈ids.map (φ11 d),l.length≤100000:=fun ids l hl=>by
   obtain ⟨id,_,rfl⟩:=mM.1 hl;exact φDv h id
  rw[show (((d,(0:Int)):φE).1)=d from rfl] at *
  rw[hmid,bS]
  simp only[hsync,bS]
  generalize hW:cutW v d=W at *
  obtain ⟨x,c⟩:=W
  by_cases c0:c=0
  rotate_left
  ·have t1:(told c != 0)=true:=by rw[φ6A];simpa using c0
   have t2:told c≠0:=fun z=>c0 ((φ1C c).1 z)
   rw[if_pos c0]
   simp only[φA,t1,cT]
   exact ⟨_,_,rfl,by rw[if_pos t2]⟩
  subst c0
  have hd1:φ3 x=true:=hd1
  rw[if_neg (by simp)]
  have t1:(told 0 != 0)=false:=rfl
  have t0:told 0=0:=rfl
  have hh:=φKV (x,0) (v.2.getD 0 0) hd1
  simp only[φA,t1,t0,cF,hx0,cT,hr0,hh,bS]
  -- the end,alike for both ways
  have fin:∀(g0:φ17) (ids:List Int) (hin:Int),φ2f g0→ids.length≤60 →
    ∃S w,((lp ψ22.l0 ((x,0),φ1Z,(v.1,[]),(v,[],0,(cutN v d:Int),hin),g0,[],ids.map (φ11 d),((ids.map (φ11 d)).length:Int),0)).bind (fun (x0,x4,x5,x13,x14,x16)=>
     (ψq.f x14 x16).bind fun t10=>
     bif t10.2.2 != 0 then some (φ1Z,(x0.1,3)) else
     (ψ25.f x0 (x5.1,x13.1.2)).bind fun t11=>some ((x13.1,t10.1,w64 (t10.2.1+1),x13.2.2.2),t11)):Option (φ8×φE))=some (S,w) ∧
    (if w.2≠0 then (φ1Z,w.1,w.2) else (S,w.1,(0:Int))) =
     (if (φ2E g0 (φS x ids)).2.2≠0 then (φ1Z,x,3) else if (φs v x).2≠0 then (φ1Z,(φs v x).1,told (φs v x).2) else
      ((v,(φ2E g0 (φS x ids)).1,w64 ((φ2E g0 (φS x ids)).2.1+1),(cutN v d:Int),hin),(φs v x).1,0)):=by
   intro g0 ids hin hg hi
   rw[φNV (x,0) v (v,[],0,(cutN v d:Int),hin) g0 (ids.map (φ11 d)) v (hmap ids) (by rw[lM];omega),bS]
   have hfl2:=hfl ids rfl
   have hrg:=φNe g0 (φS x ids) (φAi hd1 hi) hg
   have hor:=φDi (x,0) (v.1,v.2) hd1 (by show v.2.length<_;omega)
   have ewd:φ5J (φ3M x v) (x,0)=φA (φs v x):=φ9n _ (x,0)
   have hor:ψ25.f (x,0) (v.1,v.2)=some (φA (φs v x)):=hor.trans (by rw[←ewd])
   simp only[hfl2,hrg,bS]
   by_cases c1:(φ2E g0 (φS x ids)).2.2=0
   rotate_left
   ·have d1:((φ2E g0 (φS x ids)).2.2 != 0)=true:=by simpa using c1
    rw[d1,cT,if_pos c1]
    exact ⟨_,_,rfl,by simp⟩
   have d1:((φ2E g0 (φS x ids)).2.2 != 0)=false:=by simpa using c1
   rw[d1,cF,if_neg (fun z=>z c1),hor,bS]
   refine ⟨_,_,rfl,?_⟩
   generalize φs v x=S2
   obtain ⟨y,c2⟩:=S2
   by_cases c3:c2=0
   ·subst c3;simp[φA,told]
   ·have t2:told c2≠0:=fun z=>c3 ((φ1C c2).1 z)
    simp[φA,t2,c3]
  cases hg:φ3B x (v.2.getD 0 0) with
  | some g=>
   simp only[cT,hx0,hsl,hr0,bS]
   have e1:(v.2.map (φ11 d)).drop 1=(v.2.drop 1).map (φ11 d):=by rw[List.map_drop]
   rw[e1]
   exact fin g (v.2.drop 1) (v.2.getD 0 0) (φF7 hg) (by rw[lD];omega)
  | none=>
   simp only[cF,bS]
   exact fin ([],0,0) v.2 0 φDl hlen
theorem φGR (d:φ1) (hd:dl 1048577 d):ψd.f d=some (φ2G d):=by
 have hlm:=φ1a hd (by omega)
 unfold ψd.f φ2G
 rw[φ5O d (by have:=hd.1;omega),bS,φ5j d hlm,bS]
 cases h:φ3 d with
 | false=>rfl
 | true=>
  simp only[nZ,cF,κ9,if_false]
  obtain ⟨fs,cap,fuel,down⟩:=d
  cases hdn:down with
  | true=>rfl
  | false=>
   subst hdn
   simp only[cF,κ2,if_false]
   have hft:=φ4b (fs,cap,fuel,false) φa hlm
   have hft:ψP.f (fs,cap,fuel,false) [108,105,118,101]=_:=hft
   rw[hft,bS]
   have htl:=φ6Y h φa
   generalize ((fs,cap,fuel,false):φ1)=d at *
   generalize φ2 d φa=q at htl ⊢
   obtain ⟨t,b⟩:=q
   cases b with
   | false=>
    simp only[cF,if_true]
    obtain ⟨w,e1,e2⟩:=φKy d h
    simp only[e1,bS]
    unfold φ8l
    rw[e2]
    generalize sPut (2,[1]) (φ9 (φV (φ0 1)) (φs φ1F d))=p
    obtain ⟨y,c⟩:=p
    by_cases c0:c=0
    ·subst c0;simp[φA,told]
    ·have t1:(told c != 0)=true:=by rw[φ6A];simpa using c0
     simp only[φA,t1,cT]
     rw[if_pos c0]
   | true=>
    simp only[cT,κ9,if_false]
    obtain ⟨S,w,e1,e2⟩:=φJc d t h (by have:t.length≤100000:=htl;omega)
    rw[←e2]
    simp only[e1,bS]
    obtain ⟨y,c⟩:=w
    by_cases c0:c=0
    ·subst c0;simp
    ·have t1:(c != 0)=true:=by simpa using c0
     simp only[t1,cT]
     rw[if_pos c0]
theorem φG1:∀(r pre:List φF) (g:φ17),φ2f g→pre.length+r.length<10000000→φ2f (φp pre r g)
 | [],_,g,h,_=>h
 | p::r,pre,g,h,hl=>by
  unfold φp
  simp only[lC] at hl
  split
  ·exact h
  ·rename_i c
   exact φG1 r (pre++[p]) _ (φHz h (by simpa using c) (by omega)) (by simp only[lA,κA];omega)
theorem φFC {g:φ17} {l:List φF} (h:φ2f g) (hl:l.length<10000000):(φ2E g l).1.length≤11000020:=by
 have:=φG1 l [] g h (by simpa using hl)
 unfold φ2f at this
 unfold φ2E φ7J
 split
 ·show (φp [] l g).1.length≤_
  split at this<;>omega
 ·split at this<;>omega
noncomputable def φ4q (v:φP) (x:φ1) (e:Int) (g:φ17) (hin:Int):φ8×φ1×Int:=
 if g.2.2≠0 then (φ1Z,x,3) else
 if (φs v x).2≠0 then (φ1Z,(φs v x).1,told (φs v x).2) else
 ((v,g.1,w64 (g.2.1+1),e,hin),(φs v x).1,0)
theorem φDF (v:φP) (d:φ1):φ4k v d=if (cutW v d).2≠0 then (φ1Z,(cutW v d).1,told (cutW v d).2) else
  match φ3B (cutW v d).1 (v.2.getD 0 0) with
  | some g=>φ4q v (cutW v d).1 (cutN v d:Int) (φ2E g (φS (cutW v d).1 (v.2.drop 1))) (v.2.getD 0 0)
  | none=>φ4q v (cutW v d).1 (cutN v d:Int) (φ2E ([],0,0) (φS (cutW v d).1 v.2)) 0:=by
 unfold φ4k
 by_cases c:(cutW v d).2≠0
 ·rw[if_pos c,if_pos c]
 ·rw[if_neg c,if_neg c]
  simp only
  cases φ3B (cutW v d).1 (v.2.getD 0 0)<;>rfl
theorem φFU {v:φP} {x:φ1} (e:Int) (g:φ17) (hin:Int) (h:φ3 x=true) (hl:v.2.length≤60) (hg:g.1.length≤11000020) :
  φ3 (φ4q v x e g hin).2.1=true∧(φ4q v x e g hin).1.1.2.length≤60∧(φ4q v x e g hin).1.2.1.length≤11000020:=by
 unfold φ4q
 have hs:=φ8g h v
 split
 ·exact ⟨h,by simp,by simp⟩
 split
 ·exact ⟨hs,by simp,by simp⟩
 exact ⟨hs,hl,hg⟩
theorem φMu {d:φ1} (h:φ3 d=true):φ3 (φ2G d).2.1=true∧(φ2G d).1.1.2.length≤60∧(φ2G d).1.2.1.length≤11000020:=by
 unfold φ2G
 rw[if_neg (by rw[h];simp)]
 split
 ·exact ⟨h,by simp,by simp⟩
 split
 ·unfold φ8l
  have h1:φ3 (sPut (2,[1]) (φ9 (φV (φ0 1)) (φs φ1F d))).1=true:=φ3f (φ1m (φ8g h φ1F) fun k=>φ34 k _) _
  simp only
  split
  ·exact ⟨h1,by simp,by simp⟩
  ·exact ⟨h1,by simp,by simp⟩
 split
 ·exact ⟨h,by simp,by simp⟩
 rename_i hv
 split
 ·exact ⟨h,by simp,by simp⟩
 rcases φHF (φ2 d φa).1 with ⟨e,_⟩ | ⟨v,e,hlv⟩
 ·rw[e] at hv;simp at hv
 rw[e]
 show φ3 (φ4k v d).2.1=true∧(φ4k v d).1.1.2.length≤60∧(φ4k v d).1.2.1.length≤11000020
 have hlen:=φ9G hlv.1
 have hd1:=φFQ (v:=v) h
 rw[φDF]
 split
 ·exact ⟨hd1,by simp,by simp⟩
 cases hg:φ3B (cutW v d).1 (v.2.getD 0 0) with
 | some g=>exact φFU _ _ _ hd1 hlen (φFC (φF7 hg) (φAi hd1 (by rw[lD];omega)))
 | none=>exact φFU _ _ _ hd1 hlen (φFC φDl (φAi hd1 hlen))
theorem φIL:φ0 1=[115,101,103,49]:=by
 unfold φ0 φ2C
 rw[if_pos (by decide)]
 show _++Lib.decDigits 1=_
 rw[Lib.decDigits_one (by decide)]
 rfl
theorem φN0:(φn (2,[1])).length=8:=by
 unfold φn
 rw[if_neg (by decide)]
 have e2:varT 2=[2]:=by rw[show (2:Int)=((2:Nat):Int) from rfl,φ4w 2 (by decide),φ5r (by decide)];rfl
 have e1:varT 1=[1]:=by rw[show (1:Int)=((1:Nat):Int) from rfl,φ4w 1 (by decide),φ5r (by decide)];rfl
 have e:varT (2,[1]).1++varT (((2,[1]):φP).2.length:Int)++(((2,[1]):φP).2.map varT).flatten=[2,1,1]:=by
  show varT 2++varT 1++(varT 1++[])=_
  rw[e2,e1];rfl
 rw[e]
 obtain ⟨h1,h2⟩:=φ9N (t:=[2,1,1]) (by decide)
 rw[h1,lA,h2,lA,φ5r (by decide)]
 rfl
theorem φ5q {d:φ1} {c:Int} (h:φ3 d=true) (hf:d.2=(c,-1,false)) (act:List φ4→Int×List φ4):φT d act=(((act d.1).2,c,-1,false),(act d.1).1):=by
 obtain ⟨l,t⟩:=d
 simp only at hf
 subst hf
 unfold φT tick
 rw[if_neg (by rw[h];simp),if_neg (by simp)]
 simp
def dNew (n:Nat):φ1:=([(φa,φn (2,[1]),8),(φ0 1,[],0)],(n:Int),-1,false)
abbrev d0N (n:Nat):φ1:=([],(n:Int),-1,false)
theorem φK9 (n:Nat) (h:n≤100000):∃y,φ3 y=true∧sPut (2,[1]) (φ9 (φV (φ0 1)) (φs φ1F (d0N n)))=if n<8 then (y,2) else (dNew n,0):=by
 have k0:φ3 (d0N n)=true:=φ7A (n:Int) (by omega)
 have hsw:φs φ1F (d0N n)=(d0N n,0):=by
  unfold φs φ3M
  rw[if_neg (by rw[k0];simp)];rfl
 have hL:=φN0
 unfold dNew sPut φ1P
 generalize φn (2,[1])=L at hL ⊢
 rw[hsw,φ2M,φIL]
 -- the segment
 have s1:φV [115,101,103,49] (d0N n)=(([([115,101,103,49],[],0)],(n:Int),-1,false),0):=by
  show φT _ _=_
  rw[φ5q k0 rfl]
  have:φ2b [115,101,103,49] []=(0,[([115,101,103,49],[],0)]):=by decide
  rw[this]
 have k1:=φ34 k0 [115,101,103,49]
 rw[s1] at k1 ⊢
 have k1:φ3 (([([115,101,103,49],[],0)],(n:Int),-1,false):φ1)=true:=k1
 rw[φ2M]
 have s2:φB [116,101,109,112] (([([115,101,103,49],[],0)],(n:Int),-1,false):φ1)=(([([115,101,103,49],[],0)],(n:Int),-1,false),0):=by
  unfold φB
  rw[if_neg (show ¬φ1h ([([115,101,103,49],[],0)]:List φ4) [116,101,109,112]≥0 by decide)]
 rw[s2,φ2M]
 have s3:φV [116,101,109,112] (([([115,101,103,49],[],0)],(n:Int),-1,false):φ1)=(([([115,101,103,49],[],0),([116,101,109,112],[],0)],(n:Int),-1,false),0):=by
  show φT _ _=_
  rw[φ5q k1 rfl]
  have:φ2b [116,101,109,112] [([115,101,103,49],[],0)]=(0,[([115,101,103,49],[],0),([116,101,109,112],[],0)]):=by decide
  rw[this]
 have k2:=φ34 k1 [116,101,109,112]
 rw[s3] at k2 ⊢
 have k2:φ3 (([([115,101,103,49],[],0),([116,101,109,112],[],0)],(n:Int),-1,false):φ1)=true:=k2
 rw[φ2M]
 have k3:=φ3L k2 [116,101,109,112] L
 by_cases c:n<8
 ·simp only[if_pos c]
  have s4:φL [116,101,109,112] L (([([115,101,103,49],[],0),([116,101,109,112],[],0)],(n:Int),-1,false):φ1)=(([([115,101,103,49],[],0),([116,101,109,112],[],0)],(n:Int),-1,false),2):=by
   show φT _ _=_
   rw[φ5q k2 rfl]
   unfold φ2R
   have:([([115,101,103,49],[],0),([116,101,109,112],[],0)]:List φ4).findIdx? (fun f=>f.1==[116,101,109,112])=some 1:=by decide
   rw[this]
   have hu:φI ([([115,101,103,49],[],0),([116,101,109,112],[],0)]:List φ4)=0:=by decide
   simp only[hu]
   rw[if_pos (by omega)]
  rw[s4,φ2n (show (2:Int)≠0 by decide),φ2n (show (2:Int)≠0 by decide)]
  exact ⟨_,k2,rfl⟩
 ·simp only[if_neg c]
  have s4:φL [116,101,109,112] L (([([115,101,103,49],[],0),([116,101,109,112],[],0)],(n:Int),-1,false):φ1)=(([([115,101,103,49],[],0),([116,101,109,112],L,0)],(n:Int),-1,false),0):=by
   show φT _ _=_
   rw[φ5q k2 rfl]
   unfold φ2R
   have:([([115,101,103,49],[],0),([116,101,109,112],[],0)]:List φ4).findIdx? (fun f=>f.1==[116,101,109,112])=some 1:=by decide
   rw[this]
   have hu:φI ([([115,101,103,49],[],0),([116,101,109,112],[],0)]:List φ4)=0:=by decide
   simp only[hu]
   rw[if_neg (by omega)]
   rfl
  rw[s4] at k3 ⊢
  have k3:φ3 (([([115,101,103,49],[],0),([116,101,109,112],L,0)],(n:Int),-1,false):φ1)=true:=k3
  rw[φ2M]
  have k4:=φ3K k3 [116,101,109,112]
  have s5:φG [116,101,109,112] (([([115,101,103,49],[],0),([116,101,109,112],L,0)],(n:Int),-1,false):φ1)=(([([115,101,103,49],[],0),([116,101,109,112],L,8)],(n:Int),-1,false),0):=by
   show φT _ _=_
   rw[φ5q k3 rfl]
   unfold φ26
   have:([([115,101,103,49],[],0),([116,101,109,112],L,0)]:List φ4).findIdx? (fun f=>f.1==[116,101,109,112])=some 1:=rfl
   rw[this]
   show ((([([115,101,103,49],[],0),([116,101,109,112],L,(L.length:Int))]:List φ4),(n:Int),-1,false),(0:Int))=_
   rw[hL];rfl
  rw[s5] at k4 ⊢
  have k4:φ3 (([([115,101,103,49],[],0),([116,101,109,112],L,8)],(n:Int),-1,false):φ1)=true:=k4
  rw[φ2M]
  have s6:φ2T [116,101,109,112] [108,105,118,101] (([([115,101,103,49],[],0),([116,101,109,112],L,8)],(n:Int),-1,false):φ1)=(([([108,105,118,101],L,8),([115,101,103,49],[],0)],(n:Int),-1,false),0):=by
   show φT _ _=_
   rw[φ5q k4 rfl]
   unfold φ2J
   have:([([115,101,103,49],[],0),([116,101,109,112],L,8)]:List φ4).findIdx? (fun f=>f.1==[116,101,109,112])=some 1:=rfl
   rw[this,if_neg (by decide)]
   rfl
  rw[s6]
  exact ⟨_,k4,rfl⟩
theorem φDx (n:Nat) (h:n≤100000):∃y,φ3 y=true∧φ2G (d0N n)=if n<8 then (φ1Z,y,2) else (((2,[1]),[],1,0,0),dNew n,0):=by
 have k0:φ3 (d0N n)=true:=φ7A (n:Int) (by omega)
 obtain ⟨y,hy,e⟩:=φK9 n h
 refine ⟨y,hy,?_⟩
 have ht:φ2 (d0N n) φa=([],false):=φ7z fun f hf=>by simp at hf
 unfold φ2G
 rw[if_neg (by rw[k0];simp),if_neg (by simp),if_pos (by rw[ht])]
 unfold φ8l
 rw[e]
 split
 ·rename_i c;rfl
 ·rename_i c;rfl
theorem φE0 (n:Nat) (h:n≤100000) (h8:8≤n):φ3 (dNew n)=true:=by
 have k0:φ3 (d0N n)=true:=φ7A (n:Int) (by omega)
 obtain ⟨y,hy,e⟩:=φDx n h
 rw[if_neg (by omega)] at e
 have:=(φMu k0).1
 rw[e] at this
 exact this
theorem φAa (n:Nat) (h:n≤100000) (h8:8≤n):φ2 (dNew n) φa=(φn (2,[1]),true)∧φ2 (dNew n) (φ0 1)=([],true)∧∀m,m≠φa→m≠φ0 1→φ2 (dNew n) m=([],false):=by
 have hk:=φE0 n h h8
 refine ⟨φ2k hk (f:=(φa,φn (2,[1]),8)) (by simp[dNew]),φ2k hk (f:=(φ0 1,[],0)) (by simp[dNew]),fun m h1 h2=>φ7z fun f hf=>?_⟩
 simp only[dNew,mc,List.not_mem_nil,or_false] at hf
 rcases hf with rfl | rfl
 ·exact Ne.symm h1
 ·exact Ne.symm h2
theorem φLS {s:List UInt8} {v:φP} (h:φ3E s v) (hl:s.length<1000000000):φ2p s=(v,true):=by
 have h1:=φFb h
 rw[φKD s hl] at h1
 exact Option.some.inj h1
theorem φ79 (i:Int):φK i≠φa:=by
 unfold φK φ2C
 split
 ·intro e
  have:=congrArg (fun l=>l.getD 0 0) e
  simp[φa] at this
 ·simp[φa]
theorem φIk (i:Int):φK i≠φ1E:=by
 unfold φK φ2C
 split
 ·intro e
  have:=congrArg (fun l=>l.getD 0 0) e
  simp[φ1E] at this
 ·simp[φ1E]
theorem φMU:¬∃id,φ3O φa id:=by
 rintro ⟨id,_,e | e⟩
 ·exact φ2d id e.symm
 ·exact φ79 id e.symm
theorem φId (n:Nat) (h:n≤100000) (h8:8≤n):φf ((2,[1]),[],1,0,0) (dNew n)=true:=by
 obtain ⟨t1,t2,t3⟩:=φAa n h h8
 refine φg.2 ⟨φE0 n h h8,by decide,by decide,by decide,?_,fun e he=>by simp at he⟩
 refine (φ1s _).2 ⟨fun id hid=>?_,fun _=>?_⟩
 ·have hid:id=1:=by simpa using hid
  subst hid
  rw[t2];exact ⟨rfl,φFt⟩
 ·show (0:Int)=((φ2 _ (φ0 1)).1.length:Int)
  rw[t2];rfl
theorem φIb {v:φP} {x:φ1} (h:φ3 x=true) {n:List UInt8} (hn:n∈φ3M x v):(∃id,φ3O n id∧id ∉ v.2)∨n=φ1E:=by
 unfold φ3M at hn
 rw[if_neg (by rw[h];simp)] at hn
 obtain ⟨f,hf,rfl⟩:=mM.1 hn
 have ho:=(List.mem_filter.1 hf).2
 unfold φ4d at ho
 rw[κX,bA] at ho
 rcases ho with ⟨h1,h2⟩ | h1
 ·left
  refine ⟨(idOf f.1).1,φMv (by rw[←h1]),fun hi=>?_⟩
  have:(v.2.any fun i=>i==(idOf f.1).1)=true:=List.any_eq_true.2 ⟨_,hi,by simp⟩
  rw[this] at h2;simp at h2
 ·right;simpa using h1
theorem φGO {v:φP} {x:φ1} (h:φ3 x=true) {n:List UInt8} (hn:∀id,φ3O n id→id∈v.2) (ht:n≠φ1E):φ2 (φs v x).1 n=φ2 x n:=by
 refine φ8s (φ3M x v) (w:=(x,0)) h fun m hm e=>?_
 subst e
 rcases φIb h hm with ⟨id,hid,hno⟩ | e
 ·exact hno (hn id hid)
 ·exact ht e
theorem φNC {id:Int} (h:1≤id∧id≤100000):φ3O (φ0 id) id:=⟨h,.inl rfl⟩
theorem φB4 {v:φP} (h:φl v=true) {id:Int} (hi:id∈v.2):1≤id∧id≤100000∧id<v.1:=by
 obtain ⟨k1,k2,k3,k4⟩:=(φ13 v).1 h
 rw[φH (by omega) (by omega)] at k1
 have:=φ3q _ _ k1 id hi
 omega
theorem φGw {A B σ:Type} {step:(A→Option B)→A→Option B} (st:Nat→σ→A) (N:Nat) (Inv:Nat→σ→Prop) (Post:B→Prop)
  (hz:∀rec s,Inv N s→∃b,step rec (st N s)=some b∧Post b)
  (hs:∀rec n s,n<N→Inv n s→∃s',Inv (n+1) s'∧step rec (st n s)=rec (st (n+1) s')) (s:σ) (hi:Inv 0 s) (hn:N<2 ^ 62):∃b,lp step (st 0 s)=some b∧Post b:=by
 have key:=φBh (step:=step) (fun k (s:σ)=>st (N - k) s) (fun k s=>Inv (N - k) s∧k≤N) Post
  (fun rec s hi=>hz rec s hi.1)
  (fun rec k s hi=>by
   obtain ⟨h1,h2⟩:=hi
   have e:N - (k+1)+1=N - k:=by omega
   obtain ⟨s',h3,h4⟩:=hs rec (N - (k+1)) s (by omega) h1
   rw[e] at h3 h4
   exact ⟨s',⟨h3,by omega⟩,h4⟩)
  N s ⟨by rw[Nat.sub_self];exact hi,κ6 _⟩ hn
 simpa using key
def Free (d:φ1):Prop:=d.2.2=(-1,false)
theorem φ1J {d:φ1} {act:List φ4→Int×List φ4} (h:Free d):Free (φT d act).1:=by
 unfold φT
 split
 ·exact h
 ·split
  ·rename_i c
   rw[show d.2.2=(-1,false) from h] at c
   simp at c
  ·show (tick d).2.2=_
   unfold tick
   rw[if_neg]
   ·exact h
   ·rw[show d.2.2=(-1,false) from h];simp
theorem φK4 {d:φ1} {act:List φ4→Int×List φ4} (h:(φT d act).2=0):d.2.2.2=false:=by
 unfold φT at h
 split at h
 ·simp at h
 split at h
 ·simp at h
 rename_i c
 cases hd:d.2.2.2 with
 | false=>rfl
 | true=>exact absurd (.inl hd) c
theorem φ9b {d:φ1} {act:List φ4→Int×List φ4} (h:d.2.2.2=true):(φT d act).1.2.2.2=true:=by
 unfold φT
 split
 ·exact h
 ·rw[if_pos (.inl h)]
theorem φ56 {P:φ1→Prop} (hP:∀(d:φ1) (act:List φ4→Int×List φ4),P d→P (φT d act).1) (n:List UInt8) {d:φ1} (h:P d):P (φB n d).1:=by
 unfold φB
 split
 ·exact hP d _ h
 ·exact h
theorem φ3d {P:φ1→Prop} (hP:∀(d:φ1) (act:List φ4→Int×List φ4),P d→P (φT d act).1) {op:φ1→φ1×Int} (ho:∀d,P d→P (op d).1) {w:φE} (h:P w.1):P (φ9 op w).1:=by
 unfold φ9
 split
 ·exact ho _ h
 ·exact h
theorem φ7G {P:φ1→Prop} (hP:∀(d:φ1) (act:List φ4→Int×List φ4),P d→P (φT d act).1) (n:List UInt8) {w:φE} (h:P w.1):P (sNew n w).1:=
 φ3d hP (fun d k=>hP d _ k) (φ3d hP (fun d k=>φ56 hP n k) h)
theorem φ8z {P:φ1→Prop} (hP:∀(d:φ1) (act:List φ4→Int×List φ4),P d→P (φT d act).1) (n t:List UInt8) {w:φE} (h:P w.1):P (φ1P n t w).1:=
 φ3d hP (fun d k=>hP d _ k) (φ3d hP (fun d k=>hP d _ k) (φ3d hP (fun d k=>hP d _ k) (φ3d hP (fun d k=>φ56 hP n k) h)))
theorem φ6q {P:φ1→Prop} (hP:∀(d:φ1) (act:List φ4→Int×List φ4),P d→P (φT d act).1) (v:φP) {w:φE} (h:P w.1):P (sPut v w).1:=
 φ3d hP (fun d k=>hP d _ k) (φ8z hP _ _ h)
theorem φGt {P:φ1→Prop} (hP:∀(d:φ1) (act:List φ4→Int×List φ4),P d→P (φT d act).1) (n:List UInt8):∀(recs:List RecT) {w:φE},P w.1→P (sApp n recs w).1
 | [],w,h=>h
 | r::recs,w,h=>φGt hP n recs (w:=φ9 (φL n (frame (φ7 r))) w) (φ3d hP (fun d k=>hP d _ k) h)
theorem φ8W {P:φ1→Prop} (hP:∀(d:φ1) (act:List φ4→Int×List φ4),P d→P (φT d act).1) (m:Int) (recs:List RecT) {w:φE} (h:P w.1):P (sWM m recs w).1:=
 φ3d hP (fun d k=>hP d _ k) (φGt hP _ recs (φ7G hP _ h))
theorem φ5M {P:φ1→Prop} (hP:∀(d:φ1) (act:List φ4→Int×List φ4),P d→P (φT d act).1):∀(names:List (List UInt8)) {w:φE},P w.1→P (φm names w).1
 | [],w,h=>h
 | n::names,w,h=>φ5M hP names (w:=φ9 (φB n) w) (φ3d hP (fun d k=>φ56 hP n k) h)
theorem φBv {P:φ1→Prop} (hP:∀(d:φ1) (act:List φ4→Int×List φ4),P d→P (φT d act).1):∀(ids:List Int) {w:φE},P w.1→P (sOld ids w).1
 | [],w,h=>h
 | i::ids,w,h=>φBv hP ids (w:=φm [φ0 i,φK i] w) (φ5M hP _ h)
theorem φ91 {P:φ1→Prop} (hP:∀(d:φ1) (act:List φ4→Int×List φ4),P d→P (φT d act).1) (m:Int) {d:φ1} (h:P d):P (φ1r m d).1:=by
 unfold φ1r
 simp only
 have:=φ8z hP (φK m) (φ1R (φ15 m (φ2 d (φ0 m)).1).1) (w:=(d,0)) h
 split
 ·exact φ56 hP _ this
 ·exact this
theorem φ9R {n t:List UInt8} {w:φE} (h:(φ1P n t w).2=0):w.2=0∧φ2 (φ1P n t w).1 n=(t,true):=by
 unfold φ1P at h ⊢
 obtain ⟨h1,h2,h3⟩:=φ3t (op:=φG n) h
 obtain ⟨h4,h5,h6⟩:=φ3t (op:=φL n t) h1
 have h4:(sNew n w).2=0:=h4
 obtain ⟨h7,h8⟩:=φ6s h4
 obtain ⟨a1,a2⟩:=φ4A h5
 have a2:φ2 (φL n t (sNew n w).1).1 n=((φ2 (sNew n w).1 n).1++t,true):=a2
 rw[h3,h6]
 obtain ⟨k,_,_⟩:=φ5X h2
 rw[h6] at k
 refine ⟨h7,?_⟩
 rw[φ2I k n n]
 show φ2 (φL n t (sNew n w).1).1 n=_
 rw[a2,h8];rfl
theorem φE1 {v:φP} {w:φE} (h:(sPut v w).2=0):w.2=0∧φ2 (sPut v w).1 φa=(φn v,true):=by
 unfold sPut at h ⊢
 obtain ⟨h1,h2,h3⟩:=φ3t h
 obtain ⟨h4,h5⟩:=φ9R h1
 refine ⟨h4,?_⟩
 rw[h3]
 show φ2 (φ2T [116,101,109,112] [108,105,118,101] (φ1P [116,101,109,112] (φn v) w).1).1 φa=_
 rw[φMK h2,h5]
theorem φFN {s:φ8} {d:φ1} (l:List φk) (h:φ3 d=true) (hc:(φ14 s d l).2.2=0):∃w1 w2:φE,
  w1=sNew (φ0 (s.1.1+1)) (sWM s.1.1 (φX l (s.2.2.1 - 1)) (d,0))∧w1.2=0∧φ3 w1.1=true∧w2=φ1r s.1.1 w1.1∧w2.2=0∧φ3 w2.1=true ∧
  (sPut (s.1.1+2,[s.1.1,s.1.1+1]) w2).2=0∧(φ14 s d l).2.1=(sOld s.1.2 ((sPut (s.1.1+2,[s.1.1,s.1.1+1]) w2).1,0)).1:=by
 have g1:=φ6B s.1.1 (φX l (s.2.2.1 - 1)) (w:=(d,0)) h
 have g2:=φ3v g1 (φ0 (s.1.1+1))
 unfold φ14 at hc ⊢
 simp only at hc ⊢
 generalize hw1:sNew (φ0 (s.1.1+1)) (sWM s.1.1 (φX l (s.2.2.1 - 1)) (d,0))=w1 at *
 have g3:φ3 (φq s.1.1 w1).1=true:=by
  unfold φq;split
  ·exact g2
  ·exact φ7Y _ g2
 by_cases z:(if (φq s.1.1 w1).2=0 then φA (sPut (s.1.1+2,[s.1.1,s.1.1+1]) (φq s.1.1 w1)) else φA (φq s.1.1 w1)).2=0
 rotate_left
 ·rw[if_pos z] at hc
  exfalso
  revert hc
  generalize (if (φq s.1.1 w1).2=0 then φA (sPut (s.1.1+2,[s.1.1,s.1.1+1]) (φq s.1.1 w1)) else φA (φq s.1.1 w1))=w3 at *
  unfold φ1d
  split
  ·split
   ·simp
   ·rename_i c4;exact c4
  ·exact z
 have z2:(φq s.1.1 w1).2=0:=by
  by_cases c:(φq s.1.1 w1).2=0
  ·exact c
  ·rw[if_neg c] at z;exact (φ1C _).1 z
 rw[if_pos z2] at z hc
 rw[if_pos z2]
 have z3:(sPut (s.1.1+2,[s.1.1,s.1.1+1]) (φq s.1.1 w1)).2=0:=(φ1C _).1 z
 have z1:w1.2=0:=by
  unfold φq at z2
  split at z2
  ·exact z2
  ·rename_i c;simpa using c
 have zh:φq s.1.1 w1=φ1r s.1.1 w1.1:=by
  unfold φq;rw[if_neg (by simpa using z1)]
 rw[if_neg (by simpa using z)]
 rw[zh] at z2 z3 g3 ⊢
 exact ⟨w1,φ1r s.1.1 w1.1,rfl,z1,g2,rfl,z2,g3,z3,rfl⟩
structure MergedF (s:φ8) (d:φ1) (l:List φk) (S:φ8) (y:φ1):Prop extends Merged s d l S y where
 liv:φ2 y φa=(φn (s.1.1+2,[s.1.1,s.1.1+1]),true)
 hin:(φ2 y (φK s.1.1)).2=false∨φ2 y (φK s.1.1)=(φ1R (φ15 s.1.1 (txt (φX l (s.2.2.1 - 1)))).1,true)
 fre:0 > d.2.2.1→Free y
theorem φCc {s:φ8} {d:φ1} (l:List φk) (h:φ3 d=true) (hv:φl s.1=true) (h2:s.1.1+2≤100000) (hc:(φ14 s d l).2.2=0):MergedF s d l (φ14 s d l).1 (φ14 s d l).2.1:=by
 have hM:=φHx l h hv h2 hc
 refine ⟨hM,?_,?_,?_⟩
 all_goals
  obtain ⟨w1,w2,hw1,z1,g1,hw2,z2,g2,z3,hy⟩:=φFN l h hc
  obtain ⟨k1,k2,k3,k4⟩:=(φ13 s.1).1 hv
  rw[φH (by omega) (by omega)] at k1
  have hids:=φ3q _ _ k1
  have g3:φ3 (sPut (s.1.1+2,[s.1.1,s.1.1+1]) w2).1=true:=φ3f (v:=(s.1.1+2,[s.1.1,s.1.1+1])) g2
 ·rw[hy,φ5z s.1.2 (w:=((sPut (s.1.1+2,[s.1.1,s.1.1+1]) w2).1,0)) g3 (fun id hid=>⟨(φ2d id).symm,(φ79 id).symm⟩)]
  exact (φE1 z3).2
 ·have e1:∀n,n≠φ1E→n≠φa→(∀id∈s.1.2,n≠φ0 id∧n≠φK id)→φ2 (φ14 s d l).2.1 n=φ2 w2.1 n:=fun n q1 q2 q3=>by
   rw[hy,φ5z s.1.2 (w:=((sPut (s.1.1+2,[s.1.1,s.1.1+1]) w2).1,0)) g3 q3]
   exact φ7Z g2 _ q1 q2
  have e2:φ2 (φ14 s d l).2.1 (φK s.1.1)=φ2 w2.1 (φK s.1.1):=e1 _ (φIk _) (φ79 _) fun id hid=>by
   have:=hids id hid
   refine ⟨fun e=>φ3y id s.1.1 (by omega) e.symm,fun e=>?_⟩
   have:=φCw (by omega) (by omega) e
   omega
  have hf:=φ4Z (w:=(w1.1,0)) g1 (φK s.1.1) (φ1R (φ15 s.1.1 (φ2 w1.1 (φ0 s.1.1)).1).1)
  have e3:φ2 (φ14 s d l).2.1 (φ0 s.1.1)=φ2 w1.1 (φ0 s.1.1):=by
   rw[e1 _ (φ4G _) (φ2d _) fun id hid=>by
    have:=hids id hid
    refine ⟨fun e=>?_,φ3y _ _ (by omega)⟩
    have:=φ3x (by omega) (by omega) e
    omega]
   rw[hw2]
   unfold φ1r
   simp only
   split
   ·rw[φ4o hf (φ3y _ _ (by omega)),φ5F (w:=(w1.1,0)) g1 (φ3y _ _ (by omega))]
   ·rw[φ5F (w:=(w1.1,0)) g1 (φ3y _ _ (by omega))]
  rw[hM.one] at e3
  rw[e2]
  rw[←e3] at hf
  rw[hw2] at z2 ⊢
  unfold φ1r at z2 ⊢
  rw[←e3] at z2 ⊢
  simp only at z2 hf ⊢
  split
  ·rename_i c
   rw[if_pos c] at z2
   exact .inl (φBd z2)
  ·rename_i c
   rw[if_neg c] at z2
   exact .inr (φ9R z2).2
 ·intro hfu
  have hup:d.2.2.2=false:=by
   cases hd:d.2.2.2 with
   | false=>rfl
   | true=>
    have q1:w1.1.2.2.2=true:=by rw[hw1];exact φ7G (P:=fun d=>d.2.2.2=true) (fun d act k=>φ9b k) _ (φ8W (P:=fun d=>d.2.2.2=true) (fun d act k=>φ9b k) _ _ hd)
    have q2:w2.1.2.2.2=true:=by rw[hw2];exact φ91 (P:=fun d=>d.2.2.2=true) (fun d act k=>φ9b k) _ q1
    have q3:=φ8z (P:=fun d=>d.2.2.2=true) (fun d act k=>φ9b k) [116,101,109,112] (φn (s.1.1+2,[s.1.1,s.1.1+1])) (w:=w2) q2
    unfold sPut at z3
    have:=φK4 (φ3t z3).2.1
    rw[q3] at this
    simp at this
  have hfr:Free d:=by
   have:=(φ9Z h).1
   show d.2.2=(-1,false)
   rw[show d.2.2=(d.2.2.1,d.2.2.2) from rfl,hup]
   have:d.2.2.1=-1:=by omega
   rw[this]
  have q1:Free w1.1:=by rw[hw1];exact φ7G (P:=Free) (fun d act k=>φ1J k) _ (φ8W (P:=Free) (fun d act k=>φ1J k) _ _ hfr)
  have q2:Free w2.1:=by rw[hw2];exact φ91 (P:=Free) (fun d act k=>φ1J k) _ q1
  rw[hy]
  exact φBv (P:=Free) (fun d act k=>φ1J k) s.1.2 (φ6q (P:=Free) (fun d act k=>φ1J k) _ q2)
theorem φIQ {α:Type} {l:List (List UInt8×α)} {p:List UInt8×α} (h:∀x∈l,Op.bytesLess x.1 p.1=true):insB l p=l++[p]:=by
 have e:l.takeWhile (fun x=>leK x.1 p.1)=l:=by
  induction l with
  | nil=>rfl
  | cons x l ih=>
   have h1:=h x (by simp)
   rw[List.takeWhile_cons_of_pos (by unfold leK;simp[h1]),ih fun y hy=>h y (by simp[hy])]
 unfold insB
 rw[e]
 show l.take l.length++[p]++l.drop l.length=_
 rw[κW,List.drop_length,κ7]
theorem φK7 {α:Type} {l:List (List UInt8×α)} {k:List UInt8} (h:∀x∈l,Op.bytesLess x.1 k=true):φ19 l k=l:=by
 unfold φ19
 refine List.filter_eq_self.2 fun x hx=>?_
 have:=φ6L (h x hx)
 simpa using this
theorem φAT (id:Int):∀(l:List φ1l) (dir:List φC),(∀x∈l,x.2.2.1=4)→srt (dir++l.map (entS id))→φ1z dir (l.map fun x=>((id,x):φF))=dir++l.map (entS id)
 | [],dir,_,_=>by simp[φ1z]
 | x::l,dir,h4,hs=>by
  have hx:=h4 x (by simp)
  have hlt:∀y∈dir,Op.bytesLess y.1 (entS id x).1=true:=fun y hy=>by
   have:=(κf.1 hs).2.2 y hy (entS id x) (by simp)
   exact this
  have hp:putD dir ((id,x):φF)=dir++[entS id x]:=by
   unfold putD
   rw[if_neg (by rw[hx];decide)]
   show insB (φ19 dir (entS id x).1) (entS id x)=_
   rw[φK7 hlt,φIQ hlt]
  show φ1z (putD dir (id,x)) (l.map fun x=>((id,x):φF))=_
  rw[hp,φAT id l _ (fun y hy=>h4 y (by simp[hy])) (by simpa using hs)]
  simp
theorem φAy (id b:Int):∀(l:List φ1l) (acc:List φF),(∀x∈l,x.2.2.1=4)→(l.map fun x=>((id,x):φF)).foldl (φ1e 5 b) acc=acc++l.map fun x=>((id,x):φF)
 | [],acc,_=>by simp
 | x::l,acc,h=>by
  have hx:=h x (by simp)
  have e:φ1e 5 b acc ((id,x):φF)=acc++[((id,x):φF)]:=by
   unfold φ1e
   rw[if_neg (by simp),if_neg (by rw[hx];decide),if_pos (.inr ⟨rfl,hx⟩)]
  rw[κ5,κN,e,φAy id b l _ fun y hy=>h y (by simp[hy])]
  simp
theorem φCX (id b:Int):∀(l:List φ1l) (acc:List φF),(∀x∈l,x.2.2.1=4∨x.2.2.1=5)→(l.map fun x=>((id,x):φF)).foldl (φ1e 3 b) acc=acc
 | [],acc,_=>by simp
 | x::l,acc,h=>by
  have hx:=h x (by simp)
  have e:φ1e 3 b acc ((id,x):φF)=acc:=by
   unfold φ1e
   split
   ·rfl
   ·rw[if_neg (by rcases hx with e | e<;>rw[e]<;>decide),if_neg (by rcases hx with e | e<;>rw[e]<;>simp)]
  rw[κ5,κN,e,φCX id b l _ fun y hy=>h y (by simp[hy])]
theorem φ5h:∀(A B pre:List φF) (g:φ17),(φp pre A g).2.2=0→φp pre (A++B) g=φp (pre++A) B (φp pre A g)
 | [],B,pre,g,h=>by simp[φp]
 | p::A,B,pre,g,h=>by
  rw[φp] at h
  rw[κF,φp,φp]
  by_cases c:g.2.2≠0
  ·rw[if_pos c] at h;exact absurd h c
  rw[if_neg c] at h ⊢
  rw[if_neg c,φ5h A B _ _ h]
  simp
theorem φCa {A:List φF} (hA:∀k b,k=3∨k=5→ownL k b A=[]):∀(B pre:List φF) (g:φ17),φp (A++pre) B g=φp pre B g
 | [],pre,g=>rfl
 | p::B,pre,g=>by
  rw[φp,φp]
  by_cases c:g.2.2≠0
  ·rw[if_pos c,if_pos c]
  rw[if_neg c,if_neg c,aA,φCa hA B]
  congr 1
  have e:∀k b,k=3∨k=5→ownL k b (A++pre)=ownL k b pre:=fun k b hk=>by
   have:=hA k b hk
   unfold ownL at *
   rw[κY,this]
  unfold φ1c
  simp only
  by_cases c2:p.2.2.2.1=3∨p.2.2.2.1=5
  ·rw[if_pos c2,if_pos c2,e _ _ c2]
  ·rw[if_neg c2,if_neg c2]
theorem φ9q (id mark:Int):∀(l:List φ1l) (pre:List φF) (z:Int),(∀x∈l,x.2.2.1=4∧x.2.2.2.1≤mark)→z≤mark→∃z',z'≤mark∧φp pre (l.map fun x=>((id,x):φF)) ([],z,0)=([],z',0)
 | [],pre,z,_,hz=>⟨z,hz,rfl⟩
 | x::l,pre,z,h,hz=>by
  obtain ⟨h4,hb⟩:=h x (by simp)
  rw[κ5,φp,if_neg (by simp)]
  have e:φ1c pre ((id,x):φF) ([],z,0)=([],if x.2.2.2.1 > z then x.2.2.2.1 else z,0):=by
   unfold φ1c
   simp only
   rw[if_neg (by rw[h4];decide)]
  rw[e]
  refine φ9q id mark l _ _ (fun y hy=>h y (by simp[hy])) ?_
  split<;>omega
theorem φG7 {mark:Int}:∀(l:List φ1l) (p:Option (List UInt8)),φ2e mark p l=true→∀x∈l,x.2.2.1=4∧x.2.2.2.1≤mark
 | [],_,_,x,hx=>by simp at hx
 | y::l,p,h,x,hx=>by
  simp only[φ2e,bA,beq_iff_eq,κM,decide_eq_false_iff_not] at h
  rcases mc.1 hx with rfl | hx
  ·exact ⟨h.1,by omega⟩
  ·exact φG7 l _ h.2.2.2 x hx
theorem φAw {id:Int} {t:List UInt8} {h:φ1G} (k:φ15 id t=(h,true)):∃(l:List φ1l) (z:φ1l),(scan t).1=l++[z]∧z.2.2.1=5∧φ3Q z.2.2 (l.map (·.2.2))=true∧(∀x∈l,x.2.2.1=4∧x.2.2.2.1≤z.2.2.2.1)∧h=((t.length:Int),z.2.2.2.1,l.map (entS id))∧(scan t).2=t.length∧(1≤id∧id≤100000):=by
 unfold φ15 at k
 simp only at k
 split at k
 ·simp at k
 rename_i c
 simp only[not_or,Bool.not_eq_false,ne_eq,Decidable.not_not] at c
 obtain ⟨c1,c2,c3,c4,c5,c6⟩:=c
 generalize (scan t).1=L at *
 have hl:L.length - 1<L.length:=by omega
 have hL:L=L.take (L.length - 1)++[L.getD (L.length - 1) φ2K]:=by
  rw[φD hl]
  have:=κ4 hl
  rw[show L.length - 1+1=L.length by omega,κW] at this
  exact this
 simp only[Prod.mk.injEq,and_true] at k
 exact ⟨L.take (L.length - 1),L.getD (L.length - 1) φ2K,hL,c4,c5,φG7 _ _ c6,k.symm,c2,c3⟩
theorem φJ5 {id:Int} {t:List UInt8} {h:φ1G} (k:φ15 id t=(h,true)) (hd:φ1q h.2.2=true) (h0:0≤h.2.1) (B:List φF):φ2E ([],0,0) (((scan t).1.map fun x=>((id,x):φF))++B)=φ2E (h.2.2,h.2.1,0) B:=by
 obtain ⟨l,z,e,z5,hf,hk,hh,_,_⟩:=φAw k
 have hsrt:srt ([]++l.map (entS id)):=by have:=φ5p hd;rw[hh] at this;simpa using this
 have hlen:(l.map (entS id)).length≤20:=by
  unfold φ1q at hd
  rw[hh] at hd
  simp only[bA,decide_eq_true_eq] at hd
  exact hd.2
 rw[hh] at h0
 have h0:0≤z.2.2.2.1:=h0
 rw[e,hh]
 -- over the segment itself
 obtain ⟨z',hz',eg⟩:=φ9q id z.2.2.2.1 l [] 0 hk h0
 have e1:φp [] ((l++[z]).map fun x=>((id,x):φF)) ([],0,0)=(l.map (entS id),z.2.2.2.1,0):=by
  rw[mp,φ5h _ _ _ _ (by rw[eg]),eg,κ8,List.map_singleton,φp,if_neg (by simp)]
  have eo:ownL z.2.2.1 z.2.2.2.1 (l.map fun x=>((id,x):φF))=l.map fun x=>((id,x):φF):=by
   rw[z5];unfold ownL;rw[φAy id _ l [] fun x hx=>(hk x hx).1];rfl
  have ea:φ1z [] (l.map fun x=>((id,x):φF))=l.map (entS id):=by
   rw[φAT id l [] (fun x hx=>(hk x hx).1) hsrt];rfl
  have er:(l.map fun x=>((id,x):φF)).map (·.2.2.2)=l.map (·.2.2):=by rw[List.map_map];rfl
  have es:φ1c (l.map fun x=>((id,x):φF)) ((id,z):φF) ([],z',0)=(l.map (entS id),z.2.2.2.1,0):=by
   unfold φ1c
   simp only
   have el:(if z.2.2.2.1 > z' then z.2.2.2.1 else z')=z.2.2.2.1:=by split<;>omega
   rw[if_pos (.inr z5),eo,er,if_pos hf,ea,el]
   unfold φ4r
   rw[if_neg (Nat.not_lt.2 hlen)]
  rw[es];rfl
 have hA:∀k b,k=3∨k=5→ownL k b ((l++[z]).map fun x=>((id,x):φF))=[]:=fun k b hk2=>by
  rcases hk2 with rfl | rfl
  ·unfold ownL
   exact φCX id b (l++[z]) [] fun x hx=>by
    rcases mA.1 hx with hx | hx
    ·exact .inl (hk x hx).1
    ·rw[mZ.1 hx];exact .inr z5
  ·unfold ownL
   rw[mp,κY,List.map_singleton,κN,List.foldl_nil]
   unfold φ1e
   rw[if_neg (by simp),if_pos z5]
 unfold φ2E
 rw[φ5h _ _ _ _ (by rw[e1]),e1]
 have:=φCa hA B [] (l.map (entS id),z.2.2.2.1,0)
 rw[κ7] at this
 rw[κ8,this]
 unfold φ7J
 have eo:ownL 5 0 (((l++[z]).map fun x=>((id,x):φF))++B)=ownL 5 0 B:=by
  have:=hA 5 0 (.inr rfl)
  unfold ownL at *
  rw[κY,this]
 rw[eo]
theorem φ47 {d:φ1} {act:List φ4→Int×List φ4} (h:φ3 d=true) (hf:Free d):φT d act=(((act d.1).2,d.2),(act d.1).1):=by
 have:=φ5q (d:=d) (c:=d.2.1) h (by rw[show d.2=(d.2.1,d.2.2) from rfl,show d.2.2=(-1,false) from hf]) act
 rw[this]
 congr 2
 rw[show d.2=(d.2.1,d.2.2) from rfl,show d.2.2=(-1,false) from hf]
theorem φ7U {d:φ1} (h:φ3 d=true) (hf:Free d) {n:List UInt8} (hn:(φ2 d n).2=true):(φG n d).2=0:=by
 obtain ⟨i,hi,e,_⟩:=φ50 hn
 show (φT d (φ26 n)).2=0
 rw[φ47 h hf]
 unfold φ26
 rw[e]
theorem φBI {d:φ1} (h:φ3 d=true) (hf:Free d) (n:List UInt8):(φB n d).2=0:=by
 unfold φB
 split
 ·rename_i c
  show (φT d (φ25 n)).2=0
  rw[φ47 h hf]
  unfold φ25
  rcases φu d.1 n with ⟨e,_⟩ | ⟨i,hi,e,_⟩
  ·rw[e] at c;simp at c
  ·rw[φ16 e]
 ·rfl
theorem φ9U:∀(names:List (List UInt8)) {w:φE},φ3 w.1=true→Free w.1→w.2=0→(φm names w).2=0
 | [],w,_,_,h=>h
 | n::names,w,hk,hf,h=>by
  have e:φ9 (φB n) w=φB n w.1:=by unfold φ9;rw[if_pos h]
  show (φm names (φ9 (φB n) w)).2=0
  rw[e]
  exact φ9U names (φ2L hk n) (φ56 (P:=Free) (fun d act k=>φ1J k) n hf) (φBI hk hf n)
theorem φD9 {id mark:Int}:∀(l:List φ1l) (p:Option (List UInt8)),(∀x∈l,x.2.2.1=4∧x.2.2.2.1≤mark)→srt (l.map (entS id))→(∀q,p=some q→∀x∈l,Op.bytesLess q x.2.2.2.2.1=true)→φ2e mark p l=true
 | [],_,_,_,_=>rfl
 | x::l,p,h,hs,hp=>by
  obtain ⟨h4,hb⟩:=h x (by simp)
  obtain ⟨s1,s2⟩:=κZ.1 hs
  simp only[φ2e,bA,beq_iff_eq,κM,decide_eq_false_iff_not]
  refine ⟨h4,by omega,?_,φD9 l _ (fun y hy=>h y (by simp[hy])) s2 fun q hq y hy=>?_⟩
  ·cases p with
   | none=>rfl
   | some q=>exact hp q rfl x (by simp)
  ·simp only[Option.some.injEq] at hq
   subst hq
   exact s1 (entS id y) (mM.2 ⟨y,hy,rfl⟩)
theorem φMC {id:Int} {t:List UInt8} {l:List φ1l} {z:φ1l} (hs:scan t=(l++[z],t.length)) (hi:1≤id∧id≤100000) (z5:z.2.2.1=5) (hf:φ3Q z.2.2 (l.map (·.2.2))=true) (hr:φ2e z.2.2.2.1 none l=true) :
  φ15 id t=(((t.length:Int),z.2.2.2.1,l.map (entS id)),true):=by
 unfold φ15
 have e1:(l++[z]).length - 1=l.length:=by simp
 have e2:(l++[z]).getD l.length φ2K=z:=by simp
 have e3:(l++[z]).take l.length=l:=by simp
 simp only[hs,e1,e2,e3]
 rw[if_neg]
 simp only[not_or,Bool.not_eq_false,ne_eq,Decidable.not_not]
 exact ⟨by simp,trivial,hi,z5,hf,hr⟩
theorem φHu (m:Int):∀(recs:List RecT) (a:Nat),(∀r∈recs,r.1=4)→φw m (a:Int) recs=(φ1U a recs).map (entS m)
 | [],_,_=>rfl
 | r::recs,a,h=>by
  have h4:=h r (by simp)
  have ih:=φHu m recs (a+(fr r).length) fun x hx=>h x (by simp[hx])
  rw[φw,if_pos h4,φ1U,κ5,←ih]
  have:((a+(fr r).length:Nat):Int)=(a:Int)+((frame (φ7 r)).length:Int):=by simp only[fr];omega
  rw[this]
  rfl
theorem φD5 {p:RecT→Prop}:∀(recs:List RecT) (a:Nat),(∀r∈recs,p r)→∀x∈φ1U a recs,p x.2.2
 | [],_,_,x,hx=>by simp[φ1U] at hx
 | r::recs,a,h,x,hx=>by
  rw[φ1U] at hx
  rcases mc.1 hx with rfl | hx
  ·exact h r (by simp)
  ·exact φD5 recs _ (fun y hy=>h y (by simp[hy])) x hx
theorem φG6:∀(recs:List RecT) (a:Nat),∀x∈φ1U a recs,x.1≤((a+(txt recs).length:Nat):Int)
 | [],_,x,hx=>by simp[φ1U] at hx
 | r::recs,a,x,hx=>by
  rw[φ1U] at hx
  rw[φ3A,lA]
  rcases mc.1 hx with rfl | hx
  ·show (a:Int)≤_
   omega
  ·have:=φG6 recs _ x hx
   omega
theorem φEV {s S:φ8} {d y:φ1} (h:φf s d=true) (h2:s.1.1+2≤100000) (hM:Merged s d (φU s d).1 S y) :
  φ15 s.1.1 (txt (φX (φU s d).1 (s.2.2.1 - 1)))=((((txt (φX (φU s d).1 (s.2.2.1 - 1))).length:Int),s.2.2.1 - 1,S.2.1),true)∧φ2W (((txt (φX (φU s d).1 (s.2.2.1 - 1))).length:Int),s.2.2.1 - 1,S.2.1)=true:=by
 obtain ⟨m1,m2,m3,m4⟩:=φ8Y h h2 hM
 obtain ⟨q1,q2,q3,q4,q5,q6⟩:=φg.1 h
 obtain ⟨k1,k2,k3,k4⟩:=(φ13 s.1).1 q2
 have hkeep:=φER h
 have hbat:=φD8 h
 have hl20:(φU s d).1.length≤20:=by have:=φ7d s d;have:=(φ44 q3).1;omega
 have hdir:=(φg.1 m1).2.2.1
 have hone:=hM.one
 have htl:=φ6Y hM.dk (φ0 s.1.1)
 rw[hone] at htl
 have hst:=hM.st
 generalize (φU s d).1=l at *
 have hents:S.2.1=(φ1U 0 (l.map φR)).map (entS s.1.1):=by
  rw[hst]
  show φw s.1.1 0 (φX l (s.2.2.1 - 1))=_
  have e:φw s.1.1 0 (φX l (s.2.2.1 - 1))=φw s.1.1 0 (l.map φR):=φ9H s.1.1 _ (show (5:Int)≠4 by decide) _ _
  rw[e]
  exact φHu s.1.1 (l.map φR) 0 fun r hr=>(hkeep r hr).2
 have hmk:φZ (5,s.2.2.1 - 1,[],[],(l.length:Int),φ1j (l.map φR))=true:=φGE (by omega) (by omega) (φ51 _)
 have hall:∀r∈φX l (s.2.2.1 - 1),φZ r=true:=fun r hr=>by
  unfold φX at hr
  rcases mA.1 hr with hr | hr
  ·exact (hkeep r hr).1
  ·rw[mZ.1 hr];exact hmk
 have hsc:=φ8k hall
 have hk:∀x∈φ1U 0 (l.map φR),x.2.2.1=4∧x.2.2.2.1≤s.2.2.1 - 1:=φD5 (p:=fun r=>r.1=4∧r.2.1≤s.2.2.1 - 1) (l.map φR) 0 fun r hr=>by
  refine ⟨(hkeep r hr).2,?_⟩
  obtain ⟨p,hp,rfl⟩:=mM.1 hr
  have:=hbat p hp
  show p.2.2≤_
  omega
 have hsrt:srt ((φ1U 0 (l.map φR)).map (entS s.1.1)):=by rw[←hents];exact φ5p hdir
 refine ⟨?_,?_⟩
 ·rw[hents]
  refine φMC (id:=s.1.1) (l:=φ1U 0 (l.map φR)) (z:=(((0+(txt (l.map φR)).length:Nat):Int),((fr (5,s.2.2.1 - 1,[],[],(l.length:Int),φ1j (l.map φR))).length:Int),(5,s.2.2.1 - 1,[],[],(l.length:Int),φ1j (l.map φR)))) ?_ ⟨by omega,by omega⟩ rfl ?_ ?_
  ·rw[hsc]
   unfold φX
   rw[φB7]
   rfl
  ·rw[φDJ]
   unfold φ3Q
   simp
  ·exact φD9 (id:=s.1.1) _ none hk hsrt fun q hq=>by simp at hq
 ·unfold φ2W
  simp only[bA,decide_eq_true_eq]
  have hlen:((txt (φX l (s.2.2.1 - 1))).length:Int)≤100000:=by simp only at htl;omega
  refine ⟨κT.2 fun e he=>?_,⟨Int.natCast_nonneg _,hlen⟩,⟨by show 0≤s.2.2.1 - 1;omega,by show s.2.2.1 - 1≤1000000;omega⟩,hdir⟩
  have he:e∈S.2.1:=he
  have hseg:∀e∈S.2.1,e.2.1=s.1.1∧e.2.2.1≤100000:=fun e he=>by
   rw[hents] at he
   obtain ⟨x,hx,rfl⟩:=mM.1 he
   refine ⟨rfl,?_⟩
   have:=φG6 (l.map φR) 0 x hx
   have hle:(txt (l.map φR)).length≤(txt (φX l (s.2.2.1 - 1))).length:=by
    unfold φX;rw[φIw,lA];omega
   show x.1≤100000
   omega
  have hpos:=List.length_pos_of_mem he
  have hg:(S.2.1.getD 0 ([],0,0,0,0)).2.1=s.1.1:=by
   rw[φD hpos];exact (hseg _ (gM hpos)).1
  unfold φ4e
  simp only
  rw[hg,(hseg e he).1]
  have:=(hseg e he).2
  simp;omega
theorem Free.up {d:φ1} (h:Free d):d.2.2.2=false:=by rw[show d.2.2=(-1,false) from h]
theorem φJA {d:φ1} (h:φ3 d=true) {l:List φ4} (hs:l.Sublist d.1):φ3 (l,d.2)=true:=by
 obtain ⟨h1,h2,h3,h4,h5,h6⟩:=(φ3T d).1 h
 have hl:=hs.length_le
 have hu:φI l≤φI d.1:=φ6U _ hs
 rw[φ3T]
 exact ⟨h1,h2,by show l.length≤_;omega,by show (φI l:Int)≤d.2.1;omega,fun f hf=>h5 f (hs.subset hf),h6.sublist hs⟩
theorem φJd {l:List φ4} (hp:l.Pairwise fun a b=>Op.bytesLess a.1 b.1=true) {i:Nat} (hi:i<l.length):∀j,(hj:j<l.length)→j≠i→l[j].1≠l[i].1:=fun j hj hne e=>by
 rcases Nat.lt_or_gt_of_ne hne with h | h
 ·have:=List.pairwise_iff_getElem.1 hp j i hj hi h
  rw[e,φ4s] at this;simp at this
 ·have:=List.pairwise_iff_getElem.1 hp i j hi hj h
  rw[e,φ4s] at this;simp at this
theorem φJb {l:List φ4} (hp:l.Pairwise fun a b=>Op.bytesLess a.1 b.1=true) {i:Nat} (hi:i<l.length) {n:List UInt8} (hn:l[i].1=n) (g:φ4→φ4):l.set i (g l[i])=l.map fun f=>if f.1=n then g f else f:=by
 refine List.ext_getElem (by simp) fun j h1 h2=>?_
 rw[List.getElem_map,List.getElem_set]
 have hj:j<l.length:=by simpa using h1
 by_cases c:i=j
 ·subst c;rw[if_pos rfl,if_pos hn]
 ·rw[if_neg c,if_neg]
  intro e
  exact φJd hp hi j hj (fun e2=>c e2.symm) (e.trans hn.symm)
theorem φI1 {l:List φ4} (hp:l.Pairwise fun a b=>Op.bytesLess a.1 b.1=true) {i:Nat} (hi:i<l.length) {n:List UInt8} (hn:l[i].1=n):φb l i=l.filter fun f=>!(f.1==n):=by
 induction l generalizing i with
 | nil=>simp at hi
 | cons x l ih=>
  obtain ⟨h1,h2⟩:=κZ.1 hp
  cases i with
  | zero=>
   have hx:x.1=n:=hn
   have e:l.filter (fun f=>!(f.1==n))=l:=List.filter_eq_self.2 fun f hf=>by
    have:=φ6L (h1 f hf)
    simp only[κM,beq_eq_false_iff_ne,ne_eq]
    intro e;exact this (hx.trans e.symm)
   rw[List.filter_cons_of_neg (by simp[hx]),e]
   simp[φb]
  | succ i=>
   have hi':i<l.length:=by simpa using hi
   have hx:x.1≠n:=fun e=>by
    have:=h1 l[i] (gM hi')
    have hn:l[i].1=n:=hn
    rw[e,hn,φ4s] at this;simp at this
   rw[List.filter_cons_of_pos (by simpa using hx),←ih h2 hi' hn]
   simp[φb]
def φ6n (f:φ4):φ4:=(f.1,f.2.1,(f.2.1.length:Int))
def onF (n:List UInt8) (g:φ4→φ4) (l:List φ4):List φ4:=l.map fun f=>if f.1=n then g f else f
theorem φD0 {d:φ1} (h:φ3 d=true) (hf:Free d) {n:List UInt8} (hn:(φ2 d n).2=true):φG n d=((onF n φ6n d.1,d.2),0):=by
 obtain ⟨i,hi,e,hx,_⟩:=φ50 hn
 show φT d (φ26 n)=_
 rw[φ47 h hf]
 unfold φ26
 rw[e]
 simp only[φD hi]
 congr 2
 exact φJb (φ5i h) hi hx φ6n
theorem φJV {d:φ1} (h:φ3 d=true) (hf:Free d) (n:List UInt8):φB n d=((d.1.filter (fun f=>!(f.1==n)),d.2),0):=by
 unfold φB
 rcases φu d.1 n with ⟨e,hno⟩ | ⟨i,hi,e,hx⟩
 ·rw[e,if_neg (by simp)]
  have:d.1.filter (fun f=>!(f.1==n))=d.1:=List.filter_eq_self.2 fun f hf=>by simpa using hno f hf
  rw[this]
 ·rw[e,if_pos (by omega)]
  show φT d (φ25 n)=_
  rw[φ47 h hf]
  unfold φ25
  rw[φ16 e]
  simp only
  rw[φI1 (φ5i h) hi hx]
theorem φH0:∀(names:List (List UInt8)) {d:φ1},φ3 d=true→Free d→φm names (d,0)=((d.1.filter (fun f=>!(names.any fun n=>f.1==n)),d.2),0)
 | [],d,_,_=>by
  show (d,(0:Int))=_
  have:d.1.filter (fun f=>!(([]:List (List UInt8)).any fun n=>f.1==n))=d.1:=List.filter_eq_self.2 fun f hf=>by simp
  rw[this]
 | n::names,d,h,hf=>by
  show φm names (φ9 (φB n) (d,0))=_
  have e:φ9 (φB n) (d,0)=φB n d:=by unfold φ9;rw[if_pos rfl]
  rw[e,φJV h hf,φH0 names (φJA h List.filter_sublist) hf]
  simp only[List.filter_filter]
  congr 2
  refine List.filter_congr fun f _=>?_
  simp[Bool.not_or,Bool.and_comm]
theorem φAI {d:φ1} (h:φ3 d=true) (hf:Free d) (v:φP):φs v d=((d.1.filter (fun f=>!φ4d v f),d.2),0):=by
 unfold φs
 rw[φH0 _ h hf]
 congr 2
 refine List.filter_congr fun f hf=>?_
 unfold φ3M
 rw[if_neg (by rw[h];simp)]
 congr 1
 have hB:∀g:φ4,g.1=f.1→φ4d v g=φ4d v f:=fun g e=>by unfold φ4d;rw[e]
 cases ho:φ4d v f with
 | true=>
  refine List.any_eq_true.2 ⟨f.1,mM.2 ⟨f,List.mem_filter.2 ⟨hf,ho⟩,rfl⟩,by simp⟩
 | false=>
  refine List.any_eq_false.2 fun n hn=>?_
  obtain ⟨g,hg,rfl⟩:=mM.1 hn
  intro e
  have e:f.1=g.1:=by simpa using e
  have:=hB g e.symm
  rw[(List.mem_filter.1 hg).2,ho] at this
  simp at this
theorem φNB {v:φP} (h:φl v=true):∃r,v.2=v.2.getD 0 0::r∧v.2.drop 1=r∧(1≤v.2.getD 0 0∧v.2.getD 0 0≤100000):=by
 have hr:=fun id=>φB4 (id:=id) h
 obtain ⟨k1,k2,k3,k4⟩:=(φ13 v).1 h
 obtain ⟨a,l⟩:=v
 cases l with
 | nil=>simp at k3
 | cons i r=>
  have:=hr i (by simp)
  exact ⟨r,rfl,rfl,this.1,this.2.1⟩
theorem φGB {v:φP} {d:φ1} (h:φ3 d=true) (hl:(φ2 d (φ0 (φM v.2))).2=true) (hc:(cutW v d).2=0) (ids:List Int):φS (cutW v d).1 ids=φS d ids:=by
 unfold φS
 congr 1
 funext id
 exact φDB h hl hc id
theorem φMo {v:φP} {d:φ1} (h:φ3 d=true) (hv:φl v=true) (hl:(φ2 d (φ0 (φM v.2))).2=true) (hc:(cutW v d).2=0) :
  ∃hin,φ4k v d=φ4q v (cutW v d).1 (cutN v d:Int) (φ2E ([],0,0) (φS d v.2)) hin∧(φ3B (cutW v d).1 (v.2.getD 0 0)=none→hin=0):=by
 rw[φDF,if_neg (by rw[hc];simp)]
 obtain ⟨r,er,ed,hr⟩:=φNB hv
 cases hg:φ3B (cutW v d).1 (v.2.getD 0 0) with
 | none=>
  refine ⟨0,?_,fun _=>rfl⟩
  simp only
  rw[φGB h hl hc]
 | some g=>
  refine ⟨v.2.getD 0 0,?_,fun e=>by simp at e⟩
  simp only
  congr 1
  have e1:=φGB h hl hc v.2
  unfold φ3B at hg
  split at hg
  ·rename_i c
   obtain ⟨_,c2,c3⟩:=c
   rcases φGv (φ2 (cutW v d).1 (φK (v.2.getD 0 0))).1 with ⟨e,_⟩ | ⟨H,e,hH⟩
   ·rw[e] at c2;simp at c2
   rw[e] at hg c3
   simp only[Option.some.injEq] at hg
   have c3:φ15 (v.2.getD 0 0) (φ2 (cutW v d).1 (φ0 (v.2.getD 0 0))).1=(H,true):=by
    unfold φ70 at c3
    simpa using c3
   have hok:=hH.1
   unfold φ2W at hok
   simp only[bA,decide_eq_true_eq] at hok
   have:=φJ5 c3 hok.2.2.2 hok.2.2.1.1 (φS (cutW v d).1 (v.2.drop 1))
   rw[←hg,←this,←e1]
   conv=>rhs;rw[er]
   rw[ed]
   rfl
  ·simp at hg
theorem φLY {t:List UInt8} (h:φ2V t) {r:RecT} (hr:φZ r=true):(scan (t++fr r)).1=(scan t).1++[((t.length:Int),((fr r).length:Int),r)]:=by
 obtain ⟨rs,h1,rfl⟩:=(φ9X t).1 h
 have h2:∀x∈rs++[r],φZ x=true:=fun x hx=>by
  rcases mA.1 hx with hx | hx
  ·exact h1 x hx
  ·rw[mZ.1 hx];exact hr
 have e:=φ8k h2
 rw[φCN] at e
 rw[e,φ8k h1,φB7]
 simp[φ1U]
theorem φA5 (d:φ1) (a b:List Int):φS d (a++b)=φS d a++φS d b:=κI
theorem φ9l (d:φ1) (i:Int):φS d [i]=φ11 d i:=by unfold φS;simp
theorem φ5a {d d':φ1} {ids:List Int} (h:∀id∈ids,φ2 d' (φ0 id)=φ2 d (φ0 id)):φS d' ids=φS d ids:=by
 induction ids with
 | nil=>rfl
 | cons i ids ih=>
  have e1:φS d' (i::ids)=φ11 d' i++φS d' ids:=by unfold φS;simp
  have e2:φS d (i::ids)=φ11 d i++φS d ids:=by unfold φS;simp
  rw[e1,e2,ih fun id hid=>h id (by simp[hid])]
  unfold φ11
  rw[h i (by simp)]
theorem φMX {l:List Int} (h:l≠[]):l=l.take (l.length - 1)++[φM l]:=by
 have hl:l.length - 1<l.length:=by have:=List.length_pos_iff.2 h;omega
 unfold φM
 rw[φD hl]
 have:=κ4 hl
 rw[show l.length - 1+1=l.length by omega,κW] at this
 exact this
theorem φN6 {d d':φ1} {ids:List Int} (hne:ids≠[]) (hp:ids.Pairwise (·<·)) {r:RecT} (hr:φZ r=true) (hw:φ2V (φ2 d (φ0 (φM ids))).1)
  (h1:φ2 d' (φ0 (φM ids))=((φ2 d (φ0 (φM ids))).1++fr r,true)) (h2:∀id∈ids,id≠φM ids→φ2 d' (φ0 id)=φ2 d (φ0 id)) :
  φS d' ids=φS d ids++[((φM ids,((φ2 d (φ0 (φM ids))).1.length:Int),((fr r).length:Int),r):φF)]:=by
 have e:=φMX hne
 have hin:∀id∈ids.take (ids.length - 1),id≠φM ids∧id∈ids:=fun id hid=>by
  rw[e] at hp
  have:=(κf.1 hp).2.2 id hid (φM ids) (by simp)
  exact ⟨by omega,κV hid⟩
 have e3:φS d' (ids.take (ids.length - 1))=φS d (ids.take (ids.length - 1)):=φ5a fun id hid=>h2 id (hin id hid).2 (hin id hid).1
 have e4:φ11 d' (φM ids)=φ11 d (φM ids)++[((φM ids,((φ2 d (φ0 (φM ids))).1.length:Int),((fr r).length:Int),r):φF)]:=by
  unfold φ11
  rw[h1,φLY hw hr,mp]
  rfl
 conv=>lhs;rw[e]
 conv=>rhs;rw[e]
 rw[φA5,φA5,e3,φ9l,φ9l]
 have e5:φM (ids.take (ids.length - 1)++[φM ids])=φM ids:=φON _ _
 rw[e5,e4,aA]
def φJN (s:φ8) (d:φ1):Prop:=∃nx,nx≤s.1.1∧φl (nx,s.1.2)=true∧φ2 d φa=(φn (nx,s.1.2),true)
structure JB (s:φ8) (d:φ1):Prop where
 ok:φf s d=true
 lt:φ3s s
 liv:φJN s d
 fre:Free d
structure Grow (s:φ8) (d:φ1) (s':φ8) (d':φ1) (P:List φF):Prop where
 jb:JB s' d'
 dir:s'.2.1=s.2.1
 bat:s'.2.2.1=s.2.2.1
 pl:φS d' s'.1.2=φS d s.1.2++P
 kp:φ31 s.1.1 d d'
 nxt:s.1.1≤s'.1.1
theorem Grow.refl {s:φ8} {d:φ1} (h:JB s d):Grow s d s d []:=⟨h,rfl,rfl,by simp,fun _ _ _ _=>rfl,κO _⟩
theorem Grow.trans {s s' s'':φ8} {d d' d'':φ1} {P Q:List φF} (h:Grow s d s' d' P) (k:Grow s' d' s'' d'' Q):Grow s d s'' d'' (P++Q):=
 ⟨k.jb,by rw[k.dir,h.dir],by rw[k.bat,h.bat],by rw[k.pl,h.pl,aA],h.kp.trans k.kp h.nxt,by have:=h.nxt;have:=k.nxt;omega⟩
theorem φM9 {d:φ1} (h:φ3 d=true) (hf:Free d) (n t:List UInt8) (hc:(φL n t d).2≠0):(φL n t d).1=d:=by
 unfold φL at hc ⊢
 rw[φ47 h hf] at hc ⊢
 unfold φ2R at hc ⊢
 cases e:d.1.findIdx? (fun f=>f.1==n) with
 | none=>rfl
 | some i=>
  rw[e] at hc
  simp only at hc ⊢
  split
  ·rfl
  ·rename_i c
   rw[if_neg c] at hc
   exact absurd rfl hc
theorem φFh {v:φP} {w:φE} (h:φ3 w.1=true) (hf:Free w.1) (hc:(sPut v w).2≠0):φ2 (sPut v w).1 φa=φ2 w.1 φa:=by
 have hk:=φ4Z h [116,101,109,112] (φn v)
 have hF:Free (φ1P [116,101,109,112] (φn v) w).1:=φ8z (P:=Free) (fun d act k=>φ1J k) _ _ hf
 have e1:φ2 (φ1P [116,101,109,112] (φn v) w).1 φa=φ2 w.1 φa:=φ5F h (show φa≠[116,101,109,112] by decide)
 unfold sPut at hc ⊢
 unfold φ9 at hc ⊢
 by_cases c:(φ1P [116,101,109,112] (φn v) w).2=0
 ·rw[if_pos c] at hc
  exfalso
  obtain ⟨_,ht⟩:=φ9R c
  obtain ⟨i,hi,e,hx,_⟩:=φ50 (by rw[ht])
  apply hc
  show (φT _ (φ2J [116,101,109,112] [108,105,118,101])).2=0
  rw[φ47 hk hF]
  unfold φ2J
  rw[if_neg (by decide),e]
 ·rw[if_neg c]
  exact e1
theorem φDK {hi hi':Int} (h1:hi≤hi'):∀(l:List Int) (p:Option Int),φ1f hi p l=true→φ1f hi' p l=true
 | [],p,h=>h
 | x::l,p,h=>by
  simp only[φ1f,bA,decide_eq_true_eq] at h ⊢
  exact ⟨⟨h.1.1,by omega⟩,h.2.1,φDK h1 l _ h.2.2⟩
theorem φGd {a b:Int} {ids:List Int} (h:φl (a,ids)=true) (hab:a≤b) (hb:b≤100000):φl (b,ids)=true:=by
 obtain ⟨k1,k2,k3,k4⟩:=(φ13 (a,ids)).1 h
 have k2:1≤a∧a≤100000:=k2
 rw[φH (by simp only;omega) (by simp only;omega)] at k1
 refine (φ13 (b,ids)).2 ⟨?_,⟨by show 1≤b;omega,hb⟩,k3,k4⟩
 rw[φH (by simp only;omega) (by simp only;omega)]
 exact φDK (by simp only;omega) _ _ k1
theorem φLc {s:φ8} {d:φ1} (h:JB s d) (hc:(rotP s d).2.2≠0):(rotP s d).1.1.2=s.1.2∧(rotP s d).1.2=s.2∧s.1.1≤(rotP s d).1.1.1∧(rotP s d).1.1.1≤100000∧φ2 (rotP s d).2.1 φa=φ2 d φa:=by
 obtain ⟨q1,q2,q3,q4,q5,q6⟩:=φg.1 h.ok
 obtain ⟨k1,k2,k3,k4⟩:=(φ13 s.1).1 q2
 have hF:=h.fre
 obtain ⟨g1,g2⟩:=(φ1s _).1 q5
 have hex:(φ2 d (actN s)).2=true:=(g1 _ (φ37 (φ3J q2))).1
 have hs:=φ3K q1 (actN s)
 have hsF:Free (φG (actN s) d).1:=φ1J hF
 have hs0:=φ7U q1 hF hex
 have hg:=φ2L hs (φ0 s.1.1)
 have hgF:Free (φB (φ0 s.1.1) (φG (actN s) d).1).1:=φ56 (P:=Free) (fun d act k=>φ1J k) _ hsF
 have hcd:φ3 (φ9 (φV (φ0 s.1.1)) (φB (φ0 s.1.1) (φG (actN s) d).1)).1=true:=φ1m (op:=φV _) hg fun k=>φ34 k _
 have hcF:Free (φ9 (φV (φ0 s.1.1)) (φB (φ0 s.1.1) (φG (actN s) d).1)).1:=φ3d (P:=Free) (fun d act k=>φ1J k) (fun d k=>φ1J k) hgF
 have hl1:φ2 (φ9 (φV (φ0 s.1.1)) (φB (φ0 s.1.1) (φG (actN s) d).1)).1 φa=φ2 d φa:=by
  rw[φ2g (op:=φV _) (φ9v hg (φ2d _).symm),φ4o hs (φ2d _).symm,φ2I q1]
 unfold rotP at hc ⊢
 split
 ·exact ⟨rfl,rfl,κO _,k2.2,rfl⟩
 rename_i c0
 rw[if_neg c0] at hc
 rw[if_neg (by rw[hs0];simp)] at hc ⊢
 simp only at hc ⊢
 split
 ·refine ⟨rfl,rfl,by show s.1.1≤s.1.1+1;omega,by show s.1.1+1≤100000;omega,hl1⟩
 rename_i c2
 rw[if_neg c2] at hc
 split
 ·rename_i c3
  refine ⟨rfl,rfl,by show s.1.1≤s.1.1+1;omega,by show s.1.1+1≤100000;omega,?_⟩
  generalize (φ9 (φV (φ0 s.1.1)) (φB (φ0 s.1.1) (φG (actN s) d).1))=w2 at *
  have c3':(sPut (s.1.1+1,s.1.2++[s.1.1]) (w2.1,0)).2≠0:=fun e=>c3 ((φ1C _).2 e)
  have hp:=φ3f (v:=(s.1.1+1,s.1.2++[s.1.1])) (w:=(w2.1,0)) hcd
  rw[φ8J (w:=φA (sPut (s.1.1+1,s.1.2++[s.1.1]) (w2.1,0))) hp (fun m hm=>by
   simp only[mc,List.not_mem_nil,or_false] at hm
   rcases hm with rfl | rfl
   ·decide
   ·exact (φ2d _).symm)]
  show φ2 (sPut (s.1.1+1,s.1.2++[s.1.1]) (w2.1,0)).1 φa=_
  rw[φFh (w:=(w2.1,0)) hcd hcF c3']
  exact hl1
 ·rename_i c3
  rw[if_neg c3] at hc
  exact absurd rfl hc
theorem φI0 {s:φ8} {d:φ1} (hF:Free d):Free (rotP s d).2.1:=by
 have hsF:Free (φG (actN s) d).1:=φ1J hF
 have hgF:Free (φB (φ0 s.1.1) (φG (actN s) d).1).1:=φ56 (P:=Free) (fun d act k=>φ1J k) _ hsF
 have hcF:Free (φ9 (φV (φ0 s.1.1)) (φB (φ0 s.1.1) (φG (actN s) d).1)).1:=φ3d (P:=Free) (fun d act k=>φ1J k) (fun d k=>φ1J k) hgF
 have hpF:Free (sPut (s.1.1+1,s.1.2++[s.1.1]) ((φ9 (φV (φ0 s.1.1)) (φB (φ0 s.1.1) (φG (actN s) d).1)).1,0)).1:=φ6q (P:=Free) (fun d act k=>φ1J k) _ hcF
 unfold rotP
 split
 ·exact hF
 split
 ·exact hsF
 simp only
 split
 ·exact hcF
 split
 ·unfold φ1d
  have:=φ5M (P:=Free) (fun d act k=>φ1J k) [[116,101,109,112],φ0 s.1.1] (w:=((φA (sPut (s.1.1+1,s.1.2++[s.1.1]) ((φ9 (φV (φ0 s.1.1)) (φB (φ0 s.1.1) (φG (actN s) d).1)).1,0))).1,0)) hpF
  split
  ·split
   ·exact this
   ·exact this
  ·exact hpF
 ·exact hpF
theorem φCq {s:φ8} {d:φ1} (h:φ3 d=true) (hc:(rotP s d).2.2=0):φ2 (rotP s d).2.1 φa=(φn (s.1.1+1,s.1.2++[s.1.1]),true):=by
 unfold rotP at hc ⊢
 split
 ·rename_i c;rw[if_pos c] at hc;simp at hc
 rename_i c0
 rw[if_neg c0] at hc
 split
 ·rename_i c;rw[if_pos c] at hc;exact absurd ((φ1C _).1 hc) c
 rename_i c1
 rw[if_neg c1] at hc
 simp only at hc ⊢
 split
 ·rename_i c;rw[if_pos c] at hc;exact absurd ((φ1C _).1 hc) c
 rename_i c2
 rw[if_neg c2] at hc
 split
 ·rename_i c
  rw[if_pos c] at hc
  exfalso
  revert hc
  unfold φ1d
  split
  ·split
   ·simp
   ·rename_i c4;exact c4
  ·exact c
 ·rename_i c
  have c:(sPut (s.1.1+1,s.1.2++[s.1.1]) ((φ9 (φV (φ0 s.1.1)) (φB (φ0 s.1.1) (φG (actN s) d).1)).1,0)).2=0:=(φ1C _).1 (Decidable.not_not.1 c)
  exact (φE1 c).2
theorem φAl {s:φ8} {d:φ1} (h:JB s d):Grow s d (rotP s d).1 (rotP s d).2.1 []:=by
 obtain ⟨q1,q2,q3,q4,q5,q6⟩:=φg.1 h.ok
 obtain ⟨k1,k2,k3,k4⟩:=(φ13 s.1).1 q2
 rw[φH (by omega) (by omega)] at k1
 have hids:=φ3q _ _ k1
 obtain ⟨r1,r2,r3,r4,r5,r6⟩:=φ7y q1 q2
 have hkp:=φDo (s:=s) q1 k2.2
 have hft:∀id∈s.1.2,φ2 (rotP s d).2.1 (φ0 id)=φ2 d (φ0 id):=fun id hid=>by
  have:=hids id hid
  rcases φ88 (s:=s) q1 with ⟨_,e2⟩ | ⟨_,_,e2⟩
  ·exact e2 _
  ·exact e2 _ (fun hh=>by have:=φ3x (by omega) (by omega) hh;omega) (φ4G _) (φ2d _)
 have hpl:=φ5a hft
 by_cases c:(rotP s d).2.2=0
 ·have hx:∀e∈s.2.1,e.2.1≠s.1.1:=fun e he=>by have:=h.lt e he;omega
  obtain ⟨e1,e2,e3,e4⟩:=φ7o q1 c
  refine ⟨⟨(φE2 h.ok hx c).1,fun e he=>?_,⟨s.1.1+1,by rw[e1];exact κO _,by rw[e1];have:=r5 c;rw[e1] at this;exact this,by rw[φCq q1 c,e1]⟩,φI0 h.fre⟩,r3,r4,?_,hkp,by rw[e1];show s.1.1≤s.1.1+1;omega⟩
  ·rw[r3] at he
   have:=h.lt e he
   rw[e1];show e.2.1<s.1.1+1;omega
  ·have ei:(rotP s d).1.1.2=s.1.2++[s.1.1]:=by rw[e1]
   rw[ei,φA5,hpl,φ9l]
   unfold φ11
   rw[e2,φ6v]
   rfl
 ·obtain ⟨f1,f2,f3,f4,f5⟩:=φLc h c
  obtain ⟨nx,n1,n2,n3⟩:=h.liv
  have hlv:φl (rotP s d).1.1=true:=by
   have:=φGd (a:=s.1.1) (ids:=s.1.2) q2 f3 f4
   rw[←f1] at this
   exact this
  refine ⟨⟨φg.2 ⟨r1,hlv,by rw[f2];exact q3,by rw[f2];exact q4,?_,?_⟩,fun e he=>?_,⟨nx,by omega,by rw[f1];exact n2,by rw[f5,f1];exact n3⟩,φI0 h.fre⟩,by rw[f2],by rw[f2],by rw[f1,hpl];simp,hkp,f3⟩
  ·rw[f2,f1]
   obtain ⟨g1,g2⟩:=(φ1s _).1 q5
   refine (φ1s _).2 ⟨fun id hid=>by rw[hft id hid];exact g1 id hid,fun hne=>by rw[hft _ (φ37 hne)];exact g2 hne⟩
  ·rw[f2]
   exact φ76 h.ok hkp h.lt (κO _)
  ·rw[f2] at he
   have:=h.lt e he
   omega
def entP (p:φF):φC:=(p.2.2.2.2.2.1,p.1,p.2.1,p.2.2.1,p.2.2.2.2.1)
theorem φCM {s:φ8} {d:φ1} {r:RecT} (h:JB s d) (hr:φZ r=true) :
  ((addP s d r).2.2.1=0→∃p:φF,Grow s d (addP s d r).1 (addP s d r).2.1 [p]∧p.2.2.2=r∧(addP s d r).2.2.2=entP p) ∧
  ((addP s d r).2.2.1≠0→Grow s d (addP s d r).1 (addP s d r).2.1 []):=by
 have hR:Grow s d (addR s d (frame (φ7 r))).1 (addR s d (frame (φ7 r))).2.1 []:=by
  unfold addR
  split
  ·exact φAl h
  ·exact Grow.refl h
 unfold addP
 generalize addR s d (frame (φ7 r))=R at *
 simp only
 by_cases c:R.2.2=0
 rotate_left
 ·rw[if_pos c]
  exact ⟨fun e=>absurd e c,fun _=>hR⟩
 rw[if_neg (by simpa using c)]
 have hJ:=hR.jb
 obtain ⟨q1,q2,q3,q4,q5,q6⟩:=φg.1 hJ.ok
 by_cases c2:(φL (actN R.1) (frame (φ7 r)) R.2.1).2=0
 rotate_left
 ·rw[if_pos c2]
  refine ⟨fun e=>absurd ((φ1C _).1 e) c2,fun _=>?_⟩
  show Grow s d R.1 (φL (actN R.1) (frame (φ7 r)) R.2.1).1 []
  rw[φM9 q1 hJ.fre _ _ c2]
  exact hR
 rw[if_neg (by simpa using c2)]
 refine ⟨fun _=>?_,fun e=>absurd rfl e⟩
 obtain ⟨a1,a2,a3⟩:=φHE hJ.ok hr c2
 obtain ⟨b1,b2⟩:=φ4A c2
 obtain ⟨g1,g2⟩:=(φ1s _).1 q5
 have hne:=φ3J q2
 have hl:=φBl q2
 have hlt:∀id∈R.1.1.2,1≤id∧id≤100000:=fun id hid=>by have:=φB4 q2 hid;omega
 obtain ⟨nx,n1,n2,n3⟩:=hJ.liv
 have hsz:=g2 hne
 have hpm:=φN6 (d:=R.2.1) (d':=(φL (actN R.1) (frame (φ7 r)) R.2.1).1) hne (φLj q2) hr (g1 _ (φ37 hne)).2 b2 (fun id hid hne2=>φ5l q1 (fun hh=>hne2 (φ3x (hlt id hid) ⟨hl.1,hl.2.2⟩ hh)))
 refine ⟨(φM R.1.1.2,((φ2 R.2.1 (φ0 (φM R.1.1.2))).1.length:Int),((fr r).length:Int),r),?_,rfl,?_⟩
 ·refine Grow.trans (P:=[]) hR ⟨⟨a1,hJ.lt,⟨nx,n1,n2,?_⟩,φ1J hJ.fre⟩,rfl,rfl,hpm,fun e h1 h2 h3=>a2 e h1 (by have:=(φ13 _).1 q2;omega) h3,κO _⟩
  show φ2 (φL (actN R.1) (frame (φ7 r)) R.2.1).1 φa=_
  rw[φ5l q1 (show φa≠actN R.1 from (φ2d _).symm)]
  exact n3
 ·unfold entP
  rw[hsz]
  rfl
theorem φ6y:∀(rs:List RecT) (s:φ8) (d:φ1),JB s d→(∀r∈rs,φZ r=true)→∃P:List φF,Grow s d (φd rs s d).1 (φd rs s d).2.1 P∧P.map (·.2.2.2)=rs.take P.length∧P.length≤rs.length ∧
  ((φd rs s d).2.2.1=0→P.length=rs.length∧(φd rs s d).2.2.2=P.map entP)∧((φd rs s d).2.2.1≠0→P.length<rs.length)
 | [],s,d,h,_=>⟨[],Grow.refl h,rfl,κ6 _,fun _=>⟨rfl,rfl⟩,fun e=>absurd rfl e⟩
 | r::rs,s,d,h,hr=>by
  obtain ⟨a1,a2⟩:=φCM h (hr r (by simp))
  unfold φd
  by_cases c:(addP s d r).2.2.1=0
  rotate_left
  ·rw[if_pos c]
   exact ⟨[],a2 c,rfl,κ3 _,fun e=>absurd e c,fun _=>by simp⟩
  rw[if_neg (by simpa using c)]
  obtain ⟨p,p1,p2,p3⟩:=a1 c
  obtain ⟨P,g1,g2,g3,g4,g5⟩:=φ6y rs _ _ p1.jb fun x hx=>hr x (by simp[hx])
  refine ⟨p::P,Grow.trans p1 g1,?_,by simp;omega,fun e=>?_,fun e=>by have:=g5 e;simp;omega⟩
  ·simp[p2,g2]
  ·obtain ⟨x1,x2⟩:=g4 e
   exact ⟨by simp[x1],by simp only[κ5];rw[←p3,←x2]⟩
structure JR (s:φ8) (d:φ1):Prop extends JB s d where
 reg:∃last,φp [] (φS d s.1.2) ([],0,0)=(s.2.1,last,0)∧last<s.2.2.1
 pb:∀p∈φS d s.1.2,p.2.2.2.2.1<s.2.2.1
 own:ownL 5 0 (φS d s.1.2)=[]
theorem φ9r (b:Int):∀(P pre:List φF) (dir:List φC) (z:Int),(∀p∈P,(p.2.2.2.1=1∨p.2.2.2.1=2)∧p.2.2.2.2.1=b)→z≤b→∃z',z'≤b∧φp pre P (dir,z,0)=(dir,z',0)
 | [],pre,dir,z,_,hz=>⟨z,hz,rfl⟩
 | p::P,pre,dir,z,h,hz=>by
  obtain ⟨hk,hb⟩:=h p (by simp)
  rw[φp,if_neg (by simp)]
  have e:φ1c pre p (dir,z,0)=(dir,if p.2.2.2.2.1 > z then p.2.2.2.2.1 else z,0):=by
   unfold φ1c
   simp only
   rw[if_neg (by rcases hk with e | e<;>rw[e]<;>decide)]
  rw[e]
  exact φ9r b P _ _ _ (fun q hq=>h q (by simp[hq])) (by split<;>omega)
theorem φB8 (b:Int):∀(P acc:List φF),(∀p∈P,p.2.2.2.1=1∨p.2.2.2.1=2∨p.2.2.2.1=3)→P.foldl (φ1e 5 b) acc=acc
 | [],acc,_=>rfl
 | p::P,acc,h=>by
  have hk:=h p (by simp)
  have e:φ1e 5 b acc p=acc:=by
   unfold φ1e
   rw[if_neg (by simp),if_neg (by rcases hk with e | e | e<;>rw[e]<;>decide),if_neg (by rcases hk with e | e | e<;>rw[e]<;>simp)]
  rw[κN,e,φB8 b P acc fun q hq=>h q (by simp[hq])]
theorem φDV (b:Int):∀(A:List φF) (acc:List φF),(∀p∈A,p.2.2.2.2.1<b)→A.foldl (φ1e 3 b) acc=acc
 | [],acc,_=>rfl
 | p::A,acc,h=>by
  have hb:=h p (by simp)
  have e:φ1e 3 b acc p=acc:=by
   unfold φ1e
   rw[if_pos ⟨rfl,by omega⟩]
  rw[κN,e,φDV b A acc fun q hq=>h q (by simp[hq])]
theorem φFy (b:Int):∀(P acc:List φF),(∀p∈P,(p.2.2.2.1=1∨p.2.2.2.1=2)∧p.2.2.2.2.1=b)→P.foldl (φ1e 3 b) acc=acc++P
 | [],acc,_=>by simp
 | p::P,acc,h=>by
  obtain ⟨hk,hb⟩:=h p (by simp)
  have e:φ1e 3 b acc p=acc++[p]:=by
   unfold φ1e
   rw[if_neg (by rw[hb];simp),if_neg (by rcases hk with e | e<;>rw[e]<;>decide),if_pos (.inl ⟨rfl,hk⟩)]
  rw[κN,e,φFy b P _ fun q hq=>h q (by simp[hq])]
  simp
theorem φFc (b:Int):∀(P:List φF) (l:List PutT) (dir:List φC),P.map (·.2.2.2)=l.map (φ1Q b)→φ1z dir P=dirW dir (l.zip (P.map entP))
 | [],l,dir,h=>by
  cases l with
  | nil=>rfl
  | cons x l=>simp at h
 | p::P,l,dir,h=>by
  cases l with
  | nil=>simp at h
  | cons q l=>
   simp only[κ5,List.cons.injEq] at h
   obtain ⟨h1,h2⟩:=h
   have e:putD dir p=φ2h dir (q,entP p):=by
    unfold putD φ2h entP
    rw[h1]
    unfold φ1Q
    cases q.2.1<;>rfl
   show φ1z (putD dir p) P=dirW (φ2h dir (q,entP p)) (l.zip (P.map entP))
   rw[e]
   exact φFc b P l _ h2
theorem φEE (b:Int) (p:PutT):((φ1Q b p).1=1∨(φ1Q b p).1=2)∧(φ1Q b p).2.1=b:=by
 unfold φ1Q
 split
 ·exact ⟨.inr rfl,rfl⟩
 ·exact ⟨.inl rfl,rfl⟩
theorem JB.bump {s:φ8} {d:φ1} (h:JB s d) (hb:s.2.2.1≤1000000):JB (s.1,s.2.1,s.2.2.1+1,s.2.2.2) d:=by
 obtain ⟨q1,q2,q3,q4,q5,q6⟩:=φg.1 h.ok
 refine ⟨φg.2 ⟨q1,q2,q3,by show 1≤s.2.2.1+1∧s.2.2.1+1≤1000001;omega,q5,fun e he=>?_⟩,h.lt,h.liv,h.fre⟩
 have:=q6 e he
 rw[φ36] at this ⊢
 obtain ⟨a1,a2,a3,a4,a5⟩:=this
 exact ⟨a1,a2,a3,a4,by show e.2.2.2.2<s.2.2.1+1;omega⟩
theorem φGG {s:φ8} {d:φ1} (h:JR s d) {l:List PutT} (hp:φ28 l=true) (hb:s.2.2.1≤1000000) (hk:φ2i s.2.1 l≤20):JR (φ1N s d l).1 (φ1N s d l).2.1:=by
 obtain ⟨q1,q2,q3,q4,q5,q6⟩:=φg.1 h.ok
 have hrec:=φ6w (b:=s.2.2.1) (l:=l) ⟨q4.1,hb⟩ hp
 have hJ1:=h.toJB.bump hb
 obtain ⟨P,g1,g2,g3,g4,g5⟩:=φ6y (φ1n s.2.2.1 l) _ _ hJ1 hrec
 obtain ⟨last,hreg,hlast⟩:=h.reg
 have hrl:=φ8R s.2.2.1 l
 have hright:=φBC h.ok h.lt hp hb hk
 -- the places of a part of a batch
 have part:∀Q:List φF,(∃k,k≤l.length∧Q.map (·.2.2.2)=(l.map (φ1Q s.2.2.1)).take k)→∀p∈Q,(p.2.2.2.1=1∨p.2.2.2.1=2)∧p.2.2.2.2.1=s.2.2.1:=fun Q ⟨k,_,hQ⟩ p hpQ=>by
  have:p.2.2.2∈Q.map (·.2.2.2):=mM.2 ⟨p,hpQ,rfl⟩
  rw[hQ] at this
  obtain ⟨q,_,e⟩:=mM.1 (κV this)
  have:=φEE s.2.2.1 q
  rw[e] at this
  exact this
 unfold φ1N at hright ⊢
 generalize hG:φd (φ1n s.2.2.1 l) (s.1,s.2.1,s.2.2.1+1,s.2.2.2) d=g at *
 simp only at hright ⊢
 have hbat:g.1.2.2.1=s.2.2.1+1:=g1.bat
 have hdir:g.1.2.1=s.2.1:=g1.dir
 have hpl:φS g.2.1 g.1.1.2=φS d s.1.2++P:=g1.pl
 by_cases c:g.2.2.1=0
 rotate_left
 ·-- the batch was not written φ2V
  rw[if_pos c]
  have hlt:=g5 c
  have hP:=part P ⟨P.length,by omega,by
   rw[g2]
   unfold φ1n
   rw[κd (by rw[lM];omega)]⟩
  obtain ⟨z',hz',e⟩:=φ9r s.2.2.1 P (φS d s.1.2) s.2.1 last hP (by omega)
  refine ⟨g1.jb,⟨z',?_,by show z'<g.1.2.2.1;omega⟩,fun p hp=>?_,?_⟩
  ·show φp [] (φS g.2.1 g.1.1.2) _=_
   rw[hpl,φ5h _ _ _ _ (by rw[hreg]),hreg,κ8,e,hdir]
  ·have hp:p∈φS g.2.1 g.1.1.2:=hp
   rw[hpl] at hp
   show _<g.1.2.2.1
   rcases mA.1 hp with hp | hp
   ·have:=h.pb p hp;omega
   ·have:=(hP p hp).2;omega
  ·show ownL 5 0 (φS g.2.1 g.1.1.2)=[]
   have ho:=h.own
   rw[hpl]
   unfold ownL at ho ⊢
   rw[κY,ho,φB8 0 P [] fun p hp=>by rcases (hP p hp).1 with e | e<;>simp[e]]
 rw[if_neg (by simpa using c)] at hright ⊢
 obtain ⟨x1,x2⟩:=g4 c
 -- the last sync is done
 obtain ⟨b1,b2,b3,b4,b5,b6⟩:=φg.1 g1.jb.ok
 have hex:(φ2 g.2.1 (actN g.1)).2=true:=(((φ1s _).1 b5).1 _ (φ37 (φ3J b2))).1
 have hs0:(φG (actN g.1) g.2.1).2=0:=φ7U b1 g1.jb.fre hex
 rw[if_neg (by rw[hs0];simp)] at hright ⊢
 obtain ⟨r1,r2,r3,r4,r5⟩:=hright rfl
 have hpl2:φS (φG (actN g.1) g.2.1).1 g.1.1.2=φS d s.1.2++P:=by
  rw[φ5a (d:=g.2.1) fun id _=>φ2I b1 _ _]
  exact hpl
 -- the last place is the seal's
 have hP0:P≠[]:=fun e=>by rw[e] at x1;simp at x1;omega
 obtain ⟨Q,pz,rfl⟩:∃Q pz,P=Q++[pz]:=⟨P.dropLast,P.getLast hP0,(List.dropLast_concat_getLast hP0).symm⟩
 have hQl:Q.length=l.length:=by simp at x1;omega
 have hmap:(Q++[pz]).map (·.2.2.2)=l.map (φ1Q s.2.2.1)++[(3,s.2.2.1,[],[],(l.length:Int),φ1j (l.map (φ1Q s.2.2.1)))]:=by
  rw[g2,x1,κW];rfl
 rw[mp,List.map_singleton] at hmap
 obtain ⟨hQ,hz⟩:=List.append_inj hmap (by simp[hQl])
 have hz:pz.2.2.2=(3,s.2.2.1,[],[],(l.length:Int),φ1j (l.map (φ1Q s.2.2.1))):=by simpa using hz
 have hPQ:=part Q ⟨l.length,κ6 _,by rw[hQ,List.take_of_length_le (by simp)]⟩
 obtain ⟨z',hz',e⟩:=φ9r s.2.2.1 Q (φS d s.1.2) s.2.1 last hPQ (by omega)
 have hown3:ownL 3 s.2.2.1 (φS d s.1.2++Q)=Q:=by
  unfold ownL
  rw[κY,φDV _ _ _ h.pb,φFy _ _ _ hPQ];rfl
 have hdw:φ1z s.2.1 Q=dirW s.2.1 (l.zip g.2.2.2):=by
  rw[φFc s.2.2.1 Q l s.2.1 hQ,x2,mp,φEF _ _ _ (by simp[hQl])]
 have hseal:φ1c (φS d s.1.2++Q) pz (s.2.1,z',0)=(dirW s.2.1 (l.zip g.2.2.2),s.2.2.1,0):=by
  unfold φ1c
  simp only
  rw[hz]
  simp only
  rw[if_pos (.inl trivial),hown3,hQ]
  have hfit:φ3Q (3,s.2.2.1,[],[],(l.length:Int),φ1j (l.map (φ1Q s.2.2.1))) (l.map (φ1Q s.2.2.1))=true:=by
   unfold φ3Q;simp
  have el:(if s.2.2.1 > z' then s.2.2.1 else z')=s.2.2.1:=by split<;>omega
  rw[if_pos hfit,hdw,el]
  unfold φ4r
  rw[if_neg]
  have r5':(dirW g.1.2.1 (l.zip g.2.2.2)).length=φ2i s.2.1 l:=r5
  rw[hdir] at r5'
  omega
 refine ⟨⟨r1,r2,?_,φ1J g1.jb.fre⟩,⟨s.2.2.1,?_,by show s.2.2.1<g.1.2.2.1;omega⟩,fun p hp=>?_,?_⟩
 ·obtain ⟨nx,n1,n2,n3⟩:=g1.jb.liv
  exact ⟨nx,n1,n2,by rw[φ2I b1];exact n3⟩
 ·show φp [] (φS (φG (actN g.1) g.2.1).1 g.1.1.2) _=_
  rw[hpl2,φ5h _ _ _ _ (by rw[hreg]),hreg,κ8,φ5h _ _ _ _ (by rw[e]),e,φp,if_neg (by simp),hseal,hdir]
  rfl
 ·have hp:p∈φS (φG (actN g.1) g.2.1).1 g.1.1.2:=hp
  rw[hpl2] at hp
  show _<g.1.2.2.1
  rcases mA.1 hp with hp | hp
  ·have:=h.pb p hp;omega
  ·rcases mA.1 hp with hp | hp
   ·have:=(hPQ p hp).2;omega
   ·rw[mZ.1 hp,hz];show s.2.2.1<_;omega
 ·show ownL 5 0 (φS (φG (actN g.1) g.2.1).1 g.1.1.2)=[]
  have ho:=h.own
  rw[hpl2]
  unfold ownL at ho ⊢
  rw[κY,ho,φB8 0 (Q++[pz]) [] fun p hp=>by
   rcases mA.1 hp with hp | hp
   ·rcases (hPQ p hp).1 with e | e<;>simp[e]
   ·rw[mZ.1 hp,hz];simp]
theorem φLX {id:Int} {t:List UInt8} {h:φ1G} (k:φ15 id t=(h,true)) (hd:φ1q h.2.2=true) (h0:0≤h.2.1) :
  φp [] ((scan t).1.map fun x=>((id,x):φF)) ([],0,0)=(h.2.2,h.2.1,0)∧ownL 5 0 ((scan t).1.map fun x=>((id,x):φF))=[]∧∀p∈(scan t).1.map (fun x=>((id,x):φF)),p.2.2.2.2.1≤h.2.1:=by
 obtain ⟨l,z,e,z5,hf,hk,hh,_,_⟩:=φAw k
 have hsrt:srt ([]++l.map (entS id)):=by have:=φ5p hd;rw[hh] at this;simpa using this
 have hlen:(l.map (entS id)).length≤20:=by
  unfold φ1q at hd
  rw[hh] at hd
  simp only[bA,decide_eq_true_eq] at hd
  exact hd.2
 rw[hh] at h0
 have h0:0≤z.2.2.2.1:=h0
 rw[e,hh]
 obtain ⟨z',hz',eg⟩:=φ9q id z.2.2.2.1 l [] 0 hk h0
 refine ⟨?_,?_,fun p hp=>?_⟩
 ·rw[mp,φ5h _ _ _ _ (by rw[eg]),eg,κ8,List.map_singleton,φp,if_neg (by simp)]
  have eo:ownL z.2.2.1 z.2.2.2.1 (l.map fun x=>((id,x):φF))=l.map fun x=>((id,x):φF):=by
   rw[z5];unfold ownL;rw[φAy id _ l [] fun x hx=>(hk x hx).1];rfl
  have ea:φ1z [] (l.map fun x=>((id,x):φF))=l.map (entS id):=by
   rw[φAT id l [] (fun x hx=>(hk x hx).1) hsrt];rfl
  have er:(l.map fun x=>((id,x):φF)).map (·.2.2.2)=l.map (·.2.2):=by rw[List.map_map];rfl
  have es:φ1c (l.map fun x=>((id,x):φF)) ((id,z):φF) ([],z',0)=(l.map (entS id),z.2.2.2.1,0):=by
   unfold φ1c
   simp only
   have el:(if z.2.2.2.1 > z' then z.2.2.2.1 else z')=z.2.2.2.1:=by split<;>omega
   rw[if_pos (.inr z5),eo,er,if_pos hf,ea,el]
   unfold φ4r
   rw[if_neg (Nat.not_lt.2 hlen)]
  rw[es];rfl
 ·unfold ownL
  rw[mp,κY,List.map_singleton,κN,List.foldl_nil]
  unfold φ1e
  rw[if_neg (by simp),if_pos z5]
 ·obtain ⟨x,hx,rfl⟩:=mM.1 hp
  show x.2.2.2.1≤z.2.2.2.1
  rcases mA.1 hx with hx | hx
  ·exact (hk x hx).2
  ·rw[mZ.1 hx];exact κO _
theorem φ7R:∀(ids:List Int) {w:φE},φ3 w.1=true→Free w.1→w.2=0→(sOld ids w).2=0
 | [],w,_,_,h=>h
 | i::ids,w,hk,hf,h=>φ7R ids (w:=φm [φ0 i,φK i] w) (φ4S _ hk) (φ5M (P:=Free) (fun d act k=>φ1J k) _ hf) (φ9U _ hk hf h)
theorem φGo {s:φ8} {d:φ1} (l:List φk) (h:JB s d) (h2:s.1.1+2≤100000) (hc:(φ14 s d l).2.2≠0) :
  (φ14 s d l).1=((s.1.1+2,s.1.2),s.2)∧φ3 (φ14 s d l).2.1=true∧Free (φ14 s d l).2.1∧φ2 (φ14 s d l).2.1 φa=φ2 d φa ∧
  ∀id,1≤id∧id<s.1.1→φ2 (φ14 s d l).2.1 (φ0 id)=φ2 d (φ0 id):=by
 obtain ⟨q1,q2,q3,q4,q5,q6⟩:=φg.1 h.ok
 obtain ⟨k1,k2,k3,k4⟩:=(φ13 s.1).1 q2
 have hF:=h.fre
 have g1:=φ6B s.1.1 (φX l (s.2.2.1 - 1)) (w:=(d,0)) q1
 have g0:=φ3v (w:=(d,0)) q1 (φ0 s.1.1)
 have g0a:=φ7M (φ0 s.1.1) (φX l (s.2.2.1 - 1)) g0
 have g2:=φ3v g1 (φ0 (s.1.1+1))
 have F1:Free (sNew (φ0 (s.1.1+1)) (sWM s.1.1 (φX l (s.2.2.1 - 1)) (d,0))).1:=φ7G (P:=Free) (fun d act k=>φ1J k) _ (φ8W (P:=Free) (fun d act k=>φ1J k) _ _ hF)
 have f1:∀n,n≠φ0 s.1.1→n≠φ0 (s.1.1+1)→φ2 (sNew (φ0 (s.1.1+1)) (sWM s.1.1 (φX l (s.2.2.1 - 1)) (d,0))).1 n=φ2 d n:=fun n q1' q2'=>by
  rw[φ6g g1 q2']
  unfold sWM
  rw[φ2g (op:=φG _) (φ2I g0a _ n),φBH q1' _ g0,φ6g (w:=(d,0)) q1 q1']
 unfold φ14 at hc ⊢
 simp only at hc ⊢
 generalize sNew (φ0 (s.1.1+1)) (sWM s.1.1 (φX l (s.2.2.1 - 1)) (d,0))=w1 at *
 have g3:φ3 (φq s.1.1 w1).1=true:=by
  unfold φq;split
  ·exact g2
  ·exact φ7Y _ g2
 have F2:Free (φq s.1.1 w1).1:=by
  unfold φq;split
  ·exact F1
  ·exact φ91 (P:=Free) (fun d act k=>φ1J k) _ F1
 have f2:∀n,n≠φK s.1.1→φ2 (φq s.1.1 w1).1 n=φ2 w1.1 n:=fun n q=>by
  unfold φq
  split
  ·rfl
  ·unfold φ1r
   simp only
   have hf:=φ4Z (w:=(w1.1,0)) g2 (φK s.1.1) (φ1R (φ15 s.1.1 (φ2 w1.1 (φ0 s.1.1)).1).1)
   split
   ·rw[φ4o hf q,φ5F (w:=(w1.1,0)) g2 q]
   ·rw[φ5F (w:=(w1.1,0)) g2 q]
 generalize φq s.1.1 w1=w2 at *
 have g5:φ3 (if w2.2=0 then φA (sPut (s.1.1+2,[s.1.1,s.1.1+1]) w2) else φA w2).1=true:=by
  split
  ·exact φ3f g3 _
  ·exact g3
 have F5:Free (if w2.2=0 then φA (sPut (s.1.1+2,[s.1.1,s.1.1+1]) w2) else φA w2).1:=by
  split
  ·exact φ6q (P:=Free) (fun d act k=>φ1J k) _ F2
  ·exact F2
 have f3:∀n,n≠φ1E→n≠φa→φ2 (if w2.2=0 then φA (sPut (s.1.1+2,[s.1.1,s.1.1+1]) w2) else φA w2).1 n=φ2 w2.1 n:=fun n q1 q2=>by
  split
  ·exact φ7Z g3 _ q1 q2
  ·rfl
 have fl:(if w2.2=0 then φA (sPut (s.1.1+2,[s.1.1,s.1.1+1]) w2) else φA w2).2≠0→φ2 (if w2.2=0 then φA (sPut (s.1.1+2,[s.1.1,s.1.1+1]) w2) else φA w2).1 φa=φ2 w2.1 φa:=fun e=>by
  by_cases c:w2.2=0
  ·rw[if_pos c] at e ⊢
   exact φFh g3 F2 fun e2=>e ((φ1C _).2 e2)
  ·rw[if_neg c];rfl
 generalize (if w2.2=0 then φA (sPut (s.1.1+2,[s.1.1,s.1.1+1]) w2) else φA w2)=w3 at *
 by_cases c:w3.2=0
 ·rw[if_neg (by simpa using c)] at hc
  exfalso
  apply hc
  show told (sOld s.1.2 (w3.1,0)).2=0
  rw[φ7R s.1.2 (w:=(w3.1,0)) g5 F5 rfl];rfl
 rw[if_pos (by simpa using c)]
 refine ⟨rfl,φEz _ g5,?_,?_,fun id hid=>?_⟩
 ·show Free (φ1d (φ3u s.1.1) w3).1
  have:=φ5M (P:=Free) (fun d act k=>φ1J k) (φ3u s.1.1) (w:=(w3.1,0)) F5
  unfold φ1d
  split
  ·split
   ·exact this
   ·exact this
  ·exact F5
 ·show φ2 (φ1d (φ3u s.1.1) w3).1 φa=_
  rw[φ8J g5 (fun m hm=>by
   unfold φ3u at hm
   simp only[mc,List.not_mem_nil,or_false] at hm
   rcases hm with rfl | rfl | rfl | rfl
   ·decide
   ·exact (φ2d _).symm
   ·exact (φ2d _).symm
   ·exact (φ79 _).symm),fl c,f2 _ (φ79 _).symm,f1 _ (φ2d _).symm (φ2d _).symm]
 ·have n1:φ0 id≠φ0 s.1.1:=fun e=>by have:=φ3x (by omega) (by omega) e;omega
  have n2:φ0 id≠φ0 (s.1.1+1):=fun e=>by have:=φ3x (by omega) (by omega) e;omega
  have n3:φ0 id≠φK s.1.1:=φ3y _ _ (by omega)
  show φ2 (φ1d (φ3u s.1.1) w3).1 (φ0 id)=_
  rw[φ8J g5 (fun m hm=>by
   unfold φ3u at hm
   simp only[mc,List.not_mem_nil,or_false] at hm
   rcases hm with rfl | rfl | rfl | rfl
   ·exact φ4G _
   ·exact n1
   ·exact n2
   ·exact n3),f3 _ (φ4G _) (φ2d _),f2 _ n3,f1 _ n1 n2]
theorem φKf {s:φ8} {d:φ1} (h:JR s d) (h2:s.1.1+2≤100000):JR (φ14 s d (φU s d).1).1 (φ14 s d (φU s d).1).2.1:=by
 obtain ⟨q1,q2,q3,q4,q5,q6⟩:=φg.1 h.ok
 obtain ⟨k1,k2,k3,k4⟩:=(φ13 s.1).1 q2
 rw[φH (by omega) (by omega)] at k1
 have hids:=φ3q _ _ k1
 by_cases hc:(φ14 s d (φU s d).1).2.2=0
 ·have hM:=φCc (φU s d).1 q1 q2 h2 hc
  obtain ⟨m1,m2,m3,m4⟩:=φ8Y h.ok h2 hM.toMerged
  obtain ⟨k,ok⟩:=φEV h.ok h2 hM.toMerged
  have hfu:0 > d.2.2.1:=by rw[show d.2.2=(-1,false) from h.fre];decide
  have hF:=hM.fre hfu
  have hst:=hM.st
  have hone:=hM.one
  have htwo:=hM.two
  have hliv:=hM.liv
  generalize φ14 s d (φU s d).1=M at *
  obtain ⟨S,y,c⟩:=M
  simp only at hc hM m1 m2 m3 m4 k ok hF hst hone htwo hliv ⊢
  unfold φ2W at ok
  simp only[bA,decide_eq_true_eq] at ok
  obtain ⟨r1,r2,r3⟩:=φLX k ok.2.2.2 ok.2.2.1.1
  have hI:S.1.2=[s.1.1,s.1.1+1]:=by rw[hst]
  have hB:S.2.2.1=s.2.2.1:=by rw[hst]
  have hpl:φS y S.1.2=(scan (txt (φX (φU s d).1 (s.2.2.1 - 1)))).1.map fun x=>((s.1.1,x):φF):=by
   rw[hI]
   unfold φS φ11
   simp[hone,htwo,φ6v]
  refine ⟨⟨m1,m3,⟨s.1.1+2,by rw[hst];exact κO _,by rw[hI];exact φCB s.1.1 k2.1 h2,by rw[hI];exact hliv⟩,hF⟩,⟨s.2.2.1 - 1,by rw[hpl];exact r1,by rw[hB];omega⟩,fun p hp=>?_,by rw[hpl];exact r2⟩
  rw[hpl] at hp
  have:=r3 p hp
  have:p.2.2.2.2.1≤s.2.2.1 - 1:=this
  rw[hB];omega
 ·obtain ⟨f1,f2,f3,f4,f5⟩:=φGo (φU s d).1 h.toJB h2 hc
  have hft:∀id∈s.1.2,φ2 (φ14 s d (φU s d).1).2.1 (φ0 id)=φ2 d (φ0 id):=fun id hid=>f5 id (by have:=hids id hid;omega)
  have hkp:φ31 s.1.1 d (φ14 s d (φU s d).1).2.1:=fun e e1 e2 e3=>by
   unfold φ1D
   rw[f5 _ ⟨e1,e2⟩]
  have hpl:=φ5a hft
  generalize φ14 s d (φU s d).1=M at *
  obtain ⟨S,y,c⟩:=M
  simp only at f1 f2 f3 f4 f5 hft hkp hpl ⊢
  subst f1
  obtain ⟨last,r1,r2⟩:=h.reg
  obtain ⟨nx,n1,n2,n3⟩:=h.liv
  refine ⟨⟨φg.2 ⟨f2,φGd (a:=s.1.1) q2 (by omega) h2,q3,q4,?_,fun e he=>φ76 (s:=s) h.ok hkp h.lt (κO _) e he⟩,fun e he=>by have:=h.lt e he;show e.2.1<s.1.1+2;omega,⟨nx,by show nx≤s.1.1+2;omega,n2,by rw[f4];exact n3⟩,f3⟩,⟨last,by show φp [] (φS y s.1.2) _=_;rw[hpl];exact r1,r2⟩,?_,?_⟩
  ·obtain ⟨g1,g2⟩:=(φ1s _).1 q5
   exact (φ1s _).2 ⟨fun id hid=>by rw[hft id hid];exact g1 id hid,fun hne=>by rw[hft _ (φ37 hne)];exact g2 hne⟩
  ·intro p hp
   have hp:p∈φS y s.1.2:=hp
   rw[hpl] at hp
   exact h.pb p hp
  ·show ownL 5 0 (φS y s.1.2)=[]
   rw[hpl];exact h.own
theorem φII (k b:Int) (acc:List φF) (p:φF):∀x∈φ1e k b acc p,x∈acc∨x=p:=by
 intro x hx
 unfold φ1e at hx
 split at hx
 ·exact .inl hx
 split at hx
 ·simp at hx
 split at hx
 ·rcases mA.1 hx with h | h
  ·exact .inl h
  ·exact .inr (mZ.1 h)
 ·exact .inl hx
theorem φDc (k b:Int):∀(l acc:List φF),∀x∈l.foldl (φ1e k b) acc,x∈acc∨x∈l
 | [],acc,x,hx=>.inl hx
 | p::l,acc,x,hx=>by
  rcases φDc k b l _ x hx with h | h
  ·rcases φII k b acc p x h with h | h
   ·exact .inl h
   ·exact .inr (by simp[h])
  ·exact .inr (by simp[h])
theorem φKx {k b:Int} {l:List φF}:∀x∈ownL k b l,x∈l:=fun x hx=>by
 rcases φDc k b l [] x hx with h | h
 ·simp at h
 ·exact h
theorem φG4:∀(own:List φF) (dir:List φC),∀e∈φ1z dir own,e∈dir∨∃p∈own,e=entP p
 | [],dir,e,he=>.inl he
 | p::own,dir,e,he=>by
  rcases φG4 own (putD dir p) e he with h | ⟨q,hq,x⟩
  ·unfold putD at h
   split at h
   ·exact .inl ((φ7p _ _ _).1 h).1
   ·rcases (φ3Y _ _ _).1 h with h | h
    ·exact .inr ⟨p,by simp,h⟩
    ·exact .inl ((φ7p _ _ _).1 h).1
  ·exact .inr ⟨q,by simp[hq],x⟩
theorem φJj (pre:List φF) (p:φF) (g:φ17):∀e∈(φ1c pre p g).1,e∈g.1∨∃q∈pre,e=entP q:=by
 intro e he
 unfold φ1c at he
 simp only at he
 split at he
 ·split at he
  ·rcases φG4 _ _ e he with h | ⟨q,hq,x⟩
   ·exact .inl h
   ·exact .inr ⟨q,φKx q hq,x⟩
  ·split at he
   ·exact .inl he
   ·exact .inl he
 ·exact .inl he
theorem φNY (pre:List φF) (p:φF) (g:φ17):(φ1c pre p g).2.1=if p.2.2.2.2.1 > g.2.1 then p.2.2.2.2.1 else g.2.1:=by
 unfold φ1c
 simp only
 split
 ·split
  ·rfl
  ·split<;>rfl
 ·rfl
theorem φEc:∀(P pre:List φF) (g:φ17),∀e∈(φp pre P g).1,e∈g.1∨∃q∈pre++P,e=entP q
 | [],pre,g,e,he=>.inl he
 | p::P,pre,g,e,he=>by
  rw[φp] at he
  split at he
  ·exact .inl he
  ·rcases φEc P _ _ e he with h | ⟨q,hq,x⟩
   ·rcases φJj pre p g e h with h | ⟨q,hq,x⟩
    ·exact .inl h
    ·exact .inr ⟨q,mL _ hq,x⟩
   ·exact .inr ⟨q,by simpa using hq,x⟩
theorem φGq:∀(P pre:List φF) (g:φ17),(φp pre P g).2.2=0→g.2.1≤(φp pre P g).2.1∧∀p∈P,p.2.2.2.2.1≤(φp pre P g).2.1
 | [],pre,g,_=>⟨κO _,fun p hp=>by simp at hp⟩
 | p::P,pre,g,h=>by
  rw[φp] at h ⊢
  by_cases c:g.2.2≠0
  ·rw[if_pos c] at h;exact absurd h c
  rw[if_neg c] at h ⊢
  obtain ⟨h1,h2⟩:=φGq P _ _ h
  rw[φNY] at h1
  have:g.2.1≤(φp (pre++[p]) P (φ1c pre p g)).2.1∧p.2.2.2.2.1≤(φp (pre++[p]) P (φ1c pre p g)).2.1:=by
   split at h1<;>omega
  refine ⟨this.1,fun q hq=>?_⟩
  rcases mc.1 hq with rfl | hq
  ·exact this.2
  ·exact h2 q hq
theorem φGa {d:φ1}:∀{l:List Int},(∀id∈l,(φ2 d (φ0 id)).2=true∧φ2V (φ2 d (φ0 id)).1)→φ2U d l=true
 | [],_=>rfl
 | id::r,h=>by
  obtain ⟨h1,h2⟩:=h id (by simp)
  unfold φ2V at h2
  rw[φ2U,h1,φGa fun i hi=>h i (by simp[hi])]
  simp[h2]
theorem φNF {d:φ1} {ids:List Int}:∀p∈φS d ids,p.1∈ids:=fun p hp=>by
 unfold φS at hp
 obtain ⟨i,hi,hp⟩:=List.mem_flatMap.1 hp
 unfold φ11 at hp
 obtain ⟨x,_,rfl⟩:=mM.1 hp
 exact hi
theorem φHv {s:φ8} {d:φ1} (h:JR s d):∃t y,φ2G d=(t,y,0)∧JR t y∧t.1.2=s.1.2∧t.2.1=s.2.1∧t.2.2.1≤s.2.2.1∧φU t y=φU s d∧y.2.1=d.2.1∧φI y.1≤φI d.1∧(y.2=d.2∧(∀n,(φ2 y n).2=true→φ2 y n=φ2 d n)∧φS y t.1.2=φS d s.1.2∧t.1.1≤s.1.1∧t.2.2.2.1=s.2.2.2.1):=by
 obtain ⟨q1,q2,q3,q4,q5,q6⟩:=φg.1 h.ok
 obtain ⟨nx,n1,n2,n3⟩:=h.liv
 obtain ⟨last,r1,r2⟩:=h.reg
 have hF:=h.fre
 obtain ⟨g1,g2⟩:=(φ1s _).1 q5
 have hne:=φ3J q2
 have g2:=g2 hne
 have hl1:=φ5b (nx,s.1.2)
 have hrl:φ2p (φn (nx,s.1.2))=((nx,s.1.2),true):=φLS ⟨n2,rfl⟩ (by omega)
 have hsh:φ2U d s.1.2=true:=φGa g1
 obtain ⟨e1,e2⟩:=g1 _ (φ37 hne)
 have hcn:cutN (nx,s.1.2) d=(φ2 d (φ0 (φM s.1.2))).1.length:=e2
 have hcut:cutW (nx,s.1.2) d=φG (φ0 (φM s.1.2)) d:=by
  unfold cutW
  rw[if_pos hcn.symm]
  rfl
 have hs0:(φG (φ0 (φM s.1.2)) d).2=0:=φ7U q1 hF e1
 have hx:=φ3K q1 (φ0 (φM s.1.2))
 have hxF:Free (φG (φ0 (φM s.1.2)) d).1:=φ1J hF
 have hft:∀n,φ2 (φG (φ0 (φM s.1.2)) d).1 n=φ2 d n:=fun n=>φ2I q1 _ n
 have hsw:(φs (nx,s.1.2) (φG (φ0 (φM s.1.2)) d).1).2=0:=φ9U _ (w:=((φG (φ0 (φM s.1.2)) d).1,0)) hx hxF rfl
 have hrg:φ2E ([],0,0) (φS d s.1.2)=(s.2.1,last,0):=by
  unfold φ2E φ7J
  rw[r1,h.own,if_neg (by simp)]
 obtain ⟨hin,eo,_⟩:=φMo (v:=(nx,s.1.2)) q1 n2 e1 (by rw[hcut];exact hs0)
 have ho:φ2G d=(((nx,s.1.2),s.2.1,w64 (last+1),(cutN (nx,s.1.2) d:Int),hin),(φs (nx,s.1.2) (φG (φ0 (φM s.1.2)) d).1).1,0):=by
  unfold φ2G
  rw[if_neg (by rw[q1];simp),if_neg (by rw[hF.up];simp),n3,if_neg (by simp),hrl,if_neg (by simp),if_neg (by rw[hsh];simp),eo,hcut,hrg]
  unfold φ4q
  rw[if_neg (by simp),if_neg (by rw[hsw];simp)]
 refine ⟨_,_,ho,?_⟩
 -- what the disk has
 have hy:=φ8g hx (nx,s.1.2)
 have hyF:Free (φs (nx,s.1.2) (φG (φ0 (φM s.1.2)) d).1).1:=φ5M (P:=Free) (fun d act k=>φ1J k) _ hxF
 have hrange:∀id∈s.1.2,1≤id∧id≤100000∧id<nx:=fun id hid=>φB4 (v:=(nx,s.1.2)) n2 hid
 have hsegs:∀id∈s.1.2,φ2 (φs (nx,s.1.2) (φG (φ0 (φM s.1.2)) d).1).1 (φ0 id)=φ2 d (φ0 id):=fun id hid=>by
  have hr:=hrange id hid
  rw[φGO hx (fun j hj=>by rw[φHo hj (φNC ⟨hr.1,hr.2.1⟩)];exact hid) (φ4G id),hft]
 have hlv:φ2 (φs (nx,s.1.2) (φG (φ0 (φM s.1.2)) d).1).1 φa=(φn (nx,s.1.2),true):=by
  rw[φGO hx (fun j hj=>absurd ⟨j,hj⟩ φMU) (by decide),hft,n3]
 have hcap:(φs (nx,s.1.2) (φG (φ0 (φM s.1.2)) d).1).1.2.1=d.2.1∧φI (φs (nx,s.1.2) (φG (φ0 (φM s.1.2)) d).1).1.1≤φI d.1:=by
  rw[φAI hx hxF,φD0 q1 hF e1]
  refine ⟨rfl,?_⟩
  show φI ((onF _ φ6n d.1).filter _)≤_
  refine κg (φ6U _ List.filter_sublist) ?_
  show φI (onF _ φ6n d.1)≤_
  have:∀l:List φ4,φI (onF (φ0 (φM s.1.2)) φ6n l)=φI l:=fun l=>by
   unfold φI onF
   induction l with
   | nil=>rfl
   | cons f l ih=>
    simp only[κ5,sumN,ih]
    congr 1
    split<;>rfl
  rw[this];exact κ6 _
 have hkeep:(φs (nx,s.1.2) (φG (φ0 (φM s.1.2)) d).1).1.2=d.2∧∀n,(φ2 (φs (nx,s.1.2) (φG (φ0 (φM s.1.2)) d).1).1 n).2=true→φ2 (φs (nx,s.1.2) (φG (φ0 (φM s.1.2)) d).1).1 n=φ2 d n:=by
  refine ⟨by rw[φAI hx hxF,φD0 q1 hF e1],fun n hn=>?_⟩
  rw[←hft n]
  by_cases hex:∃f∈(φs (nx,s.1.2) (φG (φ0 (φM s.1.2)) d).1).1.1,f.1=n
  ·obtain ⟨f,hf,rfl⟩:=hex
   have hf2:f∈(φG (φ0 (φM s.1.2)) d).1.1:=by
    rw[φAI hx hxF] at hf
    exact (List.mem_filter.1 hf).1
   rw[φ2k hy hf,φ2k hx hf2]
  ·exfalso
   rw[φAY fun f hf e=>hex ⟨f,hf,e⟩] at hn
   simp at hn
 generalize (φs (nx,s.1.2) (φG (φ0 (φM s.1.2)) d).1).1=y at *
 have hpl:=φ5a hsegs
 -- what the directory's entries are
 have hmem:∀e∈s.2.1,∃p∈φS d s.1.2,e=entP p:=fun e he=>by
  have:e∈(φp [] (φS d s.1.2) ([],0,0)).1:=by rw[r1];exact he
  rcases φEc _ _ _ e this with k | ⟨p,hp,x⟩
  ·simp at k
  ·exact ⟨p,by simpa using hp,x⟩
 obtain ⟨l0,lall⟩:=φGq (φS d s.1.2) [] ([],0,0) (by rw[r1])
 rw[r1] at l0 lall
 have l0:0≤last:=l0
 have lall:∀p∈φS d s.1.2,p.2.2.2.2.1≤last:=lall
 have hseg:∀e∈s.2.1,e.2.1∈s.1.2∧e.2.2.2.2≤last:=fun e he=>by
  obtain ⟨p,hp,rfl⟩:=hmem e he
  exact ⟨φNF p hp,lall p hp⟩
 have hw:w64 (last+1)=last+1:=φH (by omega) (by omega)
 rw[hw]
 have hok:φf ((nx,s.1.2),s.2.1,last+1,(cutN (nx,s.1.2) d:Int),hin) y=true:=φg.2 ⟨hy,n2,q3,⟨by show 1≤last+1;omega,by show last+1≤1000001;omega⟩,(φ1s _).2 ⟨fun id hid=>by rw[hsegs id hid];exact g1 id hid,fun hne=>by rw[hsegs _ (φ37 hne),hcn]⟩,fun e he=>by
  obtain ⟨s1,s2⟩:=hseg e he
  have k:=φ36.1 (q6 e he)
  have:φ1D y e=φ1D d e:=by unfold φ1D;rw[hsegs _ s1]
  rw[φ36,this]
  exact ⟨k.1,k.2.1,k.2.2.1,k.2.2.2.1,by show e.2.2.2.2<last+1;omega⟩⟩
 refine ⟨⟨⟨hok,fun e he=>?_,⟨nx,κO _,n2,hlv⟩,hyF⟩,⟨last,by show φp [] (φS y s.1.2) _=_;rw[hpl];exact r1,by show last<last+1;omega⟩,fun p hp=>?_,by show ownL 5 0 (φS y s.1.2)=[];rw[hpl];exact h.own⟩,rfl,rfl,by show last+1≤_;omega,?_,hcap.1,hcap.2,hkeep.1,hkeep.2,hpl,n1,by show (cutN (nx,s.1.2) d:Int)=_;rw[hcn];exact g2.symm⟩
 ·have:=hrange _ (hseg e he).1
  exact this.2.2
 ·have hp:p∈φS y s.1.2:=hp
  rw[hpl] at hp
  have:=lall p hp
  show _<last+1
  omega
 ·rw[φ2m hok,φ2m h.ok]
  congr 1
  show mapG (φ1O y) s.2.1=mapG (φ1O d) s.2.1
  unfold mapG
  refine List.map_congr_left fun e he=>?_
  have:=hsegs _ (hseg e he).1
  congr 1
  unfold φ1O
  rw[this]
theorem φNs (n:Nat) (h:n≤100000) (h8:8≤n):JR ((2,[1]),[],1,0,0) (dNew n):=by
 obtain ⟨f1,f2,f3⟩:=φAa n h h8
 have hpl:φS (dNew n) [1]=[]:=by
  rw[φ9l]
  unfold φ11
  rw[f2,φ6v];rfl
 refine ⟨⟨φId n h h8,fun e he=>by simp at he,⟨2,κO _,φIh,f1⟩,rfl⟩,⟨0,by show φp [] (φS (dNew n) [1]) _=_;rw[hpl];rfl,by decide⟩,fun p hp=>?_,by show ownL 5 0 (φS (dNew n) [1])=[];rw[hpl];rfl⟩
 have hp:p∈φS (dNew n) [1]:=hp
 rw[hpl] at hp
 simp at hp
theorem φIz (c:Int):told c=0∨told c=1∨told c=2∨told c=3:=by
 unfold told
 split
 ·exact .inl rfl
 split
 ·exact .inr (.inl rfl)
 split
 ·exact .inr (.inr (.inl rfl))
 ·exact .inr (.inr (.inr rfl))
def φ3R (c:Int):Prop:=0≤c∧c≤5
theorem φ5w (c:Int):φ3R (told c):=by
 unfold φ3R
 rcases φIz c with e | e | e | e<;>rw[e]<;>decide
theorem φMJ {names:List (List UInt8)} {w:φE} (h:φ3R w.2):φ3R (φ1d names w).2:=by
 unfold φ1d
 split
 ·split
  ·exact ⟨by show (0:Int)≤2;decide,by show (2:Int)≤5;decide⟩
  ·exact φ5w _
 ·exact h
theorem φMa (s:φ8) (d:φ1):φ3R (rotP s d).2.2:=by
 unfold rotP
 split
 ·exact ⟨by show (0:Int)≤5;decide,by show (5:Int)≤5;decide⟩
 split
 ·exact φ5w _
 simp only
 split
 ·exact φ5w _
 split
 ·exact φMJ (φ5w _)
 ·exact ⟨κO _,by show (0:Int)≤5;decide⟩
theorem φME (s:φ8) (d:φ1) (r:RecT):φ3R (addP s d r).2.2.1:=by
 have h:φ3R (addR s d (frame (φ7 r))).2.2:=by
  unfold addR
  split
  ·exact φMa s d
  ·exact ⟨κO _,by show (0:Int)≤5;decide⟩
 unfold addP
 simp only
 split
 ·exact h
 split
 ·exact φ5w _
 ·exact ⟨κO _,by show (0:Int)≤5;decide⟩
theorem φHr:∀(rs:List RecT) (s:φ8) (d:φ1),φ3R (φd rs s d).2.2.1
 | [],_,_=>⟨κO _,by show (0:Int)≤5;decide⟩
 | r::rs,s,d=>by
  unfold φd
  split
  ·exact φME s d r
  ·exact φHr rs _ _
theorem φMF (s:φ8) (d:φ1) (l:List PutT):φ3R (φ1N s d l).2.2:=by
 unfold φ1N
 simp only
 split
 ·exact φHr _ _ _
 split
 ·exact φ5w _
 ·exact ⟨κO _,by show (0:Int)≤5;decide⟩
theorem φEv {s s':φ8} {d d':φ1} {m:Int} (h:φf s d=true) (h':φf s' d'=true) (hd:s'.2.1=s.2.1) (hk:φ31 m d d') (hm:∀e∈s.2.1,e.2.1<m):φU s' d'=φU s d:=by
 rw[φ2m h,φ2m h',hd,φEM h hk hm]
theorem φMA {s:φ8} {d:φ1} (h:JR s d) {l:List PutT} (hp:φ28 l=true) (hb:s.2.2.1≤1000000) (hc:(φ1N s d l).2.2≠0):(φ1N s d l).1.2.1=s.2.1∧φ31 s.1.1 d (φ1N s d l).2.1:=by
 obtain ⟨q1,q2,q3,q4,q5,q6⟩:=φg.1 h.ok
 have hrec:=φ6w (b:=s.2.2.1) (l:=l) ⟨q4.1,hb⟩ hp
 obtain ⟨P,g1,g2,g3,g4,g5⟩:=φ6y (φ1n s.2.2.1 l) _ _ (h.toJB.bump hb) hrec
 unfold φ1N at hc ⊢
 generalize φd (φ1n s.2.2.1 l) (s.1,s.2.1,s.2.2.1+1,s.2.2.2) d=g at *
 simp only at hc ⊢
 by_cases c:g.2.2.1=0
 rotate_left
 ·rw[if_pos c]
  exact ⟨g1.dir,g1.kp⟩
 rw[if_neg (by simpa using c)] at hc ⊢
 by_cases c2:(φG (actN g.1) g.2.1).2=0
 rotate_left
 ·rw[if_pos c2]
  refine ⟨g1.dir,fun e e1 e2 e3=>?_⟩
  obtain ⟨b1,_⟩:=φg.1 g1.jb.ok
  have:=g1.kp e e1 e2 e3
  unfold φ1D at this ⊢
  show φ1I (φ2 (φG (actN g.1) g.2.1).1 (φ0 e.2.1)).1 _ _=_
  rw[φ2I b1]
  exact this
 ·rw[if_neg (by simpa using c2)] at hc
  exact absurd rfl hc
theorem φHf {s:φ8} {d:φ1} (h:JR s d) (l:List PutT):JR (φ2O s d l).1 (φ2O s d l).2.1∧φ3R (φ2O s d l).2.2 ∧
  ((φ2O s d l).2.2=0→φU (φ2O s d l).1 (φ2O s d l).2.1=(φ3I (φU s d).1 l s.2.2.1,0))∧((φ2O s d l).2.2≠0→φU (φ2O s d l).1 (φ2O s d l).2.1=φU s d):=by
 have hd0:φU s d=((φU s d).1,0):=by rw[φ2m h.ok]
 unfold φ2O
 by_cases c1:φf s d=false∨φ28 l=false
 ·rw[if_pos c1]
  exact ⟨h,by show φ3R 4;exact ⟨by decide,by decide⟩,fun e=>by simp at e,fun _=>rfl⟩
 rw[if_neg c1]
 by_cases c2:l.length=0
 ·rw[if_pos c2]
  refine ⟨h,by show φ3R 0;exact ⟨by decide,by decide⟩,fun _=>?_,fun e=>absurd rfl e⟩
  have:l=[]:=List.length_eq_zero_iff.1 c2
  subst this
  exact hd0
 rw[if_neg c2]
 by_cases c3:20<φ2i s.2.1 l∨s.2.2.1 > 1000000
 ·rw[if_pos c3]
  exact ⟨h,by show φ3R 5;exact ⟨by decide,by decide⟩,fun e=>by simp at e,fun _=>rfl⟩
 rw[if_neg c3]
 have hp:φ28 l=true:=by
  cases hp:φ28 l with
  | true=>rfl
  | false=>exact absurd (.inr hp) c1
 have hJ:=φGG h hp (by omega) (by omega)
 refine ⟨hJ,φMF s d l,fun hc=>?_,fun hc=>?_⟩
 ·obtain ⟨r1,r2,r3,r4,r5⟩:=φBC h.ok h.lt hp (by omega) (by omega) hc
  rw[←r3,φ2m r1]
 ·obtain ⟨f1,f2⟩:=φMA h hp (by omega) hc
  exact φEv h.ok hJ.ok f1 f2 h.lt
theorem φHk {s:φ8} {d:φ1} (h:JR s d):JR (φ1v s d).1 (φ1v s d).2.1∧φU (φ1v s d).1 (φ1v s d).2.1=φU s d:=by
 unfold φ1v
 rw[if_neg (by rw[h.ok];simp)]
 by_cases c:s.1.1+2 > 100000
 ·rw[if_pos c];exact ⟨h,rfl⟩
 rw[if_neg c]
 have hJ:=φKf h (by omega)
 refine ⟨hJ,?_⟩
 obtain ⟨q1,q2,q3,q4,q5,q6⟩:=φg.1 h.ok
 by_cases hc:(φ14 s d (φU s d).1).2.2=0
 ·have hM:=φHx (φU s d).1 q1 q2 (by omega) hc
  exact (φ8Y h.ok (by omega) hM).2.1
 ·obtain ⟨f1,f2,f3,f4,f5⟩:=φGo (φU s d).1 h.toJB (by omega) hc
  refine φEv (m:=s.1.1) h.ok hJ.ok (by rw[f1]) (fun e e1 e2 e3=>?_) h.lt
  unfold φ1D
  rw[f5 _ ⟨e1,e2⟩]
abbrev EngT:=Bool×φ8×φ1×List TxnT
abbrev φW:=Int×Int×List UInt8×List UInt8×Int
abbrev AnsT:=Int×List UInt8×List (List UInt8)
def TB (l:List TxnT):Prop:=l.length=3∧∀t∈l,t.2.1.length≤20∧t.2.2.length≤50
structure EI (e:EngT):Prop where
 up:e.1=true→JR e.2.1 e.2.2.1
 dn:e.1=false→(∃s,JR s e.2.2.1)∧e.2.1.1.2.length≤100∧e.2.1.2.1.length≤100
 tx:TB e.2.2.2
theorem TB.new:TB (κJ 3 ((false,[],[]):TxnT)):=⟨rfl,fun t ht=>by
 have:=List.eq_of_mem_replicate ht
 subst this
 exact ⟨by simp,by simp⟩⟩
theorem TB.set {l:List TxnT} (h:TB l) (i:Nat) {t:TxnT} (ht:t.2.1.length≤20∧t.2.2.length≤50):TB (l.set i t):=⟨by rw[List.length_set];exact h.1,fun x hx=>by
 rcases κe hx with hx | rfl
 ·exact h.2 x hx
 ·exact ht⟩
theorem JR.small {s:φ8} {d:φ1} (h:JR s d):SmallS s d:=by
 have:=φNg h.ok
 exact this
theorem EI.small {e:EngT} (h:EI e):SmallS e.2.1 e.2.2.1∧φ3 e.2.2.1=true:=by
 cases c:e.1 with
 | true=>exact ⟨(h.up c).small,(φg.1 (h.up c).ok).1⟩
 | false=>
  obtain ⟨⟨s,hs⟩,h1,h2⟩:=h.dn c
  have hd:=(φg.1 hs.ok).1
  exact ⟨⟨φ3P (φ12 hd) (by omega),by omega,by omega⟩,hd⟩
theorem φMz {t:TxnT} (h:t.2.1.length≤20∧t.2.2.length≤50) (p:PutT):(φ2Y t p).1.2.1.length≤20∧(φ2Y t p).1.2.2.length≤50:=by
 unfold φ2Y
 split
 ·refine ⟨h.1,?_⟩
  simp;omega
 ·exact h
theorem EI.same {e:EngT} (h:EI e) {l:List TxnT} (hl:TB l):EI (e.1,e.2.1,e.2.2.1,l):=⟨h.up,h.dn,hl⟩
theorem EI.store {e:EngT} (h:EI e) (hu:e.1=true) {s:φ8} {d:φ1} (hj:JR s d) {l:List TxnT} (hl:TB l):EI (e.1,s,d,l):=⟨fun _=>hj,fun c=>by rw[hu] at c;simp at c,hl⟩
theorem φMi {c:CurT} (h:Cur c):∃s c',ψ37.f c=some (s,c')∧s.1≠11∧Cur c':=by
 obtain ⟨k,c1,e1,hk,h1⟩:=φCL h [1,2,2,3,3,3,4,5,5,6,7,8,1,5] (by decide)
 obtain ⟨z,c2,e2,a2,b2,_,h2⟩:=φ5C h1 3
 have hk11:k≠11:=by
  simp only[mc,List.not_mem_nil,or_false] at hk
  omega
 unfold ψ37.f
 simp only[e1,e2,bS]
 -- what follows
 have fin:∀(x0:CurT) (x3:φW),Cur x0→x3.1≠11→∃s c',((ψ3A.f x0 40).bind fun x=>
   bif x.1==0 then some (((9,0,[],[],0):φW),x.2) else
   (bif x.1==1 then some (x.2,((0,0,[],[],0):φW),x3,x.1,x.1==1) else some (x.2,((0,0,[],[],0):φW),x3,x.1,x.1==2)).bind fun x=>
    bif x.2.2.2.2 then some (((10,0,[],[],0):φW),x.1) else
    bif x.2.2.2.1==3 then (ψ3G.f x.1 [(-1),3]).bind fun x_1=>some (((x.2.2.1.1,x_1.1,x.2.2.1.2.2):φW),x_1.2) else
    bif x.2.2.2.1==4 then (ψ3F.f x.1 [[],[110,105,110,101,98,121,116,101,115]]).bind fun x_1=>some (((x.2.2.1.1,x.2.2.1.2.1,x_1.1,x.2.2.1.2.2.2):φW),x_1.2) else
    bif x.2.2.2.1==5 then (ψ3G.f x.1 [0,12]).bind fun x_1=>some (((x_1.1,x.2.2.1.2):φW),x_1.2) else some (x.2.2.1,x.1))=some (s,c')∧s.1≠11∧Cur c':=by
  intro x0 x3 hx h3
  obtain ⟨y,c4,e4,_,_,_,h4⟩:=φ5C hx 40
  simp only[e4,bS]
  cases d0:(y==0)
  rotate_left
  ·exact ⟨_,_,rfl,by decide,h4⟩
  simp only[cF]
  cases d1:(y==1)
  rotate_left
  ·simp only[cT,bS]
   exact ⟨_,_,rfl,by decide,h4⟩
  simp only[cF,bS]
  cases d2:(y==2)
  rotate_left
  ·exact ⟨_,_,rfl,by decide,h4⟩
  simp only[cF]
  cases d3:(y==3)
  rotate_left
  ·obtain ⟨v,c5,e5,_,h5⟩:=φCL h4 [(-1),3] (by decide)
   simp only[cT,e5,bS]
   exact ⟨_,_,rfl,h3,h5⟩
  simp only[cF]
  cases d4:(y==4)
  rotate_left
  ·obtain ⟨v,c5,e5,_,h5⟩:=φCV h4 [[],[110,105,110,101,98,121,116,101,115]] (by decide)
   simp only[cT,e5,bS]
   exact ⟨_,_,rfl,h3,h5⟩
  simp only[cF]
  cases d5:(y==5)
  rotate_left
  ·obtain ⟨v,c5,e5,hv,h5⟩:=φCL h4 [0,12] (by decide)
   simp only[cT,e5,bS]
   refine ⟨_,_,rfl,?_,h5⟩
   simp only[mc,List.not_mem_nil,or_false] at hv
   show v≠11
   omega
  ·exact ⟨_,_,rfl,h3,h4⟩
 cases d2:(k==2)
 ·simp only[cF,bS]
  cases d4:(k==4)
  ·simp only[cF]
   cases d3:(k==3)
   ·simp only[cF,bS]
    exact fin c2 (k,z,[],[],0) h2 hk11
   ·obtain ⟨x,c3,e3,_,h3⟩:=φBp h2
    obtain ⟨y,c4,e4,_,h4⟩:=φIN h3 12 (by omega) (by omega)
    simp only[cT,e3,e4,bS]
    exact fin c4 (k,z,x,y,0) h4 hk11
  ·obtain ⟨x,c3,e3,_,h3⟩:=φBp h2
   simp only[cT,e3,bS]
   exact fin c3 (k,z,x,[],0) h3 hk11
 ·obtain ⟨x,c3,e3,_,h3⟩:=φBp h2
  simp only[cT,e3,bS]
  exact fin c3 (k,z,x,[],0) h3 hk11
def clOk:List φW→Prop
 | []=>True
 | [s]=>s.1≠9
 | s::t::r=>(s.1=9→t.1=10)∧clOk (t::r)
theorem φCD:∀(a b:List φW),clOk a→clOk b→clOk (a++b)
 | [],b,_,h=>h
 | [s],[],h,_=>h
 | [s],t::r,h,k=>⟨fun e=>absurd e h,k⟩
 | s::t::r,b,⟨h1,h2⟩,k=>⟨h1,φCD (t::r) b h2 k⟩
theorem φAg:∀(l:List φW),clOk l→∀i s t,l[i]?=some s→l[i+1]?=some t→s.1=9→t.1=10
 | [],_,i,s,t,h,_,_=>by simp at h
 | [x],_,i,s,t,_,h,_=>by simp at h
 | x::y::r,⟨h1,h2⟩,0,s,t,h,k,e=>by
  simp only[List.getElem?_cons_zero,Option.some.injEq,κU,List.getElem?_cons_succ] at h k
  subst h;subst k;exact h1 e
 | x::y::r,⟨h1,h2⟩,i+1,s,t,h,k,e=>φAg (y::r) h2 i s t (by simpa using h) (by simpa using k) e
theorem φIM {c:CurT} (h:Cur c) (most:Nat) (hm0:most≤1000):∃l c',ψ38.f c (most:Int)=some (l,c')∧l.length≤2 * most∧(∀s∈l,s.1≠11)∧clOk l∧Cur c':=by
 obtain ⟨n,c1,e1,a1,b1,_,h1⟩:=φ5C h ((most:Int)+1)
 have b1:=b1 (by omega)
 obtain ⟨m,rfl⟩:∃m:Nat,n=(m:Int):=⟨n.toNat,by omega⟩
 have key:=φBh (step:=ψ38.l0) (fun k (s:CurT×List φW×List Bool)=>(s.1,s.2.1,s.2.2,(k:Int))) (fun k s=>Cur s.1∧s.2.1.length+2 * k≤2 * most∧(∀x∈s.2.1,x.1≠11)∧clOk s.2.1∧s.2.2.length=3) (fun b=>Cur b.1∧b.2.length≤2 * most∧(∀x∈b.2,x.1≠11)∧clOk b.2)
  (fun rec s hi=>⟨_,by simp[ψ38.l0];rfl,hi.1,by have:=hi.2.1;show s.2.1.length≤2 * most;omega,hi.2.2.1,hi.2.2.2.1⟩)
  (fun rec k s hi=>by
   obtain ⟨s,l,o⟩:=s
   obtain ⟨hi1,hi2,hi3,hi5,hi4⟩:=hi
   simp only at hi1 hi2 hi3 hi5 hi4
   have e0:((k+1:Nat):Int) > 0:=by omega
   have hw:=φLy (show k<2 ^ 60 by omega)
   obtain ⟨t,c3,f3,ht,h3⟩:=φMi hi1
   have q1:decide ((l.length+(0+1)) * 56≤140737488355328)=true:=by simp;omega
   -- the last part
   have fin:∀(x0:CurT) (x6:List Bool) (x8:φW),Cur x0→x6.length=3→x8.1≠11→∃s':CurT×List φW×List Bool,(Cur s'.1∧s'.2.1.length+2 * k≤2 * most∧(∀x∈s'.2.1,x.1≠11)∧clOk s'.2.1∧s'.2.2.length=3) ∧
     ((bif x8.1==9 then bif decide ((l.length+(0+1)) * 56≤140737488355328) then some (x0,l++[x8],κJ 3 false,((k+1:Nat):Int),((10,0,[],[],0):φW)) else none else some (x0,l,x6,((k+1:Nat):Int),x8)).bind fun x=>
      bif decide ((x.2.1.length+(0+1)) * 56≤140737488355328) then rec (x.1,x.2.1++[x.2.2.2.2],x.2.2.1,w64 (x.2.2.2.1 - 1)) else none)=rec (s'.1,s'.2.1,s'.2.2,(k:Int)):=by
    intro x0 x6 x8 hx0 hx6 hx8
    cases d9:(x8.1==9)
    ·simp only[cF,bS,q1,cT,hw]
     refine ⟨(x0,l++[x8],x6),⟨hx0,by simp;omega,fun y hy=>?_,φCD l [x8] hi5 (by show x8.1≠9;simpa using d9),hx6⟩,rfl⟩
     rcases mA.1 hy with hy | hy
     ·exact hi3 y hy
     ·rw[mZ.1 hy];exact hx8
    ·have q2:decide (((l++[x8]).length+(0+1)) * 56≤140737488355328)=true:=by simp;omega
     simp only[cT,q1,bS,q2,hw]
     refine ⟨(x0,l++[x8]++[(10,0,[],[],0)],κJ 3 false),⟨hx0,by simp;omega,fun y hy=>?_,by show clOk ((l++[x8])++[(10,0,[],[],0)]);rw[aA];exact φCD l _ hi5 ⟨fun _=>rfl,by show (10:Int)≠9;decide⟩,rfl⟩,rfl⟩
     rcases mA.1 hy with hy | hy
     ·rcases mA.1 hy with hy | hy
      ·exact hi3 y hy
      ·rw[mZ.1 hy];exact hx8
     ·rw[mZ.1 hy];decide
   simp only[ψ38.l0,e0,dT,cT,f3,bS,φ2N,lC,lN]
   by_cases d6:t.1≤6
   rotate_left
   ·simp only[d6,dF,cF,bS]
    exact fin c3 o t h3 hi4 ht
   simp only[d6,dT,cT]
   by_cases ds:0≤t.2.1∧t.2.1≤2
   rotate_left
   ·simp only[ds,dF,cF,bS]
    exact fin c3 o t h3 hi4 ht
   obtain ⟨n,hn⟩:∃n:Nat,t.2.1=(n:Int):=⟨t.2.1.toNat,by omega⟩
   have hin:inB t.2.1 o.length=true:=by rw[hn,φJ,hi4];simp;omega
   simp only[ds,and_self,dT,cT,hin]
   have hset:∀b:Bool,(o.set t.2.1.toNat b).length=3:=fun b=>by rw[List.length_set];exact hi4
   -- a step that stays as it is
   have stay:∀(x0:CurT) (x8:φW),Cur x0→x8.1≠11→x8.2.1=t.2.1→∃s':CurT×List φW×List Bool,(Cur s'.1∧s'.2.1.length+2 * k≤2 * most∧(∀x∈s'.2.1,x.1≠11)∧clOk s'.2.1∧s'.2.2.length=3) ∧
     ((bif x8.1 != 5 then bif inB x8.2.1 o.length then some (x0,l,o.set x8.2.1.toNat (x8.1 != 6),((k+1:Nat):Int),x8) else none else bif inB x8.2.1 o.length then some (x0,l,o.set x8.2.1.toNat false,((k+1:Nat):Int),x8) else none).bind fun x=>
      (bif x.2.2.2.2.1==9 then bif decide ((x.2.1.length+(0+1)) * 56≤140737488355328) then some (x.1,x.2.1++[x.2.2.2.2],κJ 3 false,x.2.2.2.1,((10,0,[],[],0):φW)) else none else some (x.1,x.2.1,x.2.2.1,x.2.2.2.1,x.2.2.2.2)).bind fun x=>
       bif decide ((x.2.1.length+(0+1)) * 56≤140737488355328) then rec (x.1,x.2.1++[x.2.2.2.2],x.2.2.1,w64 (x.2.2.2.1 - 1)) else none)=rec (s'.1,s'.2.1,s'.2.2,(k:Int)):=by
    intro x0 x8 hx0 hx8 he
    rw[he]
    cases d5:(x8.1 != 5)
    ·simp only[cF,hin,cT,bS]
     exact fin x0 _ x8 hx0 (hset _) hx8
    ·simp only[hin,cT,bS]
     exact fin x0 _ x8 hx0 (hset _) hx8
   cases hb:rdA false o t.2.1
   ·obtain ⟨w,c4,f4,h4⟩:=φEr h3 8
    simp only[nF,cT,f4,bS]
    cases w
    ·simp only[nF,cT,bS,hin,hb,cF]
     have:=stay c4 (1,t.2.1,[],[],0) h4 (by show (1:Int)≠11;decide) rfl
     simp only[hin,cT] at this
     exact this
    ·simp only[nZ,cF,bS,hin,cT,hb]
     have:=stay c4 t h4 ht rfl
     simp only[hin,cT] at this
     exact this
   ·simp only[nZ,cF,bS,hin,cT,hb]
    cases d1:(t.1==1)
    ·simp only[cF,bS]
     exact stay c3 t h3 ht rfl
    ·obtain ⟨w,c4,f4,h4⟩:=φEr h3 8
     simp only[cT,f4,bS]
     cases w
     ·simp only[nF,cT,bS]
      exact stay c4 (5,t.2) h4 (by show (5:Int)≠11;decide) rfl
     ·simp only[nZ,cF,bS]
      exact stay c4 t h4 ht rfl)
  m (c1,[],κJ 3 false) ⟨h1,by simp;omega,fun x hx=>by simp at hx,trivial,rfl⟩ (by omega)
 obtain ⟨⟨c2,l⟩,e2,h2,hl,hs,hcl⟩:=key
 unfold ψ38.f
 have hw:w64 ((most:Int)+1)=(most:Int)+1:=φH (by omega) (by omega)
 have e2:lp ψ38.l0 (c1,[],κJ 3 false,(m:Int))=some (c2,l):=e2
 simp only[hw,e1,e2,bS]
 exact ⟨l,c2,rfl,hl,hs,hcl,h2⟩
theorem φOU (l:List TxnT) (hl:l.length<1000000) (ht:∀t∈l,t.2.1.length≤20∧t.2.2.length≤50):ψ1Q.f l=some l:=by
 have key:=φGw (step:=ψ1Q.l0) (fun n (a:List TxnT)=>(a,l,(l.length:Int),(n:Int))) l.length (fun n a=>a=l.take n) (fun b=>b=l)
  (fun rec a hi=>⟨_,by simp[ψ1Q.l0];rfl,by rw[hi,κW]⟩)
  (fun rec n a hn hi=>by
   have e0:(n:Int)<(l.length:Int):=by omega
   have hw:=φQ (show n+1<9223372036854775808 by omega)
   have h:=ht _ (gM hn)
   have hc:=φAz l[n] (by omega) (by omega)
   have hal:a.length=n:=by rw[hi,lT];omega
   have q:decide ((a.length+(0+1)) * 56≤140737488355328)=true:=by simp;omega
   refine ⟨a++[l[n]],by rw[hi,κ4 hn],?_⟩
   simp only[ψ1Q.l0,e0,dT,cT,φJ,hn,φN,φD hn,φ2Z,hc,bS,lC,lN,q,hw])
  [] (by simp) (by omega)
 obtain ⟨b,k,kb⟩:=key
 unfold ψ1Q.f
 have k:lp ψ1Q.l0 ([],l,(l.length:Int),0)=some b:=k
 rw[k,kb];rfl
theorem φMt {s:φ8} {d:φ1} (h:SmallS s d):(φU s d).1.length≤1000:=by
 have:=φ7d s d
 have:=h.dir
 omega
abbrev zTx:List TxnT:=κJ 3 (false,[],[])
abbrev φL3 (d:φ1):EngT:=(false,((0,[]),[],0,0,0),d,zTx)
theorem φOE {e:EngT} (h1:e.2.1.1.2.length≤1000) (h2:e.2.1.2.1.length≤1000) (h3:e.2.2.1.1.length<200000) (hl:e.2.2.2.length≤3) (ht:∀t∈e.2.2.2,t.2.1.length≤20∧t.2.2.length≤50):ψ1L.f e=some e:=by
 unfold ψ1L.f
 simp only[φBt e.2.1 (by omega) (by omega),φ5O e.2.2.1 (by omega),φOU e.2.2.2 (by omega) ht,bS,φ2Z]
def C2 (c:Int):Prop:=c=0∨c=2
theorem φHU {id:Int} (h:1≤id∧id≤100000):φ1i (φK id)=true:=by
 have hl:=φA8 id
 rw[φ7K h] at hl ⊢
 have hs:=φ5c h
 rw[φ74 h] at hs
 unfold φ1i at hs ⊢
 simp only[bA,decide_eq_true_eq,List.all_append,lA] at hs ⊢
 refine ⟨⟨by decide,hs.1.2⟩,?_,?_⟩
 ·show 1≤4+_;omega
 ·rw[lA] at hl;show 4+_≤12;have:([104,105,110,116]:List UInt8).length=4:=rfl;omega
theorem φ7E {c:Int} (h:C2 c):told c=c:=by
 rcases h with rfl | rfl<;>rfl
structure FD (d:φ1):Prop where
 dk:φ3 d=true
 fr:Free d
theorem φBQ {d:φ1} (h:FD d) (n:List UInt8):FD (φB n d).1∧(φB n d).2=0∧(φ2 (φB n d).1 n).2=false:=
 ⟨⟨φ2L h.dk n,φ56 (P:=Free) (fun d act k=>φ1J k) n h.fr⟩,φBI h.dk h.fr n,φBd (φBI h.dk h.fr n)⟩
theorem φGY {d:φ1} (h:FD d) {n:List UInt8} (hn:φ1i n=true) (ha:(φ2 d n).2=false):FD (φV n d).1∧C2 (φV n d).2:=by
 refine ⟨⟨φ34 h.dk n,φ1J h.fr⟩,?_⟩
 unfold φV
 rw[φ47 h.dk h.fr]
 unfold φ2b
 simp only
 rw[if_neg (by rw[hn];simp),if_neg]
 ·split
  ·exact .inr rfl
  ·exact .inl rfl
 ·rcases φu d.1 n with ⟨e,_⟩ | ⟨i,hi,e,hx⟩
  ·rw[e];decide
  ·exfalso
   have:=φ2k h.dk (gM hi)
   rw[hx] at this
   rw[this] at ha;simp at ha
theorem φA7 {d:φ1} (h:FD d) {n:List UInt8} (hn:(φ2 d n).2=true) (t:List UInt8):FD (φL n t d).1∧C2 (φL n t d).2:=by
 refine ⟨⟨φ3L h.dk n t,φ1J h.fr⟩,?_⟩
 obtain ⟨i,hi,e,_⟩:=φ50 hn
 unfold φL
 rw[φ47 h.dk h.fr]
 unfold φ2R
 simp only
 rw[e]
 simp only
 split
 ·exact .inr rfl
 ·exact .inl rfl
theorem φ9S {d:φ1} (h:FD d) {n:List UInt8} (hn:(φ2 d n).2=true):FD (φG n d).1∧(φG n d).2=0:=
 ⟨⟨φ3K h.dk n,φ1J h.fr⟩,φ7U h.dk h.fr hn⟩
theorem φBX {w:φE} (h:FD w.1) (hc:C2 w.2) {n:List UInt8} (hn:φ1i n=true):FD (sNew n w).1∧C2 (sNew n w).2:=by
 obtain ⟨d,c⟩:=w
 rcases hc with hc | hc
 ·have hc:c=0:=hc
  subst hc
  obtain ⟨g1,g2,g3⟩:=φBQ h n
  have e:sNew n (d,0)=φV n (φB n d).1:=by
   unfold sNew φ9
   rw[if_pos rfl,if_pos g2]
  rw[e]
  exact φGY g1 hn g3
 ·have hc:c=2:=hc
  subst hc
  rw[φFn (by decide)]
  exact ⟨h,.inr rfl⟩
theorem φCx {w:φE} (h:FD w.1) (hc:C2 w.2) {n:List UInt8} (hn:φ1i n=true) (t:List UInt8):FD (φ1P n t w).1∧C2 (φ1P n t w).2:=by
 obtain ⟨g1,g2⟩:=φBX h hc hn
 show FD (φ9 (φG n) (φ9 (φL n t) (sNew n w))).1∧C2 (φ9 (φG n) (φ9 (φL n t) (sNew n w))).2
 by_cases c:(sNew n w).2=0
 ·obtain ⟨_,ht⟩:=φ6s c
  obtain ⟨a1,a2⟩:=φA7 g1 (n:=n) (by rw[ht]) t
  have e1:φ9 (φL n t) (sNew n w)=φL n t (sNew n w).1:=by unfold φ9;rw[if_pos c]
  rw[e1]
  by_cases c2:(φL n t (sNew n w).1).2=0
  ·have e2:φ9 (φG n) (φL n t (sNew n w).1)=φG n (φL n t (sNew n w).1).1:=by unfold φ9;rw[if_pos c2]
   rw[e2]
   obtain ⟨s1,s2⟩:=φ9S a1 (n:=n) (by rw[(φ4A c2).2])
   exact ⟨s1,.inl s2⟩
  ·have e2:φ9 (φG n) (φL n t (sNew n w).1)=φL n t (sNew n w).1:=by unfold φ9;rw[if_neg c2]
   rw[e2];exact ⟨a1,a2⟩
 ·have e1:φ9 (φL n t) (sNew n w)=sNew n w:=by unfold φ9;rw[if_neg c]
  have e2:φ9 (φG n) (sNew n w)=sNew n w:=by unfold φ9;rw[if_neg c]
  rw[e1,e2];exact ⟨g1,g2⟩
theorem φGU {w:φE} (h:FD w.1) (hc:C2 w.2) (v:φP):FD (sPut v w).1∧C2 (sPut v w).2:=by
 obtain ⟨g1,g2⟩:=φCx h hc (n:=[116,101,109,112]) (by decide) (φn v)
 refine ⟨⟨φ3f h.dk v,φ6q (P:=Free) (fun d act k=>φ1J k) v h.fr⟩,?_⟩
 unfold sPut φ9
 by_cases c:(φ1P [116,101,109,112] (φn v) w).2=0
 ·rw[if_pos c]
  obtain ⟨_,ht⟩:=φ9R c
  obtain ⟨i,hi,e,hx,_⟩:=φ50 (by rw[ht])
  left
  show (φT _ (φ2J [116,101,109,112] [108,105,118,101])).2=0
  rw[φ47 g1.dk g1.fr]
  unfold φ2J
  rw[if_neg (by decide),e]
 ·rw[if_neg c];exact g2
theorem φKJ {d:φ1} (h:FD d) (names:List (List UInt8)):FD (φm names (d,0)).1∧(φm names (d,0)).2=0:=
 ⟨⟨φ4S names h.dk,φ5M (P:=Free) (fun d act k=>φ1J k) names h.fr⟩,φ9U names h.dk h.fr rfl⟩
theorem φEi {names:List (List UInt8)} {w:φE} (h:FD w.1) (hc:C2 w.2):C2 (φ1d names w).2:=by
 unfold φ1d
 split
 ·split
  ·exact .inr rfl
  ·show C2 (told (φm names (w.1,0)).2)
   rw[(φKJ h names).2];exact .inl rfl
 ·exact hc
theorem JB.fd {s:φ8} {d:φ1} (h:JB s d):FD d:=⟨(φg.1 h.ok).1,h.fre⟩
theorem φNL {s:φ8} {d:φ1} (h:JB s d):C2 (rotP s d).2.2∨(rotP s d).2.2=5:=by
 obtain ⟨q1,q2,q3,q4,q5,q6⟩:=φg.1 h.ok
 obtain ⟨k1,k2,k3,k4⟩:=(φ13 s.1).1 q2
 have hex:(φ2 d (actN s)).2=true:=(((φ1s _).1 q5).1 _ (φ37 (φ3J q2))).1
 obtain ⟨s1,s2⟩:=φ9S h.fd hex
 obtain ⟨g1,g2,g3⟩:=φBQ s1 (φ0 s.1.1)
 have hn:=φ5c (id:=s.1.1) ⟨k2.1,k2.2⟩
 obtain ⟨c1,c2⟩:=φGY g1 hn g3
 have e:φ9 (φV (φ0 s.1.1)) (φB (φ0 s.1.1) (φG (actN s) d).1)=φV (φ0 s.1.1) (φB (φ0 s.1.1) (φG (actN s) d).1).1:=by unfold φ9;rw[if_pos g2]
 unfold rotP
 split
 ·exact .inr rfl
 left
 rw[if_neg (by rw[s2];simp)]
 simp only
 rw[e]
 split
 ·show C2 (told _)
  rw[φ7E c2];exact c2
 obtain ⟨p1,p2⟩:=φGU (w:=((φV (φ0 s.1.1) (φB (φ0 s.1.1) (φG (actN s) d).1).1).1,0)) c1 (.inl rfl) (s.1.1+1,s.1.2++[s.1.1])
 split
 ·refine φEi (w:=φA _) p1 ?_
  show C2 (told _)
  rw[φ7E p2];exact p2
 ·exact .inl rfl
theorem φMV {s:φ8} {d:φ1} (h:JB s d) (r:RecT):C2 (addP s d r).2.2.1∨(addP s d r).2.2.1=5:=by
 have hR:Grow s d (addR s d (frame (φ7 r))).1 (addR s d (frame (φ7 r))).2.1 []∧(C2 (addR s d (frame (φ7 r))).2.2∨(addR s d (frame (φ7 r))).2.2=5):=by
  unfold addR
  split
  ·exact ⟨φAl h,φNL h⟩
  ·exact ⟨Grow.refl h,.inl (.inl rfl)⟩
 unfold addP
 generalize addR s d (frame (φ7 r))=R at *
 obtain ⟨hR,hc⟩:=hR
 simp only
 split
 ·exact hc
 obtain ⟨q1,q2,q3,q4,q5,q6⟩:=φg.1 hR.jb.ok
 have hex:(φ2 R.2.1 (actN R.1)).2=true:=(((φ1s _).1 q5).1 _ (φ37 (φ3J q2))).1
 obtain ⟨a1,a2⟩:=φA7 hR.jb.fd hex (frame (φ7 r))
 split
 ·left;show C2 (told _);rw[φ7E a2];exact a2
 ·exact .inl (.inl rfl)
theorem φFk:∀(rs:List RecT) (s:φ8) (d:φ1),JB s d→(∀r∈rs,φZ r=true)→C2 (φd rs s d).2.2.1∨(φd rs s d).2.2.1=5
 | [],_,_,_,_=>.inl (.inl rfl)
 | r::rs,s,d,h,hr=>by
  unfold φd
  split
  ·exact φMV h r
  ·rename_i c
   obtain ⟨p,g,_⟩:=(φCM h (hr r (by simp))).1 (by simpa using c)
   exact φFk rs _ _ g.jb fun x hx=>hr x (by simp[hx])
def C4 (c:Int):Prop:=c=0∨c=2∨c=4∨c=5
theorem C2.c4 {c:Int} (h:C2 c):C4 c:=h.elim .inl fun k=>.inr (.inl k)
theorem φLf {s:φ8} {d:φ1} (h:JR s d) (l:List PutT):C4 (φ2O s d l).2.2:=by
 obtain ⟨q1,q2,q3,q4,q5,q6⟩:=φg.1 h.ok
 unfold φ2O
 by_cases c1:φf s d=false∨φ28 l=false
 ·rw[if_pos c1];exact .inr (.inr (.inl rfl))
 rw[if_neg c1]
 by_cases c2:l.length=0
 ·rw[if_pos c2];exact .inl rfl
 rw[if_neg c2]
 by_cases c3:20<φ2i s.2.1 l∨s.2.2.1 > 1000000
 ·rw[if_pos c3];exact .inr (.inr (.inr rfl))
 rw[if_neg c3]
 have hp:φ28 l=true:=by
  cases hp:φ28 l with
  | true=>rfl
  | false=>exact absurd (.inr hp) c1
 have hrec:=φ6w (b:=s.2.2.1) (l:=l) ⟨q4.1,by omega⟩ hp
 have hJ1:=h.toJB.bump (by omega)
 have hC:=φFk (φ1n s.2.2.1 l) _ _ hJ1 hrec
 obtain ⟨P,g1,_⟩:=φ6y (φ1n s.2.2.1 l) _ _ hJ1 hrec
 unfold φ1N
 generalize φd (φ1n s.2.2.1 l) (s.1,s.2.1,s.2.2.1+1,s.2.2.2) d=g at *
 simp only
 split
 ·rcases hC with hC | hC
  ·exact hC.c4
  ·exact .inr (.inr (.inr hC))
 obtain ⟨b1,b2,b3,b4,b5,b6⟩:=φg.1 g1.jb.ok
 have hex:(φ2 g.2.1 (actN g.1)).2=true:=(((φ1s _).1 b5).1 _ (φ37 (φ3J b2))).1
 rw[if_neg (by rw[(φ9S g1.jb.fd hex).2];simp)]
 exact .inl rfl
theorem φC4 (n:List UInt8):∀(recs:List RecT) {w:φE},FD w.1→C2 w.2→(w.2=0→(φ2 w.1 n).2=true)→FD (sApp n recs w).1∧C2 (sApp n recs w).2∧((sApp n recs w).2=0→(φ2 (sApp n recs w).1 n).2=true)
 | [],w,h,hc,he=>⟨h,hc,he⟩
 | r::recs,w,h,hc,he=>by
  have es:sApp n (r::recs) w=sApp n recs (φ9 (φL n (frame (φ7 r))) w):=rfl
  rw[es]
  by_cases c:w.2=0
  ·have e:φ9 (φL n (frame (φ7 r))) w=φL n (frame (φ7 r)) w.1:=by unfold φ9;rw[if_pos c]
   obtain ⟨a1,a2⟩:=φA7 h (he c) (frame (φ7 r))
   rw[e]
   exact φC4 n recs (w:=φL n (frame (φ7 r)) w.1) a1 a2 fun c2=>by rw[(φ4A c2).2]
  ·have e:φ9 (φL n (frame (φ7 r))) w=w:=by unfold φ9;rw[if_neg c]
   rw[e]
   exact φC4 n recs (w:=w) h hc he
theorem φJP {w:φE} (h:FD w.1) (hc:C2 w.2) {n:List UInt8} (he:w.2=0→(φ2 w.1 n).2=true):FD (φ9 (φG n) w).1∧C2 (φ9 (φG n) w).2:=by
 unfold φ9
 by_cases c:w.2=0
 ·rw[if_pos c]
  obtain ⟨a,b⟩:=φ9S h (he c)
  exact ⟨a,.inl b⟩
 ·rw[if_neg c];exact ⟨h,hc⟩
theorem φKn {d:φ1} (h:FD d) {m:Int} (hm:1≤m∧m≤100000):FD (φ1r m d).1∧(φ1r m d).2=0:=by
 obtain ⟨a,b⟩:=φCx (w:=(d,0)) h (.inl rfl) (φHU hm) (φ1R (φ15 m (φ2 d (φ0 m)).1).1)
 unfold φ1r
 simp only
 split
 ·obtain ⟨x,y,_⟩:=φBQ a (φK m)
  exact ⟨x,y⟩
 ·rename_i c
  exact ⟨a,b.elim id fun k=>absurd k c⟩
theorem φIE {s:φ8} {d:φ1} (h:JR s d):C4 (φ1v s d).2.2:=by
 obtain ⟨q1,q2,q3,q4,q5,q6⟩:=φg.1 h.ok
 obtain ⟨k1,k2,k3,k4⟩:=(φ13 s.1).1 q2
 unfold φ1v
 rw[if_neg (by rw[h.ok];simp)]
 by_cases c:s.1.1+2 > 100000
 ·rw[if_pos c];exact .inr (.inr (.inr rfl))
 rw[if_neg c]
 refine C2.c4 ?_
 generalize (φU s d).1=l
 have n1:=φ5c (id:=s.1.1) ⟨k2.1,k2.2⟩
 have n2:=φ5c (id:=s.1.1+1) ⟨by omega,by omega⟩
 obtain ⟨a1,a2⟩:=φBX (w:=(d,0)) h.fd (.inl rfl) n1
 obtain ⟨b1,b2,b3⟩:=φC4 (φ0 s.1.1) (φX l (s.2.2.1 - 1)) a1 a2 fun e=>by rw[(φ6s e).2]
 obtain ⟨c1,c2⟩:=φJP b1 b2 b3
 have c1:FD (sWM s.1.1 (φX l (s.2.2.1 - 1)) (d,0)).1:=c1
 obtain ⟨d1,d2⟩:=φBX c1 c2 n2
 unfold φ14
 simp only
 have d1:FD (sNew (φ0 (s.1.1+1)) (sWM s.1.1 (φX l (s.2.2.1 - 1)) (d,0))).1:=d1
 have d2:C2 (sNew (φ0 (s.1.1+1)) (sWM s.1.1 (φX l (s.2.2.1 - 1)) (d,0))).2:=d2
 generalize sNew (φ0 (s.1.1+1)) (sWM s.1.1 (φX l (s.2.2.1 - 1)) (d,0))=w1 at *
 have e12:FD (φq s.1.1 w1).1∧C2 (φq s.1.1 w1).2:=by
  unfold φq
  split
  ·exact ⟨d1,d2⟩
  ·obtain ⟨x,y⟩:=φKn d1 (m:=s.1.1) ⟨k2.1,k2.2⟩
   exact ⟨x,.inl y⟩
 generalize φq s.1.1 w1=w2 at *
 obtain ⟨e1,e2⟩:=e12
 have f12:FD (if w2.2=0 then φA (sPut (s.1.1+2,[s.1.1,s.1.1+1]) w2) else φA w2).1∧C2 (if w2.2=0 then φA (sPut (s.1.1+2,[s.1.1,s.1.1+1]) w2) else φA w2).2:=by
  split
  ·obtain ⟨x,y⟩:=φGU e1 e2 (s.1.1+2,[s.1.1,s.1.1+1])
   exact ⟨x,by show C2 (told _);rw[φ7E y];exact y⟩
  ·exact ⟨e1,by show C2 (told _);rw[φ7E e2];exact e2⟩
 generalize (if w2.2=0 then φA (sPut (s.1.1+2,[s.1.1,s.1.1+1]) w2) else φA w2)=w3 at *
 obtain ⟨f1,f2⟩:=f12
 split
 ·exact φEi f1 f2
 ·show C2 (told (sOld s.1.2 (w3.1,0)).2)
  rw[φ7R s.1.2 (w:=(w3.1,0)) f1.dk f1.fr rfl]
  exact .inl rfl
theorem JR.cap {s:φ8} {d:φ1} (h:JR s d) {c:Int} (hc:(φI d.1:Int)≤c) (h2:c≤100000):JR s (d.1,c,d.2.2):=by
 obtain ⟨q1,q2,q3,q4,q5,q6⟩:=φg.1 h.ok
 obtain ⟨e1,e2,e3,e4,e5,e6⟩:=(φ3T d).1 q1
 have hk:φ3 (d.1,c,d.2.2)=true:=(φ3T _).2 ⟨⟨by show 0≤c;omega,h2⟩,e2,e3,hc,e5,e6⟩
 have hft:∀n,φ2 (d.1,c,d.2.2) n=φ2 d n:=fun n=>φFr q1 hk n fun t=>Iff.rfl
 have hpl:φS (d.1,c,d.2.2) s.1.2=φS d s.1.2:=φ5a fun id _=>hft _
 obtain ⟨nx,n1,n2,n3⟩:=h.liv
 refine ⟨⟨φg.2 ⟨hk,q2,q3,q4,?_,fun e he=>?_⟩,h.lt,⟨nx,n1,n2,by rw[hft];exact n3⟩,h.fre⟩,by rw[hpl];exact h.reg,by rw[hpl];exact h.pb,by rw[hpl];exact h.own⟩
 ·obtain ⟨g1,g2⟩:=(φ1s _).1 q5
  exact (φ1s _).2 ⟨fun id hid=>by rw[hft];exact g1 id hid,fun hne=>by rw[hft];exact g2 hne⟩
 ·have:=q6 e he
  rw[φ36] at this ⊢
  have ea:φ1D (d.1,c,d.2.2) e=φ1D d e:=by unfold φ1D;rw[hft]
  rw[ea];exact this
abbrev zT:TxnT:=(false,[],[])
def φ3F (l:List TxnT) (s:φW):Bool:=
 decide (1≤s.1∧s.1≤6) && (decide (0≤s.2.1∧s.2.1≤2) && ((rdA zT l s.2.1).1==(s.1 != 1)))
def putS (s:φW):PutT:=(s.2.2.1,s.1==4,s.2.2.2.1)
def ownA (p:PutT):AnsT:=bif p.2.1 then (8,[],[]) else (0,p.2.2,[])
def getG (look:List UInt8→φk×Int) (l:List TxnT) (s:φW):List TxnT×AnsT:=
 let t:=rdA zT l s.2.1
 bif !φ1L s.2.2.1 then (l,(4,[],[])) else
 bif (ownW t.2.2 s.2.2.1).2 then (l,ownA (ownW t.2.2 s.2.2.1).1) else
 let p:=look s.2.2.1
 let r:=φ27 t s.2.2.1 p.1.2.2
 (l.set s.2.1.toNat r.1,bif r.2 != 0 then (r.2,[],[]) else (p.2,p.1.2.1,[]))
def putG (l:List TxnT) (s:φW):List TxnT×AnsT:=
 let w:=φ2Y (rdA zT l s.2.1) (putS s)
 (l.set s.2.1.toNat w.1,bif !φ2c (putS s) then (4,[],[]) else bif !w.2 then (5,[],[]) else (0,[],[]))
def sesG (look:List UInt8→φk×Int) (val:TxnT→Bool) (l:List TxnT) (s:φW):List TxnT×AnsT×Option (List PutT):=
 bif !φ3F l s then (l,(4,[],[]),none) else
 bif s.1==1 then (l.set s.2.1.toNat (true,[],[]),(0,[],[]),none) else
 bif s.1==6 then (l.set s.2.1.toNat zT,(0,[],[]),none) else
 bif s.1==2 then ((getG look l s).1,(getG look l s).2,none) else
 bif s.1==5 then (l.set s.2.1.toNat zT,(7,[],[]),bif val (rdA zT l s.2.1) then some (netW (rdA zT l s.2.1).2.2) else none) else
 ((putG l s).1,(putG l s).2,none)
noncomputable def comE (e:EngT) (g:List TxnT×AnsT×Option (List PutT)):EngT×AnsT:=
 match g.2.2 with
 | none=>((e.1,e.2.1,e.2.2.1,g.1),g.2.1)
 | some w=>((e.1,(φ2O e.2.1 e.2.2.1 w).1,(φ2O e.2.1 e.2.2.1 w).2.1,g.1),((φ2O e.2.1 e.2.2.1 w).2.2,[],[]))
noncomputable def sesE (e:EngT) (s:φW):EngT×AnsT:=
 comE e (sesG (getP e.2.1 e.2.2.1) (fun t=>φ43 t e.2.1.2.1) e.2.2.2 s)
noncomputable def stE (e:EngT) (s:φW):EngT×AnsT:=
 bif s.1==10 then (bif e.1 then (e,(4,[],[])) else (((φ2G e.2.2.1).2.2==0,(φ2G e.2.2.1).1,(φ2G e.2.2.1).2.1,zTx),((φ2G e.2.2.1).2.2,[],[]))) else
 bif s.1==11 then (bif φ3 e.2.2.1 && decide (0≤s.2.2.2.2∧s.2.2.2.2≤100000 - (φI e.2.2.1.1:Int)) then
  ((e.1,e.2.1,(e.2.2.1.1,(φI e.2.2.1.1:Int)+s.2.2.2.2,e.2.2.1.2.2),e.2.2.2),(0,[],[])) else (e,(4,[],[]))) else
 bif !e.1 then (e,(6,[],[])) else
 bif s.1==7 then ((e.1,(φ1v e.2.1 e.2.2.1).1,(φ1v e.2.1 e.2.2.1).2.1,e.2.2.2),((φ1v e.2.1 e.2.2.1).2.2,[],[])) else
 bif s.1==8 then (e,(0,[],e.2.1.2.1.map (·.1))) else
 bif s.1==9 then (φL3 e.2.2.1,(0,[],[])) else
 sesE e s
theorem φM5 {l:List TxnT} (hl:l.length=3) (s:φW):ψ1u.f l s=some (φ3F l s):=by
 have hw:w64 ((l.length:Int) - 1)=2:=by rw[hl];rfl
 unfold ψ1u.f φ3F
 simp only[φ1V,bS,hw]
 by_cases h1:1≤s.1∧s.1≤6
 ·simp only[h1,and_self,dT,cT,tA]
  by_cases h2:0≤s.2.1∧s.2.1≤2
  ·obtain ⟨n,hn⟩:∃n:Nat,s.2.1=(n:Int):=⟨s.2.1.toNat,by omega⟩
   have hin:inB s.2.1 l.length=true:=by rw[hn,φJ,hl];simp;omega
   simp only[h2,and_self,dT,cT,tA,hin]
  ·simp only[h2,dF,cF,κD]
 ·simp only[h1,dF,cF,κD]
theorem φ7O {l:List TxnT} (hl:l.length=3) {s:φW} (h:φ3F l s=true):∃n:Nat,∃hn:n<l.length,s.2.1=(n:Int)∧inB s.2.1 l.length=true∧rdA zT l s.2.1=l[n]∧s.2.1.toNat=n∧(l[n].1=(s.1 != 1))∧1≤s.1∧s.1≤6:=by
 unfold φ3F at h
 simp only[bA,decide_eq_true_eq,beq_iff_eq] at h
 obtain ⟨h1,h2,h3⟩:=h
 obtain ⟨n,hn⟩:∃n:Nat,s.2.1=(n:Int):=⟨s.2.1.toNat,by omega⟩
 have hn3:n<l.length:=by omega
 have hrd:rdA zT l s.2.1=l[n]:=by rw[hn,φN,φD hn3]
 exact ⟨n,hn3,hn,by rw[hn,φJ];simp[hn3],hrd,by omega,by rw[←hrd];exact h3,h1.1,h1.2⟩
theorem φIe (t:TxnT) (key:List UInt8) (h:t.2.2.length<2 ^ 62):ψ1d.f t key=some (bif (ownW t.2.2 key).2 then (ownA (ownW t.2.2 key).1,true) else ((0,[],[]),false)):=by
 unfold ψ1d.f ownA
 rw[φNM t key h,bS]
 generalize ownW t.2.2 key=x
 obtain ⟨⟨a,b,v⟩,c⟩:=x
 cases c
 ·rfl
 ·cases b<;>rfl
theorem φHi {s:φ8} {d:φ1} (h:φf s d=true) (key:List UInt8):(getP s d key).2=0∨getP s d key=(([],[],0),8):=by
 rcases φCs s.2.1 key with c | ⟨c1,c2⟩
 ·right
  unfold getP
  rw[if_pos c]
 ·by_cases hk:∃e∈s.2.1,e.1=key
  ·obtain ⟨e,he,rfl⟩:=hk
   exact .inl (φ7t h he).1
  ·exact .inr (φCP fun e he k=>hk ⟨e,he,k⟩)
theorem φIi {e:EngT} (hl:e.2.2.2.length=3) (ht:∀t∈e.2.2.2,t.2.1.length≤20∧t.2.2.length≤50) (hS:SmallS e.2.1 e.2.2.1) (h3:∀k,(getP e.2.1 e.2.2.1 k).2≠3) {s:φW} (hf:φ3F e.2.2.2 s=true) :
  ψJ.f e s=some ((getG (getP e.2.1 e.2.2.1) e.2.2.2 s).2,(e.1,e.2.1,e.2.2.1,(getG (getP e.2.1 e.2.2.1) e.2.2.2 s).1)):=by
 obtain ⟨hlim,hu⟩:=hS.lim
 have hd:=hS.dir
 obtain ⟨n,hn,h1,hin,hrd,hto,_,_,_⟩:=φ7O hl hf
 have htn:=ht _ (gM hn)
 have hc3:((getP e.2.1 e.2.2.1 s.2.2.1).2==3)=false:=by simpa using h3 s.2.2.1
 unfold ψJ.f getG
 simp only[hin,cT,φ6a,bS,hrd,φ2Z]
 cases φ1L s.2.2.1
 ·rfl
 simp only[nZ,cF,φIe e.2.2.2[n] s.2.2.1 (by omega),bS]
 cases (ownW e.2.2.2[n].2.2 s.2.2.1).2
 ·simp only[cF,φEh e.2.1 e.2.2.1 s.2.2.1 hlim hu (by omega),bS,hc3]
  unfold ψ1h.f
  rw[φN9 e.2.2.2[n] s.2.2.1 _ (by omega) (by omega),bS]
  generalize φ27 e.2.2.2[n] s.2.2.1 (getP e.2.1 e.2.2.1 s.2.2.1).1.2.2=r
  obtain ⟨r1,r2⟩:=r
  simp only
  cases (r2 != 0)<;>rfl
 ·rfl
theorem φLu {t:TxnT} (ht:t.2.1.length≤20∧t.2.2.length≤50) (s:φW):ψ2E.f t s=some ((φ2Y t (putS s)).1,bif !φ2c (putS s) then (4,[],[]) else bif !(φ2Y t (putS s)).2 then (5,[],[]) else (0,[],[])):=by
 unfold ψ2E.f
 show ((ψ1E.f t (putS s)).bind fun x=>(ψ1g.f (putS s)).bind fun t2=>bif !t2 then _ else bif !x.2 then _ else _)=_
 rw[φKI t _ (by omega) (by omega),bS,φBr,bS]
 generalize φ2Y t (putS s)=x
 obtain ⟨x1,x2⟩:=x
 cases φ2c (putS s)
 ·rfl
 ·cases x2<;>rfl
theorem φM7 {e:EngT} (hl:e.2.2.2.length=3) (ht:∀t∈e.2.2.2,t.2.1.length≤20∧t.2.2.length≤50) (hS:SmallS e.2.1 e.2.2.1) (h3:∀k,(getP e.2.1 e.2.2.1 k).2≠3) (s:φW) :
  ψL.f e s=some ((sesE e s).2,(sesE e s).1):=by
 obtain ⟨hlim,hu⟩:=hS.lim
 have hd:=hS.dir
 unfold ψL.f sesE sesG comE
 rw[φM5 hl s,bS]
 cases hf:φ3F e.2.2.2 s
 ·rfl
 obtain ⟨n,hn,h1,hin,hrd,hto,_,k1,k6⟩:=φ7O hl hf
 have htn:=ht _ (gM hn)
 simp only[nZ,cF,hin,cT]
 cases c1:(s.1==1)
 rotate_left
 ·rfl
 cases c6:(s.1==6)
 rotate_left
 ·rfl
 cases c2:(s.1==2)
 rotate_left
 ·simp only[cT,cF,φIi hl ht hS h3 hf,bS]
 have com:((ψ1G.f ((rdA (false,[],[]) e.2.2.2 s.2.1).1,(rdA (false,[],[]) e.2.2.2 s.2.1).2) e.2.1.2.1).bind fun t9=>
   bif !t9 then some (((7,[],[]):AnsT),((e.1,e.2.1,e.2.2.1,e.2.2.2.set s.2.1.toNat (false,[],[])):EngT)) else
   (ψc.f ((rdA (false,[],[]) e.2.2.2 s.2.1).1,(rdA (false,[],[]) e.2.2.2 s.2.1).2)).bind fun t10=>
   (ψ2.f e.2.1 e.2.2.1 t10).bind fun x=>some (((x.2.2,[],[]):AnsT),((e.1,x.1,x.2.1,e.2.2.2.set s.2.1.toNat (false,[],[])):EngT))) =
   some ((comE e (e.2.2.2.set s.2.1.toNat zT,(7,[],[]),bif φ43 (rdA zT e.2.2.2 s.2.1) e.2.1.2.1 then some (netW (rdA zT e.2.2.2 s.2.1).2.2) else none)).2,(comE e (e.2.2.2.set s.2.1.toNat zT,(7,[],[]),bif φ43 (rdA zT e.2.2.2 s.2.1) e.2.1.2.1 then some (netW (rdA zT e.2.2.2 s.2.1).2.2) else none)).1):=by
  have hnl:=φEb e.2.2.2[n].2.2
  rw[φ2Z,show rdA (false,[],[]) e.2.2.2 s.2.1=e.2.2.2[n] from hrd,φNa e.2.2.2[n] e.2.1.2.1 (by omega) (by omega),bS]
  cases φ43 e.2.2.2[n] e.2.1.2.1
  ·rfl
  ·simp only[nZ,cF,cT,φAB e.2.2.2[n] (by omega),bS,φLs hS (netW e.2.2.2[n].2.2) (by omega),comE]
 have put:((ψ2E.f ((rdA (false,[],[]) e.2.2.2 s.2.1).1,(rdA (false,[],[]) e.2.2.2 s.2.1).2) s).bind fun x=>some ((x.2:AnsT),((e.1,e.2.1,e.2.2.1,e.2.2.2.set s.2.1.toNat x.1):EngT))) =
   some ((putG e.2.2.2 s).2,(e.1,e.2.1,e.2.2.1,(putG e.2.2.2 s).1)):=by
  unfold putG
  rw[φ2Z,show rdA (false,[],[]) e.2.2.2 s.2.1=e.2.2.2[n] from hrd,φLu htn s,bS]
 unfold comE at com
 simp only[cF]
 cases c3:(s.1==3)
 ·cases c4:(s.1==4)
  ·cases c5:(s.1==5)
   ·exfalso
    simp at c1 c2 c3 c4 c5 c6
    omega
   ·exact com
  ·have c5:(s.1==5)=false:=by simp at c4 ⊢;omega
   simp only[cT,cF,c5]
   exact put
 ·have c5:(s.1==5)=false:=by simp at c3 ⊢;omega
  simp only[cT,cF,c5]
  exact put
theorem φOC {e:EngT} (hl:e.2.2.2.length=3) (ht:∀t∈e.2.2.2,t.2.1.length≤20∧t.2.2.length≤50) (hS:SmallS e.2.1 e.2.2.1):ψ1L.f e=some e:=
 φOE hS.ids hS.dir hS.sm.1 (by omega) ht
structure Fit (e:EngT):Prop where
 len:e.2.2.2.length=3
 tx:∀t∈e.2.2.2,t.2.1.length≤20∧t.2.2.length≤50
 sm:SmallS e.2.1 e.2.2.1
 dk:φ3 e.2.2.1=true
 n3:e.1=true→∀k,(getP e.2.1 e.2.2.1 k).2≠3
theorem φJ4 {e:EngT} (h:Fit e) (s:φW):ψN.f e s=some ((stE e s).2,(stE e s).1):=by
 have hd:=(φ12 h.dk)
 have hlim:=φ1a hd (show 100001≤1000000000 by omega)
 have hu:φI e.2.2.1.1≤100000:=by have:=hd.2.1;omega
 have hw:w64 (100000 - ((φI e.2.2.1.1:Nat):Int))=100000 - (φI e.2.2.1.1:Int):=φH (by omega) (by omega)
 have open_:((ψI.f e.2.2.1).bind fun x=>some (((x.2,[],[]):AnsT),x.1))=some ((((φ2G e.2.2.1).2.2,[],[]):AnsT),(((φ2G e.2.2.1).2.2==0,(φ2G e.2.2.1).1,(φ2G e.2.2.1).2.1,zTx):EngT)):=by
  unfold ψI.f
  rw[φGR e.2.2.1 (φ3P hd (by omega))]
  rfl
 have cap:((ψ1v.f e.2.2.1).bind fun t2=>(ψD.f e.2.2.1).bind fun t3=>bif !t3 then some (((4,[],[]):AnsT),e) else
   (ψ1X.f s.2.2.2.2 0 (w64 (100000 - t2))).bind fun t4=>bif !t4 then some (((4,[],[]):AnsT),e) else
   some (((0,[],[]):AnsT),((e.1,e.2.1,(e.2.2.1.1,w64 (t2+s.2.2.2.2),e.2.2.1.2.2),e.2.2.2):EngT))) =
   some ((bif φ3 e.2.2.1 && decide (0≤s.2.2.2.2∧s.2.2.2.2≤100000 - (φI e.2.2.1.1:Int)) then (((e.1,e.2.1,(e.2.2.1.1,(φI e.2.2.1.1:Int)+s.2.2.2.2,e.2.2.1.2.2),e.2.2.2):EngT),((0,[],[]):AnsT)) else (e,(4,[],[]))).2,
    (bif φ3 e.2.2.1 && decide (0≤s.2.2.2.2∧s.2.2.2.2≤100000 - (φI e.2.2.1.1:Int)) then (((e.1,e.2.1,(e.2.2.1.1,(φI e.2.2.1.1:Int)+s.2.2.2.2,e.2.2.1.2.2),e.2.2.2):EngT),((0,[],[]):AnsT)) else (e,(4,[],[]))).1):=by
  simp only[φHZ e.2.2.1 (by have:=hlim.1;omega) (by omega),φ5j e.2.2.1 hlim,h.dk,bS,nZ,cF,φ1V,hw,tA]
  by_cases c:0≤s.2.2.2.2∧s.2.2.2.2≤100000 - (φI e.2.2.1.1:Int)
  ·have:w64 ((φI e.2.2.1.1:Int)+s.2.2.2.2)=(φI e.2.2.1.1:Int)+s.2.2.2.2:=φH (by omega) (by omega)
   simp only[c,and_self,dT,nZ,cF,cT,this]
  ·simp only[c,dF,nF,cT,cF]
 unfold ψN.f stE
 cases c10:(s.1==10)
 rotate_left
 ·simp only[cT]
  cases hu:e.1
  ·exact open_
  ·rfl
 simp only[cF]
 cases c11:(s.1==11)
 rotate_left
 ·simp only[cT]
  exact cap
 simp only[cF]
 cases hup:e.1
 ·rfl
 have hdr:=h.sm.dir
 simp only[nZ,cF]
 cases c7:(s.1==7)
 rotate_left
 ·simp only[cT,(φLU h.sm).1,bS]
 simp only[cF]
 cases c8:(s.1==8)
 rotate_left
 ·simp only[cT,φCR e.2.1.2.1 (by omega),bS]
 simp only[cF]
 cases c9:(s.1==9)
 rotate_left
 ·rfl
 simp only[cF,φM7 h.len h.tx h.sm (h.n3 hup) s,bS]
theorem mapB {A B C:Type} {X:Option A} {f:A→Option B} {f':A→Option C} {g:C→B} (h:∀x,f x=(f' x).map g):X.bind f=(X.bind f').map g:=by
 cases X with
 | none=>rfl
 | some x=>exact h x
theorem mapC {B C:Type} {b:Bool} {x y:Option B} {x' y':Option C} {g:C→B} (h1:x=x'.map g) (h2:y=y'.map g):(bif b then x else y)=(bif b then x' else y').map g:=by
 cases b
 ·exact h2
 ·exact h1
abbrev φ3g:=List AnsT×List (Int×List PutT)×List PutT
theorem φIv (e:EngT) (r:φ3g) (s:φW):ψK.f (e,r) s=(ψJ.f e s).map fun x=>(x.1,(x.2,r)):=by
 unfold ψK.f ψJ.f
 repeat' first
  | rfl
  | apply mapC
  | (apply mapB;intro x;try obtain ⟨a,b⟩:=(x:_×_))
theorem φMb (e:EngT) (r:φ3g) (s:φW):ψM.f (e,r) s=(ψL.f e s).map fun x=>(x.1,(x.2,r)):=by
 unfold ψM.f ψL.f
 rw[φIv e r s]
 cases ψJ.f e s with
 | none=>
  repeat' first
   | rfl
   | apply mapC
   | (apply mapB;intro x;try obtain ⟨a,b⟩:=(x:_×_))
 | some z=>
  repeat' first
   | rfl
   | apply mapC
   | (apply mapB;intro x;try obtain ⟨a,b⟩:=(x:_×_))
theorem φO5 (e:EngT) (r:φ3g) (s:φW):ψO.f (e,r) s=(ψN.f e s).map fun x=>(x.1,(x.2,r)):=by
 unfold ψO.f ψN.f
 rw[φMb e r s]
 cases ψL.f e s with
 | none=>
  repeat' first
   | rfl
   | apply mapC
   | (apply mapB;intro x;try obtain ⟨a,b⟩:=(x:_×_))
 | some z=>
  repeat' first
   | rfl
   | apply mapC
   | (apply mapB;intro x;try obtain ⟨a,b⟩:=(x:_×_))
theorem φMZ {e:EngT} (h:Fit e) (r:φ3g) (s:φW):ψO.f (e,r) s=some ((stE e s).2,((stE e s).1,r)):=by
 rw[φO5,φJ4 h s];rfl
def netO (e:EngT) (s:φW):List PutT:=bif (s.1==5) && (e.1 && φ3F e.2.2.2 s) then netW (rdA zT e.2.2.2 s.2.1).2.2 else []
theorem φLk {e:EngT} (h:Fit e) (s:φW):ψ1c.f e s=some (netO e s):=by
 have hl:=h.len
 have hw:w64 ((e.2.2.2.length:Int) - 1)=2:=by rw[hl];rfl
 unfold ψ1c.f netO
 cases c5:(s.1==5)
 ·have:(s.1 != 5)=true:=by simpa using c5
  simp only[this,cT,κD,cF]
 have c5':s.1=5:=by simpa using c5
 have:(s.1 != 5)=false:=by simpa using c5
 simp only[this,cF,tA]
 cases hu:e.1
 ·rfl
 simp only[nZ,cF,tA,φ1V,bS,hw]
 unfold φ3F
 have k:decide (1≤s.1∧s.1≤6)=true:=by rw[c5'];decide
 have k1:(s.1 != 1)=true:=by rw[c5'];decide
 rw[k,k1,tA]
 by_cases h2:0≤s.2.1∧s.2.1≤2
 ·obtain ⟨n,hn⟩:∃n:Nat,s.2.1=(n:Int):=⟨s.2.1.toNat,by omega⟩
  have hn3:n<e.2.2.2.length:=by omega
  have hin:inB s.2.1 e.2.2.2.length=true:=by rw[hn,φJ];simp[hn3]
  have hrd:rdA zT e.2.2.2 s.2.1=e.2.2.2[n]:=by rw[hn,φN,φD hn3]
  have ht:=h.tx _ (gM hn3)
  simp only[h2,and_self,dT,nZ,cF,hin,cT,tA,show rdA (false,[],[]) e.2.2.2 s.2.1=e.2.2.2[n] from hrd,hrd]
  cases hb:e.2.2.2[n].1
  ·rfl
  ·simp only[nZ,cF,beq_self_eq_true,cT]
   have:((true,e.2.2.2[n].2):TxnT)=e.2.2.2[n]:=by rw[←hb]
   rw[this,φAB e.2.2.2[n] (by omega)]
   rfl
 ·simp only[h2,dF,nF,cT,κD,cF]
noncomputable def runE:EngT→List φW→EngT×List AnsT
 | e,[]=>(e,[])
 | e,s::r=>((runE (stE e s).1 r).1,(stE e s).2::(runE (stE e s).1 r).2)
theorem φHt:∀(a b:List φW) (e:EngT),runE e (a++b)=((runE (runE e a).1 b).1,(runE e a).2++(runE (runE e a).1 b).2)
 | [],b,e=>rfl
 | s::a,b,e=>by
  show ((runE (stE e s).1 (a++b)).1,(stE e s).2::(runE (stE e s).1 (a++b)).2)=_
  rw[φHt a b];rfl
theorem φH7:∀(l:List φW) (e:EngT),(runE e l).2.length=l.length
 | [],_=>rfl
 | s::r,e=>by
  show (_::_).length=_
  rw[lC,φH7 r];rfl
theorem φEg (l:List φW) (s:φW) (e:EngT):runE e (l++[s])=((stE (runE e l).1 s).1,(runE e l).2++[(stE (runE e l).1 s).2]):=by
 rw[φHt];rfl
theorem φFT {I:Nat→EngT→Prop} {l:List φW} (hs:∀n (hn:n<l.length) e,I n e→I (n+1) (stE e l[n]).1) {e:EngT} (h0:I 0 e):∀n,n≤l.length→I n (runE e (l.take n)).1
 | 0,_=>by rw[List.take_zero];exact h0
 | n+1,hn=>by
  rw[κ4 (by omega),φEg]
  exact hs n (by omega) _ (φFT hs h0 n (by omega))
theorem φIa {I:Nat→EngT→Prop} {l:List φW} (hl:l.length≤300) (hI:∀n e,I n e→Fit e) (hs:∀n (hn:n<l.length) e,I n e→I (n+1) (stE e l[n]).1∧(stE e l[n]).2.1≠1) {e:EngT} (h0:I 0 e) :
  ∃acks,ψv.f e l=some ((runE e l).1,(runE e l).2,acks,[])∧I l.length (runE e l).1:=by
 have hinv:=φFT (I:=I) (l:=l) (fun n hn e h=>(hs n hn e h).1) h0
 have h00:=hI 0 e h0
 have key:=φGw (step:=ψv.l0) (fun n (s:EngT×List AnsT×List (Int×List PutT))=>((((false,((0,[]),[],0,0,0),([],0,0,false),[]),[],[],[]),(s.1,s.2.1,s.2.2,[]),l,(l.length:Int),(n:Int)):(EngT×φ3g)×(EngT×φ3g)×List φW×Int×Int)) l.length
  (fun n s=>s.1=(runE e (l.take n)).1∧s.2.1=(runE e (l.take n)).2∧s.2.2.length≤n) (fun b=>∃acks,b.2=((runE e l).1,(runE e l).2,acks,[]))
  (fun rec s hi=>by
   obtain ⟨a,b,c⟩:=s
   obtain ⟨h1,h2,_⟩:=hi
   rw[κW] at h1 h2
   refine ⟨_,by simp[ψv.l0];rfl,c,?_⟩
   simp only at h1 h2 ⊢
   rw[h1,h2])
  (fun rec n s hn hi=>by
   obtain ⟨a,b,c⟩:=s
   obtain ⟨h1,h2,h3⟩:=hi
   simp only at h1 h2 h3
   have hIn:=hinv n (by omega)
   have hF:=hI n _ hIn
   obtain ⟨_,hne⟩:=hs n hn _ hIn
   rw[←h1] at hF hne hIn
   have e0:(n:Int)<(l.length:Int):=by omega
   have hw:=φQ (show n+1<9223372036854775808 by omega)
   have h300:¬(n:Int)≥300:=by omega
   have hb:b.length=n:=by rw[h2,φH7,lT];omega
   have q1:decide ((b.length+(0+1)) * 48≤140737488355328)=true:=by simp;omega
   have q2:decide ((c.length+(0+1)) * 32≤140737488355328)=true:=by simp;omega
   have c1:((stE a l[n]).2.1==1)=false:=by simpa using hne
   have hsn:runE e (l.take (n+1))=((stE a l[n]).1,b++[(stE a l[n]).2]):=by
    rw[κ4 hn,φEg,←h1,←h2]
   have go:∀acks:List (Int×List PutT),acks.length≤n+1→∃s':EngT×List AnsT×List (Int×List PutT),(s'.1=(runE e (l.take (n+1))).1∧s'.2.1=(runE e (l.take (n+1))).2∧s'.2.2.length≤n+1) ∧
     rec ((((false,((0,[]),[],0,0,0),([],0,0,false),[]),[],[],[]),((stE a l[n]).1,b++[(stE a l[n]).2],acks,[]),l,(l.length:Int),((n+1:Nat):Int)):(EngT×φ3g)×(EngT×φ3g)×List φW×Int×Int) =
     rec ((((false,((0,[]),[],0,0,0),([],0,0,false),[]),[],[],[]),(s'.1,s'.2.1,s'.2.2,[]),l,(l.length:Int),((n+1:Nat):Int)):(EngT×φ3g)×(EngT×φ3g)×List φW×Int×Int):=fun acks ha=>
    ⟨((stE a l[n]).1,b++[(stE a l[n]).2],acks),⟨by rw[hsn],by rw[hsn],ha⟩,rfl⟩
   simp only[ψv.l0,e0,dT,cT,φJ,hn,φN,φD hn,h300,dF,cF,φ2Z,φLk hF,φMZ hF,bS,lC,lN,q1,q2,c1]
   cases ((stE a l[n]).2.1==0)
   ·simp only[cF,bS,hw]
    exact go c (by omega)
   ·simp only[cT]
    by_cases hp:((netO a l[n]).length:Int) > 0
    ·simp only[hp,dT,cT,bS,hw]
     exact go (c++[_]) (by rw[lA];simp;omega)
    ·simp only[hp,dF,cF,bS,hw]
     exact go c (by omega))
  (e,[],[]) ⟨by rw[List.take_zero];rfl,by rw[List.take_zero];rfl,by simp⟩ (by omega)
 obtain ⟨b,k,acks,hb⟩:=key
 unfold ψv.f
 rw[φOC h00.len h00.tx h00.sm,bS]
 have k:lp ψv.l0 ((((false,((0,[]),[],0,0,0),([],0,0,false),[]),[],[],[]),(e,[],[],[]),l,(l.length:Int),0):(EngT×φ3g)×(EngT×φ3g)×List φW×Int×Int)=some b:=k
 rw[k,bS]
 obtain ⟨b1,b2⟩:=b
 simp only at hb ⊢
 subst hb
 have:=hinv l.length (κ6 _)
 rw[κW] at this
 exact ⟨acks,rfl,this⟩
abbrev newE (n:Nat):EngT:=(true,((2,[1]),[],1,0,0),dNew n,zTx)
theorem φKU (n:Nat) (h:n≤100000) (h8:8≤n):ψI.f (d0N n)=some (newE n,0):=by
 obtain ⟨y,hy,e⟩:=φDx n h
 rw[if_neg (by omega)] at e
 unfold ψI.f
 have hd:dl 1048577 (d0N n):=by
  have:=φ7A (n:Int) ⟨by omega,by omega⟩
  exact φ3P (φ12 this) (by omega)
 rw[φGR _ hd,e]
 rfl
theorem φKc (n:Nat) (h:n≤100000) (h8:8≤n) (l:List φW):ψg.f ((n:Int),-1,l)=ψv.f (newE n) l:=by
 have hk:=φ7A (n:Int) ⟨by omega,by omega⟩
 have hlim:=φ1a (φ12 hk) (show 100001≤1000000000 by omega)
 have a1:decide ((0:Int)≤(n:Int)∧(n:Int)≤100000)=true:=by simp;omega
 have a2:decide ((-1:Int)≤-1∧(-1:Int)≤100000)=true:=by decide
 have e1:ψC.f (n:Int)=some (([],(n:Int),-1,false):φ1):=by
  unfold ψC.f
  simp only[φ1V,a1,bS,nZ,cF]
 have e2:ψ1I.f (([],(n:Int),-1,false):φ1) (-1)=some (([],(n:Int),-1,false):φ1):=by
  unfold ψ1I.f
  rw[φ5O _ (by simp),bS,φ5j _ hlim,bS,hk]
  simp only[cT,φ1V,a2,bS]
 unfold ψg.f
 simp only[φ1V,a1,a2,bS,nZ,cF,e1,e2]
 rw[show (([],(n:Int),-1,false):φ1)=d0N n from rfl,φKU n h h8]
 simp only[bS,show ((0:Int) != 0)=false from rfl,cF]
 cases ψv.f (newE n) l<;>rfl
theorem φLx {t:TxnT} (h:t.2.1.length≤20∧t.2.2.length≤50) (k:List UInt8) (b:Int):(φ27 t k b).1.2.1.length≤20∧(φ27 t k b).1.2.2.length≤50:=by
 unfold φ27
 repeat' split
 all_goals first
  | exact h
  | (refine ⟨?_,h.2⟩;simp;omega)
theorem φKQ (t:TxnT) (k:List UInt8) (b:Int):(φ27 t k b).2=0∨(φ27 t k b).2=4∨(φ27 t k b).2=5∨(φ27 t k b).2=7:=by
 unfold φ27
 repeat' split
 all_goals simp
def cS (c:Int):Prop:=c=0∨c=4∨c=5∨c=7∨c=8
theorem φJz {look:List UInt8→φk×Int} (hk:∀k,(look k).2=0∨(look k).2=8) {l:List TxnT} (hl:TB l) {s:φW} (hf:φ3F l s=true):TB (getG look l s).1∧cS (getG look l s).2.1:=by
 obtain ⟨n,hn,h1,hin,hrd,hto,_,_,_⟩:=φ7O hl.1 hf
 have ht:=hl.2 _ (gM hn)
 unfold getG
 simp only[hrd]
 cases φ1L s.2.2.1
 ·exact ⟨hl,.inr (.inl rfl)⟩
 simp only[nZ,cF]
 cases (ownW l[n].2.2 s.2.2.1).2
 ·simp only[cF]
  refine ⟨hl.set _ (φLx ht _ _),?_⟩
  have hc:=φKQ l[n] s.2.2.1 (look s.2.2.1).1.2.2
  generalize φ27 l[n] s.2.2.1 (look s.2.2.1).1.2.2=r at hc
  by_cases h0:r.2=0
  ·have:(r.2 != 0)=false:=by simpa using h0
   simp only[this,cF]
   rcases hk s.2.2.1 with e | e
   ·exact .inl e
   ·exact .inr (.inr (.inr (.inr e)))
  ·have:(r.2 != 0)=true:=by simpa using h0
   simp only[this,cT]
   show cS r.2
   unfold cS
   omega
 ·refine ⟨hl,?_⟩
  simp only[cT]
  unfold ownA
  cases (ownW l[n].2.2 s.2.2.1).1.2.1
  ·exact .inl rfl
  ·exact .inr (.inr (.inr (.inr rfl)))
theorem φNX {l:List TxnT} (hl:TB l) {s:φW} (hf:φ3F l s=true):TB (putG l s).1∧cS (putG l s).2.1:=by
 obtain ⟨n,hn,h1,hin,hrd,hto,_,_,_⟩:=φ7O hl.1 hf
 have ht:=hl.2 _ (gM hn)
 unfold putG
 simp only[hrd]
 refine ⟨hl.set _ (φMz ht _),?_⟩
 cases φ2c (putS s)
 ·exact .inr (.inl rfl)
 ·cases (φ2Y l[n] (putS s)).2
  ·exact .inr (.inr (.inl rfl))
  ·exact .inl rfl
theorem φNr {look:List UInt8→φk×Int} (hk:∀k,(look k).2=0∨(look k).2=8) (val:TxnT→Bool) {l:List TxnT} (hl:TB l) (s:φW):TB (sesG look val l s).1∧cS (sesG look val l s).2.1.1:=by
 have hz:TB (l.set s.2.1.toNat zT):=hl.set _ ⟨by simp,by simp⟩
 unfold sesG
 cases hf:φ3F l s
 ·exact ⟨hl,.inr (.inl rfl)⟩
 simp only[nZ,cF]
 cases (s.1==1)
 rotate_left
 ·exact ⟨hl.set _ ⟨by simp,by simp⟩,.inl rfl⟩
 cases (s.1==6)
 rotate_left
 ·exact ⟨hz,.inl rfl⟩
 cases (s.1==2)
 rotate_left
 ·exact φJz hk hl hf
 cases (s.1==5)
 rotate_left
 ·exact ⟨hz,.inr (.inr (.inr (.inl rfl)))⟩
 exact φNX hl hf
theorem EI.fit {e:EngT} (h:EI e):Fit e:=by
 obtain ⟨h1,h2⟩:=h.small
 exact ⟨h.tx.1,h.tx.2,h1,h2,fun hu k=>by
  rcases φHi (h.up hu).ok k with c | c
  ·rw[c];decide
  ·rw[c];decide⟩
end Go.Rf.G
