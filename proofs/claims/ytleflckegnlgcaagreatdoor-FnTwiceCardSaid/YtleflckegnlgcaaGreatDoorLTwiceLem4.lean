import Derived.Test.YtleflckegnlgcaaGreatDoorLTwiceLem3
open Option renaming bind_some→bS
open List renaming length_append→lA,append_assoc→aA,mem_cons_of_mem→mC,mem_append→mA,mem_append_right→mR,mem_append_left→mL,mem_cons→mc,drop_eq_getElem_cons→dG,length_take→lT,length_drop→lD,mem_map→mM,length_map→lM,length_cons→lC,length_nil→lN,getElem_mem→gM,map_append→mp,mem_singleton→mZ,mem_cons_self→κ0,take_succ_eq_append_getElem→κ3,map_cons→κ6,append_nil→κ7,nil_append→κ9,length_singleton→κA,drop_zero→κC,take_append_drop→κE,cons_append→κF,flatMap_append→κJ,replicate→κK,nodup_append→κL,foldl_cons→κO,drop_left→κP,nodup_cons→κQ,range'→κR,all_eq_true→κT,foldl_append→κU,take_length→κW,pairwise_cons→κY,mem_or_eq_of_mem_set→κd,pairwise_append→κe,mem_of_mem_take→κf
open Bool renaming and_eq_true→bA,eq_false_or_eq_true→bE,not_true→nZ,not_false→nF,true_and→tA,not_not→nn,false_eq_true→κ2,true_eq_false→κ8,false_and→κD,or_eq_false_iff→κI,and_true→κM,not_eq_true'→κN,false_or→κS,or_eq_true→κX
open Int renaming toNat_natCast→tN,ofNat_lt→oL,le_refl→κH
open Nat renaming lt_or_ge→κ1,zero_le→κ4,le_refl→κ5,eq_of_beq_eq_true→κB,lt_of_lt_of_le→κG,zero_add→κV,le_trans→κZ,pow_succ→κa,mod_eq_of_lt→κc
open Array renaming length_toList→κb
set_option linter.unusedVariables false
set_option linter.unusedSimpArgs false
namespace Go.Rf.G
open Go Go.Rf
set_option synthInstance.maxSize 4000
theorem φOh (g:φ17) (l:List φF) (hl:l.length<10000000) (hg:φ2j g):ψp.f g l=some (φ2G g l):=by
 have hg1:g.1.length<1000000000:=by unfold φ2j at hg;split at hg<;>omega
 unfold ψp.f
 rw[φAP g.1 hg1,bS,φOF l hl (g.1,g.2) hg,bS]
 unfold φ2G φ6v
 rcases φI2 l l [] g with e | ⟨e,hc⟩
 ·rw[show ((g.1,g.2):φ17)=g from rfl,e]
  simp only[φf]
  by_cases c:(φp [] l g).2.2=0
  ·have d:((φp [] l g).2.2==0)=true:=by simpa using c
   have ho:=φEr l (5,0,[],[],0,0) (by omega)
   simp only[d,cT,ho,bS]
   by_cases c2:0<(ownL 5 0 l).length
   ·have d2:decide (((ownL 5 0 l).length:Int) > 0)=true:=by simp;omega
    rw[d2,if_pos ⟨c,c2⟩];rfl
   ·have d2:decide (((ownL 5 0 l).length:Int) > 0)=false:=by simp only[decide_eq_false_iff_not];omega
    rw[d2,if_neg (fun z=>c2 z.2)];rfl
  ·have d:((φp [] l g).2.2==0)=false:=by simpa using c
   simp only[d,cF]
   rw[if_neg (fun z=>c z.1)]
 ·rw[show ((g.1,g.2):φ17)=g from rfl,e]
  simp only[φq]
  rw[if_neg (fun z=>hc z.1)]
def φ1V:Nat→List RecT→List φ1o
 | _,[]=>[]
 | a,r::rs=>((a:Int),((fr r).length:Int),r)::φ1V (a+(fr r).length) rs
theorem φEY:∀(rs:List RecT) (a:Nat),(φ1V a rs).map (·.2.2)=rs
 | [],_=>rfl
 | r::rs,a=>by simp[φ1V,φEY rs]
theorem φC0:∀(rs qs:List RecT) (a:Nat),φ1V a (rs++qs)=φ1V a rs++φ1V (a+(txt rs).length) qs
 | [],qs,a=>by simp[φ1V,txt]
 | r::rs,qs,a=>by
  rw[κF,φ1V,φ1V,φC0 rs qs,φ3H,lA,κF,Nat.add_assoc]
theorem φFD:∀(rs:List RecT) (p:List UInt8),(∀r∈rs,φa r=true)→φ2N (p++txt rs) p.length=(φ1V p.length rs,p.length+(txt rs).length)
 | [],p,_=>by
  have:p++txt []=p:=by simp[txt]
  rw[this,φ8E];simp[txt,φ1V]
 | r::rs,p,h=>by
  have hs:=φ3Z r
  have hb:=φ7L (t:=φ6 r) (by omega) (txt rs)
  have hd:(p++txt (r::rs)).drop p.length=frame (φ6 r)++txt rs:=by rw[κP];rfl
  have hl:=φ4Z r
  have hrr:=φBN (h r κ0)
  rw[φ5U (n:=(fr r).length) (by rw[hd,hb];rfl) hl.1 (by rw[φ3H];simp only[lA];omega) (by rw[hd,hb];simp only;rw[hrr])]
  have ih:=φFD rs (p++fr r) (fun x hx=>h x (mC _ hx))
  rw[aA,lA] at ih
  rw[hd,hb]
  simp only[hrr]
  have e:p++txt (r::rs)=p++(fr r++txt rs):=rfl
  rw[e,ih]
  simp only[φ1V,φ3H,lA,Nat.add_assoc]
theorem φ8K {rs:List RecT} (h:∀r∈rs,φa r=true):scan (txt rs)=(φ1V 0 rs,(txt rs).length):=by
 have:=φFD rs [] h
 simp only[κ9,lN,κV] at this
 exact this
theorem φLu:∀(k:Nat) (s:List UInt8) (a:Nat),a≤s.length→s.length - a=k→∃(rs:List RecT) (q:List UInt8),(∀r∈rs,φa r=true)∧s.drop a=txt rs++q∧φ2N s a=(φ1V a rs,a+(txt rs).length):=by
 intro k
 induction k using Nat.strongRecOn with
 | ind k ih=>
  intro s a ha hk
  by_cases c:(φP (s.drop a)).2=0∨(φ1T (φP (s.drop a)).1).2=false
  ·exact ⟨[],s.drop a,by simp,rfl,φ51 ha c⟩
  ·have c1:(φP (s.drop a)).2≠0:=fun e=>c (.inl e)
   have hr:(φ1T (φP (s.drop a)).1).2=true:=by
    cases e:(φ1T (φP (s.drop a)).1).2 with
    | true=>rfl
    | false=>exact absurd (.inr e) c
   obtain ⟨t,r,e1,e2,e3⟩:=φ9r c1
   have h5:=φ9V e2
   have hlen:a+(frame t).length≤s.length:=by
    have:(s.drop a).length=(frame t++r).length:=by rw[←e1]
    rw[lD,lA] at this;omega
   have hst:=φ5U (n:=(frame t).length) (by rw[e3]) h5 hlen hr
   obtain ⟨rs,q,g1,g2,g3⟩:=ih (s.length - (a+(frame t).length)) (by omega) s (a+(frame t).length) hlen rfl
   have hd:s.drop (a+(frame t).length)=r:=by rw[←List.drop_drop,e1,κP]
   rw[e3] at hr
   rcases φ73 t with ⟨z,_⟩ | ⟨x,z,hx⟩
   ·rw[z] at hr;simp at hr
   ·refine ⟨x::rs,q,?_,?_,?_⟩
    ·intro y hy
     rcases mc.1 hy with rfl | hy
     ·exact hx.1
     ·exact g1 y hy
    ·rw[e1,φ3H,←hd,g2]
     show frame t++(txt rs++q)=frame (φ6 x)++txt rs++q
     rw[hx.2,aA]
    ·rw[hst,g3,e3]
     have hf:(fr x).length=(frame t).length:=by show (frame (φ6 x)).length=_;rw[hx.2]
     simp only[z,φ1V,φ3H,lA,hf,Nat.add_assoc]
theorem φMx (s:List UInt8):∃(rs:List RecT) (q:List UInt8),(∀r∈rs,φa r=true)∧s=txt rs++q∧scan s=(φ1V 0 rs,(txt rs).length):=by
 obtain ⟨rs,q,h1,h2,h3⟩:=φLu s.length s 0 (κ4 _) (by omega)
 rw[κC] at h2
 rw[κV] at h3
 exact ⟨rs,q,h1,h2,h3⟩
theorem φIv (s:List UInt8):scan (s.take (scan s).2)=scan s:=by
 obtain ⟨rs,q,h1,h2,h3⟩:=φMx s
 rw[h3]
 have:s.take (txt rs).length=txt rs:=by rw[h2,List.take_left]
 rw[this,φ8K h1]
theorem φL6 {d:φ1} (h:φ3 d=true) (v:φQ):(φ3Q d v).length≤130:=by
 unfold φ3Q
 rw[if_neg (by rw[h];simp),lM]
 exact κZ (List.length_filter_le _ _) (φ80 h).2.2
noncomputable def φr (v:φQ) (d:φ1):φE:=φl (φ3Q d v) (d,0)
theorem φ7p {d:φ1} (h:φ3 d=true) (v:φQ):φ3 (φr v d).1=true:=φ4a _ h
theorem φHA (w:φE) (v:φQ) (h:φ3 w.1=true) (hv:v.2.length<1000000000):ψ24.f w v=some (φ4x (φ3Q w.1 v) w):=by
 unfold ψ24.f
 rw[φKB w.1 v (φ1d (φ13 h) (by omega)) hv,bS]
 have hl:=φL6 h v
 generalize φ3Q w.1 v=names at hl ⊢
 have key:=φ3g (step:=ψ24.l0) names (fun (w:φE) n=>φ1B (φC n) w) (fun n (a:φE)=>(a,names,(names.length:Int),(n:Int))) (fun a=>a) (fun _ a=>φ3 a.1=true) (by omega)
  (fun rec n a h1 ha=>by
   have hw:=φS (show n+1<9223372036854775808 by omega)
   simp only[ψ24.l0,oL,h1,dT,cT,φJ,φN,φB h1,φ5M a names[n] (φ13 ha) (by omega),bS,hw])
  (fun n a h1 ha=>φ9b (op:=φC names[n]) ha fun k=>φ2O k _)
  (fun rec a ha=>by simp[ψ24.l0])
  w h
 have key:lp ψ24.l0 (w,names,(names.length:Int),0)=some (φ4x names w):=key
 rw[key];rfl
noncomputable def φ11 (d:φ1) (id:Int):List φF:=(scan (φ2 d (φ0 id)).1).1.map fun x=>((id,x):φF)
theorem φ5x {d:φ1} (h:φ3 d=true) (n:List UInt8):(φ2 d n).1.length≤100000:=by
 have h1:=φ4X d n (φ1d (φ13 h) (by omega))
 have h2:=φ8d h
 omega
theorem φDg {d:φ1} (h:φ3 d=true) (id:Int):(φ11 d id).length≤100000:=by
 unfold φ11
 rw[lM]
 exact κZ (φ6c _).2 (φ5x h _)
theorem φH7 {d:φ1} (h:φ3 d=true):∀ids:List Int,(ids.flatMap (φ11 d)).length≤100000 * ids.length
 | []=>by simp
 | id::r=>by
  have:=φDg h id
  have:=φH7 h r
  simp only[List.flatMap_cons,lA,lC];omega
abbrev φ1X:φ7:=((0,[]),[],0,0,0)
noncomputable def φ81 (d:φ1):φ7×φ1×Int:=
 let w:=sPut (2,[1]) (φ9 (φX (φ0 1)) (φr φ1I d))
 if w.2≠0 then (φ1X,w.1,told w.2) else (((2,[1]),[],1,0,0),w.1,0)
theorem φIr:φm (2,[1])=true:=by decide
theorem φIR (d:φ1) (h:φ3 d=true):∃w:φE,ψ20.f (d,0)=some (((2,[1]),[],1,0,0),w)∧w=φA (sPut (2,[1]) (φ9 (φX (φ0 1)) (φr φ1I d))):=by
 refine ⟨_,?_,rfl⟩
 unfold ψ20.f
 have h1:=φHA (d,0) φ1I h (by show 0<_;omega)
 have e1:φ4x (φ3Q d φ1I) (d,0)=φA (φr φ1I d):=φBQ _ (d,0)
 have hd1:=φ7p h φ1I
 have h2:=φ9P (φA (φr φ1I d)) (φ0 1) (k:=100001) (φ13 hd1) (by omega) (by have:=φ4J 1;omega)
 have e2:φ1B (φX (φ0 1)) (φA (φr φ1I d))=φA (φ9 (φX (φ0 1)) (φr φ1I d)):=φ2q _ _
 have hd2:φ3 (φ9 (φX (φ0 1)) (φr φ1I d)).1=true:=φ1q hd1 fun k=>φ2t k _
 have h3:=φBE (φA (φ9 (φX (φ0 1)) (φr φ1I d))) (2,[1]) (k:=100001) (φ13 hd2) (by omega) (by show 1<_;decide)
 have e3:=φBz (2,[1]) (φ9 (φX (φ0 1)) (φr φ1I d))
 have h1:ψ24.f (d,0) (0,[])=some (φA (φr φ1I d)):=h1.trans (by rw[e1])
 rw[e2] at h2
 rw[e3] at h3
 simp only[h1,bS,φ3D,h2,h3]
noncomputable def φ2f (d:φ1):List Int→Bool
 | []=>true
 | id::r=>(φ2 d (φ0 id)).2 && ((r.isEmpty || decide ((scan (φ2 d (φ0 id)).1).2=(φ2 d (φ0 id)).1.length)) && φ2f d r)
noncomputable def φ47 (d:φ1):List Int→Int→Int
 | [],z=>z
 | id::r,_=>φ47 d r ((scan (φ2 d (φ0 id)).1).2:Int)
theorem φGC (d:φ1):∀(l:List Int) (z:Int),l≠[]→φ47 d l z=((scan (φ2 d (φ0 (φM l))).1).2:Int)
 | [],_,h=>absurd rfl h
 | [x],z,_=>by rw[φ47,φ47,φ91]
 | x::y::l,z,_=>by rw[φ47,φ9N];exact φGC d (y::l) _ (by simp)
theorem φII {α:Type} (l:List α) (n:Nat) (h:n<l.length):(l.drop (n+1)).isEmpty=decide (¬n<l.length - 1):=by
 apply Bool.eq_iff_iff.2
 rw[List.isEmpty_iff,List.drop_eq_nil_iff,decide_eq_true_eq];omega
theorem φCv (w:φE) (v:φQ) (h:φ3 w.1=true) (hv:v.2.length<1000000) :
  ψ28.f w v=some (if φ2f w.1 v.2=true then (v.2.map (φ11 w.1),φ47 w.1 v.2 0,true,w) else ([],0,false,w)):=by
 have key:=φj (step:=ψ28.l0) (fun n (s:List (List φF)×Int)=>(w,v,s.1,s.2,v.2,(v.2.length:Int),(n:Int))) v.2.length
  (fun n s=>if φ2f w.1 (v.2.drop n)=true then .inl (w,s.1++(v.2.drop n).map (φ11 w.1),φ47 w.1 (v.2.drop n) s.2) else .inr (w,[],0,false)) (fun n s=>s.1.length≤n)
  (fun rec n s hn hs ih=>by
   rcases κ1 n v.2.length with h1 | h1
   ·have hw:=φS (show n+1<9223372036854775808 by omega)
    have hwl:w64 ((v.2.length:Int) - 1)=((v.2.length - 1:Nat):Int):=by rw[φH (by omega) (by omega)];omega
    have hd:v.2.drop n=v.2[n]::v.2.drop (n+1):=dG h1
    have htx:=φ5x h (φ0 v.2[n])
    have hsc:=φ6c (φ2 w.1 (φ0 v.2[n])).1
    have hpl:=φH3 v.2[n] (scan (φ2 w.1 (φ0 v.2[n])).1).1 (by omega)
    have hb:decide ((s.1.length+([φ11 w.1 v.2[n]]:List (List φF)).length) * 24≤140737488355328)=true:=by simp only[decide_eq_true_eq];exact φHp (by omega)
    have ih:=ih (s.1++[φ11 w.1 v.2[n]],((scan (φ2 w.1 (φ0 v.2[n])).1).2:Int)) h1 (by simp only[lA,κA];omega)
    have hft:=φ4j w.1 (φ0 v.2[n]) (φ1d (φ13 h) (by omega))
    have hsr:=φAE (φ2 w.1 (φ0 v.2[n])).1 (by omega)
    rw[hd]
    simp only[φ2f,φ47,κ6,φII v.2 n h1]
    simp only[ψ28.l0,oL,h1,dT,cT,φJ,φN,φB h1,φ3D,bS,hft,hsr,hwl]
    have hpl2:ψ1e.f v.2[n] (scan (φ2 w.1 (φ0 v.2[n])).1).1=some (φ11 w.1 v.2[n]):=hpl
    have hgo:((ψ1e.f v.2[n] (scan (φ2 w.1 (φ0 v.2[n])).1).1).bind fun t5=>bif decide ((s.1.length+[t5].length) * 24≤140737488355328) then rec (w,v,s.1++[t5],((scan (φ2 w.1 (φ0 v.2[n])).1).2:Int),v.2,(v.2.length:Int),w64 ((n:Int)+1)) else none) =
      some (if φ2f w.1 (v.2.drop (n+1))=true then .inl (w,s.1++(φ11 w.1 v.2[n]::(v.2.drop (n+1)).map (φ11 w.1)),φ47 w.1 (v.2.drop (n+1)) ((scan (φ2 w.1 (φ0 v.2[n])).1).2:Int)) else .inr (w,[],0,false)):=by
     rw[hpl2,bS,hb,cT,hw]
     have:s.1++(φ11 w.1 v.2[n]::(v.2.drop (n+1)).map (φ11 w.1))=s.1++[φ11 w.1 v.2[n]]++(v.2.drop (n+1)).map (φ11 w.1):=by simp
     rw[this];exact ih
    cases hk:(φ2 w.1 (φ0 v.2[n])).2 with
    | false=>simp only[nF,cT,bS,φq,κD,κ2,if_false]
    | true=>
     simp only[nZ,cF,tA]
     by_cases c1:n<v.2.length - 1
     ·simp only[c1,dT,cT,not_true,dF,κS]
      by_cases c2:(scan (φ2 w.1 (φ0 v.2[n])).1).2=(φ2 w.1 (φ0 v.2[n])).1.length
      ·rw[φBj c2,cF]
       simp only[bS,φf,decide_eq_true c2,tA]
       exact hgo
      ·rw[φAC c2,cT]
       simp only[bS,φq,decide_eq_false c2,κD,κ2,if_false]
     ·simp only[c1,dF,cF,not_false_iff,dT,Bool.true_or,tA,bS,φf]
      exact hgo
   ·have:n=v.2.length:=by omega
    subst this
    rw[List.drop_length]
    simp[ψ28.l0,φ2f,φ47])
  (by omega) 0 ([],0) (κ4 _) (κ5 _)
 have key:lp ψ28.l0 (w,v,[],0,v.2,(v.2.length:Int),0)=_:=key
 unfold ψ28.f
 rw[key,bS,κC]
 by_cases c:φ2f w.1 v.2=true
 ·rw[if_pos c,if_pos c];simp only[φf,κ9]
 ·rw[if_neg c,if_neg c];simp only[φq]
theorem φID {hi:Int}:∀(l:List Int) (p:Option Int),φ1f hi p l=true→l.Pairwise (·<·)∧∀q,p=some q→∀x∈l,q<x
 | [],p,_=>⟨List.Pairwise.nil,by simp⟩
 | x::r,p,h=>by
  simp only[φ1f,bA,decide_eq_true_eq] at h
  obtain ⟨h1,h2,h3⟩:=h
  obtain ⟨k1,k2⟩:=φID r (some x) h3
  have k2:=k2 x rfl
  refine ⟨List.Pairwise.cons k2 k1,?_⟩
  rintro q rfl y hy
  have h2:q<x:=by simpa using h2
  rcases mc.1 hy with rfl | hy
  ·exact h2
  ·exact Int.lt_trans h2 (k2 y hy)
theorem φK9 {v:φQ} (h:φm v=true):v.2.Pairwise (·<·):=(φID v.2 none ((φ12 v).1 h).1).1
noncomputable def φ3E (d:φ1) (id:Int):Option φ17:=
 if (φ2 d (φK id)).2=true∧(φ3b (φ2 d (φK id)).1).2=true∧φ6y id (φ2 d (φ0 id)).1 (φ3b (φ2 d (φK id)).1).1=true then
  some ((φ3b (φ2 d (φK id)).1).1.2.2,(φ3b (φ2 d (φK id)).1).1.2.1,0) else none
theorem φN1 (w:φE) (id:Int) (h:φ3 w.1=true):ψ23.f w id=some (match φ3E w.1 id with | some g=>(g,true,w) | none=>(([],0,0),false,w)):=by
 have hlm:=φ1d (φ13 h) (show 100001≤1000000000 by omega)
 have ht:=φ5x h (φK id)
 have ht2:=φ5x h (φ0 id)
 unfold ψ23.f φ3E
 simp only[φ8Z,bS,φ4j w.1 (φK id) hlm,φMg _ (show (φ2 w.1 (φK id)).1.length<900000000 by omega),φ3D,φ4j w.1 (φ0 id) hlm,
  φJ0 id (φ2 w.1 (φ0 id)).1 (φ3b (φ2 w.1 (φK id)).1).1 (by omega)]
 cases (φ2 w.1 (φK id)).2<;>cases (φ3b (φ2 w.1 (φK id)).1).2<;>cases φ6y id (φ2 w.1 (φ0 id)).1 (φ3b (φ2 w.1 (φK id)).1).1<;>simp
noncomputable def φT (x:φ1) (ids:List Int):List φF:=ids.flatMap (φ11 x)
theorem φLt (w:φE) (v:φQ) (S:φ7) (g:φ17) (L:List (List φF)) (z:φQ) (hL:∀l∈L,l.length≤100000) (hl:L.length≤1000) :
  lp ψ21.l0 (w,φ1X,(v.1,[]),S,g,[],L,(L.length:Int),0)=some (w,φ1X,(v.1,[]),S,g,L.flatten):=by
 have hk:=φ3g (step:=ψ21.l0) L (fun (s:List φF) l=>s++l) (fun n s=>(w,φ1X,(v.1,[]),S,g,s,L,(L.length:Int),(n:Int))) (fun s=>(w,φ1X,(v.1,[]),S,g,s)) (fun n s=>s.length≤100000 * n) (by omega)
  (fun rec n s h hi=>by
   have hw:=φS (show n+1<9223372036854775808 by omega)
   have h1:=hL _ (gM h)
   have hb:decide ((s.length+L[n].length) * 88≤140737488355328)=true:=by simp only[decide_eq_true_eq];omega
   simp only[ψ21.l0,oL,h,dT,cT,φJ,φN,φB h,hb,hw])
  (fun n s h hi=>by have h1:=hL _ (gM h);simp only[lA];omega)
  (fun rec s hi=>by simp[ψ21.l0]) [] (κ5 _)
 have hk:lp ψ21.l0 (w,φ1X,(v.1,[]),S,g,[],L,(L.length:Int),0)=_:=hk
 rw[hk]
 have:∀(L:List (List φF)) (s:List φF),L.foldl (fun (s:List φF) l=>s++l) s=s++L.flatten:=by
  intro L
  induction L with
  | nil=>intro s;simp
  | cons x L ih=>intro s;rw[κO,ih];simp
 rw[this];rfl
theorem φNY {d:φ1} (h:φ3 d=true) {m n:List UInt8} (z:Int) (hne:n≠m):φ2 (φ3c m z d).1 n=φ2 d n:=by
 refine φ5u h (φ6F h m z) n fun t=>?_
 unfold φ3v
 rcases φv d.1 m with ⟨e,_⟩ | ⟨i,hi,e,hn⟩
 ·rw[φ1E e]
 ·rw[φ16 e]
  simp only
  split
  ·rw[φB hi]
   constructor
   ·rintro ⟨s,hs⟩;exact ⟨s,(φ6j (f:=(d.1[i].1,d.1[i].2.1.take z.toNat,if z<d.1[i].2.2 then z else d.1[i].2.2)) hi rfl (by rw[hn];exact hne)).2 hs⟩
   ·rintro ⟨s,hs⟩;exact ⟨s,(φ6j (f:=(d.1[i].1,d.1[i].2.1.take z.toNat,if z<d.1[i].2.2 then z else d.1[i].2.2)) hi rfl (by rw[hn];exact hne)).1 hs⟩
  ·exact Iff.rfl
theorem φIK {d:φ1} {n:List UInt8} {z:Int} (h:(φ3c n z d).2=0):φ2 (φ3c n z d).1 n=((φ2 d n).1.take z.toNat,true):=by
 obtain ⟨k,ha,hx⟩:=φ5f h
 have hk:φ3 (φ3c n z d).1=true:=φ6F k n z
 have hx:(φ3c n z d).1=_:=hx
 unfold φ3v at ha hx
 rcases φv d.1 n with ⟨e,_⟩ | ⟨i,hi,e,hn⟩
 ·rw[φ1E e] at ha;simp at ha
 rw[φ16 e] at ha hx
 simp only at ha hx
 split at ha
 ·rename_i c
  rw[if_pos c,φB hi] at hx
  have e1:=φ2m k (gM hi)
  rw[hn] at e1
  have hm:((n,d.1[i].2.1.take z.toNat,if z<d.1[i].2.2 then z else d.1[i].2.2):φ4)∈(φ3c n z d).1.1:=by
   rw[hx,←hn]
   exact List.mem_iff_getElem.2 ⟨i,by simpa using hi,by simp⟩
  have e2:=φ2m hk hm
  rw[e1]
  exact e2
 ·simp at ha
noncomputable def cutN (v:φQ) (d:φ1):Nat:=(scan (φ2 d (φ0 (φM v.2))).1).2
noncomputable def cutW (v:φQ) (d:φ1):φE:=
 φ9 (φG (φ0 (φM v.2))) (if (φ2 d (φ0 (φM v.2))).1.length=cutN v d then (d,0) else φ3c (φ0 (φM v.2)) (cutN v d:Int) d)
theorem φEs {v:φQ} {d:φ1} (h:φ3 d=true):φ3 (cutW v d).1=true:=by
 unfold cutW
 refine φ1q ?_ fun k=>φ3I k _
 split
 ·exact h
 ·exact φ6F h _ _
theorem φJy {v:φQ} {d:φ1} (h:φ3 d=true) (n:List UInt8) (hne:n≠φ0 (φM v.2)):φ2 (cutW v d).1 n=φ2 d n:=by
 unfold cutW
 split
 ·rw[φ2k (φ2D h _ _)]
 ·have hk:φ3 (φ3c (φ0 (φM v.2)) (cutN v d:Int) d).1=true:=φ6F h _ _
  rw[φ2k (φ2D hk _ _)]
  exact φNY h _ hne
theorem φLc {v:φQ} {d:φ1} (h:φ3 d=true) (hl:(φ2 d (φ0 (φM v.2))).2=true) (hc:(cutW v d).2=0) :
  φ2 (cutW v d).1 (φ0 (φM v.2))=((φ2 d (φ0 (φM v.2))).1.take (cutN v d),true):=by
 unfold cutW at hc ⊢
 have h0:=(φ3x hc).1
 split
 ·rename_i c
  rw[φ2k (φ2D h _ _),←c,κW]
  exact Prod.ext rfl hl
 ·rename_i c
  rw[if_neg c] at h0
  have hk:φ3 (φ3c (φ0 (φM v.2)) (cutN v d:Int) d).1=true:=φ6F h _ _
  rw[φ2k (φ2D hk _ _),φIK h0,tN]
theorem φCz {v:φQ} {d:φ1} (h:φ3 d=true) (hl:(φ2 d (φ0 (φM v.2))).2=true) (hc:(cutW v d).2=0) (id:Int):φ11 (cutW v d).1 id=φ11 d id:=by
 unfold φ11
 by_cases c:φ0 id=φ0 (φM v.2)
 ·rw[c,φLc h hl hc]
  show List.map _ (scan ((φ2 d (φ0 (φM v.2))).1.take (cutN v d))).1=_
  unfold cutN
  rw[φIv]
 ·rw[φJy h _ c]
theorem φHS {d:φ1}:∀(l:List Int),l≠[]→φ2f d l=true→(φ2 d (φ0 (φM l))).2=true
 | [],h,_=>absurd rfl h
 | [x],_,h=>by
  simp only[φ2f,bA] at h
  rw[φ91];exact h.1
 | x::y::l,_,h=>by
  rw[φ9N]
  have h:φ2f d (x::(y::l))=true:=h
  rw[φ2f,bA,bA] at h
  exact φHS (y::l) (by simp) h.2.2
noncomputable def φ4O (v:φQ) (d:φ1):φ7×φ1×Int:=
 if (cutW v d).2≠0 then (φ1X,(cutW v d).1,told (cutW v d).2) else
 let x:=(cutW v d).1
 let g:=match φ3E x (v.2.getD 0 0) with
  | some g=>φ2G g (φT x (v.2.drop 1))
  | none=>φ2G ([],0,0) (φT x v.2)
 let hinted:=match φ3E x (v.2.getD 0 0) with
  | some _=>v.2.getD 0 0
  | none=>0
 if g.2.2≠0 then (φ1X,x,3) else
 if (φr v x).2≠0 then (φ1X,(φr v x).1,told (φr v x).2) else
 ((v,g.1,w64 (g.2.1+1),(cutN v d:Int),hinted),(φr v x).1,0)
noncomputable def φ2F (d:φ1):φ7×φ1×Int:=
 if φ3 d=false then (φ1X,d,4) else if d.2.2.2=true then (φ1X,d,1) else
 if (φ2 d φb).2=false then φ81 d else
 if (φ2y (φ2 d φb).1).2=false then (φ1X,d,3) else
 if φ2f d (φ2y (φ2 d φb).1).1.2=false then (φ1X,d,3) else φ4O (φ2y (φ2 d φb).1).1 d
theorem φLn {x:φ1} {id:Int} {g:φ17} (h:φ3E x id=some g):g.1.length≤20∧g.2.2=0:=by
 unfold φ3E at h
 split at h
 ·rename_i c
  simp only[Option.some.injEq] at h
  subst h
  refine ⟨?_,rfl⟩
  rcases φDY (φ2 x (φK id)).1 with ⟨e,_⟩ | ⟨u,e,hu⟩
  ·rw[e] at c;simp at c
  ·rw[e];exact (φF2 hu.1).2.2.1
 ·simp at h
theorem φFo {x:φ1} {id:Int} {g:φ17} (h:φ3E x id=some g):φ2j g:=by
 obtain ⟨h1,h2⟩:=φLn h
 unfold φ2j
 rw[if_pos h2];omega
theorem φHd:φ2j ([],0,0):=by unfold φ2j;simp
theorem φB2 {x:φ1} (h:φ3 x=true) {ids:List Int} (hl:ids.length≤60):(φT x ids).length<10000000:=by
 have:=φH7 h ids
 unfold φT;omega
theorem φIX (d:φ1) (t:List UInt8) (h:φ3 d=true) (ht:t.length<1000000000) :
  ∃S w,ψ21.f (d,0) t=some (S,w) ∧
   (if w.2≠0 then (φ1X,w.1,w.2) else (S,w.1,(0:Int))) =
   (if (φ2y t).2=false then (φ1X,d,3) else if φ2f d (φ2y t).1.2=false then (φ1X,d,3) else φ4O (φ2y t).1 d):=by
 unfold ψ21.f
 rw[φL4 t ht,bS]
 rcases φDO t with ⟨e,_⟩ | ⟨v,e,hv⟩
 ·rw[e]
  have hs:=φCv (d,0) φ1I h (by show 0<_;omega)
  rw[if_pos (show φ2f d φ1I.2=true from rfl)] at hs
  simp only[hs,bS,nF,cT,if_true]
  exact ⟨_,_,rfl,by simp⟩
 rw[e]
 have hlen:=φ8q hv.1
 have hpos:=((φ12 v).1 hv.1).2.2.1
 have hs:=φCv (d,0) v h (by omega)
 simp only[hs,bS]
 cases hc:φ2f d v.2 with
 | false=>
  simp only[κ2,if_false,nZ,cF,nF,cT]
  exact ⟨_,_,rfl,by simp⟩
 | true=>
  have hlast:=φHS v.2 (fun z=>by rw[z] at hpos;simp at hpos) hc
  obtain ⟨l1,l2,l3⟩:=φAv hpos (by omega)
  have hle:=φGC d v.2 0 (fun z=>by rw[z] at hpos;simp at hpos)
  have hlm:=φ1d (φ13 h) (show 100001≤1000000000 by omega)
  have hT:=φLg d (φ0 (φM v.2)) (cutN v d:Int) hlm
  have hT:ψ1A.f d (φ0 (φM v.2)) (cutN v d:Int)=some (φ3c (φ0 (φM v.2)) (cutN v d:Int) d):=hT
  have hcw:φ47 d v.2 0=(cutN v d:Int):=hle
  simp only[if_true,nZ,cF,κ8,if_false,l1,l2,cT,l3,φ3D,bS,φ4j d _ hlm,hcw]
  -- cut and kept
  have hmid:∃w0:φE,w0=φA (if (φ2 d (φ0 (φM v.2))).1.length=cutN v d then (d,0) else φ3c (φ0 (φM v.2)) (cutN v d:Int) d) ∧
    ((bif ((φ2 d (φ0 (φM v.2))).1.length:Int) != (cutN v d:Int) then
     (ψ1A.f d (φ0 (φM v.2)) (cutN v d:Int)).bind fun (t5_0,t5_1)=>(ψ2A.f (d,0) t5_0 t5_1).bind fun t6=>some (t6,φ1X,v,v.2.map (φ11 d),(cutN v d:Int),φ0 (φM v.2))
     else some ((d,0),φ1X,v,v.2.map (φ11 d),(cutN v d:Int),φ0 (φM v.2)):Option (φE×φ7×φQ×List (List φF)×Int×List UInt8)))=some (w0,φ1X,v,v.2.map (φ11 d),(cutN v d:Int),φ0 (φM v.2)):=by
   refine ⟨_,rfl,?_⟩
   by_cases c:(φ2 d (φ0 (φM v.2))).1.length=cutN v d
   ·rw[φBj c,if_pos c];rfl
   ·rw[φAC c,if_neg c,cT,hT,bS]
    generalize φ3c (φ0 (φM v.2)) (cutN v d:Int) d=p
    obtain ⟨p1,p2⟩:=p
    simp only[φ6b,bS];rfl
  obtain ⟨w0,ew0,hmid⟩:=hmid
  have hmid:=hmid
  have hsync:ψ29.f w0 (φ0 (φM v.2))=some (φA (cutW v d)):=by
   have hd0:φ3 w0.1=true:=by
    rw[ew0]
    show φ3 (if (φ2 d (φ0 (φM v.2))).1.length=cutN v d then (d,(0:Int)) else φ3c (φ0 (φM v.2)) (cutN v d:Int) d).1=true
    split
    ·exact h
    ·exact φ6F h _ _
   rw[φ7h w0 (φ0 (φM v.2)) (φ13 hd0) (by omega),ew0,φ2q];rfl
  refine (show ∃S w,_∧_ from ?_)
  have hx0:inB 0 v.2.length=true:=by rw[show (0:Int)=((0:Nat):Int) from rfl,φJ];simp;omega
  have hr0:rdA 0 v.2 0=v.2.getD 0 0:=by rw[show (0:Int)=((0:Nat):Int) from rfl,φN]
  have hsl:(decide (0≤(1:Int)) && decide (1≤((v.2.map (φ11 d)).length:Int)))=true:=by rw[lM];simp;omega
  have hd1:=φEs (v:=v) h
  have hpl:=fun hc2=>φCz (v:=v) h hlast hc2
  unfold φ4O
  have hfl:∀ids:List Int,(cutW v d).2=0→(ids.map (φ11 d)).flatten=φT (cutW v d).1 ids:=fun ids hc2=>by
   unfold φT
   rw[List.flatMap_def]
   congr 1
   exact List.map_congr_left fun id _=>(hpl hc2 id).symm
  have hmap:∀(ids:List Int),∀l∈ids.map (φ11 d),l.length≤100000:=fun ids l hl=>by
   obtain ⟨id,_,rfl⟩:=mM.1 hl;exact φDg h id
  rw[show (((d,(0:Int)):φE).1)=d from rfl] at *
  rw[hmid,bS]
  simp only[hsync,bS]
  generalize hW:cutW v d=W at *
  obtain ⟨x,c⟩:=W
  by_cases c0:c=0
  rotate_left
  ·have t1:(told c != 0)=true:=by rw[φ6Z];simpa using c0
   have t2:told c≠0:=fun z=>c0 ((φ1F c).1 z)
   rw[if_pos c0]
   simp only[φA,t1,cT]
   exact ⟨_,_,rfl,by rw[if_pos t2]⟩
  subst c0
  have hd1:φ3 x=true:=hd1
  rw[if_neg (by simp)]
  have t1:(told 0 != 0)=false:=rfl
  have t0:told 0=0:=rfl
  have hh:=φN1 (x,0) (v.2.getD 0 0) hd1
  simp only[φA,t1,t0,cF,hx0,cT,hr0,hh,bS]
  -- the end,alike for both ways
  have fin:∀(g0:φ17) (ids:List Int) (hin:Int),φ2j g0→ids.length≤60 →
    ∃S w,((lp ψ21.l0 ((x,0),φ1X,(v.1,[]),(v,[],0,(cutN v d:Int),hin),g0,[],ids.map (φ11 d),((ids.map (φ11 d)).length:Int),0)).bind (fun (x0,x4,x5,x13,x14,x16)=>
     (ψp.f x14 x16).bind fun t10=>
     bif t10.2.2 != 0 then some (φ1X,(x0.1,3)) else
     (ψ24.f x0 (x5.1,x13.1.2)).bind fun t11=>some ((x13.1,t10.1,w64 (t10.2.1+1),x13.2.2.2),t11)):Option (φ7×φE))=some (S,w) ∧
    (if w.2≠0 then (φ1X,w.1,w.2) else (S,w.1,(0:Int))) =
     (if (φ2G g0 (φT x ids)).2.2≠0 then (φ1X,x,3) else if (φr v x).2≠0 then (φ1X,(φr v x).1,told (φr v x).2) else
      ((v,(φ2G g0 (φT x ids)).1,w64 ((φ2G g0 (φT x ids)).2.1+1),(cutN v d:Int),hin),(φr v x).1,0)):=by
   intro g0 ids hin hg hi
   rw[φLt (x,0) v (v,[],0,(cutN v d:Int),hin) g0 (ids.map (φ11 d)) v (hmap ids) (by rw[lM];omega),bS]
   have hfl2:=hfl ids rfl
   have hrg:=φOh g0 (φT x ids) (φB2 hd1 hi) hg
   have hor:=φHA (x,0) (v.1,v.2) hd1 (by show v.2.length<_;omega)
   have ewd:φ4x (φ3Q x v) (x,0)=φA (φr v x):=φBQ _ (x,0)
   have hor:ψ24.f (x,0) (v.1,v.2)=some (φA (φr v x)):=hor.trans (by rw[←ewd])
   simp only[hfl2,hrg,bS]
   by_cases c1:(φ2G g0 (φT x ids)).2.2=0
   rotate_left
   ·have d1:((φ2G g0 (φT x ids)).2.2 != 0)=true:=by simpa using c1
    rw[d1,cT,if_pos c1]
    exact ⟨_,_,rfl,by simp⟩
   have d1:((φ2G g0 (φT x ids)).2.2 != 0)=false:=by simpa using c1
   rw[d1,cF,if_neg (fun z=>z c1),hor,bS]
   refine ⟨_,_,rfl,?_⟩
   generalize φr v x=S2
   obtain ⟨y,c2⟩:=S2
   by_cases c3:c2=0
   ·subst c3;simp[φA,told]
   ·have t2:told c2≠0:=fun z=>c3 ((φ1F c2).1 z)
    simp[φA,t2,c3]
  cases hg:φ3E x (v.2.getD 0 0) with
  | some g=>
   simp only[cT,hx0,hsl,hr0,bS]
   have e1:(v.2.map (φ11 d)).drop 1=(v.2.drop 1).map (φ11 d):=by rw[List.map_drop]
   rw[e1]
   exact fin g (v.2.drop 1) (v.2.getD 0 0) (φFo hg) (by rw[lD];omega)
  | none=>
   simp only[cF,bS]
   exact fin ([],0,0) v.2 0 φHd hlen
theorem φFa (d:φ1) (hd:dl 1048577 d):ψc.f d=some (φ2F d):=by
 have hlm:=φ1d hd (by omega)
 unfold ψc.f φ2F
 rw[φ5X d (by have:=hd.1;omega),bS,φ5g d hlm,bS]
 cases h:φ3 d with
 | false=>rfl
 | true=>
  simp only[nZ,cF,κ8,if_false]
  obtain ⟨fs,cap,fuel,down⟩:=d
  cases hdn:down with
  | true=>rfl
  | false=>
   subst hdn
   simp only[cF,κ2,if_false]
   have hft:=φ4j (fs,cap,fuel,false) φb hlm
   have hft:ψO.f (fs,cap,fuel,false) [108,105,118,101]=_:=hft
   rw[hft,bS]
   have htl:=φ5x h φb
   generalize ((fs,cap,fuel,false):φ1)=d at *
   generalize φ2 d φb=q at htl ⊢
   obtain ⟨t,b⟩:=q
   cases b with
   | false=>
    simp only[cF,if_true]
    obtain ⟨w,e1,e2⟩:=φIR d h
    simp only[e1,bS]
    unfold φ81
    rw[e2]
    generalize sPut (2,[1]) (φ9 (φX (φ0 1)) (φr φ1I d))=p
    obtain ⟨y,c⟩:=p
    by_cases c0:c=0
    ·subst c0;simp[φA,told]
    ·have t1:(told c != 0)=true:=by rw[φ6Z];simpa using c0
     simp only[φA,t1,cT]
     rw[if_pos c0]
   | true=>
    simp only[cT,κ8,if_false]
    obtain ⟨S,w,e1,e2⟩:=φIX d t h (by have:t.length≤100000:=htl;omega)
    rw[←e2]
    simp only[e1,bS]
    obtain ⟨y,c⟩:=w
    by_cases c0:c=0
    ·subst c0;simp
    ·have t1:(c != 0)=true:=by simpa using c0
     simp only[t1,cT]
     rw[if_pos c0]
theorem φEb:∀(r pre:List φF) (g:φ17),φ2j g→pre.length+r.length<10000000→φ2j (φp pre r g)
 | [],_,g,h,_=>h
 | p::r,pre,g,h,hl=>by
  unfold φp
  simp only[lC] at hl
  split
  ·exact h
  ·rename_i c
   exact φEb r (pre++[p]) _ (φEy h (by simpa using c) (by omega)) (by simp only[lA,κA];omega)
theorem φFW {g:φ17} {l:List φF} (h:φ2j g) (hl:l.length<10000000):(φ2G g l).1.length≤11000020:=by
 have:=φEb l [] g h (by simpa using hl)
 unfold φ2j at this
 unfold φ2G φ6v
 split
 ·show (φp [] l g).1.length≤_
  split at this<;>omega
 ·split at this<;>omega
noncomputable def φ5L (v:φQ) (x:φ1) (e:Int) (g:φ17) (hin:Int):φ7×φ1×Int:=
 if g.2.2≠0 then (φ1X,x,3) else
 if (φr v x).2≠0 then (φ1X,(φr v x).1,told (φr v x).2) else
 ((v,g.1,w64 (g.2.1+1),e,hin),(φr v x).1,0)
theorem φCu (v:φQ) (d:φ1):φ4O v d=if (cutW v d).2≠0 then (φ1X,(cutW v d).1,told (cutW v d).2) else
  match φ3E (cutW v d).1 (v.2.getD 0 0) with
  | some g=>φ5L v (cutW v d).1 (cutN v d:Int) (φ2G g (φT (cutW v d).1 (v.2.drop 1))) (v.2.getD 0 0)
  | none=>φ5L v (cutW v d).1 (cutN v d:Int) (φ2G ([],0,0) (φT (cutW v d).1 v.2)) 0:=by
 unfold φ4O
 by_cases c:(cutW v d).2≠0
 ·rw[if_pos c,if_pos c]
 ·rw[if_neg c,if_neg c]
  simp only
  cases φ3E (cutW v d).1 (v.2.getD 0 0)<;>rfl
theorem φDI {v:φQ} {x:φ1} (e:Int) (g:φ17) (hin:Int) (h:φ3 x=true) (hl:v.2.length≤60) (hg:g.1.length≤11000020) :
  φ3 (φ5L v x e g hin).2.1=true∧(φ5L v x e g hin).1.1.2.length≤60∧(φ5L v x e g hin).1.2.1.length≤11000020:=by
 unfold φ5L
 have hs:=φ7p h v
 split
 ·exact ⟨h,by simp,by simp⟩
 split
 ·exact ⟨hs,by simp,by simp⟩
 exact ⟨hs,hl,hg⟩
theorem φJ9 {d:φ1} (h:φ3 d=true):φ3 (φ2F d).2.1=true∧(φ2F d).1.1.2.length≤60∧(φ2F d).1.2.1.length≤11000020:=by
 unfold φ2F
 rw[if_neg (by rw[h];simp)]
 split
 ·exact ⟨h,by simp,by simp⟩
 split
 ·unfold φ81
  have h1:φ3 (sPut (2,[1]) (φ9 (φX (φ0 1)) (φr φ1I d))).1=true:=φ3n (φ1q (φ7p h φ1I) fun k=>φ2t k _) _
  simp only
  split
  ·exact ⟨h1,by simp,by simp⟩
  ·exact ⟨h1,by simp,by simp⟩
 split
 ·exact ⟨h,by simp,by simp⟩
 rename_i hv
 split
 ·exact ⟨h,by simp,by simp⟩
 rcases φDO (φ2 d φb).1 with ⟨e,_⟩ | ⟨v,e,hlv⟩
 ·rw[e] at hv;simp at hv
 rw[e]
 show φ3 (φ4O v d).2.1=true∧(φ4O v d).1.1.2.length≤60∧(φ4O v d).1.2.1.length≤11000020
 have hlen:=φ8q hlv.1
 have hd1:=φEs (v:=v) h
 rw[φCu]
 split
 ·exact ⟨hd1,by simp,by simp⟩
 cases hg:φ3E (cutW v d).1 (v.2.getD 0 0) with
 | some g=>exact φDI _ _ _ hd1 hlen (φFW (φFo hg) (φB2 hd1 (by rw[lD];omega)))
 | none=>exact φDI _ _ _ hd1 hlen (φFW φHd (φB2 hd1 hlen))
theorem φKJ:φ0 1=[115,101,103,49]:=by
 unfold φ0 φ2I
 rw[if_pos (by decide)]
 show _++Lib.decDigits 1=_
 rw[Lib.decDigits_one (by decide)]
 rfl
theorem φLJ:(φn (2,[1])).length=8:=by
 unfold φn
 rw[if_neg (by decide)]
 have e2:varT 2=[2]:=by rw[show (2:Int)=((2:Nat):Int) from rfl,φ5I 2 (by decide),φ5W (by decide)];rfl
 have e1:varT 1=[1]:=by rw[show (1:Int)=((1:Nat):Int) from rfl,φ5I 1 (by decide),φ5W (by decide)];rfl
 have e:varT (2,[1]).1++varT (((2,[1]):φQ).2.length:Int)++(((2,[1]):φQ).2.map varT).flatten=[2,1,1]:=by
  show varT 2++varT 1++(varT 1++[])=_
  rw[e2,e1];rfl
 rw[e]
 obtain ⟨h1,h2⟩:=φ9T (t:=[2,1,1]) (by decide)
 rw[h1,lA,h2,lA,φ5W (by decide)]
 rfl
theorem φ5T {d:φ1} {c:Int} (h:φ3 d=true) (hf:d.2=(c,-1,false)) (act:List φ4→Int×List φ4):φV d act=(((act d.1).2,c,-1,false),(act d.1).1):=by
 obtain ⟨l,t⟩:=d
 simp only at hf
 subst hf
 unfold φV tick
 rw[if_neg (by rw[h];simp),if_neg (by simp)]
 simp
def dNew (n:Nat):φ1:=([(φb,φn (2,[1]),8),(φ0 1,[],0)],(n:Int),-1,false)
abbrev d0N (n:Nat):φ1:=([],(n:Int),-1,false)
theorem φOp (n:Nat) (h:n≤100000):∃y,φ3 y=true∧sPut (2,[1]) (φ9 (φX (φ0 1)) (φr φ1I (d0N n)))=if n<8 then (y,2) else (dNew n,0):=by
 have k0:φ3 (d0N n)=true:=φ7E (n:Int) (by omega)
 have hsw:φr φ1I (d0N n)=(d0N n,0):=by
  unfold φr φ3Q
  rw[if_neg (by rw[k0];simp)];rfl
 have hL:=φLJ
 unfold dNew sPut φ1R
 generalize φn (2,[1])=L at hL ⊢
 rw[hsw,φ2R,φKJ]
 -- the segment
 have s1:φX [115,101,103,49] (d0N n)=(([([115,101,103,49],[],0)],(n:Int),-1,false),0):=by
  show φV _ _=_
  rw[φ5T k0 rfl]
  have:φ2b [115,101,103,49] []=(0,[([115,101,103,49],[],0)]):=by decide
  rw[this]
 have k1:=φ2t k0 [115,101,103,49]
 rw[s1] at k1 ⊢
 have k1:φ3 (([([115,101,103,49],[],0)],(n:Int),-1,false):φ1)=true:=k1
 rw[φ2R]
 have s2:φC [116,101,109,112] (([([115,101,103,49],[],0)],(n:Int),-1,false):φ1)=(([([115,101,103,49],[],0)],(n:Int),-1,false),0):=by
  unfold φC
  rw[if_neg (show ¬φ1n ([([115,101,103,49],[],0)]:List φ4) [116,101,109,112]≥0 by decide)]
 rw[s2,φ2R]
 have s3:φX [116,101,109,112] (([([115,101,103,49],[],0)],(n:Int),-1,false):φ1)=(([([115,101,103,49],[],0),([116,101,109,112],[],0)],(n:Int),-1,false),0):=by
  show φV _ _=_
  rw[φ5T k1 rfl]
  have:φ2b [116,101,109,112] [([115,101,103,49],[],0)]=(0,[([115,101,103,49],[],0),([116,101,109,112],[],0)]):=by decide
  rw[this]
 have k2:=φ2t k1 [116,101,109,112]
 rw[s3] at k2 ⊢
 have k2:φ3 (([([115,101,103,49],[],0),([116,101,109,112],[],0)],(n:Int),-1,false):φ1)=true:=k2
 rw[φ2R]
 have k3:=φ3M k2 [116,101,109,112] L
 by_cases c:n<8
 ·simp only[if_pos c]
  have s4:φL [116,101,109,112] L (([([115,101,103,49],[],0),([116,101,109,112],[],0)],(n:Int),-1,false):φ1)=(([([115,101,103,49],[],0),([116,101,109,112],[],0)],(n:Int),-1,false),2):=by
   show φV _ _=_
   rw[φ5T k2 rfl]
   unfold φ2Q
   have:([([115,101,103,49],[],0),([116,101,109,112],[],0)]:List φ4).findIdx? (fun f=>f.1==[116,101,109,112])=some 1:=by decide
   rw[this]
   have hu:φI ([([115,101,103,49],[],0),([116,101,109,112],[],0)]:List φ4)=0:=by decide
   simp only[hu]
   rw[if_pos (by omega)]
  rw[s4,φ2p (show (2:Int)≠0 by decide),φ2p (show (2:Int)≠0 by decide)]
  exact ⟨_,k2,rfl⟩
 ·simp only[if_neg c]
  have s4:φL [116,101,109,112] L (([([115,101,103,49],[],0),([116,101,109,112],[],0)],(n:Int),-1,false):φ1)=(([([115,101,103,49],[],0),([116,101,109,112],L,0)],(n:Int),-1,false),0):=by
   show φV _ _=_
   rw[φ5T k2 rfl]
   unfold φ2Q
   have:([([115,101,103,49],[],0),([116,101,109,112],[],0)]:List φ4).findIdx? (fun f=>f.1==[116,101,109,112])=some 1:=by decide
   rw[this]
   have hu:φI ([([115,101,103,49],[],0),([116,101,109,112],[],0)]:List φ4)=0:=by decide
   simp only[hu]
   rw[if_neg (by omega)]
   rfl
  rw[s4] at k3 ⊢
  have k3:φ3 (([([115,101,103,49],[],0),([116,101,109,112],L,0)],(n:Int),-1,false):φ1)=true:=k3
  rw[φ2R]
  have k4:=φ3I k3 [116,101,109,112]
  have s5:φG [116,101,109,112] (([([115,101,103,49],[],0),([116,101,109,112],L,0)],(n:Int),-1,false):φ1)=(([([115,101,103,49],[],0),([116,101,109,112],L,8)],(n:Int),-1,false),0):=by
   show φV _ _=_
   rw[φ5T k3 rfl]
   unfold φ27
   have:([([115,101,103,49],[],0),([116,101,109,112],L,0)]:List φ4).findIdx? (fun f=>f.1==[116,101,109,112])=some 1:=rfl
   rw[this]
   show ((([([115,101,103,49],[],0),([116,101,109,112],L,(L.length:Int))]:List φ4),(n:Int),-1,false),(0:Int))=_
   rw[hL];rfl
  rw[s5] at k4 ⊢
  have k4:φ3 (([([115,101,103,49],[],0),([116,101,109,112],L,8)],(n:Int),-1,false):φ1)=true:=k4
  rw[φ2R]
  have s6:φ2W [116,101,109,112] [108,105,118,101] (([([115,101,103,49],[],0),([116,101,109,112],L,8)],(n:Int),-1,false):φ1)=(([([108,105,118,101],L,8),([115,101,103,49],[],0)],(n:Int),-1,false),0):=by
   show φV _ _=_
   rw[φ5T k4 rfl]
   unfold φ2E
   have:([([115,101,103,49],[],0),([116,101,109,112],L,8)]:List φ4).findIdx? (fun f=>f.1==[116,101,109,112])=some 1:=rfl
   rw[this,if_neg (by decide)]
   rfl
  rw[s6]
  exact ⟨_,k4,rfl⟩
theorem φE6 (n:Nat) (h:n≤100000):∃y,φ3 y=true∧φ2F (d0N n)=if n<8 then (φ1X,y,2) else (((2,[1]),[],1,0,0),dNew n,0):=by
 have k0:φ3 (d0N n)=true:=φ7E (n:Int) (by omega)
 obtain ⟨y,hy,e⟩:=φOp n h
 refine ⟨y,hy,?_⟩
 have ht:φ2 (d0N n) φb=([],false):=φ9G fun f hf=>by simp at hf
 unfold φ2F
 rw[if_neg (by rw[k0];simp),if_neg (by simp),if_pos (by rw[ht])]
 unfold φ81
 rw[e]
 split
 ·rename_i c;rfl
 ·rename_i c;rfl
theorem φE8 (n:Nat) (h:n≤100000) (h8:8≤n):φ3 (dNew n)=true:=by
 have k0:φ3 (d0N n)=true:=φ7E (n:Int) (by omega)
 obtain ⟨y,hy,e⟩:=φE6 n h
 rw[if_neg (by omega)] at e
 have:=(φJ9 k0).1
 rw[e] at this
 exact this
theorem φC8 (n:Nat) (h:n≤100000) (h8:8≤n):φ2 (dNew n) φb=(φn (2,[1]),true)∧φ2 (dNew n) (φ0 1)=([],true)∧∀m,m≠φb→m≠φ0 1→φ2 (dNew n) m=([],false):=by
 have hk:=φE8 n h h8
 refine ⟨φ2m hk (f:=(φb,φn (2,[1]),8)) (by simp[dNew]),φ2m hk (f:=(φ0 1,[],0)) (by simp[dNew]),fun m h1 h2=>φ9G fun f hf=>?_⟩
 simp only[dNew,mc,List.not_mem_nil,or_false] at hf
 rcases hf with rfl | rfl
 ·exact Ne.symm h1
 ·exact Ne.symm h2
theorem φJP {s:List UInt8} {v:φQ} (h:φ3L s v) (hl:s.length<1000000000):φ2y s=(v,true):=by
 have h1:=φGK h
 rw[φKL s hl] at h1
 exact Option.some.inj h1
theorem φ6l (i:Int):φK i≠φb:=by
 unfold φK φ2I
 split
 ·intro e
  have:=congrArg (fun l=>l.getD 0 0) e
  simp[φb] at this
 ·simp[φb]
theorem φN2 (i:Int):φK i≠φ1H:=by
 unfold φK φ2I
 split
 ·intro e
  have:=congrArg (fun l=>l.getD 0 0) e
  simp[φ1H] at this
 ·simp[φ1H]
theorem φLi:¬∃id,φ3d φb id:=by
 rintro ⟨id,_,e | e⟩
 ·exact φ2c id e.symm
 ·exact φ6l id e.symm
theorem φJ6 (n:Nat) (h:n≤100000) (h8:8≤n):φh ((2,[1]),[],1,0,0) (dNew n)=true:=by
 obtain ⟨t1,t2,t3⟩:=φC8 n h h8
 refine φg.2 ⟨φE8 n h h8,by decide,by decide,by decide,?_,fun e he=>by simp at he⟩
 refine (φ1t _).2 ⟨fun id hid=>?_,fun _=>?_⟩
 ·have hid:id=1:=by simpa using hid
  subst hid
  rw[t2];exact ⟨rfl,φG9⟩
 ·show (0:Int)=((φ2 _ (φ0 1)).1.length:Int)
  rw[t2];rfl
theorem φJs {v:φQ} {x:φ1} (h:φ3 x=true) {n:List UInt8} (hn:n∈φ3Q x v):(∃id,φ3d n id∧id ∉ v.2)∨n=φ1H:=by
 unfold φ3Q at hn
 rw[if_neg (by rw[h];simp)] at hn
 obtain ⟨f,hf,rfl⟩:=mM.1 hn
 have ho:=(List.mem_filter.1 hf).2
 unfold φ4V at ho
 rw[κX,bA] at ho
 rcases ho with ⟨h1,h2⟩ | h1
 ·left
  refine ⟨(idOf f.1).1,φOQ (by rw[←h1]),fun hi=>?_⟩
  have:(v.2.any fun i=>i==(idOf f.1).1)=true:=List.any_eq_true.2 ⟨_,hi,by simp⟩
  rw[this] at h2;simp at h2
 ·right;simpa using h1
theorem φFk {v:φQ} {x:φ1} (h:φ3 x=true) {n:List UInt8} (hn:∀id,φ3d n id→id∈v.2) (ht:n≠φ1H):φ2 (φr v x).1 n=φ2 x n:=by
 refine φ89 (φ3Q x v) (w:=(x,0)) h fun m hm e=>?_
 subst e
 rcases φJs h hm with ⟨id,hid,hno⟩ | e
 ·exact hno (hn id hid)
 ·exact ht e
theorem φLH {id:Int} (h:1≤id∧id≤100000):φ3d (φ0 id) id:=⟨h,.inl rfl⟩
theorem φCM {v:φQ} (h:φm v=true) {id:Int} (hi:id∈v.2):1≤id∧id≤100000∧id<v.1:=by
 obtain ⟨k1,k2,k3,k4⟩:=(φ12 v).1 h
 rw[φH (by omega) (by omega)] at k1
 have:=φ3r _ _ k1 id hi
 omega
theorem φBp {A B σ:Type} {step:(A→Option B)→A→Option B} (st:Nat→σ→A) (N:Nat) (Inv:Nat→σ→Prop) (Post:B→Prop)
  (hz:∀rec s,Inv N s→∃b,step rec (st N s)=some b∧Post b)
  (hs:∀rec n s,n<N→Inv n s→∃s',Inv (n+1) s'∧step rec (st n s)=rec (st (n+1) s')) (s:σ) (hi:Inv 0 s) (hn:N<2 ^ 62):∃b,lp step (st 0 s)=some b∧Post b:=by
 have key:=φBx (step:=step) (fun k (s:σ)=>st (N - k) s) (fun k s=>Inv (N - k) s∧k≤N) Post
  (fun rec s hi=>hz rec s hi.1)
  (fun rec k s hi=>by
   obtain ⟨h1,h2⟩:=hi
   have e:N - (k+1)+1=N - k:=by omega
   obtain ⟨s',h3,h4⟩:=hs rec (N - (k+1)) s (by omega) h1
   rw[e] at h3 h4
   exact ⟨s',⟨h3,by omega⟩,h4⟩)
  N s ⟨by rw[Nat.sub_self];exact hi,κ5 _⟩ hn
 simpa using key
def Free (d:φ1):Prop:=d.2.2=(-1,false)
theorem φ1M {d:φ1} {act:List φ4→Int×List φ4} (h:Free d):Free (φV d act).1:=by
 unfold φV
 split
 ·exact h
 ·split
  ·rename_i c
   rw[show d.2.2=(-1,false) from h] at c
   simp at c
  ·show (tick d).2.2=_
   unfold tick
   rw[if_neg]
   ·exact h
   ·rw[show d.2.2=(-1,false) from h];simp
theorem φLO {d:φ1} {act:List φ4→Int×List φ4} (h:(φV d act).2=0):d.2.2.2=false:=by
 unfold φV at h
 split at h
 ·simp at h
 split at h
 ·simp at h
 rename_i c
 cases hd:d.2.2.2 with
 | false=>rfl
 | true=>exact absurd (.inl hd) c
theorem φ9Z {d:φ1} {act:List φ4→Int×List φ4} (h:d.2.2.2=true):(φV d act).1.2.2.2=true:=by
 unfold φV
 split
 ·exact h
 ·rw[if_pos (.inl h)]
theorem φ52 {P:φ1→Prop} (hP:∀(d:φ1) (act:List φ4→Int×List φ4),P d→P (φV d act).1) (n:List UInt8) {d:φ1} (h:P d):P (φC n d).1:=by
 unfold φC
 split
 ·exact hP d _ h
 ·exact h
theorem φ3o {P:φ1→Prop} (hP:∀(d:φ1) (act:List φ4→Int×List φ4),P d→P (φV d act).1) {op:φ1→φ1×Int} (ho:∀d,P d→P (op d).1) {w:φE} (h:P w.1):P (φ9 op w).1:=by
 unfold φ9
 split
 ·exact ho _ h
 ·exact h
theorem φ7a {P:φ1→Prop} (hP:∀(d:φ1) (act:List φ4→Int×List φ4),P d→P (φV d act).1) (n:List UInt8) {w:φE} (h:P w.1):P (sNew n w).1:=
 φ3o hP (fun d k=>hP d _ k) (φ3o hP (fun d k=>φ52 hP n k) h)
theorem φ8f {P:φ1→Prop} (hP:∀(d:φ1) (act:List φ4→Int×List φ4),P d→P (φV d act).1) (n t:List UInt8) {w:φE} (h:P w.1):P (φ1R n t w).1:=
 φ3o hP (fun d k=>hP d _ k) (φ3o hP (fun d k=>hP d _ k) (φ3o hP (fun d k=>hP d _ k) (φ3o hP (fun d k=>φ52 hP n k) h)))
theorem φ7R {P:φ1→Prop} (hP:∀(d:φ1) (act:List φ4→Int×List φ4),P d→P (φV d act).1) (v:φQ) {w:φE} (h:P w.1):P (sPut v w).1:=
 φ3o hP (fun d k=>hP d _ k) (φ8f hP _ _ h)
theorem φDf {P:φ1→Prop} (hP:∀(d:φ1) (act:List φ4→Int×List φ4),P d→P (φV d act).1) (n:List UInt8):∀(recs:List RecT) {w:φE},P w.1→P (sApp n recs w).1
 | [],w,h=>h
 | r::recs,w,h=>φDf hP n recs (w:=φ9 (φL n (frame (φ6 r))) w) (φ3o hP (fun d k=>hP d _ k) h)
theorem φ9j {P:φ1→Prop} (hP:∀(d:φ1) (act:List φ4→Int×List φ4),P d→P (φV d act).1) (m:Int) (recs:List RecT) {w:φE} (h:P w.1):P (sWM m recs w).1:=
 φ3o hP (fun d k=>hP d _ k) (φDf hP _ recs (φ7a hP _ h))
theorem φ5j {P:φ1→Prop} (hP:∀(d:φ1) (act:List φ4→Int×List φ4),P d→P (φV d act).1):∀(names:List (List UInt8)) {w:φE},P w.1→P (φl names w).1
 | [],w,h=>h
 | n::names,w,h=>φ5j hP names (w:=φ9 (φC n) w) (φ3o hP (fun d k=>φ52 hP n k) h)
theorem φBY {P:φ1→Prop} (hP:∀(d:φ1) (act:List φ4→Int×List φ4),P d→P (φV d act).1):∀(ids:List Int) {w:φE},P w.1→P (sOld ids w).1
 | [],w,h=>h
 | i::ids,w,h=>φBY hP ids (w:=φl [φ0 i,φK i] w) (φ5j hP _ h)
theorem φ9X {P:φ1→Prop} (hP:∀(d:φ1) (act:List φ4→Int×List φ4),P d→P (φV d act).1) (m:Int) {d:φ1} (h:P d):P (φ1s m d).1:=by
 unfold φ1s
 simp only
 have:=φ8f hP (φK m) (φ1W (φ14 m (φ2 d (φ0 m)).1).1) (w:=(d,0)) h
 split
 ·exact φ52 hP _ this
 ·exact this
theorem φ8S {n t:List UInt8} {w:φE} (h:(φ1R n t w).2=0):w.2=0∧φ2 (φ1R n t w).1 n=(t,true):=by
 unfold φ1R at h ⊢
 obtain ⟨h1,h2,h3⟩:=φ3x (op:=φG n) h
 obtain ⟨h4,h5,h6⟩:=φ3x (op:=φL n t) h1
 have h4:(sNew n w).2=0:=h4
 obtain ⟨h7,h8⟩:=φ7O h4
 obtain ⟨a1,a2⟩:=φ4G h5
 have a2:φ2 (φL n t (sNew n w).1).1 n=((φ2 (sNew n w).1 n).1++t,true):=a2
 rw[h3,h6]
 obtain ⟨k,_,_⟩:=φ5f h2
 rw[h6] at k
 refine ⟨h7,?_⟩
 rw[φ2D k n n]
 show φ2 (φL n t (sNew n w).1).1 n=_
 rw[a2,h8];rfl
theorem φIH {v:φQ} {w:φE} (h:(sPut v w).2=0):w.2=0∧φ2 (sPut v w).1 φb=(φn v,true):=by
 unfold sPut at h ⊢
 obtain ⟨h1,h2,h3⟩:=φ3x h
 obtain ⟨h4,h5⟩:=φ8S h1
 refine ⟨h4,?_⟩
 rw[h3]
 show φ2 (φ2W [116,101,109,112] [108,105,118,101] (φ1R [116,101,109,112] (φn v) w).1).1 φb=_
 rw[φNt h2,h5]
theorem φGP {s:φ7} {d:φ1} (l:List φZ) (h:φ3 d=true) (hc:(φ15 s d l).2.2=0):∃w1 w2:φE,
  w1=sNew (φ0 (s.1.1+1)) (sWM s.1.1 (φY l (s.2.2.1 - 1)) (d,0))∧w1.2=0∧φ3 w1.1=true∧w2=φ1s s.1.1 w1.1∧w2.2=0∧φ3 w2.1=true ∧
  (sPut (s.1.1+2,[s.1.1,s.1.1+1]) w2).2=0∧(φ15 s d l).2.1=(sOld s.1.2 ((sPut (s.1.1+2,[s.1.1,s.1.1+1]) w2).1,0)).1:=by
 have g1:=φ6P s.1.1 (φY l (s.2.2.1 - 1)) (w:=(d,0)) h
 have g2:=φ41 g1 (φ0 (s.1.1+1))
 unfold φ15 at hc ⊢
 simp only at hc ⊢
 generalize hw1:sNew (φ0 (s.1.1+1)) (sWM s.1.1 (φY l (s.2.2.1 - 1)) (d,0))=w1 at *
 have g3:φ3 (φo s.1.1 w1).1=true:=by
  unfold φo;split
  ·exact g2
  ·exact φ7D _ g2
 by_cases z:(if (φo s.1.1 w1).2=0 then φA (sPut (s.1.1+2,[s.1.1,s.1.1+1]) (φo s.1.1 w1)) else φA (φo s.1.1 w1)).2=0
 rotate_left
 ·rw[if_pos z] at hc
  exfalso
  revert hc
  generalize (if (φo s.1.1 w1).2=0 then φA (sPut (s.1.1+2,[s.1.1,s.1.1+1]) (φo s.1.1 w1)) else φA (φo s.1.1 w1))=w3 at *
  unfold φ1h
  split
  ·split
   ·simp
   ·rename_i c4;exact c4
  ·exact z
 have z2:(φo s.1.1 w1).2=0:=by
  by_cases c:(φo s.1.1 w1).2=0
  ·exact c
  ·rw[if_neg c] at z;exact (φ1F _).1 z
 rw[if_pos z2] at z hc
 rw[if_pos z2]
 have z3:(sPut (s.1.1+2,[s.1.1,s.1.1+1]) (φo s.1.1 w1)).2=0:=(φ1F _).1 z
 have z1:w1.2=0:=by
  unfold φo at z2
  split at z2
  ·exact z2
  ·rename_i c;simpa using c
 have zh:φo s.1.1 w1=φ1s s.1.1 w1.1:=by
  unfold φo;rw[if_neg (by simpa using z1)]
 rw[if_neg (by simpa using z)]
 rw[zh] at z2 z3 g3 ⊢
 exact ⟨w1,φ1s s.1.1 w1.1,rfl,z1,g2,rfl,z2,g3,z3,rfl⟩
structure MergedF (s:φ7) (d:φ1) (l:List φZ) (S:φ7) (y:φ1):Prop extends Merged s d l S y where
 liv:φ2 y φb=(φn (s.1.1+2,[s.1.1,s.1.1+1]),true)
 hin:(φ2 y (φK s.1.1)).2=false∨φ2 y (φK s.1.1)=(φ1W (φ14 s.1.1 (txt (φY l (s.2.2.1 - 1)))).1,true)
 fre:0 > d.2.2.1→Free y
theorem φFB {s:φ7} {d:φ1} (l:List φZ) (h:φ3 d=true) (hv:φm s.1=true) (h2:s.1.1+2≤100000) (hc:(φ15 s d l).2.2=0):MergedF s d l (φ15 s d l).1 (φ15 s d l).2.1:=by
 have hM:=φFA l h hv h2 hc
 refine ⟨hM,?_,?_,?_⟩
 all_goals
  obtain ⟨w1,w2,hw1,z1,g1,hw2,z2,g2,z3,hy⟩:=φGP l h hc
  obtain ⟨k1,k2,k3,k4⟩:=(φ12 s.1).1 hv
  rw[φH (by omega) (by omega)] at k1
  have hids:=φ3r _ _ k1
  have g3:φ3 (sPut (s.1.1+2,[s.1.1,s.1.1+1]) w2).1=true:=φ3n (v:=(s.1.1+2,[s.1.1,s.1.1+1])) g2
 ·rw[hy,φ61 s.1.2 (w:=((sPut (s.1.1+2,[s.1.1,s.1.1+1]) w2).1,0)) g3 (fun id hid=>⟨(φ2c id).symm,(φ6l id).symm⟩)]
  exact (φIH z3).2
 ·have e1:∀n,n≠φ1H→n≠φb→(∀id∈s.1.2,n≠φ0 id∧n≠φK id)→φ2 (φ15 s d l).2.1 n=φ2 w2.1 n:=fun n q1 q2 q3=>by
   rw[hy,φ61 s.1.2 (w:=((sPut (s.1.1+2,[s.1.1,s.1.1+1]) w2).1,0)) g3 q3]
   exact φ7l g2 _ q1 q2
  have e2:φ2 (φ15 s d l).2.1 (φK s.1.1)=φ2 w2.1 (φK s.1.1):=e1 _ (φN2 _) (φ6l _) fun id hid=>by
   have:=hids id hid
   refine ⟨fun e=>φ43 id s.1.1 (by omega) e.symm,fun e=>?_⟩
   have:=φGV (by omega) (by omega) e
   omega
  have hf:=φ4k (w:=(w1.1,0)) g1 (φK s.1.1) (φ1W (φ14 s.1.1 (φ2 w1.1 (φ0 s.1.1)).1).1)
  have e3:φ2 (φ15 s d l).2.1 (φ0 s.1.1)=φ2 w1.1 (φ0 s.1.1):=by
   rw[e1 _ (φ4K _) (φ2c _) fun id hid=>by
    have:=hids id hid
    refine ⟨fun e=>?_,φ43 _ _ (by omega)⟩
    have:=φ45 (by omega) (by omega) e
    omega]
   rw[hw2]
   unfold φ1s
   simp only
   split
   ·rw[φ5K hf (φ43 _ _ (by omega)),φ5J (w:=(w1.1,0)) g1 (φ43 _ _ (by omega))]
   ·rw[φ5J (w:=(w1.1,0)) g1 (φ43 _ _ (by omega))]
  rw[hM.one] at e3
  rw[e2]
  rw[←e3] at hf
  rw[hw2] at z2 ⊢
  unfold φ1s at z2 ⊢
  rw[←e3] at z2 ⊢
  simp only at z2 hf ⊢
  split
  ·rename_i c
   rw[if_pos c] at z2
   exact .inl (φBP z2)
  ·rename_i c
   rw[if_neg c] at z2
   exact .inr (φ8S z2).2
 ·intro hfu
  have hup:d.2.2.2=false:=by
   cases hd:d.2.2.2 with
   | false=>rfl
   | true=>
    have q1:w1.1.2.2.2=true:=by rw[hw1];exact φ7a (P:=fun d=>d.2.2.2=true) (fun d act k=>φ9Z k) _ (φ9j (P:=fun d=>d.2.2.2=true) (fun d act k=>φ9Z k) _ _ hd)
    have q2:w2.1.2.2.2=true:=by rw[hw2];exact φ9X (P:=fun d=>d.2.2.2=true) (fun d act k=>φ9Z k) _ q1
    have q3:=φ8f (P:=fun d=>d.2.2.2=true) (fun d act k=>φ9Z k) [116,101,109,112] (φn (s.1.1+2,[s.1.1,s.1.1+1])) (w:=w2) q2
    unfold sPut at z3
    have:=φLO (φ3x z3).2.1
    rw[q3] at this
    simp at this
  have hfr:Free d:=by
   have:=(φ80 h).1
   show d.2.2=(-1,false)
   rw[show d.2.2=(d.2.2.1,d.2.2.2) from rfl,hup]
   have:d.2.2.1=-1:=by omega
   rw[this]
  have q1:Free w1.1:=by rw[hw1];exact φ7a (P:=Free) (fun d act k=>φ1M k) _ (φ9j (P:=Free) (fun d act k=>φ1M k) _ _ hfr)
  have q2:Free w2.1:=by rw[hw2];exact φ9X (P:=Free) (fun d act k=>φ1M k) _ q1
  rw[hy]
  exact φBY (P:=Free) (fun d act k=>φ1M k) s.1.2 (φ7R (P:=Free) (fun d act k=>φ1M k) _ q2)
theorem φKl {α:Type} {l:List (List UInt8×α)} {p:List UInt8×α} (h:∀x∈l,Op.bytesLess x.1 p.1=true):insB l p=l++[p]:=by
 have e:l.takeWhile (fun x=>leK x.1 p.1)=l:=by
  induction l with
  | nil=>rfl
  | cons x l ih=>
   have h1:=h x (by simp)
   rw[List.takeWhile_cons_of_pos (by unfold leK;simp[h1]),ih fun y hy=>h y (by simp[hy])]
 unfold insB
 rw[e]
 show l.take l.length++[p]++l.drop l.length=_
 rw[κW,List.drop_length,κ7]
theorem φL3 {α:Type} {l:List (List UInt8×α)} {k:List UInt8} (h:∀x∈l,Op.bytesLess x.1 k=true):φ1C l k=l:=by
 unfold φ1C
 refine List.filter_eq_self.2 fun x hx=>?_
 have:=φ6N (h x hx)
 simpa using this
theorem φB1 (id:Int):∀(l:List φ1o) (dir:List φD),(∀x∈l,x.2.2.1=4)→srt (dir++l.map (entS id))→φ1z dir (l.map fun x=>((id,x):φF))=dir++l.map (entS id)
 | [],dir,_,_=>by simp[φ1z]
 | x::l,dir,h4,hs=>by
  have hx:=h4 x (by simp)
  have hlt:∀y∈dir,Op.bytesLess y.1 (entS id x).1=true:=fun y hy=>by
   have:=(κe.1 hs).2.2 y hy (entS id x) (by simp)
   exact this
  have hp:putD dir ((id,x):φF)=dir++[entS id x]:=by
   unfold putD
   rw[if_neg (by rw[hx];decide)]
   show insB (φ1C dir (entS id x).1) (entS id x)=_
   rw[φL3 hlt,φKl hlt]
  show φ1z (putD dir (id,x)) (l.map fun x=>((id,x):φF))=_
  rw[hp,φB1 id l _ (fun y hy=>h4 y (by simp[hy])) (by simpa using hs)]
  simp
theorem φAW (id b:Int):∀(l:List φ1o) (acc:List φF),(∀x∈l,x.2.2.1=4)→(l.map fun x=>((id,x):φF)).foldl (φ1g 5 b) acc=acc++l.map fun x=>((id,x):φF)
 | [],acc,_=>by simp
 | x::l,acc,h=>by
  have hx:=h x (by simp)
  have e:φ1g 5 b acc ((id,x):φF)=acc++[((id,x):φF)]:=by
   unfold φ1g
   rw[if_neg (by simp),if_neg (by rw[hx];decide),if_pos (.inr ⟨rfl,hx⟩)]
  rw[κ6,κO,e,φAW id b l _ fun y hy=>h y (by simp[hy])]
  simp
theorem φCe (id b:Int):∀(l:List φ1o) (acc:List φF),(∀x∈l,x.2.2.1=4∨x.2.2.1=5)→(l.map fun x=>((id,x):φF)).foldl (φ1g 3 b) acc=acc
 | [],acc,_=>by simp
 | x::l,acc,h=>by
  have hx:=h x (by simp)
  have e:φ1g 3 b acc ((id,x):φF)=acc:=by
   unfold φ1g
   split
   ·rfl
   ·rw[if_neg (by rcases hx with e | e<;>rw[e]<;>decide),if_neg (by rcases hx with e | e<;>rw[e]<;>simp)]
  rw[κ6,κO,e,φCe id b l _ fun y hy=>h y (by simp[hy])]
theorem φ5d:∀(A B pre:List φF) (g:φ17),(φp pre A g).2.2=0→φp pre (A++B) g=φp (pre++A) B (φp pre A g)
 | [],B,pre,g,h=>by simp[φp]
 | p::A,B,pre,g,h=>by
  rw[φp] at h
  rw[κF,φp,φp]
  by_cases c:g.2.2≠0
  ·rw[if_pos c] at h;exact absurd h c
  rw[if_neg c] at h ⊢
  rw[if_neg c,φ5d A B _ _ h]
  simp
theorem φH4 {A:List φF} (hA:∀k b,k=3∨k=5→ownL k b A=[]):∀(B pre:List φF) (g:φ17),φp (A++pre) B g=φp pre B g
 | [],pre,g=>rfl
 | p::B,pre,g=>by
  rw[φp,φp]
  by_cases c:g.2.2≠0
  ·rw[if_pos c,if_pos c]
  rw[if_neg c,if_neg c,aA,φH4 hA B]
  congr 1
  have e:∀k b,k=3∨k=5→ownL k b (A++pre)=ownL k b pre:=fun k b hk=>by
   have:=hA k b hk
   unfold ownL at *
   rw[κU,this]
  unfold φ1i
  simp only
  by_cases c2:p.2.2.2.1=3∨p.2.2.2.1=5
  ·rw[if_pos c2,if_pos c2,e _ _ c2]
  ·rw[if_neg c2,if_neg c2]
theorem φBm (id mark:Int):∀(l:List φ1o) (pre:List φF) (z:Int),(∀x∈l,x.2.2.1=4∧x.2.2.2.1≤mark)→z≤mark→∃z',z'≤mark∧φp pre (l.map fun x=>((id,x):φF)) ([],z,0)=([],z',0)
 | [],pre,z,_,hz=>⟨z,hz,rfl⟩
 | x::l,pre,z,h,hz=>by
  obtain ⟨h4,hb⟩:=h x (by simp)
  rw[κ6,φp,if_neg (by simp)]
  have e:φ1i pre ((id,x):φF) ([],z,0)=([],if x.2.2.2.1 > z then x.2.2.2.1 else z,0):=by
   unfold φ1i
   simp only
   rw[if_neg (by rw[h4];decide)]
  rw[e]
  refine φBm id mark l _ _ (fun y hy=>h y (by simp[hy])) ?_
  split<;>omega
theorem φDq {mark:Int}:∀(l:List φ1o) (p:Option (List UInt8)),φ2i mark p l=true→∀x∈l,x.2.2.1=4∧x.2.2.2.1≤mark
 | [],_,_,x,hx=>by simp at hx
 | y::l,p,h,x,hx=>by
  simp only[φ2i,bA,beq_iff_eq,κN,decide_eq_false_iff_not] at h
  rcases mc.1 hx with rfl | hx
  ·exact ⟨h.1,by omega⟩
  ·exact φDq l _ h.2.2.2 x hx
theorem φBs {id:Int} {t:List UInt8} {h:φ1J} (k:φ14 id t=(h,true)):∃(l:List φ1o) (z:φ1o),(scan t).1=l++[z]∧z.2.2.1=5∧φ3S z.2.2 (l.map (·.2.2))=true∧(∀x∈l,x.2.2.1=4∧x.2.2.2.1≤z.2.2.2.1)∧h=((t.length:Int),z.2.2.2.1,l.map (entS id))∧(scan t).2=t.length∧(1≤id∧id≤100000):=by
 unfold φ14 at k
 simp only at k
 split at k
 ·simp at k
 rename_i c
 simp only[not_or,Bool.not_eq_false,ne_eq,Decidable.not_not] at c
 obtain ⟨c1,c2,c3,c4,c5,c6⟩:=c
 generalize (scan t).1=L at *
 have hl:L.length - 1<L.length:=by omega
 have hL:L=L.take (L.length - 1)++[L.getD (L.length - 1) φ2L]:=by
  rw[φB hl]
  have:=κ3 hl
  rw[show L.length - 1+1=L.length by omega,κW] at this
  exact this
 simp only[Prod.mk.injEq,and_true] at k
 exact ⟨L.take (L.length - 1),L.getD (L.length - 1) φ2L,hL,c4,c5,φDq _ _ c6,k.symm,c2,c3⟩
theorem φMX {id:Int} {t:List UInt8} {h:φ1J} (k:φ14 id t=(h,true)) (hd:φ1v h.2.2=true) (h0:0≤h.2.1) (B:List φF):φ2G ([],0,0) (((scan t).1.map fun x=>((id,x):φF))++B)=φ2G (h.2.2,h.2.1,0) B:=by
 obtain ⟨l,z,e,z5,hf,hk,hh,_,_⟩:=φBs k
 have hsrt:srt ([]++l.map (entS id)):=by have:=φ5m hd;rw[hh] at this;simpa using this
 have hlen:(l.map (entS id)).length≤20:=by
  unfold φ1v at hd
  rw[hh] at hd
  simp only[bA,decide_eq_true_eq] at hd
  exact hd.2
 rw[hh] at h0
 have h0:0≤z.2.2.2.1:=h0
 rw[e,hh]
 -- over the segment itself
 obtain ⟨z',hz',eg⟩:=φBm id z.2.2.2.1 l [] 0 hk h0
 have e1:φp [] ((l++[z]).map fun x=>((id,x):φF)) ([],0,0)=(l.map (entS id),z.2.2.2.1,0):=by
  rw[mp,φ5d _ _ _ _ (by rw[eg]),eg,κ9,List.map_singleton,φp,if_neg (by simp)]
  have eo:ownL z.2.2.1 z.2.2.2.1 (l.map fun x=>((id,x):φF))=l.map fun x=>((id,x):φF):=by
   rw[z5];unfold ownL;rw[φAW id _ l [] fun x hx=>(hk x hx).1];rfl
  have ea:φ1z [] (l.map fun x=>((id,x):φF))=l.map (entS id):=by
   rw[φB1 id l [] (fun x hx=>(hk x hx).1) hsrt];rfl
  have er:(l.map fun x=>((id,x):φF)).map (·.2.2.2)=l.map (·.2.2):=by rw[List.map_map];rfl
  have es:φ1i (l.map fun x=>((id,x):φF)) ((id,z):φF) ([],z',0)=(l.map (entS id),z.2.2.2.1,0):=by
   unfold φ1i
   simp only
   have el:(if z.2.2.2.1 > z' then z.2.2.2.1 else z')=z.2.2.2.1:=by split<;>omega
   rw[if_pos (.inr z5),eo,er,if_pos hf,ea,el]
   unfold φ5A
   rw[if_neg (Nat.not_lt.2 hlen)]
  rw[es];rfl
 have hA:∀k b,k=3∨k=5→ownL k b ((l++[z]).map fun x=>((id,x):φF))=[]:=fun k b hk2=>by
  rcases hk2 with rfl | rfl
  ·unfold ownL
   exact φCe id b (l++[z]) [] fun x hx=>by
    rcases mA.1 hx with hx | hx
    ·exact .inl (hk x hx).1
    ·rw[mZ.1 hx];exact .inr z5
  ·unfold ownL
   rw[mp,κU,List.map_singleton,κO,List.foldl_nil]
   unfold φ1g
   rw[if_neg (by simp),if_pos z5]
 unfold φ2G
 rw[φ5d _ _ _ _ (by rw[e1]),e1]
 have:=φH4 hA B [] (l.map (entS id),z.2.2.2.1,0)
 rw[κ7] at this
 rw[κ9,this]
 unfold φ6v
 have eo:ownL 5 0 (((l++[z]).map fun x=>((id,x):φF))++B)=ownL 5 0 B:=by
  have:=hA 5 0 (.inr rfl)
  unfold ownL at *
  rw[κU,this]
 rw[eo]
theorem φ4N {d:φ1} {act:List φ4→Int×List φ4} (h:φ3 d=true) (hf:Free d):φV d act=(((act d.1).2,d.2),(act d.1).1):=by
 have:=φ5T (d:=d) (c:=d.2.1) h (by rw[show d.2=(d.2.1,d.2.2) from rfl,show d.2.2=(-1,false) from hf]) act
 rw[this]
 congr 2
 rw[show d.2=(d.2.1,d.2.2) from rfl,show d.2.2=(-1,false) from hf]
theorem φ6k {d:φ1} (h:φ3 d=true) (hf:Free d) {n:List UInt8} (hn:(φ2 d n).2=true):(φG n d).2=0:=by
 obtain ⟨i,hi,e,_⟩:=φ5B hn
 show (φV d (φ27 n)).2=0
 rw[φ4N h hf]
 unfold φ27
 rw[e]
theorem φBO {d:φ1} (h:φ3 d=true) (hf:Free d) (n:List UInt8):(φC n d).2=0:=by
 unfold φC
 split
 ·rename_i c
  show (φV d (φ28 n)).2=0
  rw[φ4N h hf]
  unfold φ28
  rcases φv d.1 n with ⟨e,_⟩ | ⟨i,hi,e,_⟩
  ·rw[e] at c;simp at c
  ·rw[φ16 e]
 ·rfl
theorem φ9h:∀(names:List (List UInt8)) {w:φE},φ3 w.1=true→Free w.1→w.2=0→(φl names w).2=0
 | [],w,_,_,h=>h
 | n::names,w,hk,hf,h=>by
  have e:φ9 (φC n) w=φC n w.1:=by unfold φ9;rw[if_pos h]
  show (φl names (φ9 (φC n) w)).2=0
  rw[e]
  exact φ9h names (φ2O hk n) (φ52 (P:=Free) (fun d act k=>φ1M k) n hf) (φBO hk hf n)
theorem φHe {id mark:Int}:∀(l:List φ1o) (p:Option (List UInt8)),(∀x∈l,x.2.2.1=4∧x.2.2.2.1≤mark)→srt (l.map (entS id))→(∀q,p=some q→∀x∈l,Op.bytesLess q x.2.2.2.2.1=true)→φ2i mark p l=true
 | [],_,_,_,_=>rfl
 | x::l,p,h,hs,hp=>by
  obtain ⟨h4,hb⟩:=h x (by simp)
  obtain ⟨s1,s2⟩:=κY.1 hs
  simp only[φ2i,bA,beq_iff_eq,κN,decide_eq_false_iff_not]
  refine ⟨h4,by omega,?_,φHe l _ (fun y hy=>h y (by simp[hy])) s2 fun q hq y hy=>?_⟩
  ·cases p with
   | none=>rfl
   | some q=>exact hp q rfl x (by simp)
  ·simp only[Option.some.injEq] at hq
   subst hq
   exact s1 (entS id y) (mM.2 ⟨y,hy,rfl⟩)
theorem φJT {id:Int} {t:List UInt8} {l:List φ1o} {z:φ1o} (hs:scan t=(l++[z],t.length)) (hi:1≤id∧id≤100000) (z5:z.2.2.1=5) (hf:φ3S z.2.2 (l.map (·.2.2))=true) (hr:φ2i z.2.2.2.1 none l=true) :
  φ14 id t=(((t.length:Int),z.2.2.2.1,l.map (entS id)),true):=by
 unfold φ14
 have e1:(l++[z]).length - 1=l.length:=by simp
 have e2:(l++[z]).getD l.length φ2L=z:=by simp
 have e3:(l++[z]).take l.length=l:=by simp
 simp only[hs,e1,e2,e3]
 rw[if_neg]
 simp only[not_or,Bool.not_eq_false,ne_eq,Decidable.not_not]
 exact ⟨by simp,trivial,hi,z5,hf,hr⟩
theorem φD7 (m:Int):∀(recs:List RecT) (a:Nat),(∀r∈recs,r.1=4)→φw m (a:Int) recs=(φ1V a recs).map (entS m)
 | [],_,_=>rfl
 | r::recs,a,h=>by
  have h4:=h r (by simp)
  have ih:=φD7 m recs (a+(fr r).length) fun x hx=>h x (by simp[hx])
  rw[φw,if_pos h4,φ1V,κ6,←ih]
  have:((a+(fr r).length:Nat):Int)=(a:Int)+((frame (φ6 r)).length:Int):=by simp only[fr];omega
  rw[this]
  rfl
theorem φGI {p:RecT→Prop}:∀(recs:List RecT) (a:Nat),(∀r∈recs,p r)→∀x∈φ1V a recs,p x.2.2
 | [],_,_,x,hx=>by simp[φ1V] at hx
 | r::recs,a,h,x,hx=>by
  rw[φ1V] at hx
  rcases mc.1 hx with rfl | hx
  ·exact h r (by simp)
  ·exact φGI recs _ (fun y hy=>h y (by simp[hy])) x hx
theorem φFS:∀(recs:List RecT) (a:Nat),∀x∈φ1V a recs,x.1≤((a+(txt recs).length:Nat):Int)
 | [],_,x,hx=>by simp[φ1V] at hx
 | r::recs,a,x,hx=>by
  rw[φ1V] at hx
  rw[φ3H,lA]
  rcases mc.1 hx with rfl | hx
  ·show (a:Int)≤_
   omega
  ·have:=φFS recs _ x hx
   omega
theorem φGq {s S:φ7} {d y:φ1} (h:φh s d=true) (h2:s.1.1+2≤100000) (hM:Merged s d (φW s d).1 S y) :
  φ14 s.1.1 (txt (φY (φW s d).1 (s.2.2.1 - 1)))=((((txt (φY (φW s d).1 (s.2.2.1 - 1))).length:Int),s.2.2.1 - 1,S.2.1),true)∧φ2Y (((txt (φY (φW s d).1 (s.2.2.1 - 1))).length:Int),s.2.2.1 - 1,S.2.1)=true:=by
 obtain ⟨m1,m2,m3,m4⟩:=φ7u h h2 hM
 obtain ⟨q1,q2,q3,q4,q5,q6⟩:=φg.1 h
 obtain ⟨k1,k2,k3,k4⟩:=(φ12 s.1).1 q2
 have hkeep:=φFz h
 have hbat:=φGb h
 have hl20:(φW s d).1.length≤20:=by have:=φ8H s d;have:=(φ46 q3).1;omega
 have hdir:=(φg.1 m1).2.2.1
 have hone:=hM.one
 have htl:=φ5x hM.dk (φ0 s.1.1)
 rw[hone] at htl
 have hst:=hM.st
 generalize (φW s d).1=l at *
 have hents:S.2.1=(φ1V 0 (l.map φR)).map (entS s.1.1):=by
  rw[hst]
  show φw s.1.1 0 (φY l (s.2.2.1 - 1))=_
  have e:φw s.1.1 0 (φY l (s.2.2.1 - 1))=φw s.1.1 0 (l.map φR):=φ90 s.1.1 _ (show (5:Int)≠4 by decide) _ _
  rw[e]
  exact φD7 s.1.1 (l.map φR) 0 fun r hr=>(hkeep r hr).2
 have hmk:φa (5,s.2.2.1 - 1,[],[],(l.length:Int),φ1l (l.map φR))=true:=φHU (by omega) (by omega) (φ4o _)
 have hall:∀r∈φY l (s.2.2.1 - 1),φa r=true:=fun r hr=>by
  unfold φY at hr
  rcases mA.1 hr with hr | hr
  ·exact (hkeep r hr).1
  ·rw[mZ.1 hr];exact hmk
 have hsc:=φ8K hall
 have hk:∀x∈φ1V 0 (l.map φR),x.2.2.1=4∧x.2.2.2.1≤s.2.2.1 - 1:=φGI (p:=fun r=>r.1=4∧r.2.1≤s.2.2.1 - 1) (l.map φR) 0 fun r hr=>by
  refine ⟨(hkeep r hr).2,?_⟩
  obtain ⟨p,hp,rfl⟩:=mM.1 hr
  have:=hbat p hp
  show p.2.2≤_
  omega
 have hsrt:srt ((φ1V 0 (l.map φR)).map (entS s.1.1)):=by rw[←hents];exact φ5m hdir
 refine ⟨?_,?_⟩
 ·rw[hents]
  refine φJT (id:=s.1.1) (l:=φ1V 0 (l.map φR)) (z:=(((0+(txt (l.map φR)).length:Nat):Int),((fr (5,s.2.2.1 - 1,[],[],(l.length:Int),φ1l (l.map φR))).length:Int),(5,s.2.2.1 - 1,[],[],(l.length:Int),φ1l (l.map φR)))) ?_ ⟨by omega,by omega⟩ rfl ?_ ?_
  ·rw[hsc]
   unfold φY
   rw[φC0]
   rfl
  ·rw[φEY]
   unfold φ3S
   simp
  ·exact φHe (id:=s.1.1) _ none hk hsrt fun q hq=>by simp at hq
 ·unfold φ2Y
  simp only[bA,decide_eq_true_eq]
  have hlen:((txt (φY l (s.2.2.1 - 1))).length:Int)≤100000:=by simp only at htl;omega
  refine ⟨κT.2 fun e he=>?_,⟨Int.natCast_nonneg _,hlen⟩,⟨by show 0≤s.2.2.1 - 1;omega,by show s.2.2.1 - 1≤1000000;omega⟩,hdir⟩
  have he:e∈S.2.1:=he
  have hseg:∀e∈S.2.1,e.2.1=s.1.1∧e.2.2.1≤100000:=fun e he=>by
   rw[hents] at he
   obtain ⟨x,hx,rfl⟩:=mM.1 he
   refine ⟨rfl,?_⟩
   have:=φFS (l.map φR) 0 x hx
   have hle:(txt (l.map φR)).length≤(txt (φY l (s.2.2.1 - 1))).length:=by
    unfold φY;rw[φOG,lA];omega
   show x.1≤100000
   omega
  have hpos:=List.length_pos_of_mem he
  have hg:(S.2.1.getD 0 ([],0,0,0,0)).2.1=s.1.1:=by
   rw[φB hpos];exact (hseg _ (gM hpos)).1
  unfold φ4S
  simp only
  rw[hg,(hseg e he).1]
  have:=(hseg e he).2
  simp;omega
theorem Free.up {d:φ1} (h:Free d):d.2.2.2=false:=by rw[show d.2.2=(-1,false) from h]
theorem φIw {d:φ1} (h:φ3 d=true) {l:List φ4} (hs:l.Sublist d.1):φ3 (l,d.2)=true:=by
 obtain ⟨h1,h2,h3,h4,h5,h6⟩:=(φ3W d).1 h
 have hl:=hs.length_le
 have hu:φI l≤φI d.1:=φ65 _ hs
 rw[φ3W]
 exact ⟨h1,h2,by show l.length≤_;omega,by show (φI l:Int)≤d.2.1;omega,fun f hf=>h5 f (hs.subset hf),h6.sublist hs⟩
theorem φNn {l:List φ4} (hp:l.Pairwise fun a b=>Op.bytesLess a.1 b.1=true) {i:Nat} (hi:i<l.length):∀j,(hj:j<l.length)→j≠i→l[j].1≠l[i].1:=fun j hj hne e=>by
 rcases Nat.lt_or_gt_of_ne hne with h | h
 ·have:=List.pairwise_iff_getElem.1 hp j i hj hi h
  rw[e,φ58] at this;simp at this
 ·have:=List.pairwise_iff_getElem.1 hp i j hi hj h
  rw[e,φ58] at this;simp at this
theorem φM4 {l:List φ4} (hp:l.Pairwise fun a b=>Op.bytesLess a.1 b.1=true) {i:Nat} (hi:i<l.length) {n:List UInt8} (hn:l[i].1=n) (g:φ4→φ4):l.set i (g l[i])=l.map fun f=>if f.1=n then g f else f:=by
 refine List.ext_getElem (by simp) fun j h1 h2=>?_
 rw[List.getElem_map,List.getElem_set]
 have hj:j<l.length:=by simpa using h1
 by_cases c:i=j
 ·subst c;rw[if_pos rfl,if_pos hn]
 ·rw[if_neg c,if_neg]
  intro e
  exact φNn hp hi j hj (fun e2=>c e2.symm) (e.trans hn.symm)
theorem φDr {l:List φ4} (hp:l.Pairwise fun a b=>Op.bytesLess a.1 b.1=true) {i:Nat} (hi:i<l.length) {n:List UInt8} (hn:l[i].1=n):φc l i=l.filter fun f=>!(f.1==n):=by
 induction l generalizing i with
 | nil=>simp at hi
 | cons x l ih=>
  obtain ⟨h1,h2⟩:=κY.1 hp
  cases i with
  | zero=>
   have hx:x.1=n:=hn
   have e:l.filter (fun f=>!(f.1==n))=l:=List.filter_eq_self.2 fun f hf=>by
    have:=φ6N (h1 f hf)
    simp only[κN,beq_eq_false_iff_ne,ne_eq]
    intro e;exact this (hx.trans e.symm)
   rw[List.filter_cons_of_neg (by simp[hx]),e]
   simp[φc]
  | succ i=>
   have hi':i<l.length:=by simpa using hi
   have hx:x.1≠n:=fun e=>by
    have:=h1 l[i] (gM hi')
    have hn:l[i].1=n:=hn
    rw[e,hn,φ58] at this;simp at this
   rw[List.filter_cons_of_pos (by simpa using hx),←ih h2 hi' hn]
   simp[φc]
def φ6z (f:φ4):φ4:=(f.1,f.2.1,(f.2.1.length:Int))
def onF (n:List UInt8) (g:φ4→φ4) (l:List φ4):List φ4:=l.map fun f=>if f.1=n then g f else f
theorem φDN {d:φ1} (h:φ3 d=true) (hf:Free d) {n:List UInt8} (hn:(φ2 d n).2=true):φG n d=((onF n φ6z d.1,d.2),0):=by
 obtain ⟨i,hi,e,hx,_⟩:=φ5B hn
 show φV d (φ27 n)=_
 rw[φ4N h hf]
 unfold φ27
 rw[e]
 simp only[φB hi]
 congr 2
 exact φM4 (φ5k h) hi hx φ6z
theorem φNL {d:φ1} (h:φ3 d=true) (hf:Free d) (n:List UInt8):φC n d=((d.1.filter (fun f=>!(f.1==n)),d.2),0):=by
 unfold φC
 rcases φv d.1 n with ⟨e,hno⟩ | ⟨i,hi,e,hx⟩
 ·rw[e,if_neg (by simp)]
  have:d.1.filter (fun f=>!(f.1==n))=d.1:=List.filter_eq_self.2 fun f hf=>by simpa using hno f hf
  rw[this]
 ·rw[e,if_pos (by omega)]
  show φV d (φ28 n)=_
  rw[φ4N h hf]
  unfold φ28
  rw[φ16 e]
  simp only
  rw[φDr (φ5k h) hi hx]
theorem φFI:∀(names:List (List UInt8)) {d:φ1},φ3 d=true→Free d→φl names (d,0)=((d.1.filter (fun f=>!(names.any fun n=>f.1==n)),d.2),0)
 | [],d,_,_=>by
  show (d,(0:Int))=_
  have:d.1.filter (fun f=>!(([]:List (List UInt8)).any fun n=>f.1==n))=d.1:=List.filter_eq_self.2 fun f hf=>by simp
  rw[this]
 | n::names,d,h,hf=>by
  show φl names (φ9 (φC n) (d,0))=_
  have e:φ9 (φC n) (d,0)=φC n d:=by unfold φ9;rw[if_pos rfl]
  rw[e,φNL h hf,φFI names (φIw h List.filter_sublist) hf]
  simp only[List.filter_filter]
  congr 2
  refine List.filter_congr fun f _=>?_
  simp[Bool.not_or,Bool.and_comm]
theorem φCQ {d:φ1} (h:φ3 d=true) (hf:Free d) (v:φQ):φr v d=((d.1.filter (fun f=>!φ4V v f),d.2),0):=by
 unfold φr
 rw[φFI _ h hf]
 congr 2
 refine List.filter_congr fun f hf=>?_
 unfold φ3Q
 rw[if_neg (by rw[h];simp)]
 congr 1
 have hB:∀g:φ4,g.1=f.1→φ4V v g=φ4V v f:=fun g e=>by unfold φ4V;rw[e]
 cases ho:φ4V v f with
 | true=>
  refine List.any_eq_true.2 ⟨f.1,mM.2 ⟨f,List.mem_filter.2 ⟨hf,ho⟩,rfl⟩,by simp⟩
 | false=>
  refine List.any_eq_false.2 fun n hn=>?_
  obtain ⟨g,hg,rfl⟩:=mM.1 hn
  intro e
  have e:f.1=g.1:=by simpa using e
  have:=hB g e.symm
  rw[(List.mem_filter.1 hg).2,ho] at this
  simp at this
theorem φKE {v:φQ} (h:φm v=true):∃r,v.2=v.2.getD 0 0::r∧v.2.drop 1=r∧(1≤v.2.getD 0 0∧v.2.getD 0 0≤100000):=by
 have hr:=fun id=>φCM (id:=id) h
 obtain ⟨k1,k2,k3,k4⟩:=(φ12 v).1 h
 obtain ⟨a,l⟩:=v
 cases l with
 | nil=>simp at k3
 | cons i r=>
  have:=hr i (by simp)
  exact ⟨r,rfl,rfl,this.1,this.2.1⟩
theorem φD3 {v:φQ} {d:φ1} (h:φ3 d=true) (hl:(φ2 d (φ0 (φM v.2))).2=true) (hc:(cutW v d).2=0) (ids:List Int):φT (cutW v d).1 ids=φT d ids:=by
 unfold φT
 congr 1
 funext id
 exact φCz h hl hc id
theorem φIi {v:φQ} {d:φ1} (h:φ3 d=true) (hv:φm v=true) (hl:(φ2 d (φ0 (φM v.2))).2=true) (hc:(cutW v d).2=0) :
  ∃hin,φ4O v d=φ5L v (cutW v d).1 (cutN v d:Int) (φ2G ([],0,0) (φT d v.2)) hin∧(φ3E (cutW v d).1 (v.2.getD 0 0)=none→hin=0):=by
 rw[φCu,if_neg (by rw[hc];simp)]
 obtain ⟨r,er,ed,hr⟩:=φKE hv
 cases hg:φ3E (cutW v d).1 (v.2.getD 0 0) with
 | none=>
  refine ⟨0,?_,fun _=>rfl⟩
  simp only
  rw[φD3 h hl hc]
 | some g=>
  refine ⟨v.2.getD 0 0,?_,fun e=>by simp at e⟩
  simp only
  congr 1
  have e1:=φD3 h hl hc v.2
  unfold φ3E at hg
  split at hg
  ·rename_i c
   obtain ⟨_,c2,c3⟩:=c
   rcases φDY (φ2 (cutW v d).1 (φK (v.2.getD 0 0))).1 with ⟨e,_⟩ | ⟨H,e,hH⟩
   ·rw[e] at c2;simp at c2
   rw[e] at hg c3
   simp only[Option.some.injEq] at hg
   have c3:φ14 (v.2.getD 0 0) (φ2 (cutW v d).1 (φ0 (v.2.getD 0 0))).1=(H,true):=by
    unfold φ6y at c3
    simpa using c3
   have hok:=hH.1
   unfold φ2Y at hok
   simp only[bA,decide_eq_true_eq] at hok
   have:=φMX c3 hok.2.2.2 hok.2.2.1.1 (φT (cutW v d).1 (v.2.drop 1))
   rw[←hg,←this,←e1]
   conv=>rhs;rw[er]
   rw[ed]
   rfl
  ·simp at hg
theorem φLF {t:List UInt8} (h:φ2Z t) {r:RecT} (hr:φa r=true):(scan (t++fr r)).1=(scan t).1++[((t.length:Int),((fr r).length:Int),r)]:=by
 obtain ⟨rs,h1,rfl⟩:=(φ8e t).1 h
 have h2:∀x∈rs++[r],φa x=true:=fun x hx=>by
  rcases mA.1 hx with hx | hx
  ·exact h1 x hx
  ·rw[mZ.1 hx];exact hr
 have e:=φ8K h2
 rw[φBk] at e
 rw[e,φ8K h1,φC0]
 simp[φ1V]
theorem φ9w (d:φ1) (a b:List Int):φT d (a++b)=φT d a++φT d b:=κJ
theorem φ9n (d:φ1) (i:Int):φT d [i]=φ11 d i:=by unfold φT;simp
theorem φ5V {d d':φ1} {ids:List Int} (h:∀id∈ids,φ2 d' (φ0 id)=φ2 d (φ0 id)):φT d' ids=φT d ids:=by
 induction ids with
 | nil=>rfl
 | cons i ids ih=>
  have e1:φT d' (i::ids)=φ11 d' i++φT d' ids:=by unfold φT;simp
  have e2:φT d (i::ids)=φ11 d i++φT d ids:=by unfold φT;simp
  rw[e1,e2,ih fun id hid=>h id (by simp[hid])]
  unfold φ11
  rw[h i (by simp)]
theorem φJz {l:List Int} (h:l≠[]):l=l.take (l.length - 1)++[φM l]:=by
 have hl:l.length - 1<l.length:=by have:=List.length_pos_iff.2 h;omega
 unfold φM
 rw[φB hl]
 have:=κ3 hl
 rw[show l.length - 1+1=l.length by omega,κW] at this
 exact this
theorem φNp {d d':φ1} {ids:List Int} (hne:ids≠[]) (hp:ids.Pairwise (·<·)) {r:RecT} (hr:φa r=true) (hw:φ2Z (φ2 d (φ0 (φM ids))).1)
  (h1:φ2 d' (φ0 (φM ids))=((φ2 d (φ0 (φM ids))).1++fr r,true)) (h2:∀id∈ids,id≠φM ids→φ2 d' (φ0 id)=φ2 d (φ0 id)) :
  φT d' ids=φT d ids++[((φM ids,((φ2 d (φ0 (φM ids))).1.length:Int),((fr r).length:Int),r):φF)]:=by
 have e:=φJz hne
 have hin:∀id∈ids.take (ids.length - 1),id≠φM ids∧id∈ids:=fun id hid=>by
  rw[e] at hp
  have:=(κe.1 hp).2.2 id hid (φM ids) (by simp)
  exact ⟨by omega,κf hid⟩
 have e3:φT d' (ids.take (ids.length - 1))=φT d (ids.take (ids.length - 1)):=φ5V fun id hid=>h2 id (hin id hid).2 (hin id hid).1
 have e4:φ11 d' (φM ids)=φ11 d (φM ids)++[((φM ids,((φ2 d (φ0 (φM ids))).1.length:Int),((fr r).length:Int),r):φF)]:=by
  unfold φ11
  rw[h1,φLF hw hr,mp]
  rfl
 conv=>lhs;rw[e]
 conv=>rhs;rw[e]
 rw[φ9w,φ9w,e3,φ9n,φ9n]
 have e5:φM (ids.take (ids.length - 1)++[φM ids])=φM ids:=φMs _ _
 rw[e5,e4,aA]
def φJ8 (s:φ7) (d:φ1):Prop:=∃nx,nx≤s.1.1∧φm (nx,s.1.2)=true∧φ2 d φb=(φn (nx,s.1.2),true)
structure JB (s:φ7) (d:φ1):Prop where
 ok:φh s d=true
 lt:φ42 s
 liv:φJ8 s d
 fre:Free d
structure Grow (s:φ7) (d:φ1) (s':φ7) (d':φ1) (P:List φF):Prop where
 jb:JB s' d'
 dir:s'.2.1=s.2.1
 bat:s'.2.2.1=s.2.2.1
 pl:φT d' s'.1.2=φT d s.1.2++P
 kp:φ3B s.1.1 d d'
 nxt:s.1.1≤s'.1.1
theorem Grow.refl {s:φ7} {d:φ1} (h:JB s d):Grow s d s d []:=⟨h,rfl,rfl,by simp,fun _ _ _ _=>rfl,κH _⟩
theorem Grow.trans {s s' s'':φ7} {d d' d'':φ1} {P Q:List φF} (h:Grow s d s' d' P) (k:Grow s' d' s'' d'' Q):Grow s d s'' d'' (P++Q):=
 ⟨k.jb,by rw[k.dir,h.dir],by rw[k.bat,h.bat],by rw[k.pl,h.pl,aA],h.kp.trans k.kp h.nxt,by have:=h.nxt;have:=k.nxt;omega⟩
theorem φKi {d:φ1} (h:φ3 d=true) (hf:Free d) (n t:List UInt8) (hc:(φL n t d).2≠0):(φL n t d).1=d:=by
 unfold φL at hc ⊢
 rw[φ4N h hf] at hc ⊢
 unfold φ2Q at hc ⊢
 cases e:d.1.findIdx? (fun f=>f.1==n) with
 | none=>rfl
 | some i=>
  rw[e] at hc
  simp only at hc ⊢
  split
  ·rfl
  ·rename_i c
   rw[if_neg c] at hc
   exact absurd rfl hc
theorem φDV {v:φQ} {w:φE} (h:φ3 w.1=true) (hf:Free w.1) (hc:(sPut v w).2≠0):φ2 (sPut v w).1 φb=φ2 w.1 φb:=by
 have hk:=φ4k h [116,101,109,112] (φn v)
 have hF:Free (φ1R [116,101,109,112] (φn v) w).1:=φ8f (P:=Free) (fun d act k=>φ1M k) _ _ hf
 have e1:φ2 (φ1R [116,101,109,112] (φn v) w).1 φb=φ2 w.1 φb:=φ5J h (show φb≠[116,101,109,112] by decide)
 unfold sPut at hc ⊢
 unfold φ9 at hc ⊢
 by_cases c:(φ1R [116,101,109,112] (φn v) w).2=0
 ·rw[if_pos c] at hc
  exfalso
  obtain ⟨_,ht⟩:=φ8S c
  obtain ⟨i,hi,e,hx,_⟩:=φ5B (by rw[ht])
  apply hc
  show (φV _ (φ2E [116,101,109,112] [108,105,118,101])).2=0
  rw[φ4N hk hF]
  unfold φ2E
  rw[if_neg (by decide),e]
 ·rw[if_neg c]
  exact e1
theorem φHq {hi hi':Int} (h1:hi≤hi'):∀(l:List Int) (p:Option Int),φ1f hi p l=true→φ1f hi' p l=true
 | [],p,h=>h
 | x::l,p,h=>by
  simp only[φ1f,bA,decide_eq_true_eq] at h ⊢
  exact ⟨⟨h.1.1,by omega⟩,h.2.1,φHq h1 l _ h.2.2⟩
theorem φDD {a b:Int} {ids:List Int} (h:φm (a,ids)=true) (hab:a≤b) (hb:b≤100000):φm (b,ids)=true:=by
 obtain ⟨k1,k2,k3,k4⟩:=(φ12 (a,ids)).1 h
 have k2:1≤a∧a≤100000:=k2
 rw[φH (by simp only;omega) (by simp only;omega)] at k1
 refine (φ12 (b,ids)).2 ⟨?_,⟨by show 1≤b;omega,hb⟩,k3,k4⟩
 rw[φH (by simp only;omega) (by simp only;omega)]
 exact φHq (by simp only;omega) _ _ k1
theorem φO7 {s:φ7} {d:φ1} (h:JB s d) (hc:(rotP s d).2.2≠0):(rotP s d).1.1.2=s.1.2∧(rotP s d).1.2=s.2∧s.1.1≤(rotP s d).1.1.1∧(rotP s d).1.1.1≤100000∧φ2 (rotP s d).2.1 φb=φ2 d φb:=by
 obtain ⟨q1,q2,q3,q4,q5,q6⟩:=φg.1 h.ok
 obtain ⟨k1,k2,k3,k4⟩:=(φ12 s.1).1 q2
 have hF:=h.fre
 obtain ⟨g1,g2⟩:=(φ1t _).1 q5
 have hex:(φ2 d (actN s)).2=true:=(g1 _ (φ3C (φ3K q2))).1
 have hs:=φ3I q1 (actN s)
 have hsF:Free (φG (actN s) d).1:=φ1M hF
 have hs0:=φ6k q1 hF hex
 have hg:=φ2O hs (φ0 s.1.1)
 have hgF:Free (φC (φ0 s.1.1) (φG (actN s) d).1).1:=φ52 (P:=Free) (fun d act k=>φ1M k) _ hsF
 have hcd:φ3 (φ9 (φX (φ0 s.1.1)) (φC (φ0 s.1.1) (φG (actN s) d).1)).1=true:=φ1q (op:=φX _) hg fun k=>φ2t k _
 have hcF:Free (φ9 (φX (φ0 s.1.1)) (φC (φ0 s.1.1) (φG (actN s) d).1)).1:=φ3o (P:=Free) (fun d act k=>φ1M k) (fun d k=>φ1M k) hgF
 have hl1:φ2 (φ9 (φX (φ0 s.1.1)) (φC (φ0 s.1.1) (φG (actN s) d).1)).1 φb=φ2 d φb:=by
  rw[φ2k (op:=φX _) (φAR hg (φ2c _).symm),φ5K hs (φ2c _).symm,φ2D q1]
 unfold rotP at hc ⊢
 split
 ·exact ⟨rfl,rfl,κH _,k2.2,rfl⟩
 rename_i c0
 rw[if_neg c0] at hc
 rw[if_neg (by rw[hs0];simp)] at hc ⊢
 simp only at hc ⊢
 split
 ·refine ⟨rfl,rfl,by show s.1.1≤s.1.1+1;omega,by show s.1.1+1≤100000;omega,hl1⟩
 rename_i c2
 rw[if_neg c2] at hc
 split
 ·rename_i c3
  refine ⟨rfl,rfl,by show s.1.1≤s.1.1+1;omega,by show s.1.1+1≤100000;omega,?_⟩
  generalize (φ9 (φX (φ0 s.1.1)) (φC (φ0 s.1.1) (φG (actN s) d).1))=w2 at *
  have c3':(sPut (s.1.1+1,s.1.2++[s.1.1]) (w2.1,0)).2≠0:=fun e=>c3 ((φ1F _).2 e)
  have hp:=φ3n (v:=(s.1.1+1,s.1.2++[s.1.1])) (w:=(w2.1,0)) hcd
  rw[φ9D (w:=φA (sPut (s.1.1+1,s.1.2++[s.1.1]) (w2.1,0))) hp (fun m hm=>by
   simp only[mc,List.not_mem_nil,or_false] at hm
   rcases hm with rfl | rfl
   ·decide
   ·exact (φ2c _).symm)]
  show φ2 (sPut (s.1.1+1,s.1.2++[s.1.1]) (w2.1,0)).1 φb=_
  rw[φDV (w:=(w2.1,0)) hcd hcF c3']
  exact hl1
 ·rename_i c3
  rw[if_neg c3] at hc
  exact absurd rfl hc
theorem φF7 {s:φ7} {d:φ1} (hF:Free d):Free (rotP s d).2.1:=by
 have hsF:Free (φG (actN s) d).1:=φ1M hF
 have hgF:Free (φC (φ0 s.1.1) (φG (actN s) d).1).1:=φ52 (P:=Free) (fun d act k=>φ1M k) _ hsF
 have hcF:Free (φ9 (φX (φ0 s.1.1)) (φC (φ0 s.1.1) (φG (actN s) d).1)).1:=φ3o (P:=Free) (fun d act k=>φ1M k) (fun d k=>φ1M k) hgF
 have hpF:Free (sPut (s.1.1+1,s.1.2++[s.1.1]) ((φ9 (φX (φ0 s.1.1)) (φC (φ0 s.1.1) (φG (actN s) d).1)).1,0)).1:=φ7R (P:=Free) (fun d act k=>φ1M k) _ hcF
 unfold rotP
 split
 ·exact hF
 split
 ·exact hsF
 simp only
 split
 ·exact hcF
 split
 ·unfold φ1h
  have:=φ5j (P:=Free) (fun d act k=>φ1M k) [[116,101,109,112],φ0 s.1.1] (w:=((φA (sPut (s.1.1+1,s.1.2++[s.1.1]) ((φ9 (φX (φ0 s.1.1)) (φC (φ0 s.1.1) (φG (actN s) d).1)).1,0))).1,0)) hpF
  split
  ·split
   ·exact this
   ·exact this
  ·exact hpF
 ·exact hpF
theorem φFy {s:φ7} {d:φ1} (h:φ3 d=true) (hc:(rotP s d).2.2=0):φ2 (rotP s d).2.1 φb=(φn (s.1.1+1,s.1.2++[s.1.1]),true):=by
 unfold rotP at hc ⊢
 split
 ·rename_i c;rw[if_pos c] at hc;simp at hc
 rename_i c0
 rw[if_neg c0] at hc
 split
 ·rename_i c;rw[if_pos c] at hc;exact absurd ((φ1F _).1 hc) c
 rename_i c1
 rw[if_neg c1] at hc
 simp only at hc ⊢
 split
 ·rename_i c;rw[if_pos c] at hc;exact absurd ((φ1F _).1 hc) c
 rename_i c2
 rw[if_neg c2] at hc
 split
 ·rename_i c
  rw[if_pos c] at hc
  exfalso
  revert hc
  unfold φ1h
  split
  ·split
   ·simp
   ·rename_i c4;exact c4
  ·exact c
 ·rename_i c
  have c:(sPut (s.1.1+1,s.1.2++[s.1.1]) ((φ9 (φX (φ0 s.1.1)) (φC (φ0 s.1.1) (φG (actN s) d).1)).1,0)).2=0:=(φ1F _).1 (Decidable.not_not.1 c)
  exact (φIH c).2
theorem φB6 {s:φ7} {d:φ1} (h:JB s d):Grow s d (rotP s d).1 (rotP s d).2.1 []:=by
 obtain ⟨q1,q2,q3,q4,q5,q6⟩:=φg.1 h.ok
 obtain ⟨k1,k2,k3,k4⟩:=(φ12 s.1).1 q2
 rw[φH (by omega) (by omega)] at k1
 have hids:=φ3r _ _ k1
 obtain ⟨r1,r2,r3,r4,r5,r6⟩:=φ9k q1 q2
 have hkp:=φH2 (s:=s) q1 k2.2
 have hft:∀id∈s.1.2,φ2 (rotP s d).2.1 (φ0 id)=φ2 d (φ0 id):=fun id hid=>by
  have:=hids id hid
  rcases φ8x (s:=s) q1 with ⟨_,e2⟩ | ⟨_,_,e2⟩
  ·exact e2 _
  ·exact e2 _ (fun hh=>by have:=φ45 (by omega) (by omega) hh;omega) (φ4K _) (φ2c _)
 have hpl:=φ5V hft
 by_cases c:(rotP s d).2.2=0
 ·have hx:∀e∈s.2.1,e.2.1≠s.1.1:=fun e he=>by have:=h.lt e he;omega
  obtain ⟨e1,e2,e3,e4⟩:=φ6u q1 c
  refine ⟨⟨(φHy h.ok hx c).1,fun e he=>?_,⟨s.1.1+1,by rw[e1];exact κH _,by rw[e1];have:=r5 c;rw[e1] at this;exact this,by rw[φFy q1 c,e1]⟩,φF7 h.fre⟩,r3,r4,?_,hkp,by rw[e1];show s.1.1≤s.1.1+1;omega⟩
  ·rw[r3] at he
   have:=h.lt e he
   rw[e1];show e.2.1<s.1.1+1;omega
  ·have ei:(rotP s d).1.1.2=s.1.2++[s.1.1]:=by rw[e1]
   rw[ei,φ9w,hpl,φ9n]
   unfold φ11
   rw[e2,φ7H]
   rfl
 ·obtain ⟨f1,f2,f3,f4,f5⟩:=φO7 h c
  obtain ⟨nx,n1,n2,n3⟩:=h.liv
  have hlv:φm (rotP s d).1.1=true:=by
   have:=φDD (a:=s.1.1) (ids:=s.1.2) q2 f3 f4
   rw[←f1] at this
   exact this
  refine ⟨⟨φg.2 ⟨r1,hlv,by rw[f2];exact q3,by rw[f2];exact q4,?_,?_⟩,fun e he=>?_,⟨nx,by omega,by rw[f1];exact n2,by rw[f5,f1];exact n3⟩,φF7 h.fre⟩,by rw[f2],by rw[f2],by rw[f1,hpl];simp,hkp,f3⟩
  ·rw[f2,f1]
   obtain ⟨g1,g2⟩:=(φ1t _).1 q5
   refine (φ1t _).2 ⟨fun id hid=>by rw[hft id hid];exact g1 id hid,fun hne=>by rw[hft _ (φ3C hne)];exact g2 hne⟩
  ·rw[f2]
   exact φ7i h.ok hkp h.lt (κH _)
  ·rw[f2] at he
   have:=h.lt e he
   omega
def entP (p:φF):φD:=(p.2.2.2.2.2.1,p.1,p.2.1,p.2.2.1,p.2.2.2.2.1)
theorem φBS {s:φ7} {d:φ1} {r:RecT} (h:JB s d) (hr:φa r=true) :
  ((addP s d r).2.2.1=0→∃p:φF,Grow s d (addP s d r).1 (addP s d r).2.1 [p]∧p.2.2.2=r∧(addP s d r).2.2.2=entP p) ∧
  ((addP s d r).2.2.1≠0→Grow s d (addP s d r).1 (addP s d r).2.1 []):=by
 have hR:Grow s d (addR s d (frame (φ6 r))).1 (addR s d (frame (φ6 r))).2.1 []:=by
  unfold addR
  split
  ·exact φB6 h
  ·exact Grow.refl h
 unfold addP
 generalize addR s d (frame (φ6 r))=R at *
 simp only
 by_cases c:R.2.2=0
 rotate_left
 ·rw[if_pos c]
  exact ⟨fun e=>absurd e c,fun _=>hR⟩
 rw[if_neg (by simpa using c)]
 have hJ:=hR.jb
 obtain ⟨q1,q2,q3,q4,q5,q6⟩:=φg.1 hJ.ok
 by_cases c2:(φL (actN R.1) (frame (φ6 r)) R.2.1).2=0
 rotate_left
 ·rw[if_pos c2]
  refine ⟨fun e=>absurd ((φ1F _).1 e) c2,fun _=>?_⟩
  show Grow s d R.1 (φL (actN R.1) (frame (φ6 r)) R.2.1).1 []
  rw[φKi q1 hJ.fre _ _ c2]
  exact hR
 rw[if_neg (by simpa using c2)]
 refine ⟨fun _=>?_,fun e=>absurd rfl e⟩
 obtain ⟨a1,a2,a3⟩:=φEx hJ.ok hr c2
 obtain ⟨b1,b2⟩:=φ4G c2
 obtain ⟨g1,g2⟩:=(φ1t _).1 q5
 have hne:=φ3K q2
 have hl:=φBu q2
 have hlt:∀id∈R.1.1.2,1≤id∧id≤100000:=fun id hid=>by have:=φCM q2 hid;omega
 obtain ⟨nx,n1,n2,n3⟩:=hJ.liv
 have hsz:=g2 hne
 have hpm:=φNp (d:=R.2.1) (d':=(φL (actN R.1) (frame (φ6 r)) R.2.1).1) hne (φK9 q2) hr (g1 _ (φ3C hne)).2 b2 (fun id hid hne2=>φ5o q1 (fun hh=>hne2 (φ45 (hlt id hid) ⟨hl.1,hl.2.2⟩ hh)))
 refine ⟨(φM R.1.1.2,((φ2 R.2.1 (φ0 (φM R.1.1.2))).1.length:Int),((fr r).length:Int),r),?_,rfl,?_⟩
 ·refine Grow.trans (P:=[]) hR ⟨⟨a1,hJ.lt,⟨nx,n1,n2,?_⟩,φ1M hJ.fre⟩,rfl,rfl,hpm,fun e h1 h2 h3=>a2 e h1 (by have:=(φ12 _).1 q2;omega) h3,κH _⟩
  show φ2 (φL (actN R.1) (frame (φ6 r)) R.2.1).1 φb=_
  rw[φ5o q1 (show φb≠actN R.1 from (φ2c _).symm)]
  exact n3
 ·unfold entP
  rw[hsz]
  rfl
theorem φ7F:∀(rs:List RecT) (s:φ7) (d:φ1),JB s d→(∀r∈rs,φa r=true)→∃P:List φF,Grow s d (φe rs s d).1 (φe rs s d).2.1 P∧P.map (·.2.2.2)=rs.take P.length∧P.length≤rs.length ∧
  ((φe rs s d).2.2.1=0→P.length=rs.length∧(φe rs s d).2.2.2=P.map entP)∧((φe rs s d).2.2.1≠0→P.length<rs.length)
 | [],s,d,h,_=>⟨[],Grow.refl h,rfl,κ5 _,fun _=>⟨rfl,rfl⟩,fun e=>absurd rfl e⟩
 | r::rs,s,d,h,hr=>by
  obtain ⟨a1,a2⟩:=φBS h (hr r (by simp))
  unfold φe
  by_cases c:(addP s d r).2.2.1=0
  rotate_left
  ·rw[if_pos c]
   exact ⟨[],a2 c,rfl,κ4 _,fun e=>absurd e c,fun _=>by simp⟩
  rw[if_neg (by simpa using c)]
  obtain ⟨p,p1,p2,p3⟩:=a1 c
  obtain ⟨P,g1,g2,g3,g4,g5⟩:=φ7F rs _ _ p1.jb fun x hx=>hr x (by simp[hx])
  refine ⟨p::P,Grow.trans p1 g1,?_,by simp;omega,fun e=>?_,fun e=>by have:=g5 e;simp;omega⟩
  ·simp[p2,g2]
  ·obtain ⟨x1,x2⟩:=g4 e
   exact ⟨by simp[x1],by simp only[κ6];rw[←p3,←x2]⟩
structure JR (s:φ7) (d:φ1):Prop extends JB s d where
 reg:∃last,φp [] (φT d s.1.2) ([],0,0)=(s.2.1,last,0)∧last<s.2.2.1
 pb:∀p∈φT d s.1.2,p.2.2.2.2.1<s.2.2.1
 own:ownL 5 0 (φT d s.1.2)=[]
theorem φBX (b:Int):∀(P pre:List φF) (dir:List φD) (z:Int),(∀p∈P,(p.2.2.2.1=1∨p.2.2.2.1=2)∧p.2.2.2.2.1=b)→z≤b→∃z',z'≤b∧φp pre P (dir,z,0)=(dir,z',0)
 | [],pre,dir,z,_,hz=>⟨z,hz,rfl⟩
 | p::P,pre,dir,z,h,hz=>by
  obtain ⟨hk,hb⟩:=h p (by simp)
  rw[φp,if_neg (by simp)]
  have e:φ1i pre p (dir,z,0)=(dir,if p.2.2.2.2.1 > z then p.2.2.2.2.1 else z,0):=by
   unfold φ1i
   simp only
   rw[if_neg (by rcases hk with e | e<;>rw[e]<;>decide)]
  rw[e]
  exact φBX b P _ _ _ (fun q hq=>h q (by simp[hq])) (by split<;>omega)
theorem φCY (b:Int):∀(P acc:List φF),(∀p∈P,p.2.2.2.1=1∨p.2.2.2.1=2∨p.2.2.2.1=3)→P.foldl (φ1g 5 b) acc=acc
 | [],acc,_=>rfl
 | p::P,acc,h=>by
  have hk:=h p (by simp)
  have e:φ1g 5 b acc p=acc:=by
   unfold φ1g
   rw[if_neg (by simp),if_neg (by rcases hk with e | e | e<;>rw[e]<;>decide),if_neg (by rcases hk with e | e | e<;>rw[e]<;>simp)]
  rw[κO,e,φCY b P acc fun q hq=>h q (by simp[hq])]
theorem φEA (b:Int):∀(A:List φF) (acc:List φF),(∀p∈A,p.2.2.2.2.1<b)→A.foldl (φ1g 3 b) acc=acc
 | [],acc,_=>rfl
 | p::A,acc,h=>by
  have hb:=h p (by simp)
  have e:φ1g 3 b acc p=acc:=by
   unfold φ1g
   rw[if_pos ⟨rfl,by omega⟩]
  rw[κO,e,φEA b A acc fun q hq=>h q (by simp[hq])]
theorem φCx (b:Int):∀(P acc:List φF),(∀p∈P,(p.2.2.2.1=1∨p.2.2.2.1=2)∧p.2.2.2.2.1=b)→P.foldl (φ1g 3 b) acc=acc++P
 | [],acc,_=>by simp
 | p::P,acc,h=>by
  obtain ⟨hk,hb⟩:=h p (by simp)
  have e:φ1g 3 b acc p=acc++[p]:=by
   unfold φ1g
   rw[if_neg (by rw[hb];simp),if_neg (by rcases hk with e | e<;>rw[e]<;>decide),if_pos (.inl ⟨rfl,hk⟩)]
  rw[κO,e,φCx b P _ fun q hq=>h q (by simp[hq])]
  simp
theorem φE9 (b:Int):∀(P:List φF) (l:List PutT) (dir:List φD),P.map (·.2.2.2)=l.map (φ1Q b)→φ1z dir P=dirW dir (l.zip (P.map entP))
 | [],l,dir,h=>by
  cases l with
  | nil=>rfl
  | cons x l=>simp at h
 | p::P,l,dir,h=>by
  cases l with
  | nil=>simp at h
  | cons q l=>
   simp only[κ6,List.cons.injEq] at h
   obtain ⟨h1,h2⟩:=h
   have e:putD dir p=φ2l dir (q,entP p):=by
    unfold putD φ2l entP
    rw[h1]
    unfold φ1Q
    cases q.2.1<;>rfl
   show φ1z (putD dir p) P=dirW (φ2l dir (q,entP p)) (l.zip (P.map entP))
   rw[e]
   exact φE9 b P l _ h2
theorem φCo (b:Int) (p:PutT):((φ1Q b p).1=1∨(φ1Q b p).1=2)∧(φ1Q b p).2.1=b:=by
 unfold φ1Q
 split
 ·exact ⟨.inr rfl,rfl⟩
 ·exact ⟨.inl rfl,rfl⟩
theorem JB.bump {s:φ7} {d:φ1} (h:JB s d) (hb:s.2.2.1≤1000000):JB (s.1,s.2.1,s.2.2.1+1,s.2.2.2) d:=by
 obtain ⟨q1,q2,q3,q4,q5,q6⟩:=φg.1 h.ok
 refine ⟨φg.2 ⟨q1,q2,q3,by show 1≤s.2.2.1+1∧s.2.2.1+1≤1000001;omega,q5,fun e he=>?_⟩,h.lt,h.liv,h.fre⟩
 have:=q6 e he
 rw[φ33] at this ⊢
 obtain ⟨a1,a2,a3,a4,a5⟩:=this
 exact ⟨a1,a2,a3,a4,by show e.2.2.2.2<s.2.2.1+1;omega⟩
theorem φDR {s:φ7} {d:φ1} (h:JR s d) {l:List PutT} (hp:φ2A l=true) (hb:s.2.2.1≤1000000) (hk:φ2s s.2.1 l≤20):JR (φ1P s d l).1 (φ1P s d l).2.1:=by
 obtain ⟨q1,q2,q3,q4,q5,q6⟩:=φg.1 h.ok
 have hrec:=φ7k (b:=s.2.2.1) (l:=l) ⟨q4.1,hb⟩ hp
 have hJ1:=h.toJB.bump hb
 obtain ⟨P,g1,g2,g3,g4,g5⟩:=φ7F (φ1r s.2.2.1 l) _ _ hJ1 hrec
 obtain ⟨last,hreg,hlast⟩:=h.reg
 have hrl:=φ99 s.2.2.1 l
 have hright:=φBM h.ok h.lt hp hb hk
 -- the places of a part of a batch
 have part:∀Q:List φF,(∃k,k≤l.length∧Q.map (·.2.2.2)=(l.map (φ1Q s.2.2.1)).take k)→∀p∈Q,(p.2.2.2.1=1∨p.2.2.2.1=2)∧p.2.2.2.2.1=s.2.2.1:=fun Q ⟨k,_,hQ⟩ p hpQ=>by
  have:p.2.2.2∈Q.map (·.2.2.2):=mM.2 ⟨p,hpQ,rfl⟩
  rw[hQ] at this
  obtain ⟨q,_,e⟩:=mM.1 (κf this)
  have:=φCo s.2.2.1 q
  rw[e] at this
  exact this
 unfold φ1P at hright ⊢
 generalize hG:φe (φ1r s.2.2.1 l) (s.1,s.2.1,s.2.2.1+1,s.2.2.2) d=g at *
 simp only at hright ⊢
 have hbat:g.1.2.2.1=s.2.2.1+1:=g1.bat
 have hdir:g.1.2.1=s.2.1:=g1.dir
 have hpl:φT g.2.1 g.1.1.2=φT d s.1.2++P:=g1.pl
 by_cases c:g.2.2.1=0
 rotate_left
 ·-- the batch was not written φ2Z
  rw[if_pos c]
  have hlt:=g5 c
  have hP:=part P ⟨P.length,by omega,by
   rw[g2]
   unfold φ1r
   rw[List.take_append_of_le_length (by rw[lM];omega)]⟩
  obtain ⟨z',hz',e⟩:=φBX s.2.2.1 P (φT d s.1.2) s.2.1 last hP (by omega)
  refine ⟨g1.jb,⟨z',?_,by show z'<g.1.2.2.1;omega⟩,fun p hp=>?_,?_⟩
  ·show φp [] (φT g.2.1 g.1.1.2) _=_
   rw[hpl,φ5d _ _ _ _ (by rw[hreg]),hreg,κ9,e,hdir]
  ·have hp:p∈φT g.2.1 g.1.1.2:=hp
   rw[hpl] at hp
   show _<g.1.2.2.1
   rcases mA.1 hp with hp | hp
   ·have:=h.pb p hp;omega
   ·have:=(hP p hp).2;omega
  ·show ownL 5 0 (φT g.2.1 g.1.1.2)=[]
   have ho:=h.own
   rw[hpl]
   unfold ownL at ho ⊢
   rw[κU,ho,φCY 0 P [] fun p hp=>by rcases (hP p hp).1 with e | e<;>simp[e]]
 rw[if_neg (by simpa using c)] at hright ⊢
 obtain ⟨x1,x2⟩:=g4 c
 -- the last sync is done
 obtain ⟨b1,b2,b3,b4,b5,b6⟩:=φg.1 g1.jb.ok
 have hex:(φ2 g.2.1 (actN g.1)).2=true:=(((φ1t _).1 b5).1 _ (φ3C (φ3K b2))).1
 have hs0:(φG (actN g.1) g.2.1).2=0:=φ6k b1 g1.jb.fre hex
 rw[if_neg (by rw[hs0];simp)] at hright ⊢
 obtain ⟨r1,r2,r3,r4,r5⟩:=hright rfl
 have hpl2:φT (φG (actN g.1) g.2.1).1 g.1.1.2=φT d s.1.2++P:=by
  rw[φ5V (d:=g.2.1) fun id _=>φ2D b1 _ _]
  exact hpl
 -- the last place is the seal's
 have hP0:P≠[]:=fun e=>by rw[e] at x1;simp at x1;omega
 obtain ⟨Q,pz,rfl⟩:∃Q pz,P=Q++[pz]:=⟨P.dropLast,P.getLast hP0,(List.dropLast_concat_getLast hP0).symm⟩
 have hQl:Q.length=l.length:=by simp at x1;omega
 have hmap:(Q++[pz]).map (·.2.2.2)=l.map (φ1Q s.2.2.1)++[(3,s.2.2.1,[],[],(l.length:Int),φ1l (l.map (φ1Q s.2.2.1)))]:=by
  rw[g2,x1,κW];rfl
 rw[mp,List.map_singleton] at hmap
 obtain ⟨hQ,hz⟩:=List.append_inj hmap (by simp[hQl])
 have hz:pz.2.2.2=(3,s.2.2.1,[],[],(l.length:Int),φ1l (l.map (φ1Q s.2.2.1))):=by simpa using hz
 have hPQ:=part Q ⟨l.length,κ5 _,by rw[hQ,List.take_of_length_le (by simp)]⟩
 obtain ⟨z',hz',e⟩:=φBX s.2.2.1 Q (φT d s.1.2) s.2.1 last hPQ (by omega)
 have hown3:ownL 3 s.2.2.1 (φT d s.1.2++Q)=Q:=by
  unfold ownL
  rw[κU,φEA _ _ _ h.pb,φCx _ _ _ hPQ];rfl
 have hdw:φ1z s.2.1 Q=dirW s.2.1 (l.zip g.2.2.2):=by
  rw[φE9 s.2.2.1 Q l s.2.1 hQ,x2,mp,φDL _ _ _ (by simp[hQl])]
 have hseal:φ1i (φT d s.1.2++Q) pz (s.2.1,z',0)=(dirW s.2.1 (l.zip g.2.2.2),s.2.2.1,0):=by
  unfold φ1i
  simp only
  rw[hz]
  simp only
  rw[if_pos (.inl trivial),hown3,hQ]
  have hfit:φ3S (3,s.2.2.1,[],[],(l.length:Int),φ1l (l.map (φ1Q s.2.2.1))) (l.map (φ1Q s.2.2.1))=true:=by
   unfold φ3S;simp
  have el:(if s.2.2.1 > z' then s.2.2.1 else z')=s.2.2.1:=by split<;>omega
  rw[if_pos hfit,hdw,el]
  unfold φ5A
  rw[if_neg]
  have r5':(dirW g.1.2.1 (l.zip g.2.2.2)).length=φ2s s.2.1 l:=r5
  rw[hdir] at r5'
  omega
 refine ⟨⟨r1,r2,?_,φ1M g1.jb.fre⟩,⟨s.2.2.1,?_,by show s.2.2.1<g.1.2.2.1;omega⟩,fun p hp=>?_,?_⟩
 ·obtain ⟨nx,n1,n2,n3⟩:=g1.jb.liv
  exact ⟨nx,n1,n2,by rw[φ2D b1];exact n3⟩
 ·show φp [] (φT (φG (actN g.1) g.2.1).1 g.1.1.2) _=_
  rw[hpl2,φ5d _ _ _ _ (by rw[hreg]),hreg,κ9,φ5d _ _ _ _ (by rw[e]),e,φp,if_neg (by simp),hseal,hdir]
  rfl
 ·have hp:p∈φT (φG (actN g.1) g.2.1).1 g.1.1.2:=hp
  rw[hpl2] at hp
  show _<g.1.2.2.1
  rcases mA.1 hp with hp | hp
  ·have:=h.pb p hp;omega
  ·rcases mA.1 hp with hp | hp
   ·have:=(hPQ p hp).2;omega
   ·rw[mZ.1 hp,hz];show s.2.2.1<_;omega
 ·show ownL 5 0 (φT (φG (actN g.1) g.2.1).1 g.1.1.2)=[]
  have ho:=h.own
  rw[hpl2]
  unfold ownL at ho ⊢
  rw[κU,ho,φCY 0 (Q++[pz]) [] fun p hp=>by
   rcases mA.1 hp with hp | hp
   ·rcases (hPQ p hp).1 with e | e<;>simp[e]
   ·rw[mZ.1 hp,hz];simp]
theorem φLy {id:Int} {t:List UInt8} {h:φ1J} (k:φ14 id t=(h,true)) (hd:φ1v h.2.2=true) (h0:0≤h.2.1) :
  φp [] ((scan t).1.map fun x=>((id,x):φF)) ([],0,0)=(h.2.2,h.2.1,0)∧ownL 5 0 ((scan t).1.map fun x=>((id,x):φF))=[]∧∀p∈(scan t).1.map (fun x=>((id,x):φF)),p.2.2.2.2.1≤h.2.1:=by
 obtain ⟨l,z,e,z5,hf,hk,hh,_,_⟩:=φBs k
 have hsrt:srt ([]++l.map (entS id)):=by have:=φ5m hd;rw[hh] at this;simpa using this
 have hlen:(l.map (entS id)).length≤20:=by
  unfold φ1v at hd
  rw[hh] at hd
  simp only[bA,decide_eq_true_eq] at hd
  exact hd.2
 rw[hh] at h0
 have h0:0≤z.2.2.2.1:=h0
 rw[e,hh]
 obtain ⟨z',hz',eg⟩:=φBm id z.2.2.2.1 l [] 0 hk h0
 refine ⟨?_,?_,fun p hp=>?_⟩
 ·rw[mp,φ5d _ _ _ _ (by rw[eg]),eg,κ9,List.map_singleton,φp,if_neg (by simp)]
  have eo:ownL z.2.2.1 z.2.2.2.1 (l.map fun x=>((id,x):φF))=l.map fun x=>((id,x):φF):=by
   rw[z5];unfold ownL;rw[φAW id _ l [] fun x hx=>(hk x hx).1];rfl
  have ea:φ1z [] (l.map fun x=>((id,x):φF))=l.map (entS id):=by
   rw[φB1 id l [] (fun x hx=>(hk x hx).1) hsrt];rfl
  have er:(l.map fun x=>((id,x):φF)).map (·.2.2.2)=l.map (·.2.2):=by rw[List.map_map];rfl
  have es:φ1i (l.map fun x=>((id,x):φF)) ((id,z):φF) ([],z',0)=(l.map (entS id),z.2.2.2.1,0):=by
   unfold φ1i
   simp only
   have el:(if z.2.2.2.1 > z' then z.2.2.2.1 else z')=z.2.2.2.1:=by split<;>omega
   rw[if_pos (.inr z5),eo,er,if_pos hf,ea,el]
   unfold φ5A
   rw[if_neg (Nat.not_lt.2 hlen)]
  rw[es];rfl
 ·unfold ownL
  rw[mp,κU,List.map_singleton,κO,List.foldl_nil]
  unfold φ1g
  rw[if_neg (by simp),if_pos z5]
 ·obtain ⟨x,hx,rfl⟩:=mM.1 hp
  show x.2.2.2.1≤z.2.2.2.1
  rcases mA.1 hx with hx | hx
  ·exact (hk x hx).2
  ·rw[mZ.1 hx];exact κH _
theorem φ7J:∀(ids:List Int) {w:φE},φ3 w.1=true→Free w.1→w.2=0→(sOld ids w).2=0
 | [],w,_,_,h=>h
 | i::ids,w,hk,hf,h=>φ7J ids (w:=φl [φ0 i,φK i] w) (φ4a _ hk) (φ5j (P:=Free) (fun d act k=>φ1M k) _ hf) (φ9h _ hk hf h)
theorem φEd {s:φ7} {d:φ1} (l:List φZ) (h:JB s d) (h2:s.1.1+2≤100000) (hc:(φ15 s d l).2.2≠0) :
  (φ15 s d l).1=((s.1.1+2,s.1.2),s.2)∧φ3 (φ15 s d l).2.1=true∧Free (φ15 s d l).2.1∧φ2 (φ15 s d l).2.1 φb=φ2 d φb ∧
  ∀id,1≤id∧id<s.1.1→φ2 (φ15 s d l).2.1 (φ0 id)=φ2 d (φ0 id):=by
 obtain ⟨q1,q2,q3,q4,q5,q6⟩:=φg.1 h.ok
 obtain ⟨k1,k2,k3,k4⟩:=(φ12 s.1).1 q2
 have hF:=h.fre
 have g1:=φ6P s.1.1 (φY l (s.2.2.1 - 1)) (w:=(d,0)) q1
 have g0:=φ41 (w:=(d,0)) q1 (φ0 s.1.1)
 have g0a:=φ7P (φ0 s.1.1) (φY l (s.2.2.1 - 1)) g0
 have g2:=φ41 g1 (φ0 (s.1.1+1))
 have F1:Free (sNew (φ0 (s.1.1+1)) (sWM s.1.1 (φY l (s.2.2.1 - 1)) (d,0))).1:=φ7a (P:=Free) (fun d act k=>φ1M k) _ (φ9j (P:=Free) (fun d act k=>φ1M k) _ _ hF)
 have f1:∀n,n≠φ0 s.1.1→n≠φ0 (s.1.1+1)→φ2 (sNew (φ0 (s.1.1+1)) (sWM s.1.1 (φY l (s.2.2.1 - 1)) (d,0))).1 n=φ2 d n:=fun n q1' q2'=>by
  rw[φ6G g1 q2']
  unfold sWM
  rw[φ2k (op:=φG _) (φ2D g0a _ n),φBV q1' _ g0,φ6G (w:=(d,0)) q1 q1']
 unfold φ15 at hc ⊢
 simp only at hc ⊢
 generalize sNew (φ0 (s.1.1+1)) (sWM s.1.1 (φY l (s.2.2.1 - 1)) (d,0))=w1 at *
 have g3:φ3 (φo s.1.1 w1).1=true:=by
  unfold φo;split
  ·exact g2
  ·exact φ7D _ g2
 have F2:Free (φo s.1.1 w1).1:=by
  unfold φo;split
  ·exact F1
  ·exact φ9X (P:=Free) (fun d act k=>φ1M k) _ F1
 have f2:∀n,n≠φK s.1.1→φ2 (φo s.1.1 w1).1 n=φ2 w1.1 n:=fun n q=>by
  unfold φo
  split
  ·rfl
  ·unfold φ1s
   simp only
   have hf:=φ4k (w:=(w1.1,0)) g2 (φK s.1.1) (φ1W (φ14 s.1.1 (φ2 w1.1 (φ0 s.1.1)).1).1)
   split
   ·rw[φ5K hf q,φ5J (w:=(w1.1,0)) g2 q]
   ·rw[φ5J (w:=(w1.1,0)) g2 q]
 generalize φo s.1.1 w1=w2 at *
 have g5:φ3 (if w2.2=0 then φA (sPut (s.1.1+2,[s.1.1,s.1.1+1]) w2) else φA w2).1=true:=by
  split
  ·exact φ3n g3 _
  ·exact g3
 have F5:Free (if w2.2=0 then φA (sPut (s.1.1+2,[s.1.1,s.1.1+1]) w2) else φA w2).1:=by
  split
  ·exact φ7R (P:=Free) (fun d act k=>φ1M k) _ F2
  ·exact F2
 have f3:∀n,n≠φ1H→n≠φb→φ2 (if w2.2=0 then φA (sPut (s.1.1+2,[s.1.1,s.1.1+1]) w2) else φA w2).1 n=φ2 w2.1 n:=fun n q1 q2=>by
  split
  ·exact φ7l g3 _ q1 q2
  ·rfl
 have fl:(if w2.2=0 then φA (sPut (s.1.1+2,[s.1.1,s.1.1+1]) w2) else φA w2).2≠0→φ2 (if w2.2=0 then φA (sPut (s.1.1+2,[s.1.1,s.1.1+1]) w2) else φA w2).1 φb=φ2 w2.1 φb:=fun e=>by
  by_cases c:w2.2=0
  ·rw[if_pos c] at e ⊢
   exact φDV g3 F2 fun e2=>e ((φ1F _).2 e2)
  ·rw[if_neg c];rfl
 generalize (if w2.2=0 then φA (sPut (s.1.1+2,[s.1.1,s.1.1+1]) w2) else φA w2)=w3 at *
 by_cases c:w3.2=0
 ·rw[if_neg (by simpa using c)] at hc
  exfalso
  apply hc
  show told (sOld s.1.2 (w3.1,0)).2=0
  rw[φ7J s.1.2 (w:=(w3.1,0)) g5 F5 rfl];rfl
 rw[if_pos (by simpa using c)]
 refine ⟨rfl,φHZ _ g5,?_,?_,fun id hid=>?_⟩
 ·show Free (φ1h (φ48 s.1.1) w3).1
  have:=φ5j (P:=Free) (fun d act k=>φ1M k) (φ48 s.1.1) (w:=(w3.1,0)) F5
  unfold φ1h
  split
  ·split
   ·exact this
   ·exact this
  ·exact F5
 ·show φ2 (φ1h (φ48 s.1.1) w3).1 φb=_
  rw[φ9D g5 (fun m hm=>by
   unfold φ48 at hm
   simp only[mc,List.not_mem_nil,or_false] at hm
   rcases hm with rfl | rfl | rfl | rfl
   ·decide
   ·exact (φ2c _).symm
   ·exact (φ2c _).symm
   ·exact (φ6l _).symm),fl c,f2 _ (φ6l _).symm,f1 _ (φ2c _).symm (φ2c _).symm]
 ·have n1:φ0 id≠φ0 s.1.1:=fun e=>by have:=φ45 (by omega) (by omega) e;omega
  have n2:φ0 id≠φ0 (s.1.1+1):=fun e=>by have:=φ45 (by omega) (by omega) e;omega
  have n3:φ0 id≠φK s.1.1:=φ43 _ _ (by omega)
  show φ2 (φ1h (φ48 s.1.1) w3).1 (φ0 id)=_
  rw[φ9D g5 (fun m hm=>by
   unfold φ48 at hm
   simp only[mc,List.not_mem_nil,or_false] at hm
   rcases hm with rfl | rfl | rfl | rfl
   ·exact φ4K _
   ·exact n1
   ·exact n2
   ·exact n3),f3 _ (φ4K _) (φ2c _),f2 _ n3,f1 _ n1 n2]
theorem φJp {s:φ7} {d:φ1} (h:JR s d) (h2:s.1.1+2≤100000):JR (φ15 s d (φW s d).1).1 (φ15 s d (φW s d).1).2.1:=by
 obtain ⟨q1,q2,q3,q4,q5,q6⟩:=φg.1 h.ok
 obtain ⟨k1,k2,k3,k4⟩:=(φ12 s.1).1 q2
 rw[φH (by omega) (by omega)] at k1
 have hids:=φ3r _ _ k1
 by_cases hc:(φ15 s d (φW s d).1).2.2=0
 ·have hM:=φFB (φW s d).1 q1 q2 h2 hc
  obtain ⟨m1,m2,m3,m4⟩:=φ7u h.ok h2 hM.toMerged
  obtain ⟨k,ok⟩:=φGq h.ok h2 hM.toMerged
  have hfu:0 > d.2.2.1:=by rw[show d.2.2=(-1,false) from h.fre];decide
  have hF:=hM.fre hfu
  have hst:=hM.st
  have hone:=hM.one
  have htwo:=hM.two
  have hliv:=hM.liv
  generalize φ15 s d (φW s d).1=M at *
  obtain ⟨S,y,c⟩:=M
  simp only at hc hM m1 m2 m3 m4 k ok hF hst hone htwo hliv ⊢
  unfold φ2Y at ok
  simp only[bA,decide_eq_true_eq] at ok
  obtain ⟨r1,r2,r3⟩:=φLy k ok.2.2.2 ok.2.2.1.1
  have hI:S.1.2=[s.1.1,s.1.1+1]:=by rw[hst]
  have hB:S.2.2.1=s.2.2.1:=by rw[hst]
  have hpl:φT y S.1.2=(scan (txt (φY (φW s d).1 (s.2.2.1 - 1)))).1.map fun x=>((s.1.1,x):φF):=by
   rw[hI]
   unfold φT φ11
   simp[hone,htwo,φ7H]
  refine ⟨⟨m1,m3,⟨s.1.1+2,by rw[hst];exact κH _,by rw[hI];exact φAu s.1.1 k2.1 h2,by rw[hI];exact hliv⟩,hF⟩,⟨s.2.2.1 - 1,by rw[hpl];exact r1,by rw[hB];omega⟩,fun p hp=>?_,by rw[hpl];exact r2⟩
  rw[hpl] at hp
  have:=r3 p hp
  have:p.2.2.2.2.1≤s.2.2.1 - 1:=this
  rw[hB];omega
 ·obtain ⟨f1,f2,f3,f4,f5⟩:=φEd (φW s d).1 h.toJB h2 hc
  have hft:∀id∈s.1.2,φ2 (φ15 s d (φW s d).1).2.1 (φ0 id)=φ2 d (φ0 id):=fun id hid=>f5 id (by have:=hids id hid;omega)
  have hkp:φ3B s.1.1 d (φ15 s d (φW s d).1).2.1:=fun e e1 e2 e3=>by
   unfold φ1G
   rw[f5 _ ⟨e1,e2⟩]
  have hpl:=φ5V hft
  generalize φ15 s d (φW s d).1=M at *
  obtain ⟨S,y,c⟩:=M
  simp only at f1 f2 f3 f4 f5 hft hkp hpl ⊢
  subst f1
  obtain ⟨last,r1,r2⟩:=h.reg
  obtain ⟨nx,n1,n2,n3⟩:=h.liv
  refine ⟨⟨φg.2 ⟨f2,φDD (a:=s.1.1) q2 (by omega) h2,q3,q4,?_,fun e he=>φ7i (s:=s) h.ok hkp h.lt (κH _) e he⟩,fun e he=>by have:=h.lt e he;show e.2.1<s.1.1+2;omega,⟨nx,by show nx≤s.1.1+2;omega,n2,by rw[f4];exact n3⟩,f3⟩,⟨last,by show φp [] (φT y s.1.2) _=_;rw[hpl];exact r1,r2⟩,?_,?_⟩
  ·obtain ⟨g1,g2⟩:=(φ1t _).1 q5
   exact (φ1t _).2 ⟨fun id hid=>by rw[hft id hid];exact g1 id hid,fun hne=>by rw[hft _ (φ3C hne)];exact g2 hne⟩
  ·intro p hp
   have hp:p∈φT y s.1.2:=hp
   rw[hpl] at hp
   exact h.pb p hp
  ·show ownL 5 0 (φT y s.1.2)=[]
   rw[hpl];exact h.own
theorem φKq (k b:Int) (acc:List φF) (p:φF):∀x∈φ1g k b acc p,x∈acc∨x=p:=by
 intro x hx
 unfold φ1g at hx
 split at hx
 ·exact .inl hx
 split at hx
 ·simp at hx
 split at hx
 ·rcases mA.1 hx with h | h
  ·exact .inl h
  ·exact .inr (mZ.1 h)
 ·exact .inl hx
theorem φEG (k b:Int):∀(l acc:List φF),∀x∈l.foldl (φ1g k b) acc,x∈acc∨x∈l
 | [],acc,x,hx=>.inl hx
 | p::l,acc,x,hx=>by
  rcases φEG k b l _ x hx with h | h
  ·rcases φKq k b acc p x h with h | h
   ·exact .inl h
   ·exact .inr (by simp[h])
  ·exact .inr (by simp[h])
theorem φJa {k b:Int} {l:List φF}:∀x∈ownL k b l,x∈l:=fun x hx=>by
 rcases φEG k b l [] x hx with h | h
 ·simp at h
 ·exact h
theorem φDu:∀(own:List φF) (dir:List φD),∀e∈φ1z dir own,e∈dir∨∃p∈own,e=entP p
 | [],dir,e,he=>.inl he
 | p::own,dir,e,he=>by
  rcases φDu own (putD dir p) e he with h | ⟨q,hq,x⟩
  ·unfold putD at h
   split at h
   ·exact .inl ((φ55 _ _ _).1 h).1
   ·rcases (φ3F _ _ _).1 h with h | h
    ·exact .inr ⟨p,by simp,h⟩
    ·exact .inl ((φ55 _ _ _).1 h).1
  ·exact .inr ⟨q,by simp[hq],x⟩
theorem φOm (pre:List φF) (p:φF) (g:φ17):∀e∈(φ1i pre p g).1,e∈g.1∨∃q∈pre,e=entP q:=by
 intro e he
 unfold φ1i at he
 simp only at he
 split at he
 ·split at he
  ·rcases φDu _ _ e he with h | ⟨q,hq,x⟩
   ·exact .inl h
   ·exact .inr ⟨q,φJa q hq,x⟩
  ·split at he
   ·exact .inl he
   ·exact .inl he
 ·exact .inl he
theorem φJf (pre:List φF) (p:φF) (g:φ17):(φ1i pre p g).2.1=if p.2.2.2.2.1 > g.2.1 then p.2.2.2.2.1 else g.2.1:=by
 unfold φ1i
 simp only
 split
 ·split
  ·rfl
  ·split<;>rfl
 ·rfl
theorem φFF:∀(P pre:List φF) (g:φ17),∀e∈(φp pre P g).1,e∈g.1∨∃q∈pre++P,e=entP q
 | [],pre,g,e,he=>.inl he
 | p::P,pre,g,e,he=>by
  rw[φp] at he
  split at he
  ·exact .inl he
  ·rcases φFF P _ _ e he with h | ⟨q,hq,x⟩
   ·rcases φOm pre p g e h with h | ⟨q,hq,x⟩
    ·exact .inl h
    ·exact .inr ⟨q,mL _ hq,x⟩
   ·exact .inr ⟨q,by simpa using hq,x⟩
theorem φFY:∀(P pre:List φF) (g:φ17),(φp pre P g).2.2=0→g.2.1≤(φp pre P g).2.1∧∀p∈P,p.2.2.2.2.1≤(φp pre P g).2.1
 | [],pre,g,_=>⟨κH _,fun p hp=>by simp at hp⟩
 | p::P,pre,g,h=>by
  rw[φp] at h ⊢
  by_cases c:g.2.2≠0
  ·rw[if_pos c] at h;exact absurd h c
  rw[if_neg c] at h ⊢
  obtain ⟨h1,h2⟩:=φFY P _ _ h
  rw[φJf] at h1
  have:g.2.1≤(φp (pre++[p]) P (φ1i pre p g)).2.1∧p.2.2.2.2.1≤(φp (pre++[p]) P (φ1i pre p g)).2.1:=by
   split at h1<;>omega
  refine ⟨this.1,fun q hq=>?_⟩
  rcases mc.1 hq with rfl | hq
  ·exact this.2
  ·exact h2 q hq
theorem φDK {d:φ1}:∀{l:List Int},(∀id∈l,(φ2 d (φ0 id)).2=true∧φ2Z (φ2 d (φ0 id)).1)→φ2f d l=true
 | [],_=>rfl
 | id::r,h=>by
  obtain ⟨h1,h2⟩:=h id (by simp)
  unfold φ2Z at h2
  rw[φ2f,h1,φDK fun i hi=>h i (by simp[hi])]
  simp[h2]
theorem φIc {d:φ1} {ids:List Int}:∀p∈φT d ids,p.1∈ids:=fun p hp=>by
 unfold φT at hp
 obtain ⟨i,hi,hp⟩:=List.mem_flatMap.1 hp
 unfold φ11 at hp
 obtain ⟨x,_,rfl⟩:=mM.1 hp
 exact hi
theorem φHF {s:φ7} {d:φ1} (h:JR s d):∃t y,φ2F d=(t,y,0)∧JR t y∧t.1.2=s.1.2∧t.2.1=s.2.1∧t.2.2.1≤s.2.2.1∧φW t y=φW s d∧y.2.1=d.2.1∧φI y.1≤φI d.1∧(y.2=d.2∧(∀n,(φ2 y n).2=true→φ2 y n=φ2 d n)∧φT y t.1.2=φT d s.1.2∧t.1.1≤s.1.1∧t.2.2.2.1=s.2.2.2.1):=by
 obtain ⟨q1,q2,q3,q4,q5,q6⟩:=φg.1 h.ok
 obtain ⟨nx,n1,n2,n3⟩:=h.liv
 obtain ⟨last,r1,r2⟩:=h.reg
 have hF:=h.fre
 obtain ⟨g1,g2⟩:=(φ1t _).1 q5
 have hne:=φ3K q2
 have g2:=g2 hne
 have hl1:=φ5P (nx,s.1.2)
 have hrl:φ2y (φn (nx,s.1.2))=((nx,s.1.2),true):=φJP ⟨n2,rfl⟩ (by omega)
 have hsh:φ2f d s.1.2=true:=φDK g1
 obtain ⟨e1,e2⟩:=g1 _ (φ3C hne)
 have hcn:cutN (nx,s.1.2) d=(φ2 d (φ0 (φM s.1.2))).1.length:=e2
 have hcut:cutW (nx,s.1.2) d=φG (φ0 (φM s.1.2)) d:=by
  unfold cutW
  rw[if_pos hcn.symm]
  rfl
 have hs0:(φG (φ0 (φM s.1.2)) d).2=0:=φ6k q1 hF e1
 have hx:=φ3I q1 (φ0 (φM s.1.2))
 have hxF:Free (φG (φ0 (φM s.1.2)) d).1:=φ1M hF
 have hft:∀n,φ2 (φG (φ0 (φM s.1.2)) d).1 n=φ2 d n:=fun n=>φ2D q1 _ n
 have hsw:(φr (nx,s.1.2) (φG (φ0 (φM s.1.2)) d).1).2=0:=φ9h _ (w:=((φG (φ0 (φM s.1.2)) d).1,0)) hx hxF rfl
 have hrg:φ2G ([],0,0) (φT d s.1.2)=(s.2.1,last,0):=by
  unfold φ2G φ6v
  rw[r1,h.own,if_neg (by simp)]
 obtain ⟨hin,eo,_⟩:=φIi (v:=(nx,s.1.2)) q1 n2 e1 (by rw[hcut];exact hs0)
 have ho:φ2F d=(((nx,s.1.2),s.2.1,w64 (last+1),(cutN (nx,s.1.2) d:Int),hin),(φr (nx,s.1.2) (φG (φ0 (φM s.1.2)) d).1).1,0):=by
  unfold φ2F
  rw[if_neg (by rw[q1];simp),if_neg (by rw[hF.up];simp),n3,if_neg (by simp),hrl,if_neg (by simp),if_neg (by rw[hsh];simp),eo,hcut,hrg]
  unfold φ5L
  rw[if_neg (by simp),if_neg (by rw[hsw];simp)]
 refine ⟨_,_,ho,?_⟩
 -- what the disk has
 have hy:=φ7p hx (nx,s.1.2)
 have hyF:Free (φr (nx,s.1.2) (φG (φ0 (φM s.1.2)) d).1).1:=φ5j (P:=Free) (fun d act k=>φ1M k) _ hxF
 have hrange:∀id∈s.1.2,1≤id∧id≤100000∧id<nx:=fun id hid=>φCM (v:=(nx,s.1.2)) n2 hid
 have hsegs:∀id∈s.1.2,φ2 (φr (nx,s.1.2) (φG (φ0 (φM s.1.2)) d).1).1 (φ0 id)=φ2 d (φ0 id):=fun id hid=>by
  have hr:=hrange id hid
  rw[φFk hx (fun j hj=>by rw[φHa hj (φLH ⟨hr.1,hr.2.1⟩)];exact hid) (φ4K id),hft]
 have hlv:φ2 (φr (nx,s.1.2) (φG (φ0 (φM s.1.2)) d).1).1 φb=(φn (nx,s.1.2),true):=by
  rw[φFk hx (fun j hj=>absurd ⟨j,hj⟩ φLi) (by decide),hft,n3]
 have hcap:(φr (nx,s.1.2) (φG (φ0 (φM s.1.2)) d).1).1.2.1=d.2.1∧φI (φr (nx,s.1.2) (φG (φ0 (φM s.1.2)) d).1).1.1≤φI d.1:=by
  rw[φCQ hx hxF,φDN q1 hF e1]
  refine ⟨rfl,?_⟩
  show φI ((onF _ φ6z d.1).filter _)≤_
  refine κZ (φ65 _ List.filter_sublist) ?_
  show φI (onF _ φ6z d.1)≤_
  have:∀l:List φ4,φI (onF (φ0 (φM s.1.2)) φ6z l)=φI l:=fun l=>by
   unfold φI onF
   induction l with
   | nil=>rfl
   | cons f l ih=>
    simp only[κ6,sumN,ih]
    congr 1
    split<;>rfl
  rw[this];exact κ5 _
 have hkeep:(φr (nx,s.1.2) (φG (φ0 (φM s.1.2)) d).1).1.2=d.2∧∀n,(φ2 (φr (nx,s.1.2) (φG (φ0 (φM s.1.2)) d).1).1 n).2=true→φ2 (φr (nx,s.1.2) (φG (φ0 (φM s.1.2)) d).1).1 n=φ2 d n:=by
  refine ⟨by rw[φCQ hx hxF,φDN q1 hF e1],fun n hn=>?_⟩
  rw[←hft n]
  by_cases hex:∃f∈(φr (nx,s.1.2) (φG (φ0 (φM s.1.2)) d).1).1.1,f.1=n
  ·obtain ⟨f,hf,rfl⟩:=hex
   have hf2:f∈(φG (φ0 (φM s.1.2)) d).1.1:=by
    rw[φCQ hx hxF] at hf
    exact (List.mem_filter.1 hf).1
   rw[φ2m hy hf,φ2m hx hf2]
  ·exfalso
   rw[φCI fun f hf e=>hex ⟨f,hf,e⟩] at hn
   simp at hn
 generalize (φr (nx,s.1.2) (φG (φ0 (φM s.1.2)) d).1).1=y at *
 have hpl:=φ5V hsegs
 -- what the directory's entries are
 have hmem:∀e∈s.2.1,∃p∈φT d s.1.2,e=entP p:=fun e he=>by
  have:e∈(φp [] (φT d s.1.2) ([],0,0)).1:=by rw[r1];exact he
  rcases φFF _ _ _ e this with k | ⟨p,hp,x⟩
  ·simp at k
  ·exact ⟨p,by simpa using hp,x⟩
 obtain ⟨l0,lall⟩:=φFY (φT d s.1.2) [] ([],0,0) (by rw[r1])
 rw[r1] at l0 lall
 have l0:0≤last:=l0
 have lall:∀p∈φT d s.1.2,p.2.2.2.2.1≤last:=lall
 have hseg:∀e∈s.2.1,e.2.1∈s.1.2∧e.2.2.2.2≤last:=fun e he=>by
  obtain ⟨p,hp,rfl⟩:=hmem e he
  exact ⟨φIc p hp,lall p hp⟩
 have hw:w64 (last+1)=last+1:=φH (by omega) (by omega)
 rw[hw]
 have hok:φh ((nx,s.1.2),s.2.1,last+1,(cutN (nx,s.1.2) d:Int),hin) y=true:=φg.2 ⟨hy,n2,q3,⟨by show 1≤last+1;omega,by show last+1≤1000001;omega⟩,(φ1t _).2 ⟨fun id hid=>by rw[hsegs id hid];exact g1 id hid,fun hne=>by rw[hsegs _ (φ3C hne),hcn]⟩,fun e he=>by
  obtain ⟨s1,s2⟩:=hseg e he
  have k:=φ33.1 (q6 e he)
  have:φ1G y e=φ1G d e:=by unfold φ1G;rw[hsegs _ s1]
  rw[φ33,this]
  exact ⟨k.1,k.2.1,k.2.2.1,k.2.2.2.1,by show e.2.2.2.2<last+1;omega⟩⟩
 refine ⟨⟨⟨hok,fun e he=>?_,⟨nx,κH _,n2,hlv⟩,hyF⟩,⟨last,by show φp [] (φT y s.1.2) _=_;rw[hpl];exact r1,by show last<last+1;omega⟩,fun p hp=>?_,by show ownL 5 0 (φT y s.1.2)=[];rw[hpl];exact h.own⟩,rfl,rfl,by show last+1≤_;omega,?_,hcap.1,hcap.2,hkeep.1,hkeep.2,hpl,n1,by show (cutN (nx,s.1.2) d:Int)=_;rw[hcn];exact g2.symm⟩
 ·have:=hrange _ (hseg e he).1
  exact this.2.2
 ·have hp:p∈φT y s.1.2:=hp
  rw[hpl] at hp
  have:=lall p hp
  show _<last+1
  omega
 ·rw[φ2n hok,φ2n h.ok]
  congr 1
  show mapG (φ1S y) s.2.1=mapG (φ1S d) s.2.1
  unfold mapG
  refine List.map_congr_left fun e he=>?_
  have:=hsegs _ (hseg e he).1
  congr 1
  unfold φ1S
  rw[this]
theorem φLv (n:Nat) (h:n≤100000) (h8:8≤n):JR ((2,[1]),[],1,0,0) (dNew n):=by
 obtain ⟨f1,f2,f3⟩:=φC8 n h h8
 have hpl:φT (dNew n) [1]=[]:=by
  rw[φ9n]
  unfold φ11
  rw[f2,φ7H];rfl
 refine ⟨⟨φJ6 n h h8,fun e he=>by simp at he,⟨2,κH _,φIr,f1⟩,rfl⟩,⟨0,by show φp [] (φT (dNew n) [1]) _=_;rw[hpl];rfl,by decide⟩,fun p hp=>?_,by show ownL 5 0 (φT (dNew n) [1])=[];rw[hpl];rfl⟩
 have hp:p∈φT (dNew n) [1]:=hp
 rw[hpl] at hp
 simp at hp
theorem φOR (c:Int):told c=0∨told c=1∨told c=2∨told c=3:=by
 unfold told
 split
 ·exact .inl rfl
 split
 ·exact .inr (.inl rfl)
 split
 ·exact .inr (.inr (.inl rfl))
 ·exact .inr (.inr (.inr rfl))
def φ3V (c:Int):Prop:=0≤c∧c≤5
theorem φ6E (c:Int):φ3V (told c):=by
 unfold φ3V
 rcases φOR c with e | e | e | e<;>rw[e]<;>decide
theorem φIS {names:List (List UInt8)} {w:φE} (h:φ3V w.2):φ3V (φ1h names w).2:=by
 unfold φ1h
 split
 ·split
  ·exact ⟨by show (0:Int)≤2;decide,by show (2:Int)≤5;decide⟩
  ·exact φ6E _
 ·exact h
theorem φKF (s:φ7) (d:φ1):φ3V (rotP s d).2.2:=by
 unfold rotP
 split
 ·exact ⟨by show (0:Int)≤5;decide,by show (5:Int)≤5;decide⟩
 split
 ·exact φ6E _
 simp only
 split
 ·exact φ6E _
 split
 ·exact φIS (φ6E _)
 ·exact ⟨κH _,by show (0:Int)≤5;decide⟩
theorem φKv (s:φ7) (d:φ1) (r:RecT):φ3V (addP s d r).2.2.1:=by
 have h:φ3V (addR s d (frame (φ6 r))).2.2:=by
  unfold addR
  split
  ·exact φKF s d
  ·exact ⟨κH _,by show (0:Int)≤5;decide⟩
 unfold addP
 simp only
 split
 ·exact h
 split
 ·exact φ6E _
 ·exact ⟨κH _,by show (0:Int)≤5;decide⟩
theorem φGc:∀(rs:List RecT) (s:φ7) (d:φ1),φ3V (φe rs s d).2.2.1
 | [],_,_=>⟨κH _,by show (0:Int)≤5;decide⟩
 | r::rs,s,d=>by
  unfold φe
  split
  ·exact φKv s d r
  ·exact φGc rs _ _
theorem φLz (s:φ7) (d:φ1) (l:List PutT):φ3V (φ1P s d l).2.2:=by
 unfold φ1P
 simp only
 split
 ·exact φGc _ _ _
 split
 ·exact φ6E _
 ·exact ⟨κH _,by show (0:Int)≤5;decide⟩
theorem φEF {s s':φ7} {d d':φ1} {m:Int} (h:φh s d=true) (h':φh s' d'=true) (hd:s'.2.1=s.2.1) (hk:φ3B m d d') (hm:∀e∈s.2.1,e.2.1<m):φW s' d'=φW s d:=by
 rw[φ2n h,φ2n h',hd,φEg h hk hm]
theorem φIP {s:φ7} {d:φ1} (h:JR s d) {l:List PutT} (hp:φ2A l=true) (hb:s.2.2.1≤1000000) (hc:(φ1P s d l).2.2≠0):(φ1P s d l).1.2.1=s.2.1∧φ3B s.1.1 d (φ1P s d l).2.1:=by
 obtain ⟨q1,q2,q3,q4,q5,q6⟩:=φg.1 h.ok
 have hrec:=φ7k (b:=s.2.2.1) (l:=l) ⟨q4.1,hb⟩ hp
 obtain ⟨P,g1,g2,g3,g4,g5⟩:=φ7F (φ1r s.2.2.1 l) _ _ (h.toJB.bump hb) hrec
 unfold φ1P at hc ⊢
 generalize φe (φ1r s.2.2.1 l) (s.1,s.2.1,s.2.2.1+1,s.2.2.2) d=g at *
 simp only at hc ⊢
 by_cases c:g.2.2.1=0
 rotate_left
 ·rw[if_pos c]
  exact ⟨g1.dir,g1.kp⟩
 rw[if_neg (by simpa using c)] at hc ⊢
 by_cases c2:(φG (actN g.1) g.2.1).2=0
 rotate_left
 ·rw[if_pos c2]
  refine ⟨g1.dir,fun e e1 e2 e3=>?_⟩
  obtain ⟨b1,_⟩:=φg.1 g1.jb.ok
  have:=g1.kp e e1 e2 e3
  unfold φ1G at this ⊢
  show φ1K (φ2 (φG (actN g.1) g.2.1).1 (φ0 e.2.1)).1 _ _=_
  rw[φ2D b1]
  exact this
 ·rw[if_neg (by simpa using c2)] at hc
  exact absurd rfl hc
theorem φGN {s:φ7} {d:φ1} (h:JR s d) (l:List PutT):JR (φ2T s d l).1 (φ2T s d l).2.1∧φ3V (φ2T s d l).2.2 ∧
  ((φ2T s d l).2.2=0→φW (φ2T s d l).1 (φ2T s d l).2.1=(φ1j (φW s d).1 l s.2.2.1,0))∧((φ2T s d l).2.2≠0→φW (φ2T s d l).1 (φ2T s d l).2.1=φW s d):=by
 have hd0:φW s d=((φW s d).1,0):=by rw[φ2n h.ok]
 unfold φ2T
 by_cases c1:φh s d=false∨φ2A l=false
 ·rw[if_pos c1]
  exact ⟨h,by show φ3V 4;exact ⟨by decide,by decide⟩,fun e=>by simp at e,fun _=>rfl⟩
 rw[if_neg c1]
 by_cases c2:l.length=0
 ·rw[if_pos c2]
  refine ⟨h,by show φ3V 0;exact ⟨by decide,by decide⟩,fun _=>?_,fun e=>absurd rfl e⟩
  have:l=[]:=List.length_eq_zero_iff.1 c2
  subst this
  exact hd0
 rw[if_neg c2]
 by_cases c3:20<φ2s s.2.1 l∨s.2.2.1 > 1000000
 ·rw[if_pos c3]
  exact ⟨h,by show φ3V 5;exact ⟨by decide,by decide⟩,fun e=>by simp at e,fun _=>rfl⟩
 rw[if_neg c3]
 have hp:φ2A l=true:=by
  cases hp:φ2A l with
  | true=>rfl
  | false=>exact absurd (.inr hp) c1
 have hJ:=φDR h hp (by omega) (by omega)
 refine ⟨hJ,φLz s d l,fun hc=>?_,fun hc=>?_⟩
 ·obtain ⟨r1,r2,r3,r4,r5⟩:=φBM h.ok h.lt hp (by omega) (by omega) hc
  rw[←r3,φ2n r1]
 ·obtain ⟨f1,f2⟩:=φIP h hp (by omega) hc
  exact φEF h.ok hJ.ok f1 f2 h.lt
theorem φDE {s:φ7} {d:φ1} (h:JR s d):JR (φ1y s d).1 (φ1y s d).2.1∧φW (φ1y s d).1 (φ1y s d).2.1=φW s d:=by
 unfold φ1y
 rw[if_neg (by rw[h.ok];simp)]
 by_cases c:s.1.1+2 > 100000
 ·rw[if_pos c];exact ⟨h,rfl⟩
 rw[if_neg c]
 have hJ:=φJp h (by omega)
 refine ⟨hJ,?_⟩
 obtain ⟨q1,q2,q3,q4,q5,q6⟩:=φg.1 h.ok
 by_cases hc:(φ15 s d (φW s d).1).2.2=0
 ·have hM:=φFA (φW s d).1 q1 q2 (by omega) hc
  exact (φ7u h.ok (by omega) hM).2.1
 ·obtain ⟨f1,f2,f3,f4,f5⟩:=φEd (φW s d).1 h.toJB (by omega) hc
  refine φEF (m:=s.1.1) h.ok hJ.ok (by rw[f1]) (fun e e1 e2 e3=>?_) h.lt
  unfold φ1G
  rw[f5 _ ⟨e1,e2⟩]
abbrev EngT:=Bool×φ7×φ1×List TxnT
abbrev φO:=Int×Int×List UInt8×List UInt8×Int
abbrev AnsT:=Int×List UInt8×List (List UInt8)
def TB (l:List TxnT):Prop:=l.length=3∧∀t∈l,t.2.1.length≤20∧t.2.2.length≤50
structure EI (e:EngT):Prop where
 up:e.1=true→JR e.2.1 e.2.2.1
 dn:e.1=false→(∃s,JR s e.2.2.1)∧e.2.1.1.2.length≤100∧e.2.1.2.1.length≤100
 tx:TB e.2.2.2
theorem TB.new:TB (κK 3 ((false,[],[]):TxnT)):=⟨rfl,fun t ht=>by
 have:=List.eq_of_mem_replicate ht
 subst this
 exact ⟨by simp,by simp⟩⟩
theorem TB.set {l:List TxnT} (h:TB l) (i:Nat) {t:TxnT} (ht:t.2.1.length≤20∧t.2.2.length≤50):TB (l.set i t):=⟨by rw[List.length_set];exact h.1,fun x hx=>by
 rcases κd hx with hx | rfl
 ·exact h.2 x hx
 ·exact ht⟩
theorem JR.small {s:φ7} {d:φ1} (h:JR s d):SmallS s d:=by
 have:=φIW h.ok
 exact this
theorem EI.small {e:EngT} (h:EI e):SmallS e.2.1 e.2.2.1∧φ3 e.2.2.1=true:=by
 cases c:e.1 with
 | true=>exact ⟨(h.up c).small,(φg.1 (h.up c).ok).1⟩
 | false=>
  obtain ⟨⟨s,hs⟩,h1,h2⟩:=h.dn c
  have hd:=(φg.1 hs.ok).1
  exact ⟨⟨φ3X (φ13 hd) (by omega),by omega,by omega⟩,hd⟩
theorem φKD {t:TxnT} (h:t.2.1.length≤20∧t.2.2.length≤50) (p:PutT):(φ2M t p).1.2.1.length≤20∧(φ2M t p).1.2.2.length≤50:=by
 unfold φ2M
 split
 ·refine ⟨h.1,?_⟩
  simp;omega
 ·exact h
theorem EI.same {e:EngT} (h:EI e) {l:List TxnT} (hl:TB l):EI (e.1,e.2.1,e.2.2.1,l):=⟨h.up,h.dn,hl⟩
theorem EI.store {e:EngT} (h:EI e) (hu:e.1=true) {s:φ7} {d:φ1} (hj:JR s d) {l:List TxnT} (hl:TB l):EI (e.1,s,d,l):=⟨fun _=>hj,fun c=>by rw[hu] at c;simp at c,hl⟩
theorem φNs {c:CurT} (h:Cur c):∃s c',ψ33.f c=some (s,c')∧s.1≠11∧Cur c':=by
 obtain ⟨k,c1,e1,hk,h1⟩:=φA7 h [1,2,2,3,3,3,4,5,5,6,7,8,1,5] (by decide)
 obtain ⟨z,c2,e2,a2,b2,_,h2⟩:=φ57 h1 3
 have hk11:k≠11:=by
  simp only[mc,List.not_mem_nil,or_false] at hk
  omega
 unfold ψ33.f
 simp only[e1,e2,bS]
 -- what follows
 have fin:∀(x0:CurT) (x3:φO),Cur x0→x3.1≠11→∃s c',((ψ35.f x0 40).bind fun x=>
   bif x.1==0 then some (((9,0,[],[],0):φO),x.2) else
   (bif x.1==1 then some (x.2,((0,0,[],[],0):φO),x3,x.1,x.1==1) else some (x.2,((0,0,[],[],0):φO),x3,x.1,x.1==2)).bind fun x=>
    bif x.2.2.2.2 then some (((10,0,[],[],0):φO),x.1) else
    bif x.2.2.2.1==3 then (ψ3B.f x.1 [(-1),3]).bind fun x_1=>some (((x.2.2.1.1,x_1.1,x.2.2.1.2.2):φO),x_1.2) else
    bif x.2.2.2.1==4 then (ψ3A.f x.1 [[],[110,105,110,101,98,121,116,101,115]]).bind fun x_1=>some (((x.2.2.1.1,x.2.2.1.2.1,x_1.1,x.2.2.1.2.2.2):φO),x_1.2) else
    bif x.2.2.2.1==5 then (ψ3B.f x.1 [0,12]).bind fun x_1=>some (((x_1.1,x.2.2.1.2):φO),x_1.2) else some (x.2.2.1,x.1))=some (s,c')∧s.1≠11∧Cur c':=by
  intro x0 x3 hx h3
  obtain ⟨y,c4,e4,_,_,_,h4⟩:=φ57 hx 40
  simp only[e4,bS]
  cases d0:(y==0)
  rotate_left
  ·exact ⟨_,_,rfl,by decide,h4⟩
  simp only[cF]
  cases d1:(y==1)
  rotate_left
  ·simp only[cT,bS]
   exact ⟨_,_,rfl,by decide,h4⟩
  simp only[cF,bS]
  cases d2:(y==2)
  rotate_left
  ·exact ⟨_,_,rfl,by decide,h4⟩
  simp only[cF]
  cases d3:(y==3)
  rotate_left
  ·obtain ⟨v,c5,e5,_,h5⟩:=φA7 h4 [(-1),3] (by decide)
   simp only[cT,e5,bS]
   exact ⟨_,_,rfl,h3,h5⟩
  simp only[cF]
  cases d4:(y==4)
  rotate_left
  ·obtain ⟨v,c5,e5,_,h5⟩:=φEo h4 [[],[110,105,110,101,98,121,116,101,115]] (by decide)
   simp only[cT,e5,bS]
   exact ⟨_,_,rfl,h3,h5⟩
  simp only[cF]
  cases d5:(y==5)
  rotate_left
  ·obtain ⟨v,c5,e5,hv,h5⟩:=φA7 h4 [0,12] (by decide)
   simp only[cT,e5,bS]
   refine ⟨_,_,rfl,?_,h5⟩
   simp only[mc,List.not_mem_nil,or_false] at hv
   show v≠11
   omega
  ·exact ⟨_,_,rfl,h3,h4⟩
 cases d2:(k==2)
 ·simp only[cF,bS]
  cases d4:(k==4)
  ·simp only[cF]
   cases d3:(k==3)
   ·simp only[cF,bS]
    exact fin c2 (k,z,[],[],0) h2 hk11
   ·obtain ⟨x,c3,e3,_,h3⟩:=φB7 h2
    obtain ⟨y,c4,e4,_,h4⟩:=φOH h3 12 (by omega) (by omega)
    simp only[cT,e3,e4,bS]
    exact fin c4 (k,z,x,y,0) h4 hk11
  ·obtain ⟨x,c3,e3,_,h3⟩:=φB7 h2
   simp only[cT,e3,bS]
   exact fin c3 (k,z,x,[],0) h3 hk11
 ·obtain ⟨x,c3,e3,_,h3⟩:=φB7 h2
  simp only[cT,e3,bS]
  exact fin c3 (k,z,x,[],0) h3 hk11
def clOk:List φO→Prop
 | []=>True
 | [s]=>s.1≠9
 | s::t::r=>(s.1=9→t.1=10)∧clOk (t::r)
theorem φAI:∀(a b:List φO),clOk a→clOk b→clOk (a++b)
 | [],b,_,h=>h
 | [s],[],h,_=>h
 | [s],t::r,h,k=>⟨fun e=>absurd e h,k⟩
 | s::t::r,b,⟨h1,h2⟩,k=>⟨h1,φAI (t::r) b h2 k⟩
theorem φAq:∀(l:List φO),clOk l→∀i s t,l[i]?=some s→l[i+1]?=some t→s.1=9→t.1=10
 | [],_,i,s,t,h,_,_=>by simp at h
 | [x],_,i,s,t,_,h,_=>by simp at h
 | x::y::r,⟨h1,h2⟩,0,s,t,h,k,e=>by
  simp only[List.getElem?_cons_zero,Option.some.injEq,κV,List.getElem?_cons_succ] at h k
  subst h;subst k;exact h1 e
 | x::y::r,⟨h1,h2⟩,i+1,s,t,h,k,e=>φAq (y::r) h2 i s t (by simpa using h) (by simpa using k) e
theorem φMc {c:CurT} (h:Cur c) (most:Nat) (hm0:most≤1000):∃l c',ψ34.f c (most:Int)=some (l,c')∧l.length≤2 * most∧(∀s∈l,s.1≠11)∧clOk l∧Cur c':=by
 obtain ⟨n,c1,e1,a1,b1,_,h1⟩:=φ57 h ((most:Int)+1)
 have b1:=b1 (by omega)
 obtain ⟨m,rfl⟩:∃m:Nat,n=(m:Int):=⟨n.toNat,by omega⟩
 have key:=φBx (step:=ψ34.l0) (fun k (s:CurT×List φO×List Bool)=>(s.1,s.2.1,s.2.2,(k:Int))) (fun k s=>Cur s.1∧s.2.1.length+2 * k≤2 * most∧(∀x∈s.2.1,x.1≠11)∧clOk s.2.1∧s.2.2.length=3) (fun b=>Cur b.1∧b.2.length≤2 * most∧(∀x∈b.2,x.1≠11)∧clOk b.2)
  (fun rec s hi=>⟨_,by simp[ψ34.l0];rfl,hi.1,by have:=hi.2.1;show s.2.1.length≤2 * most;omega,hi.2.2.1,hi.2.2.2.1⟩)
  (fun rec k s hi=>by
   obtain ⟨s,l,o⟩:=s
   obtain ⟨hi1,hi2,hi3,hi5,hi4⟩:=hi
   simp only at hi1 hi2 hi3 hi5 hi4
   have e0:((k+1:Nat):Int) > 0:=by omega
   have hw:=φMw (show k<2 ^ 60 by omega)
   obtain ⟨t,c3,f3,ht,h3⟩:=φNs hi1
   have q1:decide ((l.length+(0+1)) * 56≤140737488355328)=true:=by simp;omega
   -- the last part
   have fin:∀(x0:CurT) (x6:List Bool) (x8:φO),Cur x0→x6.length=3→x8.1≠11→∃s':CurT×List φO×List Bool,(Cur s'.1∧s'.2.1.length+2 * k≤2 * most∧(∀x∈s'.2.1,x.1≠11)∧clOk s'.2.1∧s'.2.2.length=3) ∧
     ((bif x8.1==9 then bif decide ((l.length+(0+1)) * 56≤140737488355328) then some (x0,l++[x8],κK 3 false,((k+1:Nat):Int),((10,0,[],[],0):φO)) else none else some (x0,l,x6,((k+1:Nat):Int),x8)).bind fun x=>
      bif decide ((x.2.1.length+(0+1)) * 56≤140737488355328) then rec (x.1,x.2.1++[x.2.2.2.2],x.2.2.1,w64 (x.2.2.2.1 - 1)) else none)=rec (s'.1,s'.2.1,s'.2.2,(k:Int)):=by
    intro x0 x6 x8 hx0 hx6 hx8
    cases d9:(x8.1==9)
    ·simp only[cF,bS,q1,cT,hw]
     refine ⟨(x0,l++[x8],x6),⟨hx0,by simp;omega,fun y hy=>?_,φAI l [x8] hi5 (by show x8.1≠9;simpa using d9),hx6⟩,rfl⟩
     rcases mA.1 hy with hy | hy
     ·exact hi3 y hy
     ·rw[mZ.1 hy];exact hx8
    ·have q2:decide (((l++[x8]).length+(0+1)) * 56≤140737488355328)=true:=by simp;omega
     simp only[cT,q1,bS,q2,hw]
     refine ⟨(x0,l++[x8]++[(10,0,[],[],0)],κK 3 false),⟨hx0,by simp;omega,fun y hy=>?_,by show clOk ((l++[x8])++[(10,0,[],[],0)]);rw[aA];exact φAI l _ hi5 ⟨fun _=>rfl,by show (10:Int)≠9;decide⟩,rfl⟩,rfl⟩
     rcases mA.1 hy with hy | hy
     ·rcases mA.1 hy with hy | hy
      ·exact hi3 y hy
      ·rw[mZ.1 hy];exact hx8
     ·rw[mZ.1 hy];decide
   simp only[ψ34.l0,e0,dT,cT,f3,bS,φ2U,lC,lN]
   by_cases d6:t.1≤6
   rotate_left
   ·simp only[d6,dF,cF,bS]
    exact fin c3 o t h3 hi4 ht
   simp only[d6,dT,cT]
   by_cases ds:0≤t.2.1∧t.2.1≤2
   rotate_left
   ·simp only[ds,dF,cF,bS]
    exact fin c3 o t h3 hi4 ht
   obtain ⟨n,hn⟩:∃n:Nat,t.2.1=(n:Int):=⟨t.2.1.toNat,by omega⟩
   have hin:inB t.2.1 o.length=true:=by rw[hn,φJ,hi4];simp;omega
   simp only[ds,and_self,dT,cT,hin]
   have hset:∀b:Bool,(o.set t.2.1.toNat b).length=3:=fun b=>by rw[List.length_set];exact hi4
   -- a step that stays as it is
   have stay:∀(x0:CurT) (x8:φO),Cur x0→x8.1≠11→x8.2.1=t.2.1→∃s':CurT×List φO×List Bool,(Cur s'.1∧s'.2.1.length+2 * k≤2 * most∧(∀x∈s'.2.1,x.1≠11)∧clOk s'.2.1∧s'.2.2.length=3) ∧
     ((bif x8.1 != 5 then bif inB x8.2.1 o.length then some (x0,l,o.set x8.2.1.toNat (x8.1 != 6),((k+1:Nat):Int),x8) else none else bif inB x8.2.1 o.length then some (x0,l,o.set x8.2.1.toNat false,((k+1:Nat):Int),x8) else none).bind fun x=>
      (bif x.2.2.2.2.1==9 then bif decide ((x.2.1.length+(0+1)) * 56≤140737488355328) then some (x.1,x.2.1++[x.2.2.2.2],κK 3 false,x.2.2.2.1,((10,0,[],[],0):φO)) else none else some (x.1,x.2.1,x.2.2.1,x.2.2.2.1,x.2.2.2.2)).bind fun x=>
       bif decide ((x.2.1.length+(0+1)) * 56≤140737488355328) then rec (x.1,x.2.1++[x.2.2.2.2],x.2.2.1,w64 (x.2.2.2.1 - 1)) else none)=rec (s'.1,s'.2.1,s'.2.2,(k:Int)):=by
    intro x0 x8 hx0 hx8 he
    rw[he]
    cases d5:(x8.1 != 5)
    ·simp only[cF,hin,cT,bS]
     exact fin x0 _ x8 hx0 (hset _) hx8
    ·simp only[hin,cT,bS]
     exact fin x0 _ x8 hx0 (hset _) hx8
   cases hb:rdA false o t.2.1
   ·obtain ⟨w,c4,f4,h4⟩:=φHi h3 8
    simp only[nF,cT,f4,bS]
    cases w
    ·simp only[nF,cT,bS,hin,hb,cF]
     have:=stay c4 (1,t.2.1,[],[],0) h4 (by show (1:Int)≠11;decide) rfl
     simp only[hin,cT] at this
     exact this
    ·simp only[nZ,cF,bS,hin,cT,hb]
     have:=stay c4 t h4 ht rfl
     simp only[hin,cT] at this
     exact this
   ·simp only[nZ,cF,bS,hin,cT,hb]
    cases d1:(t.1==1)
    ·simp only[cF,bS]
     exact stay c3 t h3 ht rfl
    ·obtain ⟨w,c4,f4,h4⟩:=φHi h3 8
     simp only[cT,f4,bS]
     cases w
     ·simp only[nF,cT,bS]
      exact stay c4 (5,t.2) h4 (by show (5:Int)≠11;decide) rfl
     ·simp only[nZ,cF,bS]
      exact stay c4 t h4 ht rfl)
  m (c1,[],κK 3 false) ⟨h1,by simp;omega,fun x hx=>by simp at hx,trivial,rfl⟩ (by omega)
 obtain ⟨⟨c2,l⟩,e2,h2,hl,hs,hcl⟩:=key
 unfold ψ34.f
 have hw:w64 ((most:Int)+1)=(most:Int)+1:=φH (by omega) (by omega)
 have e2:lp ψ34.l0 (c1,[],κK 3 false,(m:Int))=some (c2,l):=e2
 simp only[hw,e1,e2,bS]
 exact ⟨l,c2,rfl,hl,hs,hcl,h2⟩
theorem φMO (l:List TxnT) (hl:l.length<1000000) (ht:∀t∈l,t.2.1.length≤20∧t.2.2.length≤50):ψ1P.f l=some l:=by
 have key:=φBp (step:=ψ1P.l0) (fun n (a:List TxnT)=>(a,l,(l.length:Int),(n:Int))) l.length (fun n a=>a=l.take n) (fun b=>b=l)
  (fun rec a hi=>⟨_,by simp[ψ1P.l0];rfl,by rw[hi,κW]⟩)
  (fun rec n a hn hi=>by
   have e0:(n:Int)<(l.length:Int):=by omega
   have hw:=φS (show n+1<9223372036854775808 by omega)
   have h:=ht _ (gM hn)
   have hc:=φAX l[n] (by omega) (by omega)
   have hal:a.length=n:=by rw[hi,lT];omega
   have q:decide ((a.length+(0+1)) * 56≤140737488355328)=true:=by simp;omega
   refine ⟨a++[l[n]],by rw[hi,κ3 hn],?_⟩
   simp only[ψ1P.l0,e0,dT,cT,φJ,hn,φN,φB hn,φ2h,hc,bS,lC,lN,q,hw])
  [] (by simp) (by omega)
 obtain ⟨b,k,kb⟩:=key
 unfold ψ1P.f
 have k:lp ψ1P.l0 ([],l,(l.length:Int),0)=some b:=k
 rw[k,kb];rfl
abbrev zTx:List TxnT:=κK 3 (false,[],[])
abbrev φK2 (d:φ1):EngT:=(false,((0,[]),[],0,0,0),d,zTx)
theorem φOM {e:EngT} (h1:e.2.1.1.2.length≤1000) (h2:e.2.1.2.1.length≤1000) (h3:e.2.2.1.1.length<200000) (hl:e.2.2.2.length≤3) (ht:∀t∈e.2.2.2,t.2.1.length≤20∧t.2.2.length≤50):ψ1K.f e=some e:=by
 unfold ψ1K.f
 simp only[φB0 e.2.1 (by omega) (by omega),φ5X e.2.2.1 (by omega),φMO e.2.2.2 (by omega) ht,bS,φ2h]
def C2 (c:Int):Prop:=c=0∨c=2
theorem φGw {id:Int} (h:1≤id∧id≤100000):φ1k (φK id)=true:=by
 have hl:=φCV id
 rw[φ78 h] at hl ⊢
 have hs:=φ5R h
 rw[φ7T h] at hs
 unfold φ1k at hs ⊢
 simp only[bA,decide_eq_true_eq,List.all_append,lA] at hs ⊢
 refine ⟨⟨by decide,hs.1.2⟩,?_,?_⟩
 ·show 1≤4+_;omega
 ·rw[lA] at hl;show 4+_≤12;have:([104,105,110,116]:List UInt8).length=4:=rfl;omega
theorem φ7b {c:Int} (h:C2 c):told c=c:=by
 rcases h with rfl | rfl<;>rfl
structure FD (d:φ1):Prop where
 dk:φ3 d=true
 fr:Free d
theorem φAD {d:φ1} (h:FD d) (n:List UInt8):FD (φC n d).1∧(φC n d).2=0∧(φ2 (φC n d).1 n).2=false:=
 ⟨⟨φ2O h.dk n,φ52 (P:=Free) (fun d act k=>φ1M k) n h.fr⟩,φBO h.dk h.fr n,φBP (φBO h.dk h.fr n)⟩
theorem φDZ {d:φ1} (h:FD d) {n:List UInt8} (hn:φ1k n=true) (ha:(φ2 d n).2=false):FD (φX n d).1∧C2 (φX n d).2:=by
 refine ⟨⟨φ2t h.dk n,φ1M h.fr⟩,?_⟩
 unfold φX
 rw[φ4N h.dk h.fr]
 unfold φ2b
 simp only
 rw[if_neg (by rw[hn];simp),if_neg]
 ·split
  ·exact .inr rfl
  ·exact .inl rfl
 ·rcases φv d.1 n with ⟨e,_⟩ | ⟨i,hi,e,hx⟩
  ·rw[e];decide
  ·exfalso
   have:=φ2m h.dk (gM hi)
   rw[hx] at this
   rw[this] at ha;simp at ha
theorem φAZ {d:φ1} (h:FD d) {n:List UInt8} (hn:(φ2 d n).2=true) (t:List UInt8):FD (φL n t d).1∧C2 (φL n t d).2:=by
 refine ⟨⟨φ3M h.dk n t,φ1M h.fr⟩,?_⟩
 obtain ⟨i,hi,e,_⟩:=φ5B hn
 unfold φL
 rw[φ4N h.dk h.fr]
 unfold φ2Q
 simp only
 rw[e]
 simp only
 split
 ·exact .inr rfl
 ·exact .inl rfl
theorem φ9K {d:φ1} (h:FD d) {n:List UInt8} (hn:(φ2 d n).2=true):FD (φG n d).1∧(φG n d).2=0:=
 ⟨⟨φ3I h.dk n,φ1M h.fr⟩,φ6k h.dk h.fr hn⟩
theorem φBZ {w:φE} (h:FD w.1) (hc:C2 w.2) {n:List UInt8} (hn:φ1k n=true):FD (sNew n w).1∧C2 (sNew n w).2:=by
 obtain ⟨d,c⟩:=w
 rcases hc with hc | hc
 ·have hc:c=0:=hc
  subst hc
  obtain ⟨g1,g2,g3⟩:=φAD h n
  have e:sNew n (d,0)=φX n (φC n d).1:=by
   unfold sNew φ9
   rw[if_pos rfl,if_pos g2]
  rw[e]
  exact φDZ g1 hn g3
 ·have hc:c=2:=hc
  subst hc
  rw[φDc (by decide)]
  exact ⟨h,.inr rfl⟩
theorem φEl {w:φE} (h:FD w.1) (hc:C2 w.2) {n:List UInt8} (hn:φ1k n=true) (t:List UInt8):FD (φ1R n t w).1∧C2 (φ1R n t w).2:=by
 obtain ⟨g1,g2⟩:=φBZ h hc hn
 show FD (φ9 (φG n) (φ9 (φL n t) (sNew n w))).1∧C2 (φ9 (φG n) (φ9 (φL n t) (sNew n w))).2
 by_cases c:(sNew n w).2=0
 ·obtain ⟨_,ht⟩:=φ7O c
  obtain ⟨a1,a2⟩:=φAZ g1 (n:=n) (by rw[ht]) t
  have e1:φ9 (φL n t) (sNew n w)=φL n t (sNew n w).1:=by unfold φ9;rw[if_pos c]
  rw[e1]
  by_cases c2:(φL n t (sNew n w).1).2=0
  ·have e2:φ9 (φG n) (φL n t (sNew n w).1)=φG n (φL n t (sNew n w).1).1:=by unfold φ9;rw[if_pos c2]
   rw[e2]
   obtain ⟨s1,s2⟩:=φ9K a1 (n:=n) (by rw[(φ4G c2).2])
   exact ⟨s1,.inl s2⟩
  ·have e2:φ9 (φG n) (φL n t (sNew n w).1)=φL n t (sNew n w).1:=by unfold φ9;rw[if_neg c2]
   rw[e2];exact ⟨a1,a2⟩
 ·have e1:φ9 (φL n t) (sNew n w)=sNew n w:=by unfold φ9;rw[if_neg c]
  have e2:φ9 (φG n) (sNew n w)=sNew n w:=by unfold φ9;rw[if_neg c]
  rw[e1,e2];exact ⟨g1,g2⟩
theorem φEe {w:φE} (h:FD w.1) (hc:C2 w.2) (v:φQ):FD (sPut v w).1∧C2 (sPut v w).2:=by
 obtain ⟨g1,g2⟩:=φEl h hc (n:=[116,101,109,112]) (by decide) (φn v)
 refine ⟨⟨φ3n h.dk v,φ7R (P:=Free) (fun d act k=>φ1M k) v h.fr⟩,?_⟩
 unfold sPut φ9
 by_cases c:(φ1R [116,101,109,112] (φn v) w).2=0
 ·rw[if_pos c]
  obtain ⟨_,ht⟩:=φ8S c
  obtain ⟨i,hi,e,hx,_⟩:=φ5B (by rw[ht])
  left
  show (φV _ (φ2E [116,101,109,112] [108,105,118,101])).2=0
  rw[φ4N g1.dk g1.fr]
  unfold φ2E
  rw[if_neg (by decide),e]
 ·rw[if_neg c];exact g2
theorem φJW {d:φ1} (h:FD d) (names:List (List UInt8)):FD (φl names (d,0)).1∧(φl names (d,0)).2=0:=
 ⟨⟨φ4a names h.dk,φ5j (P:=Free) (fun d act k=>φ1M k) names h.fr⟩,φ9h names h.dk h.fr rfl⟩
theorem φGJ {names:List (List UInt8)} {w:φE} (h:FD w.1) (hc:C2 w.2):C2 (φ1h names w).2:=by
 unfold φ1h
 split
 ·split
  ·exact .inr rfl
  ·show C2 (told (φl names (w.1,0)).2)
   rw[(φJW h names).2];exact .inl rfl
 ·exact hc
theorem JB.fd {s:φ7} {d:φ1} (h:JB s d):FD d:=⟨(φg.1 h.ok).1,h.fre⟩
theorem φME {s:φ7} {d:φ1} (h:JB s d):C2 (rotP s d).2.2∨(rotP s d).2.2=5:=by
 obtain ⟨q1,q2,q3,q4,q5,q6⟩:=φg.1 h.ok
 obtain ⟨k1,k2,k3,k4⟩:=(φ12 s.1).1 q2
 have hex:(φ2 d (actN s)).2=true:=(((φ1t _).1 q5).1 _ (φ3C (φ3K q2))).1
 obtain ⟨s1,s2⟩:=φ9K h.fd hex
 obtain ⟨g1,g2,g3⟩:=φAD s1 (φ0 s.1.1)
 have hn:=φ5R (id:=s.1.1) ⟨k2.1,k2.2⟩
 obtain ⟨c1,c2⟩:=φDZ g1 hn g3
 have e:φ9 (φX (φ0 s.1.1)) (φC (φ0 s.1.1) (φG (actN s) d).1)=φX (φ0 s.1.1) (φC (φ0 s.1.1) (φG (actN s) d).1).1:=by unfold φ9;rw[if_pos g2]
 unfold rotP
 split
 ·exact .inr rfl
 left
 rw[if_neg (by rw[s2];simp)]
 simp only
 rw[e]
 split
 ·show C2 (told _)
  rw[φ7b c2];exact c2
 obtain ⟨p1,p2⟩:=φEe (w:=((φX (φ0 s.1.1) (φC (φ0 s.1.1) (φG (actN s) d).1).1).1,0)) c1 (.inl rfl) (s.1.1+1,s.1.2++[s.1.1])
 split
 ·refine φGJ (w:=φA _) p1 ?_
  show C2 (told _)
  rw[φ7b p2];exact p2
 ·exact .inl rfl
theorem φKX {s:φ7} {d:φ1} (h:JB s d) (r:RecT):C2 (addP s d r).2.2.1∨(addP s d r).2.2.1=5:=by
 have hR:Grow s d (addR s d (frame (φ6 r))).1 (addR s d (frame (φ6 r))).2.1 []∧(C2 (addR s d (frame (φ6 r))).2.2∨(addR s d (frame (φ6 r))).2.2=5):=by
  unfold addR
  split
  ·exact ⟨φB6 h,φME h⟩
  ·exact ⟨Grow.refl h,.inl (.inl rfl)⟩
 unfold addP
 generalize addR s d (frame (φ6 r))=R at *
 obtain ⟨hR,hc⟩:=hR
 simp only
 split
 ·exact hc
 obtain ⟨q1,q2,q3,q4,q5,q6⟩:=φg.1 hR.jb.ok
 have hex:(φ2 R.2.1 (actN R.1)).2=true:=(((φ1t _).1 q5).1 _ (φ3C (φ3K q2))).1
 obtain ⟨a1,a2⟩:=φAZ hR.jb.fd hex (frame (φ6 r))
 split
 ·left;show C2 (told _);rw[φ7b a2];exact a2
 ·exact .inl (.inl rfl)
theorem φHQ:∀(rs:List RecT) (s:φ7) (d:φ1),JB s d→(∀r∈rs,φa r=true)→C2 (φe rs s d).2.2.1∨(φe rs s d).2.2.1=5
 | [],_,_,_,_=>.inl (.inl rfl)
 | r::rs,s,d,h,hr=>by
  unfold φe
  split
  ·exact φKX h r
  ·rename_i c
   obtain ⟨p,g,_⟩:=(φBS h (hr r (by simp))).1 (by simpa using c)
   exact φHQ rs _ _ g.jb fun x hx=>hr x (by simp[hx])
def C4 (c:Int):Prop:=c=0∨c=2∨c=4∨c=5
theorem C2.c4 {c:Int} (h:C2 c):C4 c:=h.elim .inl fun k=>.inr (.inl k)
theorem φLK {s:φ7} {d:φ1} (h:JR s d) (l:List PutT):C4 (φ2T s d l).2.2:=by
 obtain ⟨q1,q2,q3,q4,q5,q6⟩:=φg.1 h.ok
 unfold φ2T
 by_cases c1:φh s d=false∨φ2A l=false
 ·rw[if_pos c1];exact .inr (.inr (.inl rfl))
 rw[if_neg c1]
 by_cases c2:l.length=0
 ·rw[if_pos c2];exact .inl rfl
 rw[if_neg c2]
 by_cases c3:20<φ2s s.2.1 l∨s.2.2.1 > 1000000
 ·rw[if_pos c3];exact .inr (.inr (.inr rfl))
 rw[if_neg c3]
 have hp:φ2A l=true:=by
  cases hp:φ2A l with
  | true=>rfl
  | false=>exact absurd (.inr hp) c1
 have hrec:=φ7k (b:=s.2.2.1) (l:=l) ⟨q4.1,by omega⟩ hp
 have hJ1:=h.toJB.bump (by omega)
 have hC:=φHQ (φ1r s.2.2.1 l) _ _ hJ1 hrec
 obtain ⟨P,g1,_⟩:=φ7F (φ1r s.2.2.1 l) _ _ hJ1 hrec
 unfold φ1P
 generalize φe (φ1r s.2.2.1 l) (s.1,s.2.1,s.2.2.1+1,s.2.2.2) d=g at *
 simp only
 split
 ·rcases hC with hC | hC
  ·exact hC.c4
  ·exact .inr (.inr (.inr hC))
 obtain ⟨b1,b2,b3,b4,b5,b6⟩:=φg.1 g1.jb.ok
 have hex:(φ2 g.2.1 (actN g.1)).2=true:=(((φ1t _).1 b5).1 _ (φ3C (φ3K b2))).1
 rw[if_neg (by rw[(φ9K g1.jb.fd hex).2];simp)]
 exact .inl rfl
theorem φBq (n:List UInt8):∀(recs:List RecT) {w:φE},FD w.1→C2 w.2→(w.2=0→(φ2 w.1 n).2=true)→FD (sApp n recs w).1∧C2 (sApp n recs w).2∧((sApp n recs w).2=0→(φ2 (sApp n recs w).1 n).2=true)
 | [],w,h,hc,he=>⟨h,hc,he⟩
 | r::recs,w,h,hc,he=>by
  have es:sApp n (r::recs) w=sApp n recs (φ9 (φL n (frame (φ6 r))) w):=rfl
  rw[es]
  by_cases c:w.2=0
  ·have e:φ9 (φL n (frame (φ6 r))) w=φL n (frame (φ6 r)) w.1:=by unfold φ9;rw[if_pos c]
   obtain ⟨a1,a2⟩:=φAZ h (he c) (frame (φ6 r))
   rw[e]
   exact φBq n recs (w:=φL n (frame (φ6 r)) w.1) a1 a2 fun c2=>by rw[(φ4G c2).2]
  ·have e:φ9 (φL n (frame (φ6 r))) w=w:=by unfold φ9;rw[if_neg c]
   rw[e]
   exact φBq n recs (w:=w) h hc he
theorem φOI {w:φE} (h:FD w.1) (hc:C2 w.2) {n:List UInt8} (he:w.2=0→(φ2 w.1 n).2=true):FD (φ9 (φG n) w).1∧C2 (φ9 (φG n) w).2:=by
 unfold φ9
 by_cases c:w.2=0
 ·rw[if_pos c]
  obtain ⟨a,b⟩:=φ9K h (he c)
  exact ⟨a,.inl b⟩
 ·rw[if_neg c];exact ⟨h,hc⟩
theorem φN9 {d:φ1} (h:FD d) {m:Int} (hm:1≤m∧m≤100000):FD (φ1s m d).1∧(φ1s m d).2=0:=by
 obtain ⟨a,b⟩:=φEl (w:=(d,0)) h (.inl rfl) (φGw hm) (φ1W (φ14 m (φ2 d (φ0 m)).1).1)
 unfold φ1s
 simp only
 split
 ·obtain ⟨x,y,_⟩:=φAD a (φK m)
  exact ⟨x,y⟩
 ·rename_i c
  exact ⟨a,b.elim id fun k=>absurd k c⟩
theorem φOO {s:φ7} {d:φ1} (h:JR s d):C4 (φ1y s d).2.2:=by
 obtain ⟨q1,q2,q3,q4,q5,q6⟩:=φg.1 h.ok
 obtain ⟨k1,k2,k3,k4⟩:=(φ12 s.1).1 q2
 unfold φ1y
 rw[if_neg (by rw[h.ok];simp)]
 by_cases c:s.1.1+2 > 100000
 ·rw[if_pos c];exact .inr (.inr (.inr rfl))
 rw[if_neg c]
 refine C2.c4 ?_
 generalize (φW s d).1=l
 have n1:=φ5R (id:=s.1.1) ⟨k2.1,k2.2⟩
 have n2:=φ5R (id:=s.1.1+1) ⟨by omega,by omega⟩
 obtain ⟨a1,a2⟩:=φBZ (w:=(d,0)) h.fd (.inl rfl) n1
 obtain ⟨b1,b2,b3⟩:=φBq (φ0 s.1.1) (φY l (s.2.2.1 - 1)) a1 a2 fun e=>by rw[(φ7O e).2]
 obtain ⟨c1,c2⟩:=φOI b1 b2 b3
 have c1:FD (sWM s.1.1 (φY l (s.2.2.1 - 1)) (d,0)).1:=c1
 obtain ⟨d1,d2⟩:=φBZ c1 c2 n2
 unfold φ15
 simp only
 have d1:FD (sNew (φ0 (s.1.1+1)) (sWM s.1.1 (φY l (s.2.2.1 - 1)) (d,0))).1:=d1
 have d2:C2 (sNew (φ0 (s.1.1+1)) (sWM s.1.1 (φY l (s.2.2.1 - 1)) (d,0))).2:=d2
 generalize sNew (φ0 (s.1.1+1)) (sWM s.1.1 (φY l (s.2.2.1 - 1)) (d,0))=w1 at *
 have e12:FD (φo s.1.1 w1).1∧C2 (φo s.1.1 w1).2:=by
  unfold φo
  split
  ·exact ⟨d1,d2⟩
  ·obtain ⟨x,y⟩:=φN9 d1 (m:=s.1.1) ⟨k2.1,k2.2⟩
   exact ⟨x,.inl y⟩
 generalize φo s.1.1 w1=w2 at *
 obtain ⟨e1,e2⟩:=e12
 have f12:FD (if w2.2=0 then φA (sPut (s.1.1+2,[s.1.1,s.1.1+1]) w2) else φA w2).1∧C2 (if w2.2=0 then φA (sPut (s.1.1+2,[s.1.1,s.1.1+1]) w2) else φA w2).2:=by
  split
  ·obtain ⟨x,y⟩:=φEe e1 e2 (s.1.1+2,[s.1.1,s.1.1+1])
   exact ⟨x,by show C2 (told _);rw[φ7b y];exact y⟩
  ·exact ⟨e1,by show C2 (told _);rw[φ7b e2];exact e2⟩
 generalize (if w2.2=0 then φA (sPut (s.1.1+2,[s.1.1,s.1.1+1]) w2) else φA w2)=w3 at *
 obtain ⟨f1,f2⟩:=f12
 split
 ·exact φGJ f1 f2
 ·show C2 (told (sOld s.1.2 (w3.1,0)).2)
  rw[φ7J s.1.2 (w:=(w3.1,0)) f1.dk f1.fr rfl]
  exact .inl rfl
theorem JR.cap {s:φ7} {d:φ1} (h:JR s d) {c:Int} (hc:(φI d.1:Int)≤c) (h2:c≤100000):JR s (d.1,c,d.2.2):=by
 obtain ⟨q1,q2,q3,q4,q5,q6⟩:=φg.1 h.ok
 obtain ⟨e1,e2,e3,e4,e5,e6⟩:=(φ3W d).1 q1
 have hk:φ3 (d.1,c,d.2.2)=true:=(φ3W _).2 ⟨⟨by show 0≤c;omega,h2⟩,e2,e3,hc,e5,e6⟩
 have hft:∀n,φ2 (d.1,c,d.2.2) n=φ2 d n:=fun n=>φGR q1 hk n fun t=>Iff.rfl
 have hpl:φT (d.1,c,d.2.2) s.1.2=φT d s.1.2:=φ5V fun id _=>hft _
 obtain ⟨nx,n1,n2,n3⟩:=h.liv
 refine ⟨⟨φg.2 ⟨hk,q2,q3,q4,?_,fun e he=>?_⟩,h.lt,⟨nx,n1,n2,by rw[hft];exact n3⟩,h.fre⟩,by rw[hpl];exact h.reg,by rw[hpl];exact h.pb,by rw[hpl];exact h.own⟩
 ·obtain ⟨g1,g2⟩:=(φ1t _).1 q5
  exact (φ1t _).2 ⟨fun id hid=>by rw[hft];exact g1 id hid,fun hne=>by rw[hft];exact g2 hne⟩
 ·have:=q6 e he
  rw[φ33] at this ⊢
  have ea:φ1G (d.1,c,d.2.2) e=φ1G d e:=by unfold φ1G;rw[hft]
  rw[ea];exact this
abbrev zT:TxnT:=(false,[],[])
def φ2X (l:List TxnT) (s:φO):Bool:=
 decide (1≤s.1∧s.1≤6) && (decide (0≤s.2.1∧s.2.1≤2) && ((rdA zT l s.2.1).1==(s.1 != 1)))
def putS (s:φO):PutT:=(s.2.2.1,s.1==4,s.2.2.2.1)
def ownA (p:PutT):AnsT:=bif p.2.1 then (8,[],[]) else (0,p.2.2,[])
def getG (look:List UInt8→φZ×Int) (l:List TxnT) (s:φO):List TxnT×AnsT:=
 let t:=rdA zT l s.2.1
 bif !φ18 s.2.2.1 then (l,(4,[],[])) else
 bif (ownW t.2.2 s.2.2.1).2 then (l,ownA (ownW t.2.2 s.2.2.1).1) else
 let p:=look s.2.2.1
 let r:=φ1D t s.2.2.1 p.1.2.2
 (l.set s.2.1.toNat r.1,bif r.2 != 0 then (r.2,[],[]) else (p.2,p.1.2.1,[]))
def putG (l:List TxnT) (s:φO):List TxnT×AnsT:=
 let w:=φ2M (rdA zT l s.2.1) (putS s)
 (l.set s.2.1.toNat w.1,bif !φ2a (putS s) then (4,[],[]) else bif !w.2 then (5,[],[]) else (0,[],[]))
def sesG (look:List UInt8→φZ×Int) (val:TxnT→Bool) (l:List TxnT) (s:φO):List TxnT×AnsT×Option (List PutT):=
 bif !φ2X l s then (l,(4,[],[]),none) else
 bif s.1==1 then (l.set s.2.1.toNat (true,[],[]),(0,[],[]),none) else
 bif s.1==6 then (l.set s.2.1.toNat zT,(0,[],[]),none) else
 bif s.1==2 then ((getG look l s).1,(getG look l s).2,none) else
 bif s.1==5 then (l.set s.2.1.toNat zT,(7,[],[]),bif val (rdA zT l s.2.1) then some (netW (rdA zT l s.2.1).2.2) else none) else
 ((putG l s).1,(putG l s).2,none)
noncomputable def comE (e:EngT) (g:List TxnT×AnsT×Option (List PutT)):EngT×AnsT:=
 match g.2.2 with
 | none=>((e.1,e.2.1,e.2.2.1,g.1),g.2.1)
 | some w=>((e.1,(φ2T e.2.1 e.2.2.1 w).1,(φ2T e.2.1 e.2.2.1 w).2.1,g.1),((φ2T e.2.1 e.2.2.1 w).2.2,[],[]))
noncomputable def sesE (e:EngT) (s:φO):EngT×AnsT:=
 comE e (sesG (getP e.2.1 e.2.2.1) (fun t=>φ3u t e.2.1.2.1) e.2.2.2 s)
noncomputable def stE (e:EngT) (s:φO):EngT×AnsT:=
 bif s.1==10 then (bif e.1 then (e,(4,[],[])) else (((φ2F e.2.2.1).2.2==0,(φ2F e.2.2.1).1,(φ2F e.2.2.1).2.1,zTx),((φ2F e.2.2.1).2.2,[],[]))) else
 bif s.1==11 then (bif φ3 e.2.2.1 && decide (0≤s.2.2.2.2∧s.2.2.2.2≤100000 - (φI e.2.2.1.1:Int)) then
  ((e.1,e.2.1,(e.2.2.1.1,(φI e.2.2.1.1:Int)+s.2.2.2.2,e.2.2.1.2.2),e.2.2.2),(0,[],[])) else (e,(4,[],[]))) else
 bif !e.1 then (e,(6,[],[])) else
 bif s.1==7 then ((e.1,(φ1y e.2.1 e.2.2.1).1,(φ1y e.2.1 e.2.2.1).2.1,e.2.2.2),((φ1y e.2.1 e.2.2.1).2.2,[],[])) else
 bif s.1==8 then (e,(0,[],e.2.1.2.1.map (·.1))) else
 bif s.1==9 then (φK2 e.2.2.1,(0,[],[])) else
 sesE e s
theorem φNz {l:List TxnT} (hl:l.length=3) (s:φO):ψ1t.f l s=some (φ2X l s):=by
 have hw:w64 ((l.length:Int) - 1)=2:=by rw[hl];rfl
 unfold ψ1t.f φ2X
 simp only[φ1c,bS,hw]
 by_cases h1:1≤s.1∧s.1≤6
 ·simp only[h1,and_self,dT,cT,tA]
  by_cases h2:0≤s.2.1∧s.2.1≤2
  ·obtain ⟨n,hn⟩:∃n:Nat,s.2.1=(n:Int):=⟨s.2.1.toNat,by omega⟩
   have hin:inB s.2.1 l.length=true:=by rw[hn,φJ,hl];simp;omega
   simp only[h2,and_self,dT,cT,tA,hin]
  ·simp only[h2,dF,cF,κD]
 ·simp only[h1,dF,cF,κD]
theorem φ6W {l:List TxnT} (hl:l.length=3) {s:φO} (h:φ2X l s=true):∃n:Nat,∃hn:n<l.length,s.2.1=(n:Int)∧inB s.2.1 l.length=true∧rdA zT l s.2.1=l[n]∧s.2.1.toNat=n∧(l[n].1=(s.1 != 1))∧1≤s.1∧s.1≤6:=by
 unfold φ2X at h
 simp only[bA,decide_eq_true_eq,beq_iff_eq] at h
 obtain ⟨h1,h2,h3⟩:=h
 obtain ⟨n,hn⟩:∃n:Nat,s.2.1=(n:Int):=⟨s.2.1.toNat,by omega⟩
 have hn3:n<l.length:=by omega
 have hrd:rdA zT l s.2.1=l[n]:=by rw[hn,φN,φB hn3]
 exact ⟨n,hn3,hn,by rw[hn,φJ];simp[hn3],hrd,by omega,by rw[←hrd];exact h3,h1.1,h1.2⟩
theorem φM8 (t:TxnT) (key:List UInt8) (h:t.2.2.length<2 ^ 62):ψ1c.f t key=some (bif (ownW t.2.2 key).2 then (ownA (ownW t.2.2 key).1,true) else ((0,[],[]),false)):=by
 unfold ψ1c.f ownA
 rw[φIk t key h,bS]
 generalize ownW t.2.2 key=x
 obtain ⟨⟨a,b,v⟩,c⟩:=x
 cases c
 ·rfl
 ·cases b<;>rfl
theorem φDh {s:φ7} {d:φ1} (h:φh s d=true) (key:List UInt8):(getP s d key).2=0∨getP s d key=(([],[],0),8):=by
 rcases φEI s.2.1 key with c | ⟨c1,c2⟩
 ·right
  unfold getP
  rw[if_pos c]
 ·by_cases hk:∃e∈s.2.1,e.1=key
  ·obtain ⟨e,he,rfl⟩:=hk
   exact .inl (φ7t h he).1
  ·exact .inr (φEv fun e he k=>hk ⟨e,he,k⟩)
theorem φND {e:EngT} (hl:e.2.2.2.length=3) (ht:∀t∈e.2.2.2,t.2.1.length≤20∧t.2.2.length≤50) (hS:SmallS e.2.1 e.2.2.1) (h3:∀k,(getP e.2.1 e.2.2.1 k).2≠3) {s:φO} (hf:φ2X e.2.2.2 s=true) :
  ψI.f e s=some ((getG (getP e.2.1 e.2.2.1) e.2.2.2 s).2,(e.1,e.2.1,e.2.2.1,(getG (getP e.2.1 e.2.2.1) e.2.2.2 s).1)):=by
 obtain ⟨hlim,hu⟩:=hS.lim
 have hd:=hS.dir
 obtain ⟨n,hn,h1,hin,hrd,hto,_,_,_⟩:=φ6W hl hf
 have htn:=ht _ (gM hn)
 have hc3:((getP e.2.1 e.2.2.1 s.2.2.1).2==3)=false:=by simpa using h3 s.2.2.1
 unfold ψI.f getG
 simp only[hin,cT,φ6i,bS,hrd,φ2h]
 cases φ18 s.2.2.1
 ·rfl
 simp only[nZ,cF,φM8 e.2.2.2[n] s.2.2.1 (by omega),bS]
 cases (ownW e.2.2.2[n].2.2 s.2.2.1).2
 ·simp only[cF,φE0 e.2.1 e.2.2.1 s.2.2.1 hlim hu (by omega),bS,hc3]
  unfold ψ1g.f
  rw[φL9 e.2.2.2[n] s.2.2.1 _ (by omega) (by omega),bS]
  generalize φ1D e.2.2.2[n] s.2.2.1 (getP e.2.1 e.2.2.1 s.2.2.1).1.2.2=r
  obtain ⟨r1,r2⟩:=r
  simp only
  cases (r2 != 0)<;>rfl
 ·rfl
theorem φKt {t:TxnT} (ht:t.2.1.length≤20∧t.2.2.length≤50) (s:φO):ψ2D.f t s=some ((φ2M t (putS s)).1,bif !φ2a (putS s) then (4,[],[]) else bif !(φ2M t (putS s)).2 then (5,[],[]) else (0,[],[])):=by
 unfold ψ2D.f
 show ((ψ1D.f t (putS s)).bind fun x=>(ψ1f.f (putS s)).bind fun t2=>bif !t2 then _ else bif !x.2 then _ else _)=_
 rw[φLd t _ (by omega) (by omega),bS,φA2,bS]
 generalize φ2M t (putS s)=x
 obtain ⟨x1,x2⟩:=x
 cases φ2a (putS s)
 ·rfl
 ·cases x2<;>rfl
theorem φM0 {e:EngT} (hl:e.2.2.2.length=3) (ht:∀t∈e.2.2.2,t.2.1.length≤20∧t.2.2.length≤50) (hS:SmallS e.2.1 e.2.2.1) (h3:∀k,(getP e.2.1 e.2.2.1 k).2≠3) (s:φO) :
  ψK.f e s=some ((sesE e s).2,(sesE e s).1):=by
 obtain ⟨hlim,hu⟩:=hS.lim
 have hd:=hS.dir
 unfold ψK.f sesE sesG comE
 rw[φNz hl s,bS]
 cases hf:φ2X e.2.2.2 s
 ·rfl
 obtain ⟨n,hn,h1,hin,hrd,hto,_,k1,k6⟩:=φ6W hl hf
 have htn:=ht _ (gM hn)
 simp only[nZ,cF,hin,cT]
 cases c1:(s.1==1)
 rotate_left
 ·rfl
 cases c6:(s.1==6)
 rotate_left
 ·rfl
 cases c2:(s.1==2)
 rotate_left
 ·simp only[cT,cF,φND hl ht hS h3 hf,bS]
 have com:((ψ1F.f ((rdA (false,[],[]) e.2.2.2 s.2.1).1,(rdA (false,[],[]) e.2.2.2 s.2.1).2) e.2.1.2.1).bind fun t9=>
   bif !t9 then some (((7,[],[]):AnsT),((e.1,e.2.1,e.2.2.1,e.2.2.2.set s.2.1.toNat (false,[],[])):EngT)) else
   (ψb.f ((rdA (false,[],[]) e.2.2.2 s.2.1).1,(rdA (false,[],[]) e.2.2.2 s.2.1).2)).bind fun t10=>
   (ψ2.f e.2.1 e.2.2.1 t10).bind fun x=>some (((x.2.2,[],[]):AnsT),((e.1,x.1,x.2.1,e.2.2.2.set s.2.1.toNat (false,[],[])):EngT))) =
   some ((comE e (e.2.2.2.set s.2.1.toNat zT,(7,[],[]),bif φ3u (rdA zT e.2.2.2 s.2.1) e.2.1.2.1 then some (netW (rdA zT e.2.2.2 s.2.1).2.2) else none)).2,(comE e (e.2.2.2.set s.2.1.toNat zT,(7,[],[]),bif φ3u (rdA zT e.2.2.2 s.2.1) e.2.1.2.1 then some (netW (rdA zT e.2.2.2 s.2.1).2.2) else none)).1):=by
  have hnl:=φHh e.2.2.2[n].2.2
  rw[φ2h,show rdA (false,[],[]) e.2.2.2 s.2.1=e.2.2.2[n] from hrd,φOL e.2.2.2[n] e.2.1.2.1 (by omega) (by omega),bS]
  cases φ3u e.2.2.2[n] e.2.1.2.1
  ·rfl
  ·simp only[nZ,cF,cT,φCZ e.2.2.2[n] (by omega),bS,φMt hS (netW e.2.2.2[n].2.2) (by omega),comE]
 have put:((ψ2D.f ((rdA (false,[],[]) e.2.2.2 s.2.1).1,(rdA (false,[],[]) e.2.2.2 s.2.1).2) s).bind fun x=>some ((x.2:AnsT),((e.1,e.2.1,e.2.2.1,e.2.2.2.set s.2.1.toNat x.1):EngT))) =
   some ((putG e.2.2.2 s).2,(e.1,e.2.1,e.2.2.1,(putG e.2.2.2 s).1)):=by
  unfold putG
  rw[φ2h,show rdA (false,[],[]) e.2.2.2 s.2.1=e.2.2.2[n] from hrd,φKt htn s,bS]
 unfold comE at com
 simp only[cF]
 cases c3:(s.1==3)
 ·cases c4:(s.1==4)
  ·cases c5:(s.1==5)
   ·exfalso
    simp at c1 c2 c3 c4 c5 c6
    omega
   ·exact com
  ·have c5:(s.1==5)=false:=by simp at c4 ⊢;omega
   simp only[cT,cF,c5]
   exact put
 ·have c5:(s.1==5)=false:=by simp at c3 ⊢;omega
  simp only[cT,cF,c5]
  exact put
theorem φLE {e:EngT} (hl:e.2.2.2.length=3) (ht:∀t∈e.2.2.2,t.2.1.length≤20∧t.2.2.length≤50) (hS:SmallS e.2.1 e.2.2.1):ψ1K.f e=some e:=
 φOM hS.ids hS.dir hS.sm.1 (by omega) ht
structure Fit (e:EngT):Prop where
 len:e.2.2.2.length=3
 tx:∀t∈e.2.2.2,t.2.1.length≤20∧t.2.2.length≤50
 sm:SmallS e.2.1 e.2.2.1
 dk:φ3 e.2.2.1=true
 n3:e.1=true→∀k,(getP e.2.1 e.2.2.1 k).2≠3
theorem φO9 {e:EngT} (h:Fit e) (s:φO):ψM.f e s=some ((stE e s).2,(stE e s).1):=by
 have hd:=(φ13 h.dk)
 have hlim:=φ1d hd (show 100001≤1000000000 by omega)
 have hu:φI e.2.2.1.1≤100000:=by have:=hd.2.1;omega
 have hw:w64 (100000 - ((φI e.2.2.1.1:Nat):Int))=100000 - (φI e.2.2.1.1:Int):=φH (by omega) (by omega)
 have open_:((ψH.f e.2.2.1).bind fun x=>some (((x.2,[],[]):AnsT),x.1))=some ((((φ2F e.2.2.1).2.2,[],[]):AnsT),(((φ2F e.2.2.1).2.2==0,(φ2F e.2.2.1).1,(φ2F e.2.2.1).2.1,zTx):EngT)):=by
  unfold ψH.f
  rw[φFa e.2.2.1 (φ3X hd (by omega))]
  rfl
 have cap:((ψ1u.f e.2.2.1).bind fun t2=>(ψD.f e.2.2.1).bind fun t3=>bif !t3 then some (((4,[],[]):AnsT),e) else
   (ψ1W.f s.2.2.2.2 0 (w64 (100000 - t2))).bind fun t4=>bif !t4 then some (((4,[],[]):AnsT),e) else
   some (((0,[],[]):AnsT),((e.1,e.2.1,(e.2.2.1.1,w64 (t2+s.2.2.2.2),e.2.2.1.2.2),e.2.2.2):EngT))) =
   some ((bif φ3 e.2.2.1 && decide (0≤s.2.2.2.2∧s.2.2.2.2≤100000 - (φI e.2.2.1.1:Int)) then (((e.1,e.2.1,(e.2.2.1.1,(φI e.2.2.1.1:Int)+s.2.2.2.2,e.2.2.1.2.2),e.2.2.2):EngT),((0,[],[]):AnsT)) else (e,(4,[],[]))).2,
    (bif φ3 e.2.2.1 && decide (0≤s.2.2.2.2∧s.2.2.2.2≤100000 - (φI e.2.2.1.1:Int)) then (((e.1,e.2.1,(e.2.2.1.1,(φI e.2.2.1.1:Int)+s.2.2.2.2,e.2.2.1.2.2),e.2.2.2):EngT),((0,[],[]):AnsT)) else (e,(4,[],[]))).1):=by
  simp only[φDa e.2.2.1 (by have:=hlim.1;omega) (by omega),φ5g e.2.2.1 hlim,h.dk,bS,nZ,cF,φ1c,hw,tA]
  by_cases c:0≤s.2.2.2.2∧s.2.2.2.2≤100000 - (φI e.2.2.1.1:Int)
  ·have:w64 ((φI e.2.2.1.1:Int)+s.2.2.2.2)=(φI e.2.2.1.1:Int)+s.2.2.2.2:=φH (by omega) (by omega)
   simp only[c,and_self,dT,nZ,cF,cT,this]
  ·simp only[c,dF,nF,cT,cF]
 unfold ψM.f stE
 cases c10:(s.1==10)
 rotate_left
 ·simp only[cT]
  cases hu:e.1
  ·exact open_
  ·rfl
 simp only[cF]
 cases c11:(s.1==11)
 rotate_left
 ·simp only[cT]
  exact cap
 simp only[cF]
 cases hup:e.1
 ·rfl
 have hdr:=h.sm.dir
 simp only[nZ,cF]
 cases c7:(s.1==7)
 rotate_left
 ·simp only[cT,(φLS h.sm).1,bS]
 simp only[cF]
 cases c8:(s.1==8)
 rotate_left
 ·simp only[cT,φG6 e.2.1.2.1 (by omega),bS]
 simp only[cF]
 cases c9:(s.1==9)
 rotate_left
 ·rfl
 simp only[cF,φM0 h.len h.tx h.sm (h.n3 hup) s,bS]
theorem mapB {A B C:Type} {X:Option A} {f:A→Option B} {f':A→Option C} {g:C→B} (h:∀x,f x=(f' x).map g):X.bind f=(X.bind f').map g:=by
 cases X with
 | none=>rfl
 | some x=>exact h x
theorem mapC {B C:Type} {b:Bool} {x y:Option B} {x' y':Option C} {g:C→B} (h1:x=x'.map g) (h2:y=y'.map g):(bif b then x else y)=(bif b then x' else y').map g:=by
 cases b
 ·exact h2
 ·exact h1
abbrev φ2g:=List AnsT×List (Int×List PutT)×List PutT
theorem φOo (e:EngT) (r:φ2g) (s:φO):ψJ.f (e,r) s=(ψI.f e s).map fun x=>(x.1,(x.2,r)):=by
 unfold ψJ.f ψI.f
 repeat' first
  | rfl
  | apply mapC
  | (apply mapB;intro x;try obtain ⟨a,b⟩:=(x:_×_))
theorem φJb (e:EngT) (r:φ2g) (s:φO):ψL.f (e,r) s=(ψK.f e s).map fun x=>(x.1,(x.2,r)):=by
 unfold ψL.f ψK.f
 rw[φOo e r s]
 cases ψI.f e s with
 | none=>
  repeat' first
   | rfl
   | apply mapC
   | (apply mapB;intro x;try obtain ⟨a,b⟩:=(x:_×_))
 | some z=>
  repeat' first
   | rfl
   | apply mapC
   | (apply mapB;intro x;try obtain ⟨a,b⟩:=(x:_×_))
theorem φLw (e:EngT) (r:φ2g) (s:φO):ψN.f (e,r) s=(ψM.f e s).map fun x=>(x.1,(x.2,r)):=by
 unfold ψN.f ψM.f
 rw[φJb e r s]
 cases ψK.f e s with
 | none=>
  repeat' first
   | rfl
   | apply mapC
   | (apply mapB;intro x;try obtain ⟨a,b⟩:=(x:_×_))
 | some z=>
  repeat' first
   | rfl
   | apply mapC
   | (apply mapB;intro x;try obtain ⟨a,b⟩:=(x:_×_))
theorem φNl {e:EngT} (h:Fit e) (r:φ2g) (s:φO):ψN.f (e,r) s=some ((stE e s).2,((stE e s).1,r)):=by
 rw[φLw,φO9 h s];rfl
def netO (e:EngT) (s:φO):List PutT:=bif (s.1==5) && (e.1 && φ2X e.2.2.2 s) then netW (rdA zT e.2.2.2 s.2.1).2.2 else []
theorem φN7 {e:EngT} (h:Fit e) (s:φO):ψ1b.f e s=some (netO e s):=by
 have hl:=h.len
 have hw:w64 ((e.2.2.2.length:Int) - 1)=2:=by rw[hl];rfl
 unfold ψ1b.f netO
 cases c5:(s.1==5)
 ·have:(s.1 != 5)=true:=by simpa using c5
  simp only[this,cT,κD,cF]
 have c5':s.1=5:=by simpa using c5
 have:(s.1 != 5)=false:=by simpa using c5
 simp only[this,cF,tA]
 cases hu:e.1
 ·rfl
 simp only[nZ,cF,tA,φ1c,bS,hw]
 unfold φ2X
 have k:decide (1≤s.1∧s.1≤6)=true:=by rw[c5'];decide
 have k1:(s.1 != 1)=true:=by rw[c5'];decide
 rw[k,k1,tA]
 by_cases h2:0≤s.2.1∧s.2.1≤2
 ·obtain ⟨n,hn⟩:∃n:Nat,s.2.1=(n:Int):=⟨s.2.1.toNat,by omega⟩
  have hn3:n<e.2.2.2.length:=by omega
  have hin:inB s.2.1 e.2.2.2.length=true:=by rw[hn,φJ];simp[hn3]
  have hrd:rdA zT e.2.2.2 s.2.1=e.2.2.2[n]:=by rw[hn,φN,φB hn3]
  have ht:=h.tx _ (gM hn3)
  simp only[h2,and_self,dT,nZ,cF,hin,cT,tA,show rdA (false,[],[]) e.2.2.2 s.2.1=e.2.2.2[n] from hrd,hrd]
  cases hb:e.2.2.2[n].1
  ·rfl
  ·simp only[nZ,cF,beq_self_eq_true,cT]
   have:((true,e.2.2.2[n].2):TxnT)=e.2.2.2[n]:=by rw[←hb]
   rw[this,φCZ e.2.2.2[n] (by omega)]
   rfl
 ·simp only[h2,dF,nF,cT,κD,cF]
noncomputable def runE:EngT→List φO→EngT×List AnsT
 | e,[]=>(e,[])
 | e,s::r=>((runE (stE e s).1 r).1,(stE e s).2::(runE (stE e s).1 r).2)
theorem φHB:∀(a b:List φO) (e:EngT),runE e (a++b)=((runE (runE e a).1 b).1,(runE e a).2++(runE (runE e a).1 b).2)
 | [],b,e=>rfl
 | s::a,b,e=>by
  show ((runE (stE e s).1 (a++b)).1,(stE e s).2::(runE (stE e s).1 (a++b)).2)=_
  rw[φHB a b];rfl
theorem φDe:∀(l:List φO) (e:EngT),(runE e l).2.length=l.length
 | [],_=>rfl
 | s::r,e=>by
  show (_::_).length=_
  rw[lC,φDe r];rfl
theorem φHW (l:List φO) (s:φO) (e:EngT):runE e (l++[s])=((stE (runE e l).1 s).1,(runE e l).2++[(stE (runE e l).1 s).2]):=by
 rw[φHB];rfl
theorem φCk {I:Nat→EngT→Prop} {l:List φO} (hs:∀n (hn:n<l.length) e,I n e→I (n+1) (stE e l[n]).1) {e:EngT} (h0:I 0 e):∀n,n≤l.length→I n (runE e (l.take n)).1
 | 0,_=>by rw[List.take_zero];exact h0
 | n+1,hn=>by
  rw[κ3 (by omega),φHW]
  exact hs n (by omega) _ (φCk hs h0 n (by omega))
theorem φNC {I:Nat→EngT→Prop} {l:List φO} (hl:l.length≤300) (hI:∀n e,I n e→Fit e) (hs:∀n (hn:n<l.length) e,I n e→I (n+1) (stE e l[n]).1∧(stE e l[n]).2.1≠1) {e:EngT} (h0:I 0 e) :
  ∃acks,ψu.f e l=some ((runE e l).1,(runE e l).2,acks,[])∧I l.length (runE e l).1:=by
 have hinv:=φCk (I:=I) (l:=l) (fun n hn e h=>(hs n hn e h).1) h0
 have h00:=hI 0 e h0
 have key:=φBp (step:=ψu.l0) (fun n (s:EngT×List AnsT×List (Int×List PutT))=>((((false,((0,[]),[],0,0,0),([],0,0,false),[]),[],[],[]),(s.1,s.2.1,s.2.2,[]),l,(l.length:Int),(n:Int)):(EngT×φ2g)×(EngT×φ2g)×List φO×Int×Int)) l.length
  (fun n s=>s.1=(runE e (l.take n)).1∧s.2.1=(runE e (l.take n)).2∧s.2.2.length≤n) (fun b=>∃acks,b.2=((runE e l).1,(runE e l).2,acks,[]))
  (fun rec s hi=>by
   obtain ⟨a,b,c⟩:=s
   obtain ⟨h1,h2,_⟩:=hi
   rw[κW] at h1 h2
   refine ⟨_,by simp[ψu.l0];rfl,c,?_⟩
   simp only at h1 h2 ⊢
   rw[h1,h2])
  (fun rec n s hn hi=>by
   obtain ⟨a,b,c⟩:=s
   obtain ⟨h1,h2,h3⟩:=hi
   simp only at h1 h2 h3
   have hIn:=hinv n (by omega)
   have hF:=hI n _ hIn
   obtain ⟨_,hne⟩:=hs n hn _ hIn
   rw[←h1] at hF hne hIn
   have e0:(n:Int)<(l.length:Int):=by omega
   have hw:=φS (show n+1<9223372036854775808 by omega)
   have h300:¬(n:Int)≥300:=by omega
   have hb:b.length=n:=by rw[h2,φDe,lT];omega
   have q1:decide ((b.length+(0+1)) * 48≤140737488355328)=true:=by simp;omega
   have q2:decide ((c.length+(0+1)) * 32≤140737488355328)=true:=by simp;omega
   have c1:((stE a l[n]).2.1==1)=false:=by simpa using hne
   have hsn:runE e (l.take (n+1))=((stE a l[n]).1,b++[(stE a l[n]).2]):=by
    rw[κ3 hn,φHW,←h1,←h2]
   have go:∀acks:List (Int×List PutT),acks.length≤n+1→∃s':EngT×List AnsT×List (Int×List PutT),(s'.1=(runE e (l.take (n+1))).1∧s'.2.1=(runE e (l.take (n+1))).2∧s'.2.2.length≤n+1) ∧
     rec ((((false,((0,[]),[],0,0,0),([],0,0,false),[]),[],[],[]),((stE a l[n]).1,b++[(stE a l[n]).2],acks,[]),l,(l.length:Int),((n+1:Nat):Int)):(EngT×φ2g)×(EngT×φ2g)×List φO×Int×Int) =
     rec ((((false,((0,[]),[],0,0,0),([],0,0,false),[]),[],[],[]),(s'.1,s'.2.1,s'.2.2,[]),l,(l.length:Int),((n+1:Nat):Int)):(EngT×φ2g)×(EngT×φ2g)×List φO×Int×Int):=fun acks ha=>
    ⟨((stE a l[n]).1,b++[(stE a l[n]).2],acks),⟨by rw[hsn],by rw[hsn],ha⟩,rfl⟩
   simp only[ψu.l0,e0,dT,cT,φJ,hn,φN,φB hn,h300,dF,cF,φ2h,φN7 hF,φNl hF,bS,lC,lN,q1,q2,c1]
   cases ((stE a l[n]).2.1==0)
   ·simp only[cF,bS,hw]
    exact go c (by omega)
   ·simp only[cT]
    by_cases hp:((netO a l[n]).length:Int) > 0
    ·simp only[hp,dT,cT,bS,hw]
     exact go (c++[_]) (by rw[lA];simp;omega)
    ·simp only[hp,dF,cF,bS,hw]
     exact go c (by omega))
  (e,[],[]) ⟨by rw[List.take_zero];rfl,by rw[List.take_zero];rfl,by simp⟩ (by omega)
 obtain ⟨b,k,acks,hb⟩:=key
 unfold ψu.f
 rw[φLE h00.len h00.tx h00.sm,bS]
 have k:lp ψu.l0 ((((false,((0,[]),[],0,0,0),([],0,0,false),[]),[],[],[]),(e,[],[],[]),l,(l.length:Int),0):(EngT×φ2g)×(EngT×φ2g)×List φO×Int×Int)=some b:=k
 rw[k,bS]
 obtain ⟨b1,b2⟩:=b
 simp only at hb ⊢
 subst hb
 have:=hinv l.length (κ5 _)
 rw[κW] at this
 exact ⟨acks,rfl,this⟩
abbrev newE (n:Nat):EngT:=(true,((2,[1]),[],1,0,0),dNew n,zTx)
theorem φO8 (n:Nat) (h:n≤100000) (h8:8≤n):ψH.f (d0N n)=some (newE n,0):=by
 obtain ⟨y,hy,e⟩:=φE6 n h
 rw[if_neg (by omega)] at e
 unfold ψH.f
 have hd:dl 1048577 (d0N n):=by
  have:=φ7E (n:Int) ⟨by omega,by omega⟩
  exact φ3X (φ13 this) (by omega)
 rw[φFa _ hd,e]
 rfl
theorem φMC (n:Nat) (h:n≤100000) (h8:8≤n) (l:List φO):ψf.f ((n:Int),-1,l)=ψu.f (newE n) l:=by
 have hk:=φ7E (n:Int) ⟨by omega,by omega⟩
 have hlim:=φ1d (φ13 hk) (show 100001≤1000000000 by omega)
 have a1:decide ((0:Int)≤(n:Int)∧(n:Int)≤100000)=true:=by simp;omega
 have a2:decide ((-1:Int)≤-1∧(-1:Int)≤100000)=true:=by decide
 have e1:ψC.f (n:Int)=some (([],(n:Int),-1,false):φ1):=by
  unfold ψC.f
  simp only[φ1c,a1,bS,nZ,cF]
 have e2:ψ1H.f (([],(n:Int),-1,false):φ1) (-1)=some (([],(n:Int),-1,false):φ1):=by
  unfold ψ1H.f
  rw[φ5X _ (by simp),bS,φ5g _ hlim,bS,hk]
  simp only[cT,φ1c,a2,bS]
 unfold ψf.f
 simp only[φ1c,a1,a2,bS,nZ,cF,e1,e2]
 rw[show (([],(n:Int),-1,false):φ1)=d0N n from rfl,φO8 n h h8]
 simp only[bS,show ((0:Int) != 0)=false from rfl,cF]
 cases ψu.f (newE n) l<;>rfl
theorem φKI {t:TxnT} (h:t.2.1.length≤20∧t.2.2.length≤50) (k:List UInt8) (b:Int):(φ1D t k b).1.2.1.length≤20∧(φ1D t k b).1.2.2.length≤50:=by
 unfold φ1D
 repeat' split
 all_goals first
  | exact h
  | (refine ⟨?_,h.2⟩;simp;omega)
theorem φL1 (t:TxnT) (k:List UInt8) (b:Int):(φ1D t k b).2=0∨(φ1D t k b).2=4∨(φ1D t k b).2=5∨(φ1D t k b).2=7:=by
 unfold φ1D
 repeat' split
 all_goals simp
def cS (c:Int):Prop:=c=0∨c=4∨c=5∨c=7∨c=8
theorem φMR {look:List UInt8→φZ×Int} (hk:∀k,(look k).2=0∨(look k).2=8) {l:List TxnT} (hl:TB l) {s:φO} (hf:φ2X l s=true):TB (getG look l s).1∧cS (getG look l s).2.1:=by
 obtain ⟨n,hn,h1,hin,hrd,hto,_,_,_⟩:=φ6W hl.1 hf
 have ht:=hl.2 _ (gM hn)
 unfold getG
 simp only[hrd]
 cases φ18 s.2.2.1
 ·exact ⟨hl,.inr (.inl rfl)⟩
 simp only[nZ,cF]
 cases (ownW l[n].2.2 s.2.2.1).2
 ·simp only[cF]
  refine ⟨hl.set _ (φKI ht _ _),?_⟩
  have hc:=φL1 l[n] s.2.2.1 (look s.2.2.1).1.2.2
  generalize φ1D l[n] s.2.2.1 (look s.2.2.1).1.2.2=r at hc
  by_cases h0:r.2=0
  ·have:(r.2 != 0)=false:=by simpa using h0
   simp only[this,cF]
   rcases hk s.2.2.1 with e | e
   ·exact .inl e
   ·exact .inr (.inr (.inr (.inr e)))
  ·have:(r.2 != 0)=true:=by simpa using h0
   simp only[this,cT]
   show cS r.2
   unfold cS
   omega
 ·refine ⟨hl,?_⟩
  simp only[cT]
  unfold ownA
  cases (ownW l[n].2.2 s.2.2.1).1.2.1
  ·exact .inl rfl
  ·exact .inr (.inr (.inr (.inr rfl)))
theorem φOa {l:List TxnT} (hl:TB l) {s:φO} (hf:φ2X l s=true):TB (putG l s).1∧cS (putG l s).2.1:=by
 obtain ⟨n,hn,h1,hin,hrd,hto,_,_,_⟩:=φ6W hl.1 hf
 have ht:=hl.2 _ (gM hn)
 unfold putG
 simp only[hrd]
 refine ⟨hl.set _ (φKD ht _),?_⟩
 cases φ2a (putS s)
 ·exact .inr (.inl rfl)
 ·cases (φ2M l[n] (putS s)).2
  ·exact .inr (.inr (.inl rfl))
  ·exact .inl rfl
theorem φIT {look:List UInt8→φZ×Int} (hk:∀k,(look k).2=0∨(look k).2=8) (val:TxnT→Bool) {l:List TxnT} (hl:TB l) (s:φO):TB (sesG look val l s).1∧cS (sesG look val l s).2.1.1:=by
 have hz:TB (l.set s.2.1.toNat zT):=hl.set _ ⟨by simp,by simp⟩
 unfold sesG
 cases hf:φ2X l s
 ·exact ⟨hl,.inr (.inl rfl)⟩
 simp only[nZ,cF]
 cases (s.1==1)
 rotate_left
 ·exact ⟨hl.set _ ⟨by simp,by simp⟩,.inl rfl⟩
 cases (s.1==6)
 rotate_left
 ·exact ⟨hz,.inl rfl⟩
 cases (s.1==2)
 rotate_left
 ·exact φMR hk hl hf
 cases (s.1==5)
 rotate_left
 ·exact ⟨hz,.inr (.inr (.inr (.inl rfl)))⟩
 exact φOa hl hf
theorem EI.fit {e:EngT} (h:EI e):Fit e:=by
 obtain ⟨h1,h2⟩:=h.small
 exact ⟨h.tx.1,h.tx.2,h1,h2,fun hu k=>by
  rcases φDh (h.up hu).ok k with c | c
  ·rw[c];decide
  ·rw[c];decide⟩
theorem φMd {e:EngT} (h:EI e) (s:φO):EI (stE e s).1∧(stE e s).2.1≠1∧(stE e s).2.1≠3 ∧
  ((stE e s).2.1=2→(stE e s).1.1=e.1∧(e.1=true→φW (stE e s).1.2.1 (stE e s).1.2.2.1=φW e.2.1 e.2.2.1)):=by
 obtain ⟨hS,hdk⟩:=h.small
 unfold stE
 cases c10:(s.1==10)
 rotate_left
 ·simp only[cT]
  cases hu:e.1
  ·obtain ⟨s0,hs0⟩:=(h.dn hu).1
   obtain ⟨t,y,ho,hj,_⟩:=φHF hs0
   simp only[cF,ho]
   exact ⟨⟨fun _=>hj,fun c=>by simp at c,TB.new⟩,by decide,by decide,fun c=>by simp at c⟩
  ·exact ⟨h,by show (4:Int)≠1;decide,by show (4:Int)≠3;decide,fun c=>absurd c (by show ¬(4:Int)=2;decide)⟩
 simp only[cF]
 cases c11:(s.1==11)
 rotate_left
 ·simp only[cT,hdk,tA]
  by_cases c:0≤s.2.2.2.2∧s.2.2.2.2≤100000 - (φI e.2.2.1.1:Int)
  ·simp only[c,and_self,dT,cT]
   exact ⟨⟨fun hu=>(h.up hu).cap (by omega) (by omega),fun hu=>⟨by obtain ⟨s0,hs0⟩:=(h.dn hu).1;exact ⟨s0,hs0.cap (by omega) (by omega)⟩,(h.dn hu).2⟩,h.tx⟩,by decide,by decide,fun c=>by simp at c⟩
  ·simp only[c,dF,cF]
   exact ⟨h,by decide,by decide,fun c=>by simp at c⟩
 simp only[cF]
 cases hu:e.1
 ·exact ⟨h,by show (6:Int)≠1;decide,by show (6:Int)≠3;decide,fun c=>absurd c (by show ¬(6:Int)=2;decide)⟩
 have hJ:=h.up hu
 simp only[nZ,cF]
 cases c7:(s.1==7)
 rotate_left
 ·obtain ⟨m1,m2⟩:=φDE hJ
  have hmc:=φOO hJ
  unfold C4 at hmc
  simp only[cT]
  exact ⟨⟨fun _=>m1,fun c=>by simp at c,h.tx⟩,by show (φ1y e.2.1 e.2.2.1).2.2≠1;omega,by show (φ1y e.2.1 e.2.2.1).2.2≠3;omega,fun _=>⟨trivial,fun _=>m2⟩⟩
 simp only[cF]
 cases c8:(s.1==8)
 rotate_left
 ·exact ⟨h,by show (0:Int)≠1;decide,by show (0:Int)≠3;decide,fun c=>absurd c (by show ¬(0:Int)=2;decide)⟩
 simp only[cF]
 cases c9:(s.1==9)
 rotate_left
 ·exact ⟨⟨fun c=>by simp at c,fun _=>⟨⟨_,hJ⟩,by simp,by simp⟩,TB.new⟩,by show (0:Int)≠1;decide,by show (0:Int)≠3;decide,fun c=>absurd c (by show ¬(0:Int)=2;decide)⟩
 simp only[cF]
 unfold sesE
 obtain ⟨g1,g2⟩:=φIT (look:=getP e.2.1 e.2.2.1) (fun k=>by
  rcases φDh hJ.ok k with c | c
  ·exact .inl c
  ·rw[c];exact .inr rfl) (fun t=>φ3u t e.2.1.2.1) h.tx s
 generalize sesG (getP e.2.1 e.2.2.1) (fun t=>φ3u t e.2.1.2.1) e.2.2.2 s=g at g1 g2
 obtain ⟨l,a,w⟩:=g
 unfold cS at g2
 simp only at g1 g2
 unfold comE
 cases w with
 | none=>
  simp only
  exact ⟨h.same g1,by omega,by omega,fun c=>by omega⟩
 | some w=>
  obtain ⟨k1,k2,k3,k4⟩:=φGN hJ w
  have kc:=φLK hJ w
  unfold C4 at kc
  simp only
  exact ⟨h.store hu k1 g1,by omega,by omega,fun c=>⟨hu,fun _=>k4 (by omega)⟩⟩
theorem φMn {d:φ1} {a b:List UInt8} (h:(φ2W a b d).2=0) (hab:a≠b):(φ2 (φ2W a b d).1 a).2=false:=by
 obtain ⟨k,ha,hx⟩:=φ5f h
 have hx:(φ2W a b d).1=_:=hx
 unfold φ2E at ha hx
 split at ha
 ·simp at ha
 rename_i c
 rw[if_neg c] at hx
 rcases φv d.1 a with ⟨e,_⟩ | ⟨i,hi,e,hn⟩
 ·rw[φ1E e] at ha;simp at ha
 rw[φ16 e] at hx
 simp only at hx
 rw[if_neg hab] at hx
 have hp:=(φ5k k)
 refine φCI fun f hf=>?_
 rw[hx] at hf
 have hf:f∈insB (φ1b (φc d.1 i) b) (b,(d.1.getD i ([],[],0)).2):=hf
 rw[φ3F] at hf
 rcases hf with rfl | hf
 ·exact fun e=>hab e.symm
 ·intro ef
  have hfr:f∈φc d.1 i:=by
   unfold φ1b at hf
   split at hf
   ·rcases mA.1 hf with k | k
    ·exact κf k
    ·exact List.mem_of_mem_drop k
   ·exact hf
  rw[φDr hp hi hn] at hfr
  have:=(List.mem_filter.1 hfr).2
  simp[ef] at this
theorem φGW {v:φQ} {w:φE} (h:(sPut v w).2=0):(φ2 (sPut v w).1 φ1H).2=false:=by
 unfold sPut at h ⊢
 obtain ⟨h1,h2,h3⟩:=φ3x h
 rw[h3]
 exact φMn h2 (by decide)
structure PB (k N:Nat) (s:φ7) (d:φ1):Prop where
 cap:d.2=(100000,-1,false)
 nm:∀n,(φ2 d n).2=true→n=φb∨(∃id∈s.1.2,n=φ0 id)∨n=φK (s.1.2.headD 0)
 sz:∀n,(φ2 d n).1.length≤1500
 pot:130 * (s.1.2.length:Int)+s.2.2.2.1≤260+71 * k
 act:s.2.2.2.1≤200
 nx:s.1.1≤2+k+2 * N
theorem PB.same {k N:Nat} {s s':φ7} {d:φ1} (h:PB k N s d) (h1:s'.1=s.1) (h2:s'.2.2.2.1=s.2.2.2.1):PB k N s' d:=
 ⟨h.cap,by rw[h1];exact h.nm,h.sz,by rw[h1,h2];exact h.pot,by rw[h2];exact h.act,by rw[h1];exact h.nx⟩
theorem PB.up {k N k' N':Nat} {s:φ7} {d:φ1} (h:PB k N s d) (h1:k≤k') (h2:N≤N'):PB k' N' s d:=
 ⟨h.cap,h.nm,h.sz,by have:=h.pot;omega,h.act,by have:=h.nx;omega⟩
theorem φIt {l:List φ4} {z:Nat} (h:∀f∈l,f.2.1.length≤z):φI l≤z * l.length:=by
 unfold φI
 induction l with
 | nil=>simp[sumN]
 | cons f l ih=>
  have h1:=h f (by simp)
  have h2:=ih fun g hg=>h g (by simp[hg])
  simp only[sumN,lC]
  rw[Nat.mul_add]
  omega
end Go.Rf.G
