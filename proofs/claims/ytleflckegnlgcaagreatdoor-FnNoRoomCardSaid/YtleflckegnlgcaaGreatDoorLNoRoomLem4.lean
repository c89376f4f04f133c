import Derived.Test.YtleflckegnlgcaaGreatDoorLNoRoomLem3
open Option renaming bind_some→bS
open List renaming length_append→lA,append_assoc→aA,mem_cons_of_mem→mC,mem_append→mA,mem_append_right→mR,mem_append_left→mL,mem_cons→mc,drop_eq_getElem_cons→dG,length_take→lT,length_drop→lD,mem_map→mM,length_map→lM,length_cons→lC,length_nil→lN,getElem_mem→gM,map_append→mp,mem_singleton→mZ,mem_cons_self→κ0,append_nil→κ4,map_cons→κ5,take_succ_eq_append_getElem→κ6,nil_append→κ7,length_singleton→κ9,drop_zero→κC,take_append_drop→κE,cons_append→κF,flatMap_append→κI,replicate→κJ,nodup_append→κK,foldl_cons→κN,drop_left→κO,range'→κQ,nodup_cons→κS,all_eq_true→κU,foldl_append→κW,pairwise_cons→κX,take_length→κb
open Bool renaming and_eq_true→bA,eq_false_or_eq_true→bE,not_true→nZ,not_false→nF,true_and→tA,not_not→nn,false_eq_true→κ2,true_eq_false→κ8,false_and→κD,or_eq_false_iff→κH,and_true→κL,not_eq_true'→κM,false_or→κR,or_eq_true→κV
open Int renaming toNat_natCast→tN,ofNat_lt→oL,le_refl→κP
open Nat renaming lt_or_ge→κ1,zero_le→κ3,eq_of_beq_eq_true→κA,le_refl→κB,lt_of_lt_of_le→κG,zero_add→κT,pow_succ→κY,mod_eq_of_lt→κa
open Array renaming length_toList→κZ
set_option linter.unusedVariables false
set_option linter.unusedSimpArgs false
namespace Go.Rf.G
open Go Go.Rf
set_option synthInstance.maxSize 4000
theorem φFW (w:φD) (v:φP) (h:φ3 w.1=true) (hv:v.2.length<1000000) :
  ψ2B.f w v=some (if φ2N w.1 v.2=true then (v.2.map (φ11 w.1),φ3q w.1 v.2 0,true,w) else ([],0,false,w)):=by
 have key:=φc (step:=ψ2B.l0) (fun n (s:List (List φF)×Int)=>(w,v,s.1,s.2,v.2,(v.2.length:Int),(n:Int))) v.2.length
  (fun n s=>if φ2N w.1 (v.2.drop n)=true then .inl (w,s.1++(v.2.drop n).map (φ11 w.1),φ3q w.1 (v.2.drop n) s.2) else .inr (w,[],0,false)) (fun n s=>s.1.length≤n)
  (fun rec n s hn hs ih=>by
   rcases κ1 n v.2.length with h1 | h1
   ·have hw:=φQ (show n+1<9223372036854775808 by omega)
    have hwl:w64 ((v.2.length:Int) - 1)=((v.2.length - 1:Nat):Int):=by rw[φG (by omega) (by omega)];omega
    have hd:v.2.drop n=v.2[n]::v.2.drop (n+1):=dG h1
    have htx:=φ5i h (φ0 v.2[n])
    have hsc:=φ5h (φ2 w.1 (φ0 v.2[n])).1
    have hpl:=φFI v.2[n] (scan (φ2 w.1 (φ0 v.2[n])).1).1 (by omega)
    have hb:decide ((s.1.length+([φ11 w.1 v.2[n]]:List (List φF)).length) * 24≤140737488355328)=true:=by simp only[decide_eq_true_eq];exact φDf (by omega)
    have ih:=ih (s.1++[φ11 w.1 v.2[n]],((scan (φ2 w.1 (φ0 v.2[n])).1).2:Int)) h1 (by simp only[lA,κ9];omega)
    have hft:=φ4K w.1 (φ0 v.2[n]) (φ1L (φ10 h) (by omega))
    have hsr:=φBZ (φ2 w.1 (φ0 v.2[n])).1 (by omega)
    rw[hd]
    simp only[φ2N,φ3q,κ5,φHn v.2 n h1]
    simp only[ψ2B.l0,oL,h1,dT,cT,φH,φM,φE h1,φ3C,bS,hft,hsr,hwl]
    have hpl2:ψ1h.f v.2[n] (scan (φ2 w.1 (φ0 v.2[n])).1).1=some (φ11 w.1 v.2[n]):=hpl
    have hgo:((ψ1h.f v.2[n] (scan (φ2 w.1 (φ0 v.2[n])).1).1).bind fun t5=>bif decide ((s.1.length+[t5].length) * 24≤140737488355328) then rec (w,v,s.1++[t5],((scan (φ2 w.1 (φ0 v.2[n])).1).2:Int),v.2,(v.2.length:Int),w64 ((n:Int)+1)) else none) =
      some (if φ2N w.1 (v.2.drop (n+1))=true then .inl (w,s.1++(φ11 w.1 v.2[n]::(v.2.drop (n+1)).map (φ11 w.1)),φ3q w.1 (v.2.drop (n+1)) ((scan (φ2 w.1 (φ0 v.2[n])).1).2:Int)) else .inr (w,[],0,false)):=by
     rw[hpl2,bS,hb,cT,hw]
     have:s.1++(φ11 w.1 v.2[n]::(v.2.drop (n+1)).map (φ11 w.1))=s.1++[φ11 w.1 v.2[n]]++(v.2.drop (n+1)).map (φ11 w.1):=by simp
     rw[this];exact ih
    cases hk:(φ2 w.1 (φ0 v.2[n])).2 with
    | false=>simp only[nF,cT,bS,φm,κD,κ2,if_false]
    | true=>
     simp only[nZ,cF,tA]
     by_cases c1:n<v.2.length - 1
     ·simp only[c1,dT,cT,not_true,dF,κR]
      by_cases c2:(scan (φ2 w.1 (φ0 v.2[n])).1).2=(φ2 w.1 (φ0 v.2[n])).1.length
      ·rw[φ85 c2,cF]
       simp only[bS,φb,decide_eq_true c2,tA]
       exact hgo
      ·rw[φ8X c2,cT]
       simp only[bS,φm,decide_eq_false c2,κD,κ2,if_false]
     ·simp only[c1,dF,cF,not_false_iff,dT,Bool.true_or,tA,bS,φb]
      exact hgo
   ·have:n=v.2.length:=by omega
    subst this
    rw[List.drop_length]
    simp[ψ2B.l0,φ2N,φ3q])
  (by omega) 0 ([],0) (κ3 _) (κB _)
 have key:lp ψ2B.l0 (w,v,[],0,v.2,(v.2.length:Int),0)=_:=key
 unfold ψ2B.f
 rw[key,bS,κC]
 by_cases c:φ2N w.1 v.2=true
 ·rw[if_pos c,if_pos c];simp only[φb,κ7]
 ·rw[if_neg c,if_neg c];simp only[φm]
theorem φFt {hi:Int}:∀(l:List Int) (p:Option Int),φ1a hi p l=true→l.Pairwise (·<·)∧∀q,p=some q→∀x∈l,q<x
 | [],p,_=>⟨List.Pairwise.nil,by simp⟩
 | x::r,p,h=>by
  simp only[φ1a,bA,decide_eq_true_eq] at h
  obtain ⟨h1,h2,h3⟩:=h
  obtain ⟨k1,k2⟩:=φFt r (some x) h3
  have k2:=k2 x rfl
  refine ⟨List.Pairwise.cons k2 k1,?_⟩
  rintro q rfl y hy
  have h2:q<x:=by simpa using h2
  rcases mc.1 hy with rfl | hy
  ·exact h2
  ·exact Int.lt_trans h2 (k2 y hy)
theorem φM7 {v:φP} (h:φk v=true):v.2.Pairwise (·<·):=(φFt v.2 none ((φ15 v).1 h).1).1
noncomputable def φ38 (d:φ1) (id:Int):Option φ13:=
 if (φ2 d (φK id)).2=true∧(φ3K (φ2 d (φK id)).1).2=true∧φ6W id (φ2 d (φ0 id)).1 (φ3K (φ2 d (φK id)).1).1=true then
  some ((φ3K (φ2 d (φK id)).1).1.2.2,(φ3K (φ2 d (φK id)).1).1.2.1,0) else none
theorem φHo (w:φD) (id:Int) (h:φ3 w.1=true):ψ26.f w id=some (match φ38 w.1 id with | some g=>(g,true,w) | none=>(([],0,0),false,w)):=by
 have hlm:=φ1L (φ10 h) (show 100001≤1000000000 by omega)
 have ht:=φ5i h (φK id)
 have ht2:=φ5i h (φ0 id)
 unfold ψ26.f φ38
 simp only[φ7d,bS,φ4K w.1 (φK id) hlm,φJt _ (show (φ2 w.1 (φK id)).1.length<900000000 by omega),φ3C,φ4K w.1 (φ0 id) hlm,
  φKf id (φ2 w.1 (φ0 id)).1 (φ3K (φ2 w.1 (φK id)).1).1 (by omega)]
 cases (φ2 w.1 (φK id)).2<;>cases (φ3K (φ2 w.1 (φK id)).1).2<;>cases φ6W id (φ2 w.1 (φ0 id)).1 (φ3K (φ2 w.1 (φK id)).1).1<;>simp
noncomputable def φS (x:φ1) (ids:List Int):List φF:=ids.flatMap (φ11 x)
theorem φLm (w:φD) (v:φP) (S:φ8) (g:φ13) (L:List (List φF)) (z:φP) (hL:∀l∈L,l.length≤100000) (hl:L.length≤1000) :
  lp ψ24.l0 (w,φ1T,(v.1,[]),S,g,[],L,(L.length:Int),0)=some (w,φ1T,(v.1,[]),S,g,L.flatten):=by
 have hk:=φ3W (step:=ψ24.l0) L (fun (s:List φF) l=>s++l) (fun n s=>(w,φ1T,(v.1,[]),S,g,s,L,(L.length:Int),(n:Int))) (fun s=>(w,φ1T,(v.1,[]),S,g,s)) (fun n s=>s.length≤100000 * n) (by omega)
  (fun rec n s h hi=>by
   have hw:=φQ (show n+1<9223372036854775808 by omega)
   have h1:=hL _ (gM h)
   have hb:decide ((s.length+L[n].length) * 88≤140737488355328)=true:=by simp only[decide_eq_true_eq];omega
   simp only[ψ24.l0,oL,h,dT,cT,φH,φM,φE h,hb,hw])
  (fun n s h hi=>by have h1:=hL _ (gM h);simp only[lA];omega)
  (fun rec s hi=>by simp[ψ24.l0]) [] (κB _)
 have hk:lp ψ24.l0 (w,φ1T,(v.1,[]),S,g,[],L,(L.length:Int),0)=_:=hk
 rw[hk]
 have:∀(L:List (List φF)) (s:List φF),L.foldl (fun (s:List φF) l=>s++l) s=s++L.flatten:=by
  intro L
  induction L with
  | nil=>intro s;simp
  | cons x L ih=>intro s;rw[κN,ih];simp
 rw[this];rfl
theorem φNQ {d:φ1} (h:φ3 d=true) {m n:List UInt8} (z:Int) (hne:n≠m):φ2 (φ3S m z d).1 n=φ2 d n:=by
 refine φ5t h (φ61 h m z) n fun t=>?_
 unfold φ3n
 rcases φz d.1 m with ⟨e,_⟩ | ⟨i,hi,e,hn⟩
 ·rw[φ1B e]
 ·rw[φ18 e]
  simp only
  split
  ·rw[φE hi]
   constructor
   ·rintro ⟨s,hs⟩;exact ⟨s,(φ6H (f:=(d.1[i].1,d.1[i].2.1.take z.toNat,if z<d.1[i].2.2 then z else d.1[i].2.2)) hi rfl (by rw[hn];exact hne)).2 hs⟩
   ·rintro ⟨s,hs⟩;exact ⟨s,(φ6H (f:=(d.1[i].1,d.1[i].2.1.take z.toNat,if z<d.1[i].2.2 then z else d.1[i].2.2)) hi rfl (by rw[hn];exact hne)).1 hs⟩
  ·exact Iff.rfl
theorem φLb {d:φ1} {n:List UInt8} {z:Int} (h:(φ3S n z d).2=0):φ2 (φ3S n z d).1 n=((φ2 d n).1.take z.toNat,true):=by
 obtain ⟨k,ha,hx⟩:=φ6B h
 have hk:φ3 (φ3S n z d).1=true:=φ61 k n z
 have hx:(φ3S n z d).1=_:=hx
 unfold φ3n at ha hx
 rcases φz d.1 n with ⟨e,_⟩ | ⟨i,hi,e,hn⟩
 ·rw[φ1B e] at ha;simp at ha
 rw[φ18 e] at ha hx
 simp only at ha hx
 split at ha
 ·rename_i c
  rw[if_pos c,φE hi] at hx
  have e1:=φ34 k (gM hi)
  rw[hn] at e1
  have hm:((n,d.1[i].2.1.take z.toNat,if z<d.1[i].2.2 then z else d.1[i].2.2):φ6)∈(φ3S n z d).1.1:=by
   rw[hx,←hn]
   exact List.mem_iff_getElem.2 ⟨i,by simpa using hi,by simp⟩
  have e2:=φ34 hk hm
  rw[e1]
  exact e2
 ·simp at ha
noncomputable def cutN (v:φP) (d:φ1):Nat:=(scan (φ2 d (φ0 (φL v.2))).1).2
noncomputable def cutW (v:φP) (d:φ1):φD:=
 φA (φI (φ0 (φL v.2))) (if (φ2 d (φ0 (φL v.2))).1.length=cutN v d then (d,0) else φ3S (φ0 (φL v.2)) (cutN v d:Int) d)
theorem φFu {v:φP} {d:φ1} (h:φ3 d=true):φ3 (cutW v d).1=true:=by
 unfold cutW
 refine φ1j ?_ fun k=>φ3J k _
 split
 ·exact h
 ·exact φ61 h _ _
theorem φKk {v:φP} {d:φ1} (h:φ3 d=true) (n:List UInt8) (hne:n≠φ0 (φL v.2)):φ2 (cutW v d).1 n=φ2 d n:=by
 unfold cutW
 split
 ·rw[φ2f (φ2a h _ _)]
 ·have hk:φ3 (φ3S (φ0 (φL v.2)) (cutN v d:Int) d).1=true:=φ61 h _ _
  rw[φ2f (φ2a hk _ _)]
  exact φNQ h _ hne
theorem φJN {v:φP} {d:φ1} (h:φ3 d=true) (hl:(φ2 d (φ0 (φL v.2))).2=true) (hc:(cutW v d).2=0) :
  φ2 (cutW v d).1 (φ0 (φL v.2))=((φ2 d (φ0 (φL v.2))).1.take (cutN v d),true):=by
 unfold cutW at hc ⊢
 have h0:=(φ47 hc).1
 split
 ·rename_i c
  rw[φ2f (φ2a h _ _),←c,κb]
  exact Prod.ext rfl hl
 ·rename_i c
  rw[if_neg c] at h0
  have hk:φ3 (φ3S (φ0 (φL v.2)) (cutN v d:Int) d).1=true:=φ61 h _ _
  rw[φ2f (φ2a hk _ _),φLb h0,tN]
theorem φCW {v:φP} {d:φ1} (h:φ3 d=true) (hl:(φ2 d (φ0 (φL v.2))).2=true) (hc:(cutW v d).2=0) (id:Int):φ11 (cutW v d).1 id=φ11 d id:=by
 unfold φ11
 by_cases c:φ0 id=φ0 (φL v.2)
 ·rw[c,φJN h hl hc]
  show List.map _ (scan ((φ2 d (φ0 (φL v.2))).1.take (cutN v d))).1=_
  unfold cutN
  rw[φLB]
 ·rw[φKk h _ c]
theorem φFx {d:φ1}:∀(l:List Int),l≠[]→φ2N d l=true→(φ2 d (φ0 (φL l))).2=true
 | [],h,_=>absurd rfl h
 | [x],_,h=>by
  simp only[φ2N,bA] at h
  rw[φ8U];exact h.1
 | x::y::l,_,h=>by
  rw[φ8r]
  have h:φ2N d (x::(y::l))=true:=h
  rw[φ2N,bA,bA] at h
  exact φFx (y::l) (by simp) h.2.2
noncomputable def φ4U (v:φP) (d:φ1):φ8×φ1×Int:=
 if (cutW v d).2≠0 then (φ1T,(cutW v d).1,told (cutW v d).2) else
 let x:=(cutW v d).1
 let g:=match φ38 x (v.2.getD 0 0) with
  | some g=>φ2A g (φS x (v.2.drop 1))
  | none=>φ2A ([],0,0) (φS x v.2)
 let hinted:=match φ38 x (v.2.getD 0 0) with
  | some _=>v.2.getD 0 0
  | none=>0
 if g.2.2≠0 then (φ1T,x,3) else
 if (φo v x).2≠0 then (φ1T,(φo v x).1,told (φo v x).2) else
 ((v,g.1,w64 (g.2.1+1),(cutN v d:Int),hinted),(φo v x).1,0)
noncomputable def φ2C (d:φ1):φ8×φ1×Int:=
 if φ3 d=false then (φ1T,d,4) else if d.2.2.2=true then (φ1T,d,1) else
 if (φ2 d φi).2=false then φ94 d else
 if (φ2t (φ2 d φi).1).2=false then (φ1T,d,3) else
 if φ2N d (φ2t (φ2 d φi).1).1.2=false then (φ1T,d,3) else φ4U (φ2t (φ2 d φi).1).1 d
theorem φK7 {x:φ1} {id:Int} {g:φ13} (h:φ38 x id=some g):g.1.length≤20∧g.2.2=0:=by
 unfold φ38 at h
 split at h
 ·rename_i c
  simp only[Option.some.injEq] at h
  subst h
  refine ⟨?_,rfl⟩
  rcases φE4 (φ2 x (φK id)).1 with ⟨e,_⟩ | ⟨u,e,hu⟩
  ·rw[e] at c;simp at c
  ·rw[e];exact (φE2 hu.1).2.2.1
 ·simp at h
theorem φFG {x:φ1} {id:Int} {g:φ13} (h:φ38 x id=some g):φ2W g:=by
 obtain ⟨h1,h2⟩:=φK7 h
 unfold φ2W
 rw[if_pos h2];omega
theorem φCh:φ2W ([],0,0):=by unfold φ2W;simp
theorem φBY {x:φ1} (h:φ3 x=true) {ids:List Int} (hl:ids.length≤60):(φS x ids).length<10000000:=by
 have:=φFQ h ids
 unfold φS;omega
theorem φJj (d:φ1) (t:List UInt8) (h:φ3 d=true) (ht:t.length<1000000000) :
  ∃S w,ψ24.f (d,0) t=some (S,w) ∧
   (if w.2≠0 then (φ1T,w.1,w.2) else (S,w.1,(0:Int))) =
   (if (φ2t t).2=false then (φ1T,d,3) else if φ2N d (φ2t t).1.2=false then (φ1T,d,3) else φ4U (φ2t t).1 d):=by
 unfold ψ24.f
 rw[φJs t ht,bS]
 rcases φCU t with ⟨e,_⟩ | ⟨v,e,hv⟩
 ·rw[e]
  have hs:=φFW (d,0) φ19 h (by show 0<_;omega)
  rw[if_pos (show φ2N d φ19.2=true from rfl)] at hs
  simp only[hs,bS,nF,cT,if_true]
  exact ⟨_,_,rfl,by simp⟩
 rw[e]
 have hlen:=φ8H hv.1
 have hpos:=((φ15 v).1 hv.1).2.2.1
 have hs:=φFW (d,0) v h (by omega)
 simp only[hs,bS]
 cases hc:φ2N d v.2 with
 | false=>
  simp only[κ2,if_false,nZ,cF,nF,cT]
  exact ⟨_,_,rfl,by simp⟩
 | true=>
  have hlast:=φFx v.2 (fun z=>by rw[z] at hpos;simp at hpos) hc
  obtain ⟨l1,l2,l3⟩:=φAl hpos (by omega)
  have hle:=φDQ d v.2 0 (fun z=>by rw[z] at hpos;simp at hpos)
  have hlm:=φ1L (φ10 h) (show 100001≤1000000000 by omega)
  have hT:=φMx d (φ0 (φL v.2)) (cutN v d:Int) hlm
  have hT:ψ1C.f d (φ0 (φL v.2)) (cutN v d:Int)=some (φ3S (φ0 (φL v.2)) (cutN v d:Int) d):=hT
  have hcw:φ3q d v.2 0=(cutN v d:Int):=hle
  simp only[if_true,nZ,cF,κ8,if_false,l1,l2,cT,l3,φ3C,bS,φ4K d _ hlm,hcw]
  -- cut and kept
  have hmid:∃w0:φD,w0=φ9 (if (φ2 d (φ0 (φL v.2))).1.length=cutN v d then (d,0) else φ3S (φ0 (φL v.2)) (cutN v d:Int) d) ∧
    ((bif ((φ2 d (φ0 (φL v.2))).1.length:Int) != (cutN v d:Int) then
     (ψ1C.f d (φ0 (φL v.2)) (cutN v d:Int)).bind fun (t5_0,t5_1)=>(ψ2D.f (d,0) t5_0 t5_1).bind fun t6=>some (t6,φ1T,v,v.2.map (φ11 d),(cutN v d:Int),φ0 (φL v.2))
     else some ((d,0),φ1T,v,v.2.map (φ11 d),(cutN v d:Int),φ0 (φL v.2)):Option (φD×φ8×φP×List (List φF)×Int×List UInt8)))=some (w0,φ1T,v,v.2.map (φ11 d),(cutN v d:Int),φ0 (φL v.2)):=by
   refine ⟨_,rfl,?_⟩
   by_cases c:(φ2 d (φ0 (φL v.2))).1.length=cutN v d
   ·rw[φ85 c,if_pos c];rfl
   ·rw[φ8X c,if_neg c,cT,hT,bS]
    generalize φ3S (φ0 (φL v.2)) (cutN v d:Int) d=p
    obtain ⟨p1,p2⟩:=p
    simp only[φ5x,bS];rfl
  obtain ⟨w0,ew0,hmid⟩:=hmid
  have hmid:=hmid
  have hsync:ψ2C.f w0 (φ0 (φL v.2))=some (φ9 (cutW v d)):=by
   have hd0:φ3 w0.1=true:=by
    rw[ew0]
    show φ3 (if (φ2 d (φ0 (φL v.2))).1.length=cutN v d then (d,(0:Int)) else φ3S (φ0 (φL v.2)) (cutN v d:Int) d).1=true
    split
    ·exact h
    ·exact φ61 h _ _
   rw[φ76 w0 (φ0 (φL v.2)) (φ10 hd0) (by omega),ew0,φ2e];rfl
  refine (show ∃S w,_∧_ from ?_)
  have hx0:inB 0 v.2.length=true:=by rw[show (0:Int)=((0:Nat):Int) from rfl,φH];simp;omega
  have hr0:rdA 0 v.2 0=v.2.getD 0 0:=by rw[show (0:Int)=((0:Nat):Int) from rfl,φM]
  have hsl:(decide (0≤(1:Int)) && decide (1≤((v.2.map (φ11 d)).length:Int)))=true:=by rw[lM];simp;omega
  have hd1:=φFu (v:=v) h
  have hpl:=fun hc2=>φCW (v:=v) h hlast hc2
  unfold φ4U
  have hfl:∀ids:List Int,(cutW v d).2=0→(ids.map (φ11 d)).flatten=φS (cutW v d).1 ids:=fun ids hc2=>by
   unfold φS
   rw[List.flatMap_def]
   congr 1
   exact List.map_congr_left fun id _=>(hpl hc2 id).symm
  have hmap:∀(ids:List Int),∀l∈ids.map (φ11 d),l.length≤100000:=fun ids l hl=>by
   obtain ⟨id,_,rfl⟩:=mM.1 hl;exact φBt h id
  rw[show (((d,(0:Int)):φD).1)=d from rfl] at *
  rw[hmid,bS]
  simp only[hsync,bS]
  generalize hW:cutW v d=W at *
  obtain ⟨x,c⟩:=W
  by_cases c0:c=0
  rotate_left
  ·have t1:(told c != 0)=true:=by rw[φ69];simpa using c0
   have t2:told c≠0:=fun z=>c0 ((φ1R c).1 z)
   rw[if_pos c0]
   simp only[φ9,t1,cT]
   exact ⟨_,_,rfl,by rw[if_pos t2]⟩
  subst c0
  have hd1:φ3 x=true:=hd1
  rw[if_neg (by simp)]
  have t1:(told 0 != 0)=false:=rfl
  have t0:told 0=0:=rfl
  have hh:=φHo (x,0) (v.2.getD 0 0) hd1
  simp only[φ9,t1,t0,cF,hx0,cT,hr0,hh,bS]
  -- the end,alike for both ways
  have fin:∀(g0:φ13) (ids:List Int) (hin:Int),φ2W g0→ids.length≤60 →
    ∃S w,((lp ψ24.l0 ((x,0),φ1T,(v.1,[]),(v,[],0,(cutN v d:Int),hin),g0,[],ids.map (φ11 d),((ids.map (φ11 d)).length:Int),0)).bind (fun (x0,x4,x5,x13,x14,x16)=>
     (ψr.f x14 x16).bind fun t10=>
     bif t10.2.2 != 0 then some (φ1T,(x0.1,3)) else
     (ψ27.f x0 (x5.1,x13.1.2)).bind fun t11=>some ((x13.1,t10.1,w64 (t10.2.1+1),x13.2.2.2),t11)):Option (φ8×φD))=some (S,w) ∧
    (if w.2≠0 then (φ1T,w.1,w.2) else (S,w.1,(0:Int))) =
     (if (φ2A g0 (φS x ids)).2.2≠0 then (φ1T,x,3) else if (φo v x).2≠0 then (φ1T,(φo v x).1,told (φo v x).2) else
      ((v,(φ2A g0 (φS x ids)).1,w64 ((φ2A g0 (φS x ids)).2.1+1),(cutN v d:Int),hin),(φo v x).1,0)):=by
   intro g0 ids hin hg hi
   rw[φLm (x,0) v (v,[],0,(cutN v d:Int),hin) g0 (ids.map (φ11 d)) v (hmap ids) (by rw[lM];omega),bS]
   have hfl2:=hfl ids rfl
   have hrg:=φIf g0 (φS x ids) (φBY hd1 hi) hg
   have hor:=φFJ (x,0) (v.1,v.2) hd1 (by show v.2.length<_;omega)
   have ewd:φ4j (φ35 x v) (x,0)=φ9 (φo v x):=φ9O _ (x,0)
   have hor:ψ27.f (x,0) (v.1,v.2)=some (φ9 (φo v x)):=hor.trans (by rw[←ewd])
   simp only[hfl2,hrg,bS]
   by_cases c1:(φ2A g0 (φS x ids)).2.2=0
   rotate_left
   ·have d1:((φ2A g0 (φS x ids)).2.2 != 0)=true:=by simpa using c1
    rw[d1,cT,if_pos c1]
    exact ⟨_,_,rfl,by simp⟩
   have d1:((φ2A g0 (φS x ids)).2.2 != 0)=false:=by simpa using c1
   rw[d1,cF,if_neg (fun z=>z c1),hor,bS]
   refine ⟨_,_,rfl,?_⟩
   generalize φo v x=S2
   obtain ⟨y,c2⟩:=S2
   by_cases c3:c2=0
   ·subst c3;simp[φ9,told]
   ·have t2:told c2≠0:=fun z=>c3 ((φ1R c2).1 z)
    simp[φ9,t2,c3]
  cases hg:φ38 x (v.2.getD 0 0) with
  | some g=>
   simp only[cT,hx0,hsl,hr0,bS]
   have e1:(v.2.map (φ11 d)).drop 1=(v.2.drop 1).map (φ11 d):=by rw[List.map_drop]
   rw[e1]
   exact fin g (v.2.drop 1) (v.2.getD 0 0) (φFG hg) (by rw[lD];omega)
  | none=>
   simp only[cF,bS]
   exact fin ([],0,0) v.2 0 φCh hlen
theorem φCr (d:φ1) (hd:dl 1048577 d):ψe.f d=some (φ2C d):=by
 have hlm:=φ1L hd (by omega)
 unfold ψe.f φ2C
 rw[φ5Q d (by have:=hd.1;omega),bS,φ4m d hlm,bS]
 cases h:φ3 d with
 | false=>rfl
 | true=>
  simp only[nZ,cF,κ8,if_false]
  obtain ⟨fs,cap,fuel,down⟩:=d
  cases hdn:down with
  | true=>rfl
  | false=>
   subst hdn
   simp only[cF,κ2,if_false]
   have hft:=φ4K (fs,cap,fuel,false) φi hlm
   have hft:ψQ.f (fs,cap,fuel,false) [108,105,118,101]=_:=hft
   rw[hft,bS]
   have htl:=φ5i h φi
   generalize ((fs,cap,fuel,false):φ1)=d at *
   generalize φ2 d φi=q at htl ⊢
   obtain ⟨t,b⟩:=q
   cases b with
   | false=>
    simp only[cF,if_true]
    obtain ⟨w,e1,e2⟩:=φKc d h
    simp only[e1,bS]
    unfold φ94
    rw[e2]
    generalize sPut (2,[1]) (φA (φU (φ0 1)) (φo φ19 d))=p
    obtain ⟨y,c⟩:=p
    by_cases c0:c=0
    ·subst c0;simp[φ9,told]
    ·have t1:(told c != 0)=true:=by rw[φ69];simpa using c0
     simp only[φ9,t1,cT]
     rw[if_pos c0]
   | true=>
    simp only[cT,κ8,if_false]
    obtain ⟨S,w,e1,e2⟩:=φJj d t h (by have:t.length≤100000:=htl;omega)
    rw[←e2]
    simp only[e1,bS]
    obtain ⟨y,c⟩:=w
    by_cases c0:c=0
    ·subst c0;simp
    ·have t1:(c != 0)=true:=by simpa using c0
     simp only[t1,cT]
     rw[if_pos c0]
theorem φEY:∀(r pre:List φF) (g:φ13),φ2W g→pre.length+r.length<10000000→φ2W (φl pre r g)
 | [],_,g,h,_=>h
 | p::r,pre,g,h,hl=>by
  unfold φl
  simp only[lC] at hl
  split
  ·exact h
  ·rename_i c
   exact φEY r (pre++[p]) _ (φCf h (by simpa using c) (by omega)) (by simp only[lA,κ9];omega)
theorem φF6 {g:φ13} {l:List φF} (h:φ2W g) (hl:l.length<10000000):(φ2A g l).1.length≤11000020:=by
 have:=φEY l [] g h (by simpa using hl)
 unfold φ2W at this
 unfold φ2A φ6u
 split
 ·show (φl [] l g).1.length≤_
  split at this<;>omega
 ·split at this<;>omega
noncomputable def φ4k (v:φP) (x:φ1) (e:Int) (g:φ13) (hin:Int):φ8×φ1×Int:=
 if g.2.2≠0 then (φ1T,x,3) else
 if (φo v x).2≠0 then (φ1T,(φo v x).1,told (φo v x).2) else
 ((v,g.1,w64 (g.2.1+1),e,hin),(φo v x).1,0)
theorem φD2 (v:φP) (d:φ1):φ4U v d=if (cutW v d).2≠0 then (φ1T,(cutW v d).1,told (cutW v d).2) else
  match φ38 (cutW v d).1 (v.2.getD 0 0) with
  | some g=>φ4k v (cutW v d).1 (cutN v d:Int) (φ2A g (φS (cutW v d).1 (v.2.drop 1))) (v.2.getD 0 0)
  | none=>φ4k v (cutW v d).1 (cutN v d:Int) (φ2A ([],0,0) (φS (cutW v d).1 v.2)) 0:=by
 unfold φ4U
 by_cases c:(cutW v d).2≠0
 ·rw[if_pos c,if_pos c]
 ·rw[if_neg c,if_neg c]
  simp only
  cases φ38 (cutW v d).1 (v.2.getD 0 0)<;>rfl
theorem φGX {v:φP} {x:φ1} (e:Int) (g:φ13) (hin:Int) (h:φ3 x=true) (hl:v.2.length≤60) (hg:g.1.length≤11000020) :
  φ3 (φ4k v x e g hin).2.1=true∧(φ4k v x e g hin).1.1.2.length≤60∧(φ4k v x e g hin).1.2.1.length≤11000020:=by
 unfold φ4k
 have hs:=φ9I h v
 split
 ·exact ⟨h,by simp,by simp⟩
 split
 ·exact ⟨hs,by simp,by simp⟩
 exact ⟨hs,hl,hg⟩
theorem φLW {d:φ1} (h:φ3 d=true):φ3 (φ2C d).2.1=true∧(φ2C d).1.1.2.length≤60∧(φ2C d).1.2.1.length≤11000020:=by
 unfold φ2C
 rw[if_neg (by rw[h];simp)]
 split
 ·exact ⟨h,by simp,by simp⟩
 split
 ·unfold φ94
  have h1:φ3 (sPut (2,[1]) (φA (φU (φ0 1)) (φo φ19 d))).1=true:=φ3z (φ1j (φ9I h φ19) fun k=>φ31 k _) _
  simp only
  split
  ·exact ⟨h1,by simp,by simp⟩
  ·exact ⟨h1,by simp,by simp⟩
 split
 ·exact ⟨h,by simp,by simp⟩
 rename_i hv
 split
 ·exact ⟨h,by simp,by simp⟩
 rcases φCU (φ2 d φi).1 with ⟨e,_⟩ | ⟨v,e,hlv⟩
 ·rw[e] at hv;simp at hv
 rw[e]
 show φ3 (φ4U v d).2.1=true∧(φ4U v d).1.1.2.length≤60∧(φ4U v d).1.2.1.length≤11000020
 have hlen:=φ8H hlv.1
 have hd1:=φFu (v:=v) h
 rw[φD2]
 split
 ·exact ⟨hd1,by simp,by simp⟩
 cases hg:φ38 (cutW v d).1 (v.2.getD 0 0) with
 | some g=>exact φGX _ _ _ hd1 hlen (φF6 (φFG hg) (φBY hd1 (by rw[lD];omega)))
 | none=>exact φGX _ _ _ hd1 hlen (φF6 φCh (φBY hd1 hlen))
theorem φKr:φ0 1=[115,101,103,49]:=by
 unfold φ0 φ23
 rw[if_pos (by decide)]
 show _++Lib.decDigits 1=_
 rw[Lib.decDigits_one (by decide)]
 rfl
theorem φI9:(φt (2,[1])).length=8:=by
 unfold φt
 rw[if_neg (by decide)]
 have e2:varT 2=[2]:=by rw[show (2:Int)=((2:Nat):Int) from rfl,φ54 2 (by decide),φ5F (by decide)];rfl
 have e1:varT 1=[1]:=by rw[show (1:Int)=((1:Nat):Int) from rfl,φ54 1 (by decide),φ5F (by decide)];rfl
 have e:varT (2,[1]).1++varT (((2,[1]):φP).2.length:Int)++(((2,[1]):φP).2.map varT).flatten=[2,1,1]:=by
  show varT 2++varT 1++(varT 1++[])=_
  rw[e2,e1];rfl
 rw[e]
 obtain ⟨h1,h2⟩:=φ8q (t:=[2,1,1]) (by decide)
 rw[h1,lA,h2,lA,φ5F (by decide)]
 rfl
theorem φ5R {d:φ1} {c:Int} (h:φ3 d=true) (hf:d.2=(c,-1,false)) (act:List φ6→Int×List φ6):φT d act=(((act d.1).2,c,-1,false),(act d.1).1):=by
 obtain ⟨l,t⟩:=d
 simp only at hf
 subst hf
 unfold φT tick
 rw[if_neg (by rw[h];simp),if_neg (by simp)]
 simp
def dNew (n:Nat):φ1:=([(φi,φt (2,[1]),8),(φ0 1,[],0)],(n:Int),-1,false)
abbrev d0N (n:Nat):φ1:=([],(n:Int),-1,false)
theorem φId (n:Nat) (h:n≤100000):∃y,φ3 y=true∧sPut (2,[1]) (φA (φU (φ0 1)) (φo φ19 (d0N n)))=if n<8 then (y,2) else (dNew n,0):=by
 have k0:φ3 (d0N n)=true:=φ6t (n:Int) (by omega)
 have hsw:φo φ19 (d0N n)=(d0N n,0):=by
  unfold φo φ35
  rw[if_neg (by rw[k0];simp)];rfl
 have hL:=φI9
 unfold dNew sPut φ1Y
 generalize φt (2,[1])=L at hL ⊢
 rw[hsw,φ2H,φKr]
 -- the segment
 have s1:φU [115,101,103,49] (d0N n)=(([([115,101,103,49],[],0)],(n:Int),-1,false),0):=by
  show φT _ _=_
  rw[φ5R k0 rfl]
  have:φ2b [115,101,103,49] []=(0,[([115,101,103,49],[],0)]):=by decide
  rw[this]
 have k1:=φ31 k0 [115,101,103,49]
 rw[s1] at k1 ⊢
 have k1:φ3 (([([115,101,103,49],[],0)],(n:Int),-1,false):φ1)=true:=k1
 rw[φ2H]
 have s2:φC [116,101,109,112] (([([115,101,103,49],[],0)],(n:Int),-1,false):φ1)=(([([115,101,103,49],[],0)],(n:Int),-1,false),0):=by
  unfold φC
  rw[if_neg (show ¬φ1e ([([115,101,103,49],[],0)]:List φ6) [116,101,109,112]≥0 by decide)]
 rw[s2,φ2H]
 have s3:φU [116,101,109,112] (([([115,101,103,49],[],0)],(n:Int),-1,false):φ1)=(([([115,101,103,49],[],0),([116,101,109,112],[],0)],(n:Int),-1,false),0):=by
  show φT _ _=_
  rw[φ5R k1 rfl]
  have:φ2b [116,101,109,112] [([115,101,103,49],[],0)]=(0,[([115,101,103,49],[],0),([116,101,109,112],[],0)]):=by decide
  rw[this]
 have k2:=φ31 k1 [116,101,109,112]
 rw[s3] at k2 ⊢
 have k2:φ3 (([([115,101,103,49],[],0),([116,101,109,112],[],0)],(n:Int),-1,false):φ1)=true:=k2
 rw[φ2H]
 have k3:=φ3G k2 [116,101,109,112] L
 by_cases c:n<8
 ·simp only[if_pos c]
  have s4:φO [116,101,109,112] L (([([115,101,103,49],[],0),([116,101,109,112],[],0)],(n:Int),-1,false):φ1)=(([([115,101,103,49],[],0),([116,101,109,112],[],0)],(n:Int),-1,false),2):=by
   show φT _ _=_
   rw[φ5R k2 rfl]
   unfold φ2X
   have:([([115,101,103,49],[],0),([116,101,109,112],[],0)]:List φ6).findIdx? (fun f=>f.1==[116,101,109,112])=some 1:=by decide
   rw[this]
   have hu:φJ ([([115,101,103,49],[],0),([116,101,109,112],[],0)]:List φ6)=0:=by decide
   simp only[hu]
   rw[if_pos (by omega)]
  rw[s4,φ2Z (show (2:Int)≠0 by decide),φ2Z (show (2:Int)≠0 by decide)]
  exact ⟨_,k2,rfl⟩
 ·simp only[if_neg c]
  have s4:φO [116,101,109,112] L (([([115,101,103,49],[],0),([116,101,109,112],[],0)],(n:Int),-1,false):φ1)=(([([115,101,103,49],[],0),([116,101,109,112],L,0)],(n:Int),-1,false),0):=by
   show φT _ _=_
   rw[φ5R k2 rfl]
   unfold φ2X
   have:([([115,101,103,49],[],0),([116,101,109,112],[],0)]:List φ6).findIdx? (fun f=>f.1==[116,101,109,112])=some 1:=by decide
   rw[this]
   have hu:φJ ([([115,101,103,49],[],0),([116,101,109,112],[],0)]:List φ6)=0:=by decide
   simp only[hu]
   rw[if_neg (by omega)]
   rfl
  rw[s4] at k3 ⊢
  have k3:φ3 (([([115,101,103,49],[],0),([116,101,109,112],L,0)],(n:Int),-1,false):φ1)=true:=k3
  rw[φ2H]
  have k4:=φ3J k3 [116,101,109,112]
  have s5:φI [116,101,109,112] (([([115,101,103,49],[],0),([116,101,109,112],L,0)],(n:Int),-1,false):φ1)=(([([115,101,103,49],[],0),([116,101,109,112],L,8)],(n:Int),-1,false),0):=by
   show φT _ _=_
   rw[φ5R k3 rfl]
   unfold φ2R
   have:([([115,101,103,49],[],0),([116,101,109,112],L,0)]:List φ6).findIdx? (fun f=>f.1==[116,101,109,112])=some 1:=rfl
   rw[this]
   show ((([([115,101,103,49],[],0),([116,101,109,112],L,(L.length:Int))]:List φ6),(n:Int),-1,false),(0:Int))=_
   rw[hL];rfl
  rw[s5] at k4 ⊢
  have k4:φ3 (([([115,101,103,49],[],0),([116,101,109,112],L,8)],(n:Int),-1,false):φ1)=true:=k4
  rw[φ2H]
  have s6:φ36 [116,101,109,112] [108,105,118,101] (([([115,101,103,49],[],0),([116,101,109,112],L,8)],(n:Int),-1,false):φ1)=(([([108,105,118,101],L,8),([115,101,103,49],[],0)],(n:Int),-1,false),0):=by
   show φT _ _=_
   rw[φ5R k4 rfl]
   unfold φ2S
   have:([([115,101,103,49],[],0),([116,101,109,112],L,8)]:List φ6).findIdx? (fun f=>f.1==[116,101,109,112])=some 1:=rfl
   rw[this,if_neg (by decide)]
   rfl
  rw[s6]
  exact ⟨_,k4,rfl⟩
theorem φDA (n:Nat) (h:n≤100000):∃y,φ3 y=true∧φ2C (d0N n)=if n<8 then (φ1T,y,2) else (((2,[1]),[],1,0,0),dNew n,0):=by
 have k0:φ3 (d0N n)=true:=φ6t (n:Int) (by omega)
 obtain ⟨y,hy,e⟩:=φId n h
 refine ⟨y,hy,?_⟩
 have ht:φ2 (d0N n) φi=([],false):=φ8E fun f hf=>by simp at hf
 unfold φ2C
 rw[if_neg (by rw[k0];simp),if_neg (by simp),if_pos (by rw[ht])]
 unfold φ94
 rw[e]
 split
 ·rename_i c;rfl
 ·rename_i c;rfl
theorem φFN (n:Nat) (h:n≤100000) (h8:8≤n):φ3 (dNew n)=true:=by
 have k0:φ3 (d0N n)=true:=φ6t (n:Int) (by omega)
 obtain ⟨y,hy,e⟩:=φDA n h
 rw[if_neg (by omega)] at e
 have:=(φLW k0).1
 rw[e] at this
 exact this
theorem φFm (n:Nat) (h:n≤100000) (h8:8≤n):φ2 (dNew n) φi=(φt (2,[1]),true)∧φ2 (dNew n) (φ0 1)=([],true)∧∀m,m≠φi→m≠φ0 1→φ2 (dNew n) m=([],false):=by
 have hk:=φFN n h h8
 refine ⟨φ34 hk (f:=(φi,φt (2,[1]),8)) (by simp[dNew]),φ34 hk (f:=(φ0 1,[],0)) (by simp[dNew]),fun m h1 h2=>φ8E fun f hf=>?_⟩
 simp only[dNew,mc,List.not_mem_nil,or_false] at hf
 rcases hf with rfl | rfl
 ·exact Ne.symm h1
 ·exact Ne.symm h2
theorem φK4 {s:List UInt8} {v:φP} (h:φ33 s v) (hl:s.length<1000000000):φ2t s=(v,true):=by
 have h1:=φC7 h
 rw[φIm s hl] at h1
 exact Option.some.inj h1
theorem φ6y (i:Int):φK i≠φi:=by
 unfold φK φ23
 split
 ·intro e
  have:=congrArg (fun l=>l.getD 0 0) e
  simp[φi] at this
 ·simp[φi]
theorem φLT (i:Int):φK i≠φ2J:=by
 unfold φK φ23
 split
 ·intro e
  have:=congrArg (fun l=>l.getD 0 0) e
  simp[φ2J] at this
 ·simp[φ2J]
theorem φMQ:¬∃id,φ3M φi id:=by
 rintro ⟨id,_,e | e⟩
 ·exact φ2Q id e.symm
 ·exact φ6y id e.symm
theorem φIp (n:Nat) (h:n≤100000) (h8:8≤n):φh ((2,[1]),[],1,0,0) (dNew n)=true:=by
 obtain ⟨t1,t2,t3⟩:=φFm n h h8
 refine φr.2 ⟨φFN n h h8,by decide,by decide,by decide,?_,fun e he=>by simp at he⟩
 refine (φ20 _).2 ⟨fun id hid=>?_,fun _=>?_⟩
 ·have hid:id=1:=by simpa using hid
  subst hid
  rw[t2];exact ⟨rfl,φGE⟩
 ·show (0:Int)=((φ2 _ (φ0 1)).1.length:Int)
  rw[t2];rfl
theorem φJf {v:φP} {x:φ1} (h:φ3 x=true) {n:List UInt8} (hn:n∈φ35 x v):(∃id,φ3M n id∧id ∉ v.2)∨n=φ2J:=by
 unfold φ35 at hn
 rw[if_neg (by rw[h];simp)] at hn
 obtain ⟨f,hf,rfl⟩:=mM.1 hn
 have ho:=(List.mem_filter.1 hf).2
 unfold φ4O at ho
 rw[κV,bA] at ho
 rcases ho with ⟨h1,h2⟩ | h1
 ·left
  refine ⟨(idOf f.1).1,φIN (by rw[←h1]),fun hi=>?_⟩
  have:(v.2.any fun i=>i==(idOf f.1).1)=true:=List.any_eq_true.2 ⟨_,hi,by simp⟩
  rw[this] at h2;simp at h2
 ·right;simpa using h1
theorem φGe {v:φP} {x:φ1} (h:φ3 x=true) {n:List UInt8} (hn:∀id,φ3M n id→id∈v.2) (ht:n≠φ2J):φ2 (φo v x).1 n=φ2 x n:=by
 refine φ99 (φ35 x v) (w:=(x,0)) h fun m hm e=>?_
 subst e
 rcases φJf h hm with ⟨id,hid,hno⟩ | e
 ·exact hno (hn id hid)
 ·exact ht e
theorem φIe {id:Int} (h:1≤id∧id≤100000):φ3M (φ0 id) id:=⟨h,.inl rfl⟩
theorem φBF {v:φP} (h:φk v=true) {id:Int} (hi:id∈v.2):1≤id∧id≤100000∧id<v.1:=by
 obtain ⟨k1,k2,k3,k4⟩:=(φ15 v).1 h
 rw[φG (by omega) (by omega)] at k1
 have:=φ3e _ _ k1 id hi
 omega
theorem φAp {A B σ:Type} {step:(A→Option B)→A→Option B} (st:Nat→σ→A) (N:Nat) (Inv:Nat→σ→Prop) (Post:B→Prop)
  (hz:∀rec s,Inv N s→∃b,step rec (st N s)=some b∧Post b)
  (hs:∀rec n s,n<N→Inv n s→∃s',Inv (n+1) s'∧step rec (st n s)=rec (st (n+1) s')) (s:σ) (hi:Inv 0 s) (hn:N<2 ^ 62):∃b,lp step (st 0 s)=some b∧Post b:=by
 have key:=φ9L (step:=step) (fun k (s:σ)=>st (N - k) s) (fun k s=>Inv (N - k) s∧k≤N) Post
  (fun rec s hi=>hz rec s hi.1)
  (fun rec k s hi=>by
   obtain ⟨h1,h2⟩:=hi
   have e:N - (k+1)+1=N - k:=by omega
   obtain ⟨s',h3,h4⟩:=hs rec (N - (k+1)) s (by omega) h1
   rw[e] at h3 h4
   exact ⟨s',⟨h3,by omega⟩,h4⟩)
  N s ⟨by rw[Nat.sub_self];exact hi,κB _⟩ hn
 simpa using key
def Free (d:φ1):Prop:=d.2.2=(-1,false)
theorem φ1H {d:φ1} {act:List φ6→Int×List φ6} (h:Free d):Free (φT d act).1:=by
 unfold φT
 split
 ·exact h
 ·split
  ·rename_i c
   rw[show d.2.2=(-1,false) from h] at c
   simp at c
  ·show (tick d).2.2=_
   unfold tick
   rw[if_neg]
   ·exact h
   ·rw[show d.2.2=(-1,false) from h];simp
theorem φL1 {d:φ1} {act:List φ6→Int×List φ6} (h:(φT d act).2=0):d.2.2.2=false:=by
 unfold φT at h
 split at h
 ·simp at h
 split at h
 ·simp at h
 rename_i c
 cases hd:d.2.2.2 with
 | false=>rfl
 | true=>exact absurd (.inl hd) c
theorem φ8m {d:φ1} {act:List φ6→Int×List φ6} (h:d.2.2.2=true):(φT d act).1.2.2.2=true:=by
 unfold φT
 split
 ·exact h
 ·rw[if_pos (.inl h)]
theorem φ4z {P:φ1→Prop} (hP:∀(d:φ1) (act:List φ6→Int×List φ6),P d→P (φT d act).1) (n:List UInt8) {d:φ1} (h:P d):P (φC n d).1:=by
 unfold φC
 split
 ·exact hP d _ h
 ·exact h
theorem φ3f {P:φ1→Prop} (hP:∀(d:φ1) (act:List φ6→Int×List φ6),P d→P (φT d act).1) {op:φ1→φ1×Int} (ho:∀d,P d→P (op d).1) {w:φD} (h:P w.1):P (φA op w).1:=by
 unfold φA
 split
 ·exact ho _ h
 ·exact h
theorem φ7y {P:φ1→Prop} (hP:∀(d:φ1) (act:List φ6→Int×List φ6),P d→P (φT d act).1) (n:List UInt8) {w:φD} (h:P w.1):P (sNew n w).1:=
 φ3f hP (fun d k=>hP d _ k) (φ3f hP (fun d k=>φ4z hP n k) h)
theorem φ8i {P:φ1→Prop} (hP:∀(d:φ1) (act:List φ6→Int×List φ6),P d→P (φT d act).1) (n t:List UInt8) {w:φD} (h:P w.1):P (φ1Y n t w).1:=
 φ3f hP (fun d k=>hP d _ k) (φ3f hP (fun d k=>hP d _ k) (φ3f hP (fun d k=>hP d _ k) (φ3f hP (fun d k=>φ4z hP n k) h)))
theorem φ90 {P:φ1→Prop} (hP:∀(d:φ1) (act:List φ6→Int×List φ6),P d→P (φT d act).1) (v:φP) {w:φD} (h:P w.1):P (sPut v w).1:=
 φ3f hP (fun d k=>hP d _ k) (φ8i hP _ _ h)
theorem φFF {P:φ1→Prop} (hP:∀(d:φ1) (act:List φ6→Int×List φ6),P d→P (φT d act).1) (n:List UInt8):∀(recs:List RecT) {w:φD},P w.1→P (sApp n recs w).1
 | [],w,h=>h
 | r::recs,w,h=>φFF hP n recs (w:=φA (φO n (frame (φ7 r))) w) (φ3f hP (fun d k=>hP d _ k) h)
theorem φ9W {P:φ1→Prop} (hP:∀(d:φ1) (act:List φ6→Int×List φ6),P d→P (φT d act).1) (m:Int) (recs:List RecT) {w:φD} (h:P w.1):P (sWM m recs w).1:=
 φ3f hP (fun d k=>hP d _ k) (φFF hP _ recs (φ7y hP _ h))
theorem φ5Z {P:φ1→Prop} (hP:∀(d:φ1) (act:List φ6→Int×List φ6),P d→P (φT d act).1):∀(names:List (List UInt8)) {w:φD},P w.1→P (φj names w).1
 | [],w,h=>h
 | n::names,w,h=>φ5Z hP names (w:=φA (φC n) w) (φ3f hP (fun d k=>φ4z hP n k) h)
theorem φCF {P:φ1→Prop} (hP:∀(d:φ1) (act:List φ6→Int×List φ6),P d→P (φT d act).1):∀(ids:List Int) {w:φD},P w.1→P (sOld ids w).1
 | [],w,h=>h
 | i::ids,w,h=>φCF hP ids (w:=φj [φ0 i,φK i] w) (φ5Z hP _ h)
theorem φAy {P:φ1→Prop} (hP:∀(d:φ1) (act:List φ6→Int×List φ6),P d→P (φT d act).1) (m:Int) {d:φ1} (h:P d):P (φ1p m d).1:=by
 unfold φ1p
 simp only
 have:=φ8i hP (φK m) (φ1c (φ16 m (φ2 d (φ0 m)).1).1) (w:=(d,0)) h
 split
 ·exact φ4z hP _ this
 ·exact this
theorem φ96 {n t:List UInt8} {w:φD} (h:(φ1Y n t w).2=0):w.2=0∧φ2 (φ1Y n t w).1 n=(t,true):=by
 unfold φ1Y at h ⊢
 obtain ⟨h1,h2,h3⟩:=φ47 (op:=φI n) h
 obtain ⟨h4,h5,h6⟩:=φ47 (op:=φO n t) h1
 have h4:(sNew n w).2=0:=h4
 obtain ⟨h7,h8⟩:=φ6m h4
 obtain ⟨a1,a2⟩:=φ5k h5
 have a2:φ2 (φO n t (sNew n w).1).1 n=((φ2 (sNew n w).1 n).1++t,true):=a2
 rw[h3,h6]
 obtain ⟨k,_,_⟩:=φ6B h2
 rw[h6] at k
 refine ⟨h7,?_⟩
 rw[φ2a k n n]
 show φ2 (φO n t (sNew n w).1).1 n=_
 rw[a2,h8];rfl
theorem φDt {v:φP} {w:φD} (h:(sPut v w).2=0):w.2=0∧φ2 (sPut v w).1 φi=(φt v,true):=by
 unfold sPut at h ⊢
 obtain ⟨h1,h2,h3⟩:=φ47 h
 obtain ⟨h4,h5⟩:=φ96 h1
 refine ⟨h4,?_⟩
 rw[h3]
 show φ2 (φ36 [116,101,109,112] [108,105,118,101] (φ1Y [116,101,109,112] (φt v) w).1).1 φi=_
 rw[φLk h2,h5]
theorem φIk {s:φ8} {d:φ1} (l:List φ12) (h:φ3 d=true) (hc:(φ1A s d l).2.2=0):∃w1 w2:φD,
  w1=sNew (φ0 (s.1.1+1)) (sWM s.1.1 (φW l (s.2.2.1 - 1)) (d,0))∧w1.2=0∧φ3 w1.1=true∧w2=φ1p s.1.1 w1.1∧w2.2=0∧φ3 w2.1=true ∧
  (sPut (s.1.1+2,[s.1.1,s.1.1+1]) w2).2=0∧(φ1A s d l).2.1=(sOld s.1.2 ((sPut (s.1.1+2,[s.1.1,s.1.1+1]) w2).1,0)).1:=by
 have g1:=φ6L s.1.1 (φW l (s.2.2.1 - 1)) (w:=(d,0)) h
 have g2:=φ3t g1 (φ0 (s.1.1+1))
 unfold φ1A at hc ⊢
 simp only at hc ⊢
 generalize hw1:sNew (φ0 (s.1.1+1)) (sWM s.1.1 (φW l (s.2.2.1 - 1)) (d,0))=w1 at *
 have g3:φ3 (φq s.1.1 w1).1=true:=by
  unfold φq;split
  ·exact g2
  ·exact φ6P _ g2
 by_cases z:(if (φq s.1.1 w1).2=0 then φ9 (sPut (s.1.1+2,[s.1.1,s.1.1+1]) (φq s.1.1 w1)) else φ9 (φq s.1.1 w1)).2=0
 rotate_left
 ·rw[if_pos z] at hc
  exfalso
  revert hc
  generalize (if (φq s.1.1 w1).2=0 then φ9 (sPut (s.1.1+2,[s.1.1,s.1.1+1]) (φq s.1.1 w1)) else φ9 (φq s.1.1 w1))=w3 at *
  unfold φ1f
  split
  ·split
   ·simp
   ·rename_i c4;exact c4
  ·exact z
 have z2:(φq s.1.1 w1).2=0:=by
  by_cases c:(φq s.1.1 w1).2=0
  ·exact c
  ·rw[if_neg c] at z;exact (φ1R _).1 z
 rw[if_pos z2] at z hc
 rw[if_pos z2]
 have z3:(sPut (s.1.1+2,[s.1.1,s.1.1+1]) (φq s.1.1 w1)).2=0:=(φ1R _).1 z
 have z1:w1.2=0:=by
  unfold φq at z2
  split at z2
  ·exact z2
  ·rename_i c;simpa using c
 have zh:φq s.1.1 w1=φ1p s.1.1 w1.1:=by
  unfold φq;rw[if_neg (by simpa using z1)]
 rw[if_neg (by simpa using z)]
 rw[zh] at z2 z3 g3 ⊢
 exact ⟨w1,φ1p s.1.1 w1.1,rfl,z1,g2,rfl,z2,g3,z3,rfl⟩
structure MergedF (s:φ8) (d:φ1) (l:List φ12) (S:φ8) (y:φ1):Prop extends Merged s d l S y where
 liv:φ2 y φi=(φt (s.1.1+2,[s.1.1,s.1.1+1]),true)
 hin:(φ2 y (φK s.1.1)).2=false∨φ2 y (φK s.1.1)=(φ1c (φ16 s.1.1 (txt (φW l (s.2.2.1 - 1)))).1,true)
 fre:0 > d.2.2.1→Free y
theorem φHy {s:φ8} {d:φ1} (l:List φ12) (h:φ3 d=true) (hv:φk s.1=true) (h2:s.1.1+2≤100000) (hc:(φ1A s d l).2.2=0):MergedF s d l (φ1A s d l).1 (φ1A s d l).2.1:=by
 have hM:=φDZ l h hv h2 hc
 refine ⟨hM,?_,?_,?_⟩
 all_goals
  obtain ⟨w1,w2,hw1,z1,g1,hw2,z2,g2,z3,hy⟩:=φIk l h hc
  obtain ⟨k1,k2,k3,k4⟩:=(φ15 s.1).1 hv
  rw[φG (by omega) (by omega)] at k1
  have hids:=φ3e _ _ k1
  have g3:φ3 (sPut (s.1.1+2,[s.1.1,s.1.1+1]) w2).1=true:=φ3z (v:=(s.1.1+2,[s.1.1,s.1.1+1])) g2
 ·rw[hy,φ5y s.1.2 (w:=((sPut (s.1.1+2,[s.1.1,s.1.1+1]) w2).1,0)) g3 (fun id hid=>⟨(φ2Q id).symm,(φ6y id).symm⟩)]
  exact (φDt z3).2
 ·have e1:∀n,n≠φ2J→n≠φi→(∀id∈s.1.2,n≠φ0 id∧n≠φK id)→φ2 (φ1A s d l).2.1 n=φ2 w2.1 n:=fun n q1 q2 q3=>by
   rw[hy,φ5y s.1.2 (w:=((sPut (s.1.1+2,[s.1.1,s.1.1+1]) w2).1,0)) g3 q3]
   exact φ7O g2 _ q1 q2
  have e2:φ2 (φ1A s d l).2.1 (φK s.1.1)=φ2 w2.1 (φK s.1.1):=e1 _ (φLT _) (φ6y _) fun id hid=>by
   have:=hids id hid
   refine ⟨fun e=>φ3y id s.1.1 (by omega) e.symm,fun e=>?_⟩
   have:=φFi (by omega) (by omega) e
   omega
  have hf:=φ4Q (w:=(w1.1,0)) g1 (φK s.1.1) (φ1c (φ16 s.1.1 (φ2 w1.1 (φ0 s.1.1)).1).1)
  have e3:φ2 (φ1A s d l).2.1 (φ0 s.1.1)=φ2 w1.1 (φ0 s.1.1):=by
   rw[e1 _ (φ49 _) (φ2Q _) fun id hid=>by
    have:=hids id hid
    refine ⟨fun e=>?_,φ3y _ _ (by omega)⟩
    have:=φ3r (by omega) (by omega) e
    omega]
   rw[hw2]
   unfold φ1p
   simp only
   split
   ·rw[φ58 hf (φ3y _ _ (by omega)),φ4g (w:=(w1.1,0)) g1 (φ3y _ _ (by omega))]
   ·rw[φ4g (w:=(w1.1,0)) g1 (φ3y _ _ (by omega))]
  rw[hM.one] at e3
  rw[e2]
  rw[←e3] at hf
  rw[hw2] at z2 ⊢
  unfold φ1p at z2 ⊢
  rw[←e3] at z2 ⊢
  simp only at z2 hf ⊢
  split
  ·rename_i c
   rw[if_pos c] at z2
   exact .inl (φAa z2)
  ·rename_i c
   rw[if_neg c] at z2
   exact .inr (φ96 z2).2
 ·intro hfu
  have hup:d.2.2.2=false:=by
   cases hd:d.2.2.2 with
   | false=>rfl
   | true=>
    have q1:w1.1.2.2.2=true:=by rw[hw1];exact φ7y (P:=fun d=>d.2.2.2=true) (fun d act k=>φ8m k) _ (φ9W (P:=fun d=>d.2.2.2=true) (fun d act k=>φ8m k) _ _ hd)
    have q2:w2.1.2.2.2=true:=by rw[hw2];exact φAy (P:=fun d=>d.2.2.2=true) (fun d act k=>φ8m k) _ q1
    have q3:=φ8i (P:=fun d=>d.2.2.2=true) (fun d act k=>φ8m k) [116,101,109,112] (φt (s.1.1+2,[s.1.1,s.1.1+1])) (w:=w2) q2
    unfold sPut at z3
    have:=φL1 (φ47 z3).2.1
    rw[q3] at this
    simp at this
  have hfr:Free d:=by
   have:=(φ9J h).1
   show d.2.2=(-1,false)
   rw[show d.2.2=(d.2.2.1,d.2.2.2) from rfl,hup]
   have:d.2.2.1=-1:=by omega
   rw[this]
  have q1:Free w1.1:=by rw[hw1];exact φ7y (P:=Free) (fun d act k=>φ1H k) _ (φ9W (P:=Free) (fun d act k=>φ1H k) _ _ hfr)
  have q2:Free w2.1:=by rw[hw2];exact φAy (P:=Free) (fun d act k=>φ1H k) _ q1
  rw[hy]
  exact φCF (P:=Free) (fun d act k=>φ1H k) s.1.2 (φ90 (P:=Free) (fun d act k=>φ1H k) _ q2)
theorem φLP {α:Type} {l:List (List UInt8×α)} {p:List UInt8×α} (h:∀x∈l,Op.bytesLess x.1 p.1=true):insB l p=l++[p]:=by
 have e:l.takeWhile (fun x=>leK x.1 p.1)=l:=by
  induction l with
  | nil=>rfl
  | cons x l ih=>
   have h1:=h x (by simp)
   rw[List.takeWhile_cons_of_pos (by unfold leK;simp[h1]),ih fun y hy=>h y (by simp[hy])]
 unfold insB
 rw[e]
 show l.take l.length++[p]++l.drop l.length=_
 rw[κb,List.drop_length,κ4]
theorem φMH {α:Type} {l:List (List UInt8×α)} {k:List UInt8} (h:∀x∈l,Op.bytesLess x.1 k=true):φ1E l k=l:=by
 unfold φ1E
 refine List.filter_eq_self.2 fun x hx=>?_
 have:=φ6z (h x hx)
 simpa using this
theorem φAB (id:Int):∀(l:List φ1i) (dir:List φB),(∀x∈l,x.2.2.1=4)→srt (dir++l.map (entS id))→φ1q dir (l.map fun x=>((id,x):φF))=dir++l.map (entS id)
 | [],dir,_,_=>by simp[φ1q]
 | x::l,dir,h4,hs=>by
  have hx:=h4 x (by simp)
  have hlt:∀y∈dir,Op.bytesLess y.1 (entS id x).1=true:=fun y hy=>by
   have:=(List.pairwise_append.1 hs).2.2 y hy (entS id x) (by simp)
   exact this
  have hp:putD dir ((id,x):φF)=dir++[entS id x]:=by
   unfold putD
   rw[if_neg (by rw[hx];decide)]
   show insB (φ1E dir (entS id x).1) (entS id x)=_
   rw[φMH hlt,φLP hlt]
  show φ1q (putD dir (id,x)) (l.map fun x=>((id,x):φF))=_
  rw[hp,φAB id l _ (fun y hy=>h4 y (by simp[hy])) (by simpa using hs)]
  simp
theorem φAz (id b:Int):∀(l:List φ1i) (acc:List φF),(∀x∈l,x.2.2.1=4)→(l.map fun x=>((id,x):φF)).foldl (φ1Z 5 b) acc=acc++l.map fun x=>((id,x):φF)
 | [],acc,_=>by simp
 | x::l,acc,h=>by
  have hx:=h x (by simp)
  have e:φ1Z 5 b acc ((id,x):φF)=acc++[((id,x):φF)]:=by
   unfold φ1Z
   rw[if_neg (by simp),if_neg (by rw[hx];decide),if_pos (.inr ⟨rfl,hx⟩)]
  rw[κ5,κN,e,φAz id b l _ fun y hy=>h y (by simp[hy])]
  simp
theorem φFS (id b:Int):∀(l:List φ1i) (acc:List φF),(∀x∈l,x.2.2.1=4∨x.2.2.1=5)→(l.map fun x=>((id,x):φF)).foldl (φ1Z 3 b) acc=acc
 | [],acc,_=>by simp
 | x::l,acc,h=>by
  have hx:=h x (by simp)
  have e:φ1Z 3 b acc ((id,x):φF)=acc:=by
   unfold φ1Z
   split
   ·rfl
   ·rw[if_neg (by rcases hx with e | e<;>rw[e]<;>decide),if_neg (by rcases hx with e | e<;>rw[e]<;>simp)]
  rw[κ5,κN,e,φFS id b l _ fun y hy=>h y (by simp[hy])]
theorem φ5K:∀(A B pre:List φF) (g:φ13),(φl pre A g).2.2=0→φl pre (A++B) g=φl (pre++A) B (φl pre A g)
 | [],B,pre,g,h=>by simp[φl]
 | p::A,B,pre,g,h=>by
  rw[φl] at h
  rw[κF,φl,φl]
  by_cases c:g.2.2≠0
  ·rw[if_pos c] at h;exact absurd h c
  rw[if_neg c] at h ⊢
  rw[if_neg c,φ5K A B _ _ h]
  simp
theorem φE9 {A:List φF} (hA:∀k b,k=3∨k=5→ownL k b A=[]):∀(B pre:List φF) (g:φ13),φl (A++pre) B g=φl pre B g
 | [],pre,g=>rfl
 | p::B,pre,g=>by
  rw[φl,φl]
  by_cases c:g.2.2≠0
  ·rw[if_pos c,if_pos c]
  rw[if_neg c,if_neg c,aA,φE9 hA B]
  congr 1
  have e:∀k b,k=3∨k=5→ownL k b (A++pre)=ownL k b pre:=fun k b hk=>by
   have:=hA k b hk
   unfold ownL at *
   rw[κW,this]
  unfold φ1X
  simp only
  by_cases c2:p.2.2.2.1=3∨p.2.2.2.1=5
  ·rw[if_pos c2,if_pos c2,e _ _ c2]
  ·rw[if_neg c2,if_neg c2]
theorem φBn (id mark:Int):∀(l:List φ1i) (pre:List φF) (z:Int),(∀x∈l,x.2.2.1=4∧x.2.2.2.1≤mark)→z≤mark→∃z',z'≤mark∧φl pre (l.map fun x=>((id,x):φF)) ([],z,0)=([],z',0)
 | [],pre,z,_,hz=>⟨z,hz,rfl⟩
 | x::l,pre,z,h,hz=>by
  obtain ⟨h4,hb⟩:=h x (by simp)
  rw[κ5,φl,if_neg (by simp)]
  have e:φ1X pre ((id,x):φF) ([],z,0)=([],if x.2.2.2.1 > z then x.2.2.2.1 else z,0):=by
   unfold φ1X
   simp only
   rw[if_neg (by rw[h4];decide)]
  rw[e]
  refine φBn id mark l _ _ (fun y hy=>h y (by simp[hy])) ?_
  split<;>omega
theorem φCR {mark:Int}:∀(l:List φ1i) (p:Option (List UInt8)),φ2V mark p l=true→∀x∈l,x.2.2.1=4∧x.2.2.2.1≤mark
 | [],_,_,x,hx=>by simp at hx
 | y::l,p,h,x,hx=>by
  simp only[φ2V,bA,beq_iff_eq,κM,decide_eq_false_iff_not] at h
  rcases mc.1 hx with rfl | hx
  ·exact ⟨h.1,by omega⟩
  ·exact φCR l _ h.2.2.2 x hx
theorem φFh {id:Int} {t:List UInt8} {h:φ1D} (k:φ16 id t=(h,true)):∃(l:List φ1i) (z:φ1i),(scan t).1=l++[z]∧z.2.2.1=5∧φ3I z.2.2 (l.map (·.2.2))=true∧(∀x∈l,x.2.2.1=4∧x.2.2.2.1≤z.2.2.2.1)∧h=((t.length:Int),z.2.2.2.1,l.map (entS id))∧(scan t).2=t.length∧(1≤id∧id≤100000):=by
 unfold φ16 at k
 simp only at k
 split at k
 ·simp at k
 rename_i c
 simp only[not_or,Bool.not_eq_false,ne_eq,Decidable.not_not] at c
 obtain ⟨c1,c2,c3,c4,c5,c6⟩:=c
 generalize (scan t).1=L at *
 have hl:L.length - 1<L.length:=by omega
 have hL:L=L.take (L.length - 1)++[L.getD (L.length - 1) φ28]:=by
  rw[φE hl]
  have:=κ6 hl
  rw[show L.length - 1+1=L.length by omega,κb] at this
  exact this
 simp only[Prod.mk.injEq,and_true] at k
 exact ⟨L.take (L.length - 1),L.getD (L.length - 1) φ28,hL,c4,c5,φCR _ _ c6,k.symm,c2,c3⟩
theorem φJ8 {id:Int} {t:List UInt8} {h:φ1D} (k:φ16 id t=(h,true)) (hd:φ1m h.2.2=true) (h0:0≤h.2.1) (B:List φF):φ2A ([],0,0) (((scan t).1.map fun x=>((id,x):φF))++B)=φ2A (h.2.2,h.2.1,0) B:=by
 obtain ⟨l,z,e,z5,hf,hk,hh,_,_⟩:=φFh k
 have hsrt:srt ([]++l.map (entS id)):=by have:=φ5Y hd;rw[hh] at this;simpa using this
 have hlen:(l.map (entS id)).length≤20:=by
  unfold φ1m at hd
  rw[hh] at hd
  simp only[bA,decide_eq_true_eq] at hd
  exact hd.2
 rw[hh] at h0
 have h0:0≤z.2.2.2.1:=h0
 rw[e,hh]
 -- over the segment itself
 obtain ⟨z',hz',eg⟩:=φBn id z.2.2.2.1 l [] 0 hk h0
 have e1:φl [] ((l++[z]).map fun x=>((id,x):φF)) ([],0,0)=(l.map (entS id),z.2.2.2.1,0):=by
  rw[mp,φ5K _ _ _ _ (by rw[eg]),eg,κ7,List.map_singleton,φl,if_neg (by simp)]
  have eo:ownL z.2.2.1 z.2.2.2.1 (l.map fun x=>((id,x):φF))=l.map fun x=>((id,x):φF):=by
   rw[z5];unfold ownL;rw[φAz id _ l [] fun x hx=>(hk x hx).1];rfl
  have ea:φ1q [] (l.map fun x=>((id,x):φF))=l.map (entS id):=by
   rw[φAB id l [] (fun x hx=>(hk x hx).1) hsrt];rfl
  have er:(l.map fun x=>((id,x):φF)).map (·.2.2.2)=l.map (·.2.2):=by rw[List.map_map];rfl
  have es:φ1X (l.map fun x=>((id,x):φF)) ((id,z):φF) ([],z',0)=(l.map (entS id),z.2.2.2.1,0):=by
   unfold φ1X
   simp only
   have el:(if z.2.2.2.1 > z' then z.2.2.2.1 else z')=z.2.2.2.1:=by split<;>omega
   rw[if_pos (.inr z5),eo,er,if_pos hf,ea,el]
   unfold φ4i
   rw[if_neg (Nat.not_lt.2 hlen)]
  rw[es];rfl
 have hA:∀k b,k=3∨k=5→ownL k b ((l++[z]).map fun x=>((id,x):φF))=[]:=fun k b hk2=>by
  rcases hk2 with rfl | rfl
  ·unfold ownL
   exact φFS id b (l++[z]) [] fun x hx=>by
    rcases mA.1 hx with hx | hx
    ·exact .inl (hk x hx).1
    ·rw[mZ.1 hx];exact .inr z5
  ·unfold ownL
   rw[mp,κW,List.map_singleton,κN,List.foldl_nil]
   unfold φ1Z
   rw[if_neg (by simp),if_pos z5]
 unfold φ2A
 rw[φ5K _ _ _ _ (by rw[e1]),e1]
 have:=φE9 hA B [] (l.map (entS id),z.2.2.2.1,0)
 rw[κ4] at this
 rw[κ7,this]
 unfold φ6u
 have eo:ownL 5 0 (((l++[z]).map fun x=>((id,x):φF))++B)=ownL 5 0 B:=by
  have:=hA 5 0 (.inr rfl)
  unfold ownL at *
  rw[κW,this]
 rw[eo]
theorem φ4e {d:φ1} {act:List φ6→Int×List φ6} (h:φ3 d=true) (hf:Free d):φT d act=(((act d.1).2,d.2),(act d.1).1):=by
 have:=φ5R (d:=d) (c:=d.2.1) h (by rw[show d.2=(d.2.1,d.2.2) from rfl,show d.2.2=(-1,false) from hf]) act
 rw[this]
 congr 2
 rw[show d.2=(d.2.1,d.2.2) from rfl,show d.2.2=(-1,false) from hf]
theorem φ7b {d:φ1} (h:φ3 d=true) (hf:Free d) {n:List UInt8} (hn:(φ2 d n).2=true):(φI n d).2=0:=by
 obtain ⟨i,hi,e,_⟩:=φ6Z hn
 show (φT d (φ2R n)).2=0
 rw[φ4e h hf]
 unfold φ2R
 rw[e]
theorem φAd {d:φ1} (h:φ3 d=true) (hf:Free d) (n:List UInt8):(φC n d).2=0:=by
 unfold φC
 split
 ·rename_i c
  show (φT d (φ2I n)).2=0
  rw[φ4e h hf]
  unfold φ2I
  rcases φz d.1 n with ⟨e,_⟩ | ⟨i,hi,e,_⟩
  ·rw[e] at c;simp at c
  ·rw[φ18 e]
 ·rfl
theorem φ8J:∀(names:List (List UInt8)) {w:φD},φ3 w.1=true→Free w.1→w.2=0→(φj names w).2=0
 | [],w,_,_,h=>h
 | n::names,w,hk,hf,h=>by
  have e:φA (φC n) w=φC n w.1:=by unfold φA;rw[if_pos h]
  show (φj names (φA (φC n) w)).2=0
  rw[e]
  exact φ8J names (φ2D hk n) (φ4z (P:=Free) (fun d act k=>φ1H k) n hf) (φAd hk hf n)
theorem φG8 {id mark:Int}:∀(l:List φ1i) (p:Option (List UInt8)),(∀x∈l,x.2.2.1=4∧x.2.2.2.1≤mark)→srt (l.map (entS id))→(∀q,p=some q→∀x∈l,Op.bytesLess q x.2.2.2.2.1=true)→φ2V mark p l=true
 | [],_,_,_,_=>rfl
 | x::l,p,h,hs,hp=>by
  obtain ⟨h4,hb⟩:=h x (by simp)
  obtain ⟨s1,s2⟩:=κX.1 hs
  simp only[φ2V,bA,beq_iff_eq,κM,decide_eq_false_iff_not]
  refine ⟨h4,by omega,?_,φG8 l _ (fun y hy=>h y (by simp[hy])) s2 fun q hq y hy=>?_⟩
  ·cases p with
   | none=>rfl
   | some q=>exact hp q rfl x (by simp)
  ·simp only[Option.some.injEq] at hq
   subst hq
   exact s1 (entS id y) (mM.2 ⟨y,hy,rfl⟩)
theorem φLe {id:Int} {t:List UInt8} {l:List φ1i} {z:φ1i} (hs:scan t=(l++[z],t.length)) (hi:1≤id∧id≤100000) (z5:z.2.2.1=5) (hf:φ3I z.2.2 (l.map (·.2.2))=true) (hr:φ2V z.2.2.2.1 none l=true) :
  φ16 id t=(((t.length:Int),z.2.2.2.1,l.map (entS id)),true):=by
 unfold φ16
 have e1:(l++[z]).length - 1=l.length:=by simp
 have e2:(l++[z]).getD l.length φ28=z:=by simp
 have e3:(l++[z]).take l.length=l:=by simp
 simp only[hs,e1,e2,e3]
 rw[if_neg]
 simp only[not_or,Bool.not_eq_false,ne_eq,Decidable.not_not]
 exact ⟨by simp,trivial,hi,z5,hf,hr⟩
theorem φD9 (m:Int):∀(recs:List RecT) (a:Nat),(∀r∈recs,r.1=4)→φv m (a:Int) recs=(φ1N a recs).map (entS m)
 | [],_,_=>rfl
 | r::recs,a,h=>by
  have h4:=h r (by simp)
  have ih:=φD9 m recs (a+(fr r).length) fun x hx=>h x (by simp[hx])
  rw[φv,if_pos h4,φ1N,κ5,←ih]
  have:((a+(fr r).length:Nat):Int)=(a:Int)+((frame (φ7 r)).length:Int):=by simp only[fr];omega
  rw[this]
  rfl
theorem φCK {p:RecT→Prop}:∀(recs:List RecT) (a:Nat),(∀r∈recs,p r)→∀x∈φ1N a recs,p x.2.2
 | [],_,_,x,hx=>by simp[φ1N] at hx
 | r::recs,a,h,x,hx=>by
  rw[φ1N] at hx
  rcases mc.1 hx with rfl | hx
  ·exact h r (by simp)
  ·exact φCK recs _ (fun y hy=>h y (by simp[hy])) x hx
theorem φFd:∀(recs:List RecT) (a:Nat),∀x∈φ1N a recs,x.1≤((a+(txt recs).length:Nat):Int)
 | [],_,x,hx=>by simp[φ1N] at hx
 | r::recs,a,x,hx=>by
  rw[φ1N] at hx
  rw[φ3Q,lA]
  rcases mc.1 hx with rfl | hx
  ·show (a:Int)≤_
   omega
  ·have:=φFd recs _ x hx
   omega
theorem φLn {s S:φ8} {d y:φ1} (h:φh s d=true) (h2:s.1.1+2≤100000) (hM:Merged s d (φY s d).1 S y) :
  φ16 s.1.1 (txt (φW (φY s d).1 (s.2.2.1 - 1)))=((((txt (φW (φY s d).1 (s.2.2.1 - 1))).length:Int),s.2.2.1 - 1,S.2.1),true)∧φ2L (((txt (φW (φY s d).1 (s.2.2.1 - 1))).length:Int),s.2.2.1 - 1,S.2.1)=true:=by
 obtain ⟨m1,m2,m3,m4⟩:=φAX h h2 hM
 obtain ⟨q1,q2,q3,q4,q5,q6⟩:=φr.1 h
 obtain ⟨k1,k2,k3,k4⟩:=(φ15 s.1).1 q2
 have hkeep:=φGL h
 have hbat:=φG1 h
 have hl20:(φY s d).1.length≤20:=by have:=φ7i s d;have:=(φ43 q3).1;omega
 have hdir:=(φr.1 m1).2.2.1
 have hone:=hM.one
 have htl:=φ5i hM.dk (φ0 s.1.1)
 rw[hone] at htl
 have hst:=hM.st
 generalize (φY s d).1=l at *
 have hents:S.2.1=(φ1N 0 (l.map φR)).map (entS s.1.1):=by
  rw[hst]
  show φv s.1.1 0 (φW l (s.2.2.1 - 1))=_
  have e:φv s.1.1 0 (φW l (s.2.2.1 - 1))=φv s.1.1 0 (l.map φR):=φ8v s.1.1 _ (show (5:Int)≠4 by decide) _ _
  rw[e]
  exact φD9 s.1.1 (l.map φR) 0 fun r hr=>(hkeep r hr).2
 have hmk:φZ (5,s.2.2.1 - 1,[],[],(l.length:Int),φ1g (l.map φR))=true:=φGA (by omega) (by omega) (φ4n _)
 have hall:∀r∈φW l (s.2.2.1 - 1),φZ r=true:=fun r hr=>by
  unfold φW at hr
  rcases mA.1 hr with hr | hr
  ·exact (hkeep r hr).1
  ·rw[mZ.1 hr];exact hmk
 have hsc:=φ9C hall
 have hk:∀x∈φ1N 0 (l.map φR),x.2.2.1=4∧x.2.2.2.1≤s.2.2.1 - 1:=φCK (p:=fun r=>r.1=4∧r.2.1≤s.2.2.1 - 1) (l.map φR) 0 fun r hr=>by
  refine ⟨(hkeep r hr).2,?_⟩
  obtain ⟨p,hp,rfl⟩:=mM.1 hr
  have:=hbat p hp
  show p.2.2≤_
  omega
 have hsrt:srt ((φ1N 0 (l.map φR)).map (entS s.1.1)):=by rw[←hents];exact φ5Y hdir
 refine ⟨?_,?_⟩
 ·rw[hents]
  refine φLe (id:=s.1.1) (l:=φ1N 0 (l.map φR)) (z:=(((0+(txt (l.map φR)).length:Nat):Int),((fr (5,s.2.2.1 - 1,[],[],(l.length:Int),φ1g (l.map φR))).length:Int),(5,s.2.2.1 - 1,[],[],(l.length:Int),φ1g (l.map φR)))) ?_ ⟨by omega,by omega⟩ rfl ?_ ?_
  ·rw[hsc]
   unfold φW
   rw[φBp]
   rfl
  ·rw[φC0]
   unfold φ3I
   simp
  ·exact φG8 (id:=s.1.1) _ none hk hsrt fun q hq=>by simp at hq
 ·unfold φ2L
  simp only[bA,decide_eq_true_eq]
  have hlen:((txt (φW l (s.2.2.1 - 1))).length:Int)≤100000:=by simp only at htl;omega
  refine ⟨κU.2 fun e he=>?_,⟨Int.natCast_nonneg _,hlen⟩,⟨by show 0≤s.2.2.1 - 1;omega,by show s.2.2.1 - 1≤1000000;omega⟩,hdir⟩
  have he:e∈S.2.1:=he
  have hseg:∀e∈S.2.1,e.2.1=s.1.1∧e.2.2.1≤100000:=fun e he=>by
   rw[hents] at he
   obtain ⟨x,hx,rfl⟩:=mM.1 he
   refine ⟨rfl,?_⟩
   have:=φFd (l.map φR) 0 x hx
   have hle:(txt (l.map φR)).length≤(txt (φW l (s.2.2.1 - 1))).length:=by
    unfold φW;rw[φHH,lA];omega
   show x.1≤100000
   omega
  have hpos:=List.length_pos_of_mem he
  have hg:(S.2.1.getD 0 ([],0,0,0,0)).2.1=s.1.1:=by
   rw[φE hpos];exact (hseg _ (gM hpos)).1
  unfold φ4b
  simp only
  rw[hg,(hseg e he).1]
  have:=(hseg e he).2
  simp;omega
theorem Free.up {d:φ1} (h:Free d):d.2.2.2=false:=by rw[show d.2.2=(-1,false) from h]
theorem φKJ {d:φ1} (h:φ3 d=true) {l:List φ6} (hs:l.Sublist d.1):φ3 (l,d.2)=true:=by
 obtain ⟨h1,h2,h3,h4,h5,h6⟩:=(φ3V d).1 h
 have hl:=hs.length_le
 have hu:φJ l≤φJ d.1:=φ75 _ hs
 rw[φ3V]
 exact ⟨h1,h2,by show l.length≤_;omega,by show (φJ l:Int)≤d.2.1;omega,fun f hf=>h5 f (hs.subset hf),h6.sublist hs⟩
theorem φKY {l:List φ6} (hp:l.Pairwise fun a b=>Op.bytesLess a.1 b.1=true) {i:Nat} (hi:i<l.length):∀j,(hj:j<l.length)→j≠i→l[j].1≠l[i].1:=fun j hj hne e=>by
 rcases Nat.lt_or_gt_of_ne hne with h | h
 ·have:=List.pairwise_iff_getElem.1 hp j i hj hi h
  rw[e,φ4v] at this;simp at this
 ·have:=List.pairwise_iff_getElem.1 hp i j hi hj h
  rw[e,φ4v] at this;simp at this
theorem φJC {l:List φ6} (hp:l.Pairwise fun a b=>Op.bytesLess a.1 b.1=true) {i:Nat} (hi:i<l.length) {n:List UInt8} (hn:l[i].1=n) (g:φ6→φ6):l.set i (g l[i])=l.map fun f=>if f.1=n then g f else f:=by
 refine List.ext_getElem (by simp) fun j h1 h2=>?_
 rw[List.getElem_map,List.getElem_set]
 have hj:j<l.length:=by simpa using h1
 by_cases c:i=j
 ·subst c;rw[if_pos rfl,if_pos hn]
 ·rw[if_neg c,if_neg]
  intro e
  exact φKY hp hi j hj (fun e2=>c e2.symm) (e.trans hn.symm)
theorem φNR {l:List φ6} (hp:l.Pairwise fun a b=>Op.bytesLess a.1 b.1=true) {i:Nat} (hi:i<l.length) {n:List UInt8} (hn:l[i].1=n):φg l i=l.filter fun f=>!(f.1==n):=by
 induction l generalizing i with
 | nil=>simp at hi
 | cons x l ih=>
  obtain ⟨h1,h2⟩:=κX.1 hp
  cases i with
  | zero=>
   have hx:x.1=n:=hn
   have e:l.filter (fun f=>!(f.1==n))=l:=List.filter_eq_self.2 fun f hf=>by
    have:=φ6z (h1 f hf)
    simp only[κM,beq_eq_false_iff_ne,ne_eq]
    intro e;exact this (hx.trans e.symm)
   rw[List.filter_cons_of_neg (by simp[hx]),e]
   simp[φg]
  | succ i=>
   have hi':i<l.length:=by simpa using hi
   have hx:x.1≠n:=fun e=>by
    have:=h1 l[i] (gM hi')
    have hn:l[i].1=n:=hn
    rw[e,hn,φ4v] at this;simp at this
   rw[List.filter_cons_of_pos (by simpa using hx),←ih h2 hi' hn]
   simp[φg]
def φ6f (f:φ6):φ6:=(f.1,f.2.1,(f.2.1.length:Int))
def onF (n:List UInt8) (g:φ6→φ6) (l:List φ6):List φ6:=l.map fun f=>if f.1=n then g f else f
theorem φG5 {d:φ1} (h:φ3 d=true) (hf:Free d) {n:List UInt8} (hn:(φ2 d n).2=true):φI n d=((onF n φ6f d.1,d.2),0):=by
 obtain ⟨i,hi,e,hx,_⟩:=φ6Z hn
 show φT d (φ2R n)=_
 rw[φ4e h hf]
 unfold φ2R
 rw[e]
 simp only[φE hi]
 congr 2
 exact φJC (φ6c h) hi hx φ6f
theorem φHf {d:φ1} (h:φ3 d=true) (hf:Free d) (n:List UInt8):φC n d=((d.1.filter (fun f=>!(f.1==n)),d.2),0):=by
 unfold φC
 rcases φz d.1 n with ⟨e,hno⟩ | ⟨i,hi,e,hx⟩
 ·rw[e,if_neg (by simp)]
  have:d.1.filter (fun f=>!(f.1==n))=d.1:=List.filter_eq_self.2 fun f hf=>by simpa using hno f hf
  rw[this]
 ·rw[e,if_pos (by omega)]
  show φT d (φ2I n)=_
  rw[φ4e h hf]
  unfold φ2I
  rw[φ18 e]
  simp only
  rw[φNR (φ6c h) hi hx]
theorem φEK:∀(names:List (List UInt8)) {d:φ1},φ3 d=true→Free d→φj names (d,0)=((d.1.filter (fun f=>!(names.any fun n=>f.1==n)),d.2),0)
 | [],d,_,_=>by
  show (d,(0:Int))=_
  have:d.1.filter (fun f=>!(([]:List (List UInt8)).any fun n=>f.1==n))=d.1:=List.filter_eq_self.2 fun f hf=>by simp
  rw[this]
 | n::names,d,h,hf=>by
  show φj names (φA (φC n) (d,0))=_
  have e:φA (φC n) (d,0)=φC n d:=by unfold φA;rw[if_pos rfl]
  rw[e,φHf h hf,φEK names (φKJ h List.filter_sublist) hf]
  simp only[List.filter_filter]
  congr 2
  refine List.filter_congr fun f _=>?_
  simp[Bool.not_or,Bool.and_comm]
theorem φ9U {d:φ1} (h:φ3 d=true) (hf:Free d) (v:φP):φo v d=((d.1.filter (fun f=>!φ4O v f),d.2),0):=by
 unfold φo
 rw[φEK _ h hf]
 congr 2
 refine List.filter_congr fun f hf=>?_
 unfold φ35
 rw[if_neg (by rw[h];simp)]
 congr 1
 have hB:∀g:φ6,g.1=f.1→φ4O v g=φ4O v f:=fun g e=>by unfold φ4O;rw[e]
 cases ho:φ4O v f with
 | true=>
  refine List.any_eq_true.2 ⟨f.1,mM.2 ⟨f,List.mem_filter.2 ⟨hf,ho⟩,rfl⟩,by simp⟩
 | false=>
  refine List.any_eq_false.2 fun n hn=>?_
  obtain ⟨g,hg,rfl⟩:=mM.1 hn
  intro e
  have e:f.1=g.1:=by simpa using e
  have:=hB g e.symm
  rw[(List.mem_filter.1 hg).2,ho] at this
  simp at this
theorem φLr {v:φP} (h:φk v=true):∃r,v.2=v.2.getD 0 0::r∧v.2.drop 1=r∧(1≤v.2.getD 0 0∧v.2.getD 0 0≤100000):=by
 have hr:=fun id=>φBF (id:=id) h
 obtain ⟨k1,k2,k3,k4⟩:=(φ15 v).1 h
 obtain ⟨a,l⟩:=v
 cases l with
 | nil=>simp at k3
 | cons i r=>
  have:=hr i (by simp)
  exact ⟨r,rfl,rfl,this.1,this.2.1⟩
theorem φH5 {v:φP} {d:φ1} (h:φ3 d=true) (hl:(φ2 d (φ0 (φL v.2))).2=true) (hc:(cutW v d).2=0) (ids:List Int):φS (cutW v d).1 ids=φS d ids:=by
 unfold φS
 congr 1
 funext id
 exact φCW h hl hc id
theorem φJy {v:φP} {d:φ1} (h:φ3 d=true) (hv:φk v=true) (hl:(φ2 d (φ0 (φL v.2))).2=true) (hc:(cutW v d).2=0) :
  ∃hin,φ4U v d=φ4k v (cutW v d).1 (cutN v d:Int) (φ2A ([],0,0) (φS d v.2)) hin∧(φ38 (cutW v d).1 (v.2.getD 0 0)=none→hin=0):=by
 rw[φD2,if_neg (by rw[hc];simp)]
 obtain ⟨r,er,ed,hr⟩:=φLr hv
 cases hg:φ38 (cutW v d).1 (v.2.getD 0 0) with
 | none=>
  refine ⟨0,?_,fun _=>rfl⟩
  simp only
  rw[φH5 h hl hc]
 | some g=>
  refine ⟨v.2.getD 0 0,?_,fun e=>by simp at e⟩
  simp only
  congr 1
  have e1:=φH5 h hl hc v.2
  unfold φ38 at hg
  split at hg
  ·rename_i c
   obtain ⟨_,c2,c3⟩:=c
   rcases φE4 (φ2 (cutW v d).1 (φK (v.2.getD 0 0))).1 with ⟨e,_⟩ | ⟨H,e,hH⟩
   ·rw[e] at c2;simp at c2
   rw[e] at hg c3
   simp only[Option.some.injEq] at hg
   have c3:φ16 (v.2.getD 0 0) (φ2 (cutW v d).1 (φ0 (v.2.getD 0 0))).1=(H,true):=by
    unfold φ6W at c3
    simpa using c3
   have hok:=hH.1
   unfold φ2L at hok
   simp only[bA,decide_eq_true_eq] at hok
   have:=φJ8 c3 hok.2.2.2 hok.2.2.1.1 (φS (cutW v d).1 (v.2.drop 1))
   rw[←hg,←this,←e1]
   conv=>rhs;rw[er]
   rw[ed]
   rfl
  ·simp at hg
theorem φIr {t:List UInt8} (h:φ2P t) {r:RecT} (hr:φZ r=true):(scan (t++fr r)).1=(scan t).1++[((t.length:Int),((fr r).length:Int),r)]:=by
 obtain ⟨rs,h1,rfl⟩:=(φ8p t).1 h
 have h2:∀x∈rs++[r],φZ x=true:=fun x hx=>by
  rcases mA.1 hx with hx | hx
  ·exact h1 x hx
  ·rw[mZ.1 hx];exact hr
 have e:=φ9C h2
 rw[φAr] at e
 rw[e,φ9C h1,φBp]
 simp[φ1N]
theorem φBe (d:φ1) (a b:List Int):φS d (a++b)=φS d a++φS d b:=κI
theorem φ8P (d:φ1) (i:Int):φS d [i]=φ11 d i:=by unfold φS;simp
theorem φ5z {d d':φ1} {ids:List Int} (h:∀id∈ids,φ2 d' (φ0 id)=φ2 d (φ0 id)):φS d' ids=φS d ids:=by
 induction ids with
 | nil=>rfl
 | cons i ids ih=>
  have e1:φS d' (i::ids)=φ11 d' i++φS d' ids:=by unfold φS;simp
  have e2:φS d (i::ids)=φ11 d i++φS d ids:=by unfold φS;simp
  rw[e1,e2,ih fun id hid=>h id (by simp[hid])]
  unfold φ11
  rw[h i (by simp)]
theorem φMJ {l:List Int} (h:l≠[]):l=l.take (l.length - 1)++[φL l]:=by
 have hl:l.length - 1<l.length:=by have:=List.length_pos_iff.2 h;omega
 unfold φL
 rw[φE hl]
 have:=κ6 hl
 rw[show l.length - 1+1=l.length by omega,κb] at this
 exact this
theorem φJu {d d':φ1} {ids:List Int} (hne:ids≠[]) (hp:ids.Pairwise (·<·)) {r:RecT} (hr:φZ r=true) (hw:φ2P (φ2 d (φ0 (φL ids))).1)
  (h1:φ2 d' (φ0 (φL ids))=((φ2 d (φ0 (φL ids))).1++fr r,true)) (h2:∀id∈ids,id≠φL ids→φ2 d' (φ0 id)=φ2 d (φ0 id)) :
  φS d' ids=φS d ids++[((φL ids,((φ2 d (φ0 (φL ids))).1.length:Int),((fr r).length:Int),r):φF)]:=by
 have e:=φMJ hne
 have hin:∀id∈ids.take (ids.length - 1),id≠φL ids∧id∈ids:=fun id hid=>by
  rw[e] at hp
  have:=(List.pairwise_append.1 hp).2.2 id hid (φL ids) (by simp)
  exact ⟨by omega,List.mem_of_mem_take hid⟩
 have e3:φS d' (ids.take (ids.length - 1))=φS d (ids.take (ids.length - 1)):=φ5z fun id hid=>h2 id (hin id hid).2 (hin id hid).1
 have e4:φ11 d' (φL ids)=φ11 d (φL ids)++[((φL ids,((φ2 d (φ0 (φL ids))).1.length:Int),((fr r).length:Int),r):φF)]:=by
  unfold φ11
  rw[h1,φIr hw hr,mp]
  rfl
 conv=>lhs;rw[e]
 conv=>rhs;rw[e]
 rw[φBe,φBe,e3,φ8P,φ8P]
 have e5:φL (ids.take (ids.length - 1)++[φL ids])=φL ids:=φHu _ _
 rw[e5,e4,aA]
def φHK (s:φ8) (d:φ1):Prop:=∃nx,nx≤s.1.1∧φk (nx,s.1.2)=true∧φ2 d φi=(φt (nx,s.1.2),true)
structure JB (s:φ8) (d:φ1):Prop where
 ok:φh s d=true
 lt:φ41 s
 liv:φHK s d
 fre:Free d
structure Grow (s:φ8) (d:φ1) (s':φ8) (d':φ1) (P:List φF):Prop where
 jb:JB s' d'
 dir:s'.2.1=s.2.1
 bat:s'.2.2.1=s.2.2.1
 pl:φS d' s'.1.2=φS d s.1.2++P
 kp:φ2v s.1.1 d d'
 nxt:s.1.1≤s'.1.1
theorem Grow.refl {s:φ8} {d:φ1} (h:JB s d):Grow s d s d []:=⟨h,rfl,rfl,by simp,fun _ _ _ _=>rfl,κP _⟩
theorem Grow.trans {s s' s'':φ8} {d d' d'':φ1} {P Q:List φF} (h:Grow s d s' d' P) (k:Grow s' d' s'' d'' Q):Grow s d s'' d'' (P++Q):=
 ⟨k.jb,by rw[k.dir,h.dir],by rw[k.bat,h.bat],by rw[k.pl,h.pl,aA],h.kp.trans k.kp h.nxt,by have:=h.nxt;have:=k.nxt;omega⟩
theorem φMl {d:φ1} (h:φ3 d=true) (hf:Free d) (n t:List UInt8) (hc:(φO n t d).2≠0):(φO n t d).1=d:=by
 unfold φO at hc ⊢
 rw[φ4e h hf] at hc ⊢
 unfold φ2X at hc ⊢
 cases e:d.1.findIdx? (fun f=>f.1==n) with
 | none=>rfl
 | some i=>
  rw[e] at hc
  simp only at hc ⊢
  split
  ·rfl
  ·rename_i c
   rw[if_neg c] at hc
   exact absurd rfl hc
theorem φFO {v:φP} {w:φD} (h:φ3 w.1=true) (hf:Free w.1) (hc:(sPut v w).2≠0):φ2 (sPut v w).1 φi=φ2 w.1 φi:=by
 have hk:=φ4Q h [116,101,109,112] (φt v)
 have hF:Free (φ1Y [116,101,109,112] (φt v) w).1:=φ8i (P:=Free) (fun d act k=>φ1H k) _ _ hf
 have e1:φ2 (φ1Y [116,101,109,112] (φt v) w).1 φi=φ2 w.1 φi:=φ4g h (show φi≠[116,101,109,112] by decide)
 unfold sPut at hc ⊢
 unfold φA at hc ⊢
 by_cases c:(φ1Y [116,101,109,112] (φt v) w).2=0
 ·rw[if_pos c] at hc
  exfalso
  obtain ⟨_,ht⟩:=φ96 c
  obtain ⟨i,hi,e,hx,_⟩:=φ6Z (by rw[ht])
  apply hc
  show (φT _ (φ2S [116,101,109,112] [108,105,118,101])).2=0
  rw[φ4e hk hF]
  unfold φ2S
  rw[if_neg (by decide),e]
 ·rw[if_neg c]
  exact e1
theorem φCI {hi hi':Int} (h1:hi≤hi'):∀(l:List Int) (p:Option Int),φ1a hi p l=true→φ1a hi' p l=true
 | [],p,h=>h
 | x::l,p,h=>by
  simp only[φ1a,bA,decide_eq_true_eq] at h ⊢
  exact ⟨⟨h.1.1,by omega⟩,h.2.1,φCI h1 l _ h.2.2⟩
theorem φDa {a b:Int} {ids:List Int} (h:φk (a,ids)=true) (hab:a≤b) (hb:b≤100000):φk (b,ids)=true:=by
 obtain ⟨k1,k2,k3,k4⟩:=(φ15 (a,ids)).1 h
 have k2:1≤a∧a≤100000:=k2
 rw[φG (by simp only;omega) (by simp only;omega)] at k1
 refine (φ15 (b,ids)).2 ⟨?_,⟨by show 1≤b;omega,hb⟩,k3,k4⟩
 rw[φG (by simp only;omega) (by simp only;omega)]
 exact φCI (by simp only;omega) _ _ k1
theorem φI2 {s:φ8} {d:φ1} (h:JB s d) (hc:(rotP s d).2.2≠0):(rotP s d).1.1.2=s.1.2∧(rotP s d).1.2=s.2∧s.1.1≤(rotP s d).1.1.1∧(rotP s d).1.1.1≤100000∧φ2 (rotP s d).2.1 φi=φ2 d φi:=by
 obtain ⟨q1,q2,q3,q4,q5,q6⟩:=φr.1 h.ok
 obtain ⟨k1,k2,k3,k4⟩:=(φ15 s.1).1 q2
 have hF:=h.fre
 obtain ⟨g1,g2⟩:=(φ20 _).1 q5
 have hex:(φ2 d (actN s)).2=true:=(g1 _ (φ3l (φ4p q2))).1
 have hs:=φ3J q1 (actN s)
 have hsF:Free (φI (actN s) d).1:=φ1H hF
 have hs0:=φ7b q1 hF hex
 have hg:=φ2D hs (φ0 s.1.1)
 have hgF:Free (φC (φ0 s.1.1) (φI (actN s) d).1).1:=φ4z (P:=Free) (fun d act k=>φ1H k) _ hsF
 have hcd:φ3 (φA (φU (φ0 s.1.1)) (φC (φ0 s.1.1) (φI (actN s) d).1)).1=true:=φ1j (op:=φU _) hg fun k=>φ31 k _
 have hcF:Free (φA (φU (φ0 s.1.1)) (φC (φ0 s.1.1) (φI (actN s) d).1)).1:=φ3f (P:=Free) (fun d act k=>φ1H k) (fun d k=>φ1H k) hgF
 have hl1:φ2 (φA (φU (φ0 s.1.1)) (φC (φ0 s.1.1) (φI (actN s) d).1)).1 φi=φ2 d φi:=by
  rw[φ2f (op:=φU _) (φA7 hg (φ2Q _).symm),φ58 hs (φ2Q _).symm,φ2a q1]
 unfold rotP at hc ⊢
 split
 ·exact ⟨rfl,rfl,κP _,k2.2,rfl⟩
 rename_i c0
 rw[if_neg c0] at hc
 rw[if_neg (by rw[hs0];simp)] at hc ⊢
 simp only at hc ⊢
 split
 ·refine ⟨rfl,rfl,by show s.1.1≤s.1.1+1;omega,by show s.1.1+1≤100000;omega,hl1⟩
 rename_i c2
 rw[if_neg c2] at hc
 split
 ·rename_i c3
  refine ⟨rfl,rfl,by show s.1.1≤s.1.1+1;omega,by show s.1.1+1≤100000;omega,?_⟩
  generalize (φA (φU (φ0 s.1.1)) (φC (φ0 s.1.1) (φI (actN s) d).1))=w2 at *
  have c3':(sPut (s.1.1+1,s.1.2++[s.1.1]) (w2.1,0)).2≠0:=fun e=>c3 ((φ1R _).2 e)
  have hp:=φ3z (v:=(s.1.1+1,s.1.2++[s.1.1])) (w:=(w2.1,0)) hcd
  rw[φ82 (w:=φ9 (sPut (s.1.1+1,s.1.2++[s.1.1]) (w2.1,0))) hp (fun m hm=>by
   simp only[mc,List.not_mem_nil,or_false] at hm
   rcases hm with rfl | rfl
   ·decide
   ·exact (φ2Q _).symm)]
  show φ2 (sPut (s.1.1+1,s.1.2++[s.1.1]) (w2.1,0)).1 φi=_
  rw[φFO (w:=(w2.1,0)) hcd hcF c3']
  exact hl1
 ·rename_i c3
  rw[if_neg c3] at hc
  exact absurd rfl hc
theorem φDN {s:φ8} {d:φ1} (hF:Free d):Free (rotP s d).2.1:=by
 have hsF:Free (φI (actN s) d).1:=φ1H hF
 have hgF:Free (φC (φ0 s.1.1) (φI (actN s) d).1).1:=φ4z (P:=Free) (fun d act k=>φ1H k) _ hsF
 have hcF:Free (φA (φU (φ0 s.1.1)) (φC (φ0 s.1.1) (φI (actN s) d).1)).1:=φ3f (P:=Free) (fun d act k=>φ1H k) (fun d k=>φ1H k) hgF
 have hpF:Free (sPut (s.1.1+1,s.1.2++[s.1.1]) ((φA (φU (φ0 s.1.1)) (φC (φ0 s.1.1) (φI (actN s) d).1)).1,0)).1:=φ90 (P:=Free) (fun d act k=>φ1H k) _ hcF
 unfold rotP
 split
 ·exact hF
 split
 ·exact hsF
 simp only
 split
 ·exact hcF
 split
 ·unfold φ1f
  have:=φ5Z (P:=Free) (fun d act k=>φ1H k) [[116,101,109,112],φ0 s.1.1] (w:=((φ9 (sPut (s.1.1+1,s.1.2++[s.1.1]) ((φA (φU (φ0 s.1.1)) (φC (φ0 s.1.1) (φI (actN s) d).1)).1,0))).1,0)) hpF
  split
  ·split
   ·exact this
   ·exact this
  ·exact hpF
 ·exact hpF
theorem φHs {s:φ8} {d:φ1} (h:φ3 d=true) (hc:(rotP s d).2.2=0):φ2 (rotP s d).2.1 φi=(φt (s.1.1+1,s.1.2++[s.1.1]),true):=by
 unfold rotP at hc ⊢
 split
 ·rename_i c;rw[if_pos c] at hc;simp at hc
 rename_i c0
 rw[if_neg c0] at hc
 split
 ·rename_i c;rw[if_pos c] at hc;exact absurd ((φ1R _).1 hc) c
 rename_i c1
 rw[if_neg c1] at hc
 simp only at hc ⊢
 split
 ·rename_i c;rw[if_pos c] at hc;exact absurd ((φ1R _).1 hc) c
 rename_i c2
 rw[if_neg c2] at hc
 split
 ·rename_i c
  rw[if_pos c] at hc
  exfalso
  revert hc
  unfold φ1f
  split
  ·split
   ·simp
   ·rename_i c4;exact c4
  ·exact c
 ·rename_i c
  have c:(sPut (s.1.1+1,s.1.2++[s.1.1]) ((φA (φU (φ0 s.1.1)) (φC (φ0 s.1.1) (φI (actN s) d).1)).1,0)).2=0:=(φ1R _).1 (Decidable.not_not.1 c)
  exact (φDt c).2
theorem φFV {s:φ8} {d:φ1} (h:JB s d):Grow s d (rotP s d).1 (rotP s d).2.1 []:=by
 obtain ⟨q1,q2,q3,q4,q5,q6⟩:=φr.1 h.ok
 obtain ⟨k1,k2,k3,k4⟩:=(φ15 s.1).1 q2
 rw[φG (by omega) (by omega)] at k1
 have hids:=φ3e _ _ k1
 obtain ⟨r1,r2,r3,r4,r5,r6⟩:=φ7x q1 q2
 have hkp:=φCB (s:=s) q1 k2.2
 have hft:∀id∈s.1.2,φ2 (rotP s d).2.1 (φ0 id)=φ2 d (φ0 id):=fun id hid=>by
  have:=hids id hid
  rcases φBh (s:=s) q1 with ⟨_,e2⟩ | ⟨_,_,e2⟩
  ·exact e2 _
  ·exact e2 _ (fun hh=>by have:=φ3r (by omega) (by omega) hh;omega) (φ49 _) (φ2Q _)
 have hpl:=φ5z hft
 by_cases c:(rotP s d).2.2=0
 ·have hx:∀e∈s.2.1,e.2.1≠s.1.1:=fun e he=>by have:=h.lt e he;omega
  obtain ⟨e1,e2,e3,e4⟩:=φBT q1 c
  refine ⟨⟨(φFA h.ok hx c).1,fun e he=>?_,⟨s.1.1+1,by rw[e1];exact κP _,by rw[e1];have:=r5 c;rw[e1] at this;exact this,by rw[φHs q1 c,e1]⟩,φDN h.fre⟩,r3,r4,?_,hkp,by rw[e1];show s.1.1≤s.1.1+1;omega⟩
  ·rw[r3] at he
   have:=h.lt e he
   rw[e1];show e.2.1<s.1.1+1;omega
  ·have ei:(rotP s d).1.1.2=s.1.2++[s.1.1]:=by rw[e1]
   rw[ei,φBe,hpl,φ8P]
   unfold φ11
   rw[e2,φ7V]
   rfl
 ·obtain ⟨f1,f2,f3,f4,f5⟩:=φI2 h c
  obtain ⟨nx,n1,n2,n3⟩:=h.liv
  have hlv:φk (rotP s d).1.1=true:=by
   have:=φDa (a:=s.1.1) (ids:=s.1.2) q2 f3 f4
   rw[←f1] at this
   exact this
  refine ⟨⟨φr.2 ⟨r1,hlv,by rw[f2];exact q3,by rw[f2];exact q4,?_,?_⟩,fun e he=>?_,⟨nx,by omega,by rw[f1];exact n2,by rw[f5,f1];exact n3⟩,φDN h.fre⟩,by rw[f2],by rw[f2],by rw[f1,hpl];simp,hkp,f3⟩
  ·rw[f2,f1]
   obtain ⟨g1,g2⟩:=(φ20 _).1 q5
   refine (φ20 _).2 ⟨fun id hid=>by rw[hft id hid];exact g1 id hid,fun hne=>by rw[hft _ (φ3l hne)];exact g2 hne⟩
  ·rw[f2]
   exact φ6X h.ok hkp h.lt (κP _)
  ·rw[f2] at he
   have:=h.lt e he
   omega
def entP (p:φF):φB:=(p.2.2.2.2.2.1,p.1,p.2.1,p.2.2.1,p.2.2.2.2.1)
theorem φEj {s:φ8} {d:φ1} {r:RecT} (h:JB s d) (hr:φZ r=true) :
  ((addP s d r).2.2.1=0→∃p:φF,Grow s d (addP s d r).1 (addP s d r).2.1 [p]∧p.2.2.2=r∧(addP s d r).2.2.2=entP p) ∧
  ((addP s d r).2.2.1≠0→Grow s d (addP s d r).1 (addP s d r).2.1 []):=by
 have hR:Grow s d (addR s d (frame (φ7 r))).1 (addR s d (frame (φ7 r))).2.1 []:=by
  unfold addR
  split
  ·exact φFV h
  ·exact Grow.refl h
 unfold addP
 generalize addR s d (frame (φ7 r))=R at *
 simp only
 by_cases c:R.2.2=0
 rotate_left
 ·rw[if_pos c]
  exact ⟨fun e=>absurd e c,fun _=>hR⟩
 rw[if_neg (by simpa using c)]
 have hJ:=hR.jb
 obtain ⟨q1,q2,q3,q4,q5,q6⟩:=φr.1 hJ.ok
 by_cases c2:(φO (actN R.1) (frame (φ7 r)) R.2.1).2=0
 rotate_left
 ·rw[if_pos c2]
  refine ⟨fun e=>absurd ((φ1R _).1 e) c2,fun _=>?_⟩
  show Grow s d R.1 (φO (actN R.1) (frame (φ7 r)) R.2.1).1 []
  rw[φMl q1 hJ.fre _ _ c2]
  exact hR
 rw[if_neg (by simpa using c2)]
 refine ⟨fun _=>?_,fun e=>absurd rfl e⟩
 obtain ⟨a1,a2,a3⟩:=φDr hJ.ok hr c2
 obtain ⟨b1,b2⟩:=φ5k c2
 obtain ⟨g1,g2⟩:=(φ20 _).1 q5
 have hne:=φ4p q2
 have hl:=φAg q2
 have hlt:∀id∈R.1.1.2,1≤id∧id≤100000:=fun id hid=>by have:=φBF q2 hid;omega
 obtain ⟨nx,n1,n2,n3⟩:=hJ.liv
 have hsz:=g2 hne
 have hpm:=φJu (d:=R.2.1) (d':=(φO (actN R.1) (frame (φ7 r)) R.2.1).1) hne (φM7 q2) hr (g1 _ (φ3l hne)).2 b2 (fun id hid hne2=>φ7B q1 (fun hh=>hne2 (φ3r (hlt id hid) ⟨hl.1,hl.2.2⟩ hh)))
 refine ⟨(φL R.1.1.2,((φ2 R.2.1 (φ0 (φL R.1.1.2))).1.length:Int),((fr r).length:Int),r),?_,rfl,?_⟩
 ·refine Grow.trans (P:=[]) hR ⟨⟨a1,hJ.lt,⟨nx,n1,n2,?_⟩,φ1H hJ.fre⟩,rfl,rfl,hpm,fun e h1 h2 h3=>a2 e h1 (by have:=(φ15 _).1 q2;omega) h3,κP _⟩
  show φ2 (φO (actN R.1) (frame (φ7 r)) R.2.1).1 φi=_
  rw[φ7B q1 (show φi≠actN R.1 from (φ2Q _).symm)]
  exact n3
 ·unfold entP
  rw[hsz]
  rfl
theorem φ8y:∀(rs:List RecT) (s:φ8) (d:φ1),JB s d→(∀r∈rs,φZ r=true)→∃P:List φF,Grow s d (φe rs s d).1 (φe rs s d).2.1 P∧P.map (·.2.2.2)=rs.take P.length∧P.length≤rs.length ∧
  ((φe rs s d).2.2.1=0→P.length=rs.length∧(φe rs s d).2.2.2=P.map entP)∧((φe rs s d).2.2.1≠0→P.length<rs.length)
 | [],s,d,h,_=>⟨[],Grow.refl h,rfl,κB _,fun _=>⟨rfl,rfl⟩,fun e=>absurd rfl e⟩
 | r::rs,s,d,h,hr=>by
  obtain ⟨a1,a2⟩:=φEj h (hr r (by simp))
  unfold φe
  by_cases c:(addP s d r).2.2.1=0
  rotate_left
  ·rw[if_pos c]
   exact ⟨[],a2 c,rfl,κ3 _,fun e=>absurd e c,fun _=>by simp⟩
  rw[if_neg (by simpa using c)]
  obtain ⟨p,p1,p2,p3⟩:=a1 c
  obtain ⟨P,g1,g2,g3,g4,g5⟩:=φ8y rs _ _ p1.jb fun x hx=>hr x (by simp[hx])
  refine ⟨p::P,Grow.trans p1 g1,?_,by simp;omega,fun e=>?_,fun e=>by have:=g5 e;simp;omega⟩
  ·simp[p2,g2]
  ·obtain ⟨x1,x2⟩:=g4 e
   exact ⟨by simp[x1],by simp only[κ5];rw[←p3,←x2]⟩
structure JR (s:φ8) (d:φ1):Prop extends JB s d where
 reg:∃last,φl [] (φS d s.1.2) ([],0,0)=(s.2.1,last,0)∧last<s.2.2.1
 pb:∀p∈φS d s.1.2,p.2.2.2.2.1<s.2.2.1
 own:ownL 5 0 (φS d s.1.2)=[]
theorem φAm (b:Int):∀(P pre:List φF) (dir:List φB) (z:Int),(∀p∈P,(p.2.2.2.1=1∨p.2.2.2.1=2)∧p.2.2.2.2.1=b)→z≤b→∃z',z'≤b∧φl pre P (dir,z,0)=(dir,z',0)
 | [],pre,dir,z,_,hz=>⟨z,hz,rfl⟩
 | p::P,pre,dir,z,h,hz=>by
  obtain ⟨hk,hb⟩:=h p (by simp)
  rw[φl,if_neg (by simp)]
  have e:φ1X pre p (dir,z,0)=(dir,if p.2.2.2.2.1 > z then p.2.2.2.2.1 else z,0):=by
   unfold φ1X
   simp only
   rw[if_neg (by rcases hk with e | e<;>rw[e]<;>decide)]
  rw[e]
  exact φAm b P _ _ _ (fun q hq=>h q (by simp[hq])) (by split<;>omega)
theorem φAh (b:Int):∀(P acc:List φF),(∀p∈P,p.2.2.2.1=1∨p.2.2.2.1=2∨p.2.2.2.1=3)→P.foldl (φ1Z 5 b) acc=acc
 | [],acc,_=>rfl
 | p::P,acc,h=>by
  have hk:=h p (by simp)
  have e:φ1Z 5 b acc p=acc:=by
   unfold φ1Z
   rw[if_neg (by simp),if_neg (by rcases hk with e | e | e<;>rw[e]<;>decide),if_neg (by rcases hk with e | e | e<;>rw[e]<;>simp)]
  rw[κN,e,φAh b P acc fun q hq=>h q (by simp[hq])]
theorem φDR (b:Int):∀(A:List φF) (acc:List φF),(∀p∈A,p.2.2.2.2.1<b)→A.foldl (φ1Z 3 b) acc=acc
 | [],acc,_=>rfl
 | p::A,acc,h=>by
  have hb:=h p (by simp)
  have e:φ1Z 3 b acc p=acc:=by
   unfold φ1Z
   rw[if_pos ⟨rfl,by omega⟩]
  rw[κN,e,φDR b A acc fun q hq=>h q (by simp[hq])]
theorem φEH (b:Int):∀(P acc:List φF),(∀p∈P,(p.2.2.2.1=1∨p.2.2.2.1=2)∧p.2.2.2.2.1=b)→P.foldl (φ1Z 3 b) acc=acc++P
 | [],acc,_=>by simp
 | p::P,acc,h=>by
  obtain ⟨hk,hb⟩:=h p (by simp)
  have e:φ1Z 3 b acc p=acc++[p]:=by
   unfold φ1Z
   rw[if_neg (by rw[hb];simp),if_neg (by rcases hk with e | e<;>rw[e]<;>decide),if_pos (.inl ⟨rfl,hk⟩)]
  rw[κN,e,φEH b P _ fun q hq=>h q (by simp[hq])]
  simp
theorem φC2 (b:Int):∀(P:List φF) (l:List PutT) (dir:List φB),P.map (·.2.2.2)=l.map (φ1K b)→φ1q dir P=dirW dir (l.zip (P.map entP))
 | [],l,dir,h=>by
  cases l with
  | nil=>rfl
  | cons x l=>simp at h
 | p::P,l,dir,h=>by
  cases l with
  | nil=>simp at h
  | cons q l=>
   simp only[κ5,List.cons.injEq] at h
   obtain ⟨h1,h2⟩:=h
   have e:putD dir p=φ2g dir (q,entP p):=by
    unfold putD φ2g entP
    rw[h1]
    unfold φ1K
    cases q.2.1<;>rfl
   show φ1q (putD dir p) P=dirW (φ2g dir (q,entP p)) (l.zip (P.map entP))
   rw[e]
   exact φC2 b P l _ h2
theorem φIv (b:Int) (p:PutT):((φ1K b p).1=1∨(φ1K b p).1=2)∧(φ1K b p).2.1=b:=by
 unfold φ1K
 split
 ·exact ⟨.inr rfl,rfl⟩
 ·exact ⟨.inl rfl,rfl⟩
theorem JB.bump {s:φ8} {d:φ1} (h:JB s d) (hb:s.2.2.1≤1000000):JB (s.1,s.2.1,s.2.2.1+1,s.2.2.2) d:=by
 obtain ⟨q1,q2,q3,q4,q5,q6⟩:=φr.1 h.ok
 refine ⟨φr.2 ⟨q1,q2,q3,by show 1≤s.2.2.1+1∧s.2.2.1+1≤1000001;omega,q5,fun e he=>?_⟩,h.lt,h.liv,h.fre⟩
 have:=q6 e he
 rw[φ32] at this ⊢
 obtain ⟨a1,a2,a3,a4,a5⟩:=this
 exact ⟨a1,a2,a3,a4,by show e.2.2.2.2<s.2.2.1+1;omega⟩
theorem φMk {s:φ8} {d:φ1} (h:JR s d) {l:List PutT} (hp:φ2U l=true) (hb:s.2.2.1≤1000000) (hk:φ3X s.2.1 l≤20):JR (φ1t s d l).1 (φ1t s d l).2.1:=by
 obtain ⟨q1,q2,q3,q4,q5,q6⟩:=φr.1 h.ok
 have hrec:=φ8F (b:=s.2.2.1) (l:=l) ⟨q4.1,hb⟩ hp
 have hJ1:=h.toJB.bump hb
 obtain ⟨P,g1,g2,g3,g4,g5⟩:=φ8y (φ1z s.2.2.1 l) _ _ hJ1 hrec
 obtain ⟨last,hreg,hlast⟩:=h.reg
 have hrl:=φBB s.2.2.1 l
 have hright:=φE5 h.ok h.lt hp hb hk
 -- the places of a part of a batch
 have part:∀Q:List φF,(∃k,k≤l.length∧Q.map (·.2.2.2)=(l.map (φ1K s.2.2.1)).take k)→∀p∈Q,(p.2.2.2.1=1∨p.2.2.2.1=2)∧p.2.2.2.2.1=s.2.2.1:=fun Q ⟨k,_,hQ⟩ p hpQ=>by
  have:p.2.2.2∈Q.map (·.2.2.2):=mM.2 ⟨p,hpQ,rfl⟩
  rw[hQ] at this
  obtain ⟨q,_,e⟩:=mM.1 (List.mem_of_mem_take this)
  have:=φIv s.2.2.1 q
  rw[e] at this
  exact this
 unfold φ1t at hright ⊢
 generalize hG:φe (φ1z s.2.2.1 l) (s.1,s.2.1,s.2.2.1+1,s.2.2.2) d=g at *
 simp only at hright ⊢
 have hbat:g.1.2.2.1=s.2.2.1+1:=g1.bat
 have hdir:g.1.2.1=s.2.1:=g1.dir
 have hpl:φS g.2.1 g.1.1.2=φS d s.1.2++P:=g1.pl
 by_cases c:g.2.2.1=0
 rotate_left
 ·-- the batch was not written φ2P
  rw[if_pos c]
  have hlt:=g5 c
  have hP:=part P ⟨P.length,by omega,by
   rw[g2]
   unfold φ1z
   rw[List.take_append_of_le_length (by rw[lM];omega)]⟩
  obtain ⟨z',hz',e⟩:=φAm s.2.2.1 P (φS d s.1.2) s.2.1 last hP (by omega)
  refine ⟨g1.jb,⟨z',?_,by show z'<g.1.2.2.1;omega⟩,fun p hp=>?_,?_⟩
  ·show φl [] (φS g.2.1 g.1.1.2) _=_
   rw[hpl,φ5K _ _ _ _ (by rw[hreg]),hreg,κ7,e,hdir]
  ·have hp:p∈φS g.2.1 g.1.1.2:=hp
   rw[hpl] at hp
   show _<g.1.2.2.1
   rcases mA.1 hp with hp | hp
   ·have:=h.pb p hp;omega
   ·have:=(hP p hp).2;omega
  ·show ownL 5 0 (φS g.2.1 g.1.1.2)=[]
   have ho:=h.own
   rw[hpl]
   unfold ownL at ho ⊢
   rw[κW,ho,φAh 0 P [] fun p hp=>by rcases (hP p hp).1 with e | e<;>simp[e]]
 rw[if_neg (by simpa using c)] at hright ⊢
 obtain ⟨x1,x2⟩:=g4 c
 -- the last sync is done
 obtain ⟨b1,b2,b3,b4,b5,b6⟩:=φr.1 g1.jb.ok
 have hex:(φ2 g.2.1 (actN g.1)).2=true:=(((φ20 _).1 b5).1 _ (φ3l (φ4p b2))).1
 have hs0:(φI (actN g.1) g.2.1).2=0:=φ7b b1 g1.jb.fre hex
 rw[if_neg (by rw[hs0];simp)] at hright ⊢
 obtain ⟨r1,r2,r3,r4,r5⟩:=hright rfl
 have hpl2:φS (φI (actN g.1) g.2.1).1 g.1.1.2=φS d s.1.2++P:=by
  rw[φ5z (d:=g.2.1) fun id _=>φ2a b1 _ _]
  exact hpl
 -- the last place is the seal's
 have hP0:P≠[]:=fun e=>by rw[e] at x1;simp at x1;omega
 obtain ⟨Q,pz,rfl⟩:∃Q pz,P=Q++[pz]:=⟨P.dropLast,P.getLast hP0,(List.dropLast_concat_getLast hP0).symm⟩
 have hQl:Q.length=l.length:=by simp at x1;omega
 have hmap:(Q++[pz]).map (·.2.2.2)=l.map (φ1K s.2.2.1)++[(3,s.2.2.1,[],[],(l.length:Int),φ1g (l.map (φ1K s.2.2.1)))]:=by
  rw[g2,x1,κb];rfl
 rw[mp,List.map_singleton] at hmap
 obtain ⟨hQ,hz⟩:=List.append_inj hmap (by simp[hQl])
 have hz:pz.2.2.2=(3,s.2.2.1,[],[],(l.length:Int),φ1g (l.map (φ1K s.2.2.1))):=by simpa using hz
 have hPQ:=part Q ⟨l.length,κB _,by rw[hQ,List.take_of_length_le (by simp)]⟩
 obtain ⟨z',hz',e⟩:=φAm s.2.2.1 Q (φS d s.1.2) s.2.1 last hPQ (by omega)
 have hown3:ownL 3 s.2.2.1 (φS d s.1.2++Q)=Q:=by
  unfold ownL
  rw[κW,φDR _ _ _ h.pb,φEH _ _ _ hPQ];rfl
 have hdw:φ1q s.2.1 Q=dirW s.2.1 (l.zip g.2.2.2):=by
  rw[φC2 s.2.2.1 Q l s.2.1 hQ,x2,mp,φDn _ _ _ (by simp[hQl])]
 have hseal:φ1X (φS d s.1.2++Q) pz (s.2.1,z',0)=(dirW s.2.1 (l.zip g.2.2.2),s.2.2.1,0):=by
  unfold φ1X
  simp only
  rw[hz]
  simp only
  rw[if_pos (.inl trivial),hown3,hQ]
  have hfit:φ3I (3,s.2.2.1,[],[],(l.length:Int),φ1g (l.map (φ1K s.2.2.1))) (l.map (φ1K s.2.2.1))=true:=by
   unfold φ3I;simp
  have el:(if s.2.2.1 > z' then s.2.2.1 else z')=s.2.2.1:=by split<;>omega
  rw[if_pos hfit,hdw,el]
  unfold φ4i
  rw[if_neg]
  have r5':(dirW g.1.2.1 (l.zip g.2.2.2)).length=φ3X s.2.1 l:=r5
  rw[hdir] at r5'
  omega
 refine ⟨⟨r1,r2,?_,φ1H g1.jb.fre⟩,⟨s.2.2.1,?_,by show s.2.2.1<g.1.2.2.1;omega⟩,fun p hp=>?_,?_⟩
 ·obtain ⟨nx,n1,n2,n3⟩:=g1.jb.liv
  exact ⟨nx,n1,n2,by rw[φ2a b1];exact n3⟩
 ·show φl [] (φS (φI (actN g.1) g.2.1).1 g.1.1.2) _=_
  rw[hpl2,φ5K _ _ _ _ (by rw[hreg]),hreg,κ7,φ5K _ _ _ _ (by rw[e]),e,φl,if_neg (by simp),hseal,hdir]
  rfl
 ·have hp:p∈φS (φI (actN g.1) g.2.1).1 g.1.1.2:=hp
  rw[hpl2] at hp
  show _<g.1.2.2.1
  rcases mA.1 hp with hp | hp
  ·have:=h.pb p hp;omega
  ·rcases mA.1 hp with hp | hp
   ·have:=(hPQ p hp).2;omega
   ·rw[mZ.1 hp,hz];show s.2.2.1<_;omega
 ·show ownL 5 0 (φS (φI (actN g.1) g.2.1).1 g.1.1.2)=[]
  have ho:=h.own
  rw[hpl2]
  unfold ownL at ho ⊢
  rw[κW,ho,φAh 0 (Q++[pz]) [] fun p hp=>by
   rcases mA.1 hp with hp | hp
   ·rcases (hPQ p hp).1 with e | e<;>simp[e]
   ·rw[mZ.1 hp,hz];simp]
theorem φJK {id:Int} {t:List UInt8} {h:φ1D} (k:φ16 id t=(h,true)) (hd:φ1m h.2.2=true) (h0:0≤h.2.1) :
  φl [] ((scan t).1.map fun x=>((id,x):φF)) ([],0,0)=(h.2.2,h.2.1,0)∧ownL 5 0 ((scan t).1.map fun x=>((id,x):φF))=[]∧∀p∈(scan t).1.map (fun x=>((id,x):φF)),p.2.2.2.2.1≤h.2.1:=by
 obtain ⟨l,z,e,z5,hf,hk,hh,_,_⟩:=φFh k
 have hsrt:srt ([]++l.map (entS id)):=by have:=φ5Y hd;rw[hh] at this;simpa using this
 have hlen:(l.map (entS id)).length≤20:=by
  unfold φ1m at hd
  rw[hh] at hd
  simp only[bA,decide_eq_true_eq] at hd
  exact hd.2
 rw[hh] at h0
 have h0:0≤z.2.2.2.1:=h0
 rw[e,hh]
 obtain ⟨z',hz',eg⟩:=φBn id z.2.2.2.1 l [] 0 hk h0
 refine ⟨?_,?_,fun p hp=>?_⟩
 ·rw[mp,φ5K _ _ _ _ (by rw[eg]),eg,κ7,List.map_singleton,φl,if_neg (by simp)]
  have eo:ownL z.2.2.1 z.2.2.2.1 (l.map fun x=>((id,x):φF))=l.map fun x=>((id,x):φF):=by
   rw[z5];unfold ownL;rw[φAz id _ l [] fun x hx=>(hk x hx).1];rfl
  have ea:φ1q [] (l.map fun x=>((id,x):φF))=l.map (entS id):=by
   rw[φAB id l [] (fun x hx=>(hk x hx).1) hsrt];rfl
  have er:(l.map fun x=>((id,x):φF)).map (·.2.2.2)=l.map (·.2.2):=by rw[List.map_map];rfl
  have es:φ1X (l.map fun x=>((id,x):φF)) ((id,z):φF) ([],z',0)=(l.map (entS id),z.2.2.2.1,0):=by
   unfold φ1X
   simp only
   have el:(if z.2.2.2.1 > z' then z.2.2.2.1 else z')=z.2.2.2.1:=by split<;>omega
   rw[if_pos (.inr z5),eo,er,if_pos hf,ea,el]
   unfold φ4i
   rw[if_neg (Nat.not_lt.2 hlen)]
  rw[es];rfl
 ·unfold ownL
  rw[mp,κW,List.map_singleton,κN,List.foldl_nil]
  unfold φ1Z
  rw[if_neg (by simp),if_pos z5]
 ·obtain ⟨x,hx,rfl⟩:=mM.1 hp
  show x.2.2.2.1≤z.2.2.2.1
  rcases mA.1 hx with hx | hx
  ·exact (hk x hx).2
  ·rw[mZ.1 hx];exact κP _
theorem φAs:∀(ids:List Int) {w:φD},φ3 w.1=true→Free w.1→w.2=0→(sOld ids w).2=0
 | [],w,_,_,h=>h
 | i::ids,w,hk,hf,h=>φAs ids (w:=φj [φ0 i,φK i] w) (φ4V _ hk) (φ5Z (P:=Free) (fun d act k=>φ1H k) _ hf) (φ8J _ hk hf h)
theorem φEB {s:φ8} {d:φ1} (l:List φ12) (h:JB s d) (h2:s.1.1+2≤100000) (hc:(φ1A s d l).2.2≠0) :
  (φ1A s d l).1=((s.1.1+2,s.1.2),s.2)∧φ3 (φ1A s d l).2.1=true∧Free (φ1A s d l).2.1∧φ2 (φ1A s d l).2.1 φi=φ2 d φi ∧
  ∀id,1≤id∧id<s.1.1→φ2 (φ1A s d l).2.1 (φ0 id)=φ2 d (φ0 id):=by
 obtain ⟨q1,q2,q3,q4,q5,q6⟩:=φr.1 h.ok
 obtain ⟨k1,k2,k3,k4⟩:=(φ15 s.1).1 q2
 have hF:=h.fre
 have g1:=φ6L s.1.1 (φW l (s.2.2.1 - 1)) (w:=(d,0)) q1
 have g0:=φ3t (w:=(d,0)) q1 (φ0 s.1.1)
 have g0a:=φ6O (φ0 s.1.1) (φW l (s.2.2.1 - 1)) g0
 have g2:=φ3t g1 (φ0 (s.1.1+1))
 have F1:Free (sNew (φ0 (s.1.1+1)) (sWM s.1.1 (φW l (s.2.2.1 - 1)) (d,0))).1:=φ7y (P:=Free) (fun d act k=>φ1H k) _ (φ9W (P:=Free) (fun d act k=>φ1H k) _ _ hF)
 have f1:∀n,n≠φ0 s.1.1→n≠φ0 (s.1.1+1)→φ2 (sNew (φ0 (s.1.1+1)) (sWM s.1.1 (φW l (s.2.2.1 - 1)) (d,0))).1 n=φ2 d n:=fun n q1' q2'=>by
  rw[φ5m g1 q2']
  unfold sWM
  rw[φ2f (op:=φI _) (φ2a g0a _ n),φ9z q1' _ g0,φ5m (w:=(d,0)) q1 q1']
 unfold φ1A at hc ⊢
 simp only at hc ⊢
 generalize sNew (φ0 (s.1.1+1)) (sWM s.1.1 (φW l (s.2.2.1 - 1)) (d,0))=w1 at *
 have g3:φ3 (φq s.1.1 w1).1=true:=by
  unfold φq;split
  ·exact g2
  ·exact φ6P _ g2
 have F2:Free (φq s.1.1 w1).1:=by
  unfold φq;split
  ·exact F1
  ·exact φAy (P:=Free) (fun d act k=>φ1H k) _ F1
 have f2:∀n,n≠φK s.1.1→φ2 (φq s.1.1 w1).1 n=φ2 w1.1 n:=fun n q=>by
  unfold φq
  split
  ·rfl
  ·unfold φ1p
   simp only
   have hf:=φ4Q (w:=(w1.1,0)) g2 (φK s.1.1) (φ1c (φ16 s.1.1 (φ2 w1.1 (φ0 s.1.1)).1).1)
   split
   ·rw[φ58 hf q,φ4g (w:=(w1.1,0)) g2 q]
   ·rw[φ4g (w:=(w1.1,0)) g2 q]
 generalize φq s.1.1 w1=w2 at *
 have g5:φ3 (if w2.2=0 then φ9 (sPut (s.1.1+2,[s.1.1,s.1.1+1]) w2) else φ9 w2).1=true:=by
  split
  ·exact φ3z g3 _
  ·exact g3
 have F5:Free (if w2.2=0 then φ9 (sPut (s.1.1+2,[s.1.1,s.1.1+1]) w2) else φ9 w2).1:=by
  split
  ·exact φ90 (P:=Free) (fun d act k=>φ1H k) _ F2
  ·exact F2
 have f3:∀n,n≠φ2J→n≠φi→φ2 (if w2.2=0 then φ9 (sPut (s.1.1+2,[s.1.1,s.1.1+1]) w2) else φ9 w2).1 n=φ2 w2.1 n:=fun n q1 q2=>by
  split
  ·exact φ7O g3 _ q1 q2
  ·rfl
 have fl:(if w2.2=0 then φ9 (sPut (s.1.1+2,[s.1.1,s.1.1+1]) w2) else φ9 w2).2≠0→φ2 (if w2.2=0 then φ9 (sPut (s.1.1+2,[s.1.1,s.1.1+1]) w2) else φ9 w2).1 φi=φ2 w2.1 φi:=fun e=>by
  by_cases c:w2.2=0
  ·rw[if_pos c] at e ⊢
   exact φFO g3 F2 fun e2=>e ((φ1R _).2 e2)
  ·rw[if_neg c];rfl
 generalize (if w2.2=0 then φ9 (sPut (s.1.1+2,[s.1.1,s.1.1+1]) w2) else φ9 w2)=w3 at *
 by_cases c:w3.2=0
 ·rw[if_neg (by simpa using c)] at hc
  exfalso
  apply hc
  show told (sOld s.1.2 (w3.1,0)).2=0
  rw[φAs s.1.2 (w:=(w3.1,0)) g5 F5 rfl];rfl
 rw[if_pos (by simpa using c)]
 refine ⟨rfl,φBy _ g5,?_,?_,fun id hid=>?_⟩
 ·show Free (φ1f (φ3x s.1.1) w3).1
  have:=φ5Z (P:=Free) (fun d act k=>φ1H k) (φ3x s.1.1) (w:=(w3.1,0)) F5
  unfold φ1f
  split
  ·split
   ·exact this
   ·exact this
  ·exact F5
 ·show φ2 (φ1f (φ3x s.1.1) w3).1 φi=_
  rw[φ82 g5 (fun m hm=>by
   unfold φ3x at hm
   simp only[mc,List.not_mem_nil,or_false] at hm
   rcases hm with rfl | rfl | rfl | rfl
   ·decide
   ·exact (φ2Q _).symm
   ·exact (φ2Q _).symm
   ·exact (φ6y _).symm),fl c,f2 _ (φ6y _).symm,f1 _ (φ2Q _).symm (φ2Q _).symm]
 ·have n1:φ0 id≠φ0 s.1.1:=fun e=>by have:=φ3r (by omega) (by omega) e;omega
  have n2:φ0 id≠φ0 (s.1.1+1):=fun e=>by have:=φ3r (by omega) (by omega) e;omega
  have n3:φ0 id≠φK s.1.1:=φ3y _ _ (by omega)
  show φ2 (φ1f (φ3x s.1.1) w3).1 (φ0 id)=_
  rw[φ82 g5 (fun m hm=>by
   unfold φ3x at hm
   simp only[mc,List.not_mem_nil,or_false] at hm
   rcases hm with rfl | rfl | rfl | rfl
   ·exact φ49 _
   ·exact n1
   ·exact n2
   ·exact n3),f3 _ (φ49 _) (φ2Q _),f2 _ n3,f1 _ n1 n2]
theorem φMv {s:φ8} {d:φ1} (h:JR s d) (h2:s.1.1+2≤100000):JR (φ1A s d (φY s d).1).1 (φ1A s d (φY s d).1).2.1:=by
 obtain ⟨q1,q2,q3,q4,q5,q6⟩:=φr.1 h.ok
 obtain ⟨k1,k2,k3,k4⟩:=(φ15 s.1).1 q2
 rw[φG (by omega) (by omega)] at k1
 have hids:=φ3e _ _ k1
 by_cases hc:(φ1A s d (φY s d).1).2.2=0
 ·have hM:=φHy (φY s d).1 q1 q2 h2 hc
  obtain ⟨m1,m2,m3,m4⟩:=φAX h.ok h2 hM.toMerged
  obtain ⟨k,ok⟩:=φLn h.ok h2 hM.toMerged
  have hfu:0 > d.2.2.1:=by rw[show d.2.2=(-1,false) from h.fre];decide
  have hF:=hM.fre hfu
  have hst:=hM.st
  have hone:=hM.one
  have htwo:=hM.two
  have hliv:=hM.liv
  generalize φ1A s d (φY s d).1=M at *
  obtain ⟨S,y,c⟩:=M
  simp only at hc hM m1 m2 m3 m4 k ok hF hst hone htwo hliv ⊢
  unfold φ2L at ok
  simp only[bA,decide_eq_true_eq] at ok
  obtain ⟨r1,r2,r3⟩:=φJK k ok.2.2.2 ok.2.2.1.1
  have hI:S.1.2=[s.1.1,s.1.1+1]:=by rw[hst]
  have hB:S.2.2.1=s.2.2.1:=by rw[hst]
  have hpl:φS y S.1.2=(scan (txt (φW (φY s d).1 (s.2.2.1 - 1)))).1.map fun x=>((s.1.1,x):φF):=by
   rw[hI]
   unfold φS φ11
   simp[hone,htwo,φ7V]
  refine ⟨⟨m1,m3,⟨s.1.1+2,by rw[hst];exact κP _,by rw[hI];exact φA0 s.1.1 k2.1 h2,by rw[hI];exact hliv⟩,hF⟩,⟨s.2.2.1 - 1,by rw[hpl];exact r1,by rw[hB];omega⟩,fun p hp=>?_,by rw[hpl];exact r2⟩
  rw[hpl] at hp
  have:=r3 p hp
  have:p.2.2.2.2.1≤s.2.2.1 - 1:=this
  rw[hB];omega
 ·obtain ⟨f1,f2,f3,f4,f5⟩:=φEB (φY s d).1 h.toJB h2 hc
  have hft:∀id∈s.1.2,φ2 (φ1A s d (φY s d).1).2.1 (φ0 id)=φ2 d (φ0 id):=fun id hid=>f5 id (by have:=hids id hid;omega)
  have hkp:φ2v s.1.1 d (φ1A s d (φY s d).1).2.1:=fun e e1 e2 e3=>by
   unfold φ1C
   rw[f5 _ ⟨e1,e2⟩]
  have hpl:=φ5z hft
  generalize φ1A s d (φY s d).1=M at *
  obtain ⟨S,y,c⟩:=M
  simp only at f1 f2 f3 f4 f5 hft hkp hpl ⊢
  subst f1
  obtain ⟨last,r1,r2⟩:=h.reg
  obtain ⟨nx,n1,n2,n3⟩:=h.liv
  refine ⟨⟨φr.2 ⟨f2,φDa (a:=s.1.1) q2 (by omega) h2,q3,q4,?_,fun e he=>φ6X (s:=s) h.ok hkp h.lt (κP _) e he⟩,fun e he=>by have:=h.lt e he;show e.2.1<s.1.1+2;omega,⟨nx,by show nx≤s.1.1+2;omega,n2,by rw[f4];exact n3⟩,f3⟩,⟨last,by show φl [] (φS y s.1.2) _=_;rw[hpl];exact r1,r2⟩,?_,?_⟩
  ·obtain ⟨g1,g2⟩:=(φ20 _).1 q5
   exact (φ20 _).2 ⟨fun id hid=>by rw[hft id hid];exact g1 id hid,fun hne=>by rw[hft _ (φ3l hne)];exact g2 hne⟩
  ·intro p hp
   have hp:p∈φS y s.1.2:=hp
   rw[hpl] at hp
   exact h.pb p hp
  ·show ownL 5 0 (φS y s.1.2)=[]
   rw[hpl];exact h.own
theorem φLX (k b:Int) (acc:List φF) (p:φF):∀x∈φ1Z k b acc p,x∈acc∨x=p:=by
 intro x hx
 unfold φ1Z at hx
 split at hx
 ·exact .inl hx
 split at hx
 ·simp at hx
 split at hx
 ·rcases mA.1 hx with h | h
  ·exact .inl h
  ·exact .inr (mZ.1 h)
 ·exact .inl hx
theorem φEw (k b:Int):∀(l acc:List φF),∀x∈l.foldl (φ1Z k b) acc,x∈acc∨x∈l
 | [],acc,x,hx=>.inl hx
 | p::l,acc,x,hx=>by
  rcases φEw k b l _ x hx with h | h
  ·rcases φLX k b acc p x h with h | h
   ·exact .inl h
   ·exact .inr (by simp[h])
  ·exact .inr (by simp[h])
theorem φJ5 {k b:Int} {l:List φF}:∀x∈ownL k b l,x∈l:=fun x hx=>by
 rcases φEw k b l [] x hx with h | h
 ·simp at h
 ·exact h
theorem φCV:∀(own:List φF) (dir:List φB),∀e∈φ1q dir own,e∈dir∨∃p∈own,e=entP p
 | [],dir,e,he=>.inl he
 | p::own,dir,e,he=>by
  rcases φCV own (putD dir p) e he with h | ⟨q,hq,x⟩
  ·unfold putD at h
   split at h
   ·exact .inl ((φ6b _ _ _).1 h).1
   ·rcases (φ3g _ _ _).1 h with h | h
    ·exact .inr ⟨p,by simp,h⟩
    ·exact .inl ((φ6b _ _ _).1 h).1
  ·exact .inr ⟨q,by simp[hq],x⟩
theorem φHg (pre:List φF) (p:φF) (g:φ13):∀e∈(φ1X pre p g).1,e∈g.1∨∃q∈pre,e=entP q:=by
 intro e he
 unfold φ1X at he
 simp only at he
 split at he
 ·split at he
  ·rcases φCV _ _ e he with h | ⟨q,hq,x⟩
   ·exact .inl h
   ·exact .inr ⟨q,φJ5 q hq,x⟩
  ·split at he
   ·exact .inl he
   ·exact .inl he
 ·exact .inl he
theorem φKQ (pre:List φF) (p:φF) (g:φ13):(φ1X pre p g).2.1=if p.2.2.2.2.1 > g.2.1 then p.2.2.2.2.1 else g.2.1:=by
 unfold φ1X
 simp only
 split
 ·split
  ·rfl
  ·split<;>rfl
 ·rfl
theorem φG4:∀(P pre:List φF) (g:φ13),∀e∈(φl pre P g).1,e∈g.1∨∃q∈pre++P,e=entP q
 | [],pre,g,e,he=>.inl he
 | p::P,pre,g,e,he=>by
  rw[φl] at he
  split at he
  ·exact .inl he
  ·rcases φG4 P _ _ e he with h | ⟨q,hq,x⟩
   ·rcases φHg pre p g e h with h | ⟨q,hq,x⟩
    ·exact .inl h
    ·exact .inr ⟨q,mL _ hq,x⟩
   ·exact .inr ⟨q,by simpa using hq,x⟩
theorem φET:∀(P pre:List φF) (g:φ13),(φl pre P g).2.2=0→g.2.1≤(φl pre P g).2.1∧∀p∈P,p.2.2.2.2.1≤(φl pre P g).2.1
 | [],pre,g,_=>⟨κP _,fun p hp=>by simp at hp⟩
 | p::P,pre,g,h=>by
  rw[φl] at h ⊢
  by_cases c:g.2.2≠0
  ·rw[if_pos c] at h;exact absurd h c
  rw[if_neg c] at h ⊢
  obtain ⟨h1,h2⟩:=φET P _ _ h
  rw[φKQ] at h1
  have:g.2.1≤(φl (pre++[p]) P (φ1X pre p g)).2.1∧p.2.2.2.2.1≤(φl (pre++[p]) P (φ1X pre p g)).2.1:=by
   split at h1<;>omega
  refine ⟨this.1,fun q hq=>?_⟩
  rcases mc.1 hq with rfl | hq
  ·exact this.2
  ·exact h2 q hq
theorem φGq {d:φ1}:∀{l:List Int},(∀id∈l,(φ2 d (φ0 id)).2=true∧φ2P (φ2 d (φ0 id)).1)→φ2N d l=true
 | [],_=>rfl
 | id::r,h=>by
  obtain ⟨h1,h2⟩:=h id (by simp)
  unfold φ2P at h2
  rw[φ2N,h1,φGq fun i hi=>h i (by simp[hi])]
  simp[h2]
theorem φMY {d:φ1} {ids:List Int}:∀p∈φS d ids,p.1∈ids:=fun p hp=>by
 unfold φS at hp
 obtain ⟨i,hi,hp⟩:=List.mem_flatMap.1 hp
 unfold φ11 at hp
 obtain ⟨x,_,rfl⟩:=mM.1 hp
 exact hi
theorem φIZ {s:φ8} {d:φ1} (h:JR s d):∃t y,φ2C d=(t,y,0)∧JR t y∧t.1.2=s.1.2∧t.2.1=s.2.1∧t.2.2.1≤s.2.2.1∧φY t y=φY s d∧y.2.1=d.2.1∧φJ y.1≤φJ d.1∧(y.2=d.2∧(∀n,(φ2 y n).2=true→φ2 y n=φ2 d n)∧φS y t.1.2=φS d s.1.2∧t.1.1≤s.1.1∧t.2.2.2.1=s.2.2.2.1):=by
 obtain ⟨q1,q2,q3,q4,q5,q6⟩:=φr.1 h.ok
 obtain ⟨nx,n1,n2,n3⟩:=h.liv
 obtain ⟨last,r1,r2⟩:=h.reg
 have hF:=h.fre
 obtain ⟨g1,g2⟩:=(φ20 _).1 q5
 have hne:=φ4p q2
 have g2:=g2 hne
 have hl1:=φBE (nx,s.1.2)
 have hrl:φ2t (φt (nx,s.1.2))=((nx,s.1.2),true):=φK4 ⟨n2,rfl⟩ (by omega)
 have hsh:φ2N d s.1.2=true:=φGq g1
 obtain ⟨e1,e2⟩:=g1 _ (φ3l hne)
 have hcn:cutN (nx,s.1.2) d=(φ2 d (φ0 (φL s.1.2))).1.length:=e2
 have hcut:cutW (nx,s.1.2) d=φI (φ0 (φL s.1.2)) d:=by
  unfold cutW
  rw[if_pos hcn.symm]
  rfl
 have hs0:(φI (φ0 (φL s.1.2)) d).2=0:=φ7b q1 hF e1
 have hx:=φ3J q1 (φ0 (φL s.1.2))
 have hxF:Free (φI (φ0 (φL s.1.2)) d).1:=φ1H hF
 have hft:∀n,φ2 (φI (φ0 (φL s.1.2)) d).1 n=φ2 d n:=fun n=>φ2a q1 _ n
 have hsw:(φo (nx,s.1.2) (φI (φ0 (φL s.1.2)) d).1).2=0:=φ8J _ (w:=((φI (φ0 (φL s.1.2)) d).1,0)) hx hxF rfl
 have hrg:φ2A ([],0,0) (φS d s.1.2)=(s.2.1,last,0):=by
  unfold φ2A φ6u
  rw[r1,h.own,if_neg (by simp)]
 obtain ⟨hin,eo,_⟩:=φJy (v:=(nx,s.1.2)) q1 n2 e1 (by rw[hcut];exact hs0)
 have ho:φ2C d=(((nx,s.1.2),s.2.1,w64 (last+1),(cutN (nx,s.1.2) d:Int),hin),(φo (nx,s.1.2) (φI (φ0 (φL s.1.2)) d).1).1,0):=by
  unfold φ2C
  rw[if_neg (by rw[q1];simp),if_neg (by rw[hF.up];simp),n3,if_neg (by simp),hrl,if_neg (by simp),if_neg (by rw[hsh];simp),eo,hcut,hrg]
  unfold φ4k
  rw[if_neg (by simp),if_neg (by rw[hsw];simp)]
 refine ⟨_,_,ho,?_⟩
 -- what the disk has
 have hy:=φ9I hx (nx,s.1.2)
 have hyF:Free (φo (nx,s.1.2) (φI (φ0 (φL s.1.2)) d).1).1:=φ5Z (P:=Free) (fun d act k=>φ1H k) _ hxF
 have hrange:∀id∈s.1.2,1≤id∧id≤100000∧id<nx:=fun id hid=>φBF (v:=(nx,s.1.2)) n2 hid
 have hsegs:∀id∈s.1.2,φ2 (φo (nx,s.1.2) (φI (φ0 (φL s.1.2)) d).1).1 (φ0 id)=φ2 d (φ0 id):=fun id hid=>by
  have hr:=hrange id hid
  rw[φGe hx (fun j hj=>by rw[φFv hj (φIe ⟨hr.1,hr.2.1⟩)];exact hid) (φ49 id),hft]
 have hlv:φ2 (φo (nx,s.1.2) (φI (φ0 (φL s.1.2)) d).1).1 φi=(φt (nx,s.1.2),true):=by
  rw[φGe hx (fun j hj=>absurd ⟨j,hj⟩ φMQ) (by decide),hft,n3]
 have hcap:(φo (nx,s.1.2) (φI (φ0 (φL s.1.2)) d).1).1.2.1=d.2.1∧φJ (φo (nx,s.1.2) (φI (φ0 (φL s.1.2)) d).1).1.1≤φJ d.1:=by
  rw[φ9U hx hxF,φG5 q1 hF e1]
  refine ⟨rfl,?_⟩
  show φJ ((onF _ φ6f d.1).filter _)≤_
  refine Nat.le_trans (φ75 _ List.filter_sublist) ?_
  show φJ (onF _ φ6f d.1)≤_
  have:∀l:List φ6,φJ (onF (φ0 (φL s.1.2)) φ6f l)=φJ l:=fun l=>by
   unfold φJ onF
   induction l with
   | nil=>rfl
   | cons f l ih=>
    simp only[κ5,sumN,ih]
    congr 1
    split<;>rfl
  rw[this];exact κB _
 have hkeep:(φo (nx,s.1.2) (φI (φ0 (φL s.1.2)) d).1).1.2=d.2∧∀n,(φ2 (φo (nx,s.1.2) (φI (φ0 (φL s.1.2)) d).1).1 n).2=true→φ2 (φo (nx,s.1.2) (φI (φ0 (φL s.1.2)) d).1).1 n=φ2 d n:=by
  refine ⟨by rw[φ9U hx hxF,φG5 q1 hF e1],fun n hn=>?_⟩
  rw[←hft n]
  by_cases hex:∃f∈(φo (nx,s.1.2) (φI (φ0 (φL s.1.2)) d).1).1.1,f.1=n
  ·obtain ⟨f,hf,rfl⟩:=hex
   have hf2:f∈(φI (φ0 (φL s.1.2)) d).1.1:=by
    rw[φ9U hx hxF] at hf
    exact (List.mem_filter.1 hf).1
   rw[φ34 hy hf,φ34 hx hf2]
  ·exfalso
   rw[φGz fun f hf e=>hex ⟨f,hf,e⟩] at hn
   simp at hn
 generalize (φo (nx,s.1.2) (φI (φ0 (φL s.1.2)) d).1).1=y at *
 have hpl:=φ5z hsegs
 -- what the directory's entries are
 have hmem:∀e∈s.2.1,∃p∈φS d s.1.2,e=entP p:=fun e he=>by
  have:e∈(φl [] (φS d s.1.2) ([],0,0)).1:=by rw[r1];exact he
  rcases φG4 _ _ _ e this with k | ⟨p,hp,x⟩
  ·simp at k
  ·exact ⟨p,by simpa using hp,x⟩
 obtain ⟨l0,lall⟩:=φET (φS d s.1.2) [] ([],0,0) (by rw[r1])
 rw[r1] at l0 lall
 have l0:0≤last:=l0
 have lall:∀p∈φS d s.1.2,p.2.2.2.2.1≤last:=lall
 have hseg:∀e∈s.2.1,e.2.1∈s.1.2∧e.2.2.2.2≤last:=fun e he=>by
  obtain ⟨p,hp,rfl⟩:=hmem e he
  exact ⟨φMY p hp,lall p hp⟩
 have hw:w64 (last+1)=last+1:=φG (by omega) (by omega)
 rw[hw]
 have hok:φh ((nx,s.1.2),s.2.1,last+1,(cutN (nx,s.1.2) d:Int),hin) y=true:=φr.2 ⟨hy,n2,q3,⟨by show 1≤last+1;omega,by show last+1≤1000001;omega⟩,(φ20 _).2 ⟨fun id hid=>by rw[hsegs id hid];exact g1 id hid,fun hne=>by rw[hsegs _ (φ3l hne),hcn]⟩,fun e he=>by
  obtain ⟨s1,s2⟩:=hseg e he
  have k:=φ32.1 (q6 e he)
  have:φ1C y e=φ1C d e:=by unfold φ1C;rw[hsegs _ s1]
  rw[φ32,this]
  exact ⟨k.1,k.2.1,k.2.2.1,k.2.2.2.1,by show e.2.2.2.2<last+1;omega⟩⟩
 refine ⟨⟨⟨hok,fun e he=>?_,⟨nx,κP _,n2,hlv⟩,hyF⟩,⟨last,by show φl [] (φS y s.1.2) _=_;rw[hpl];exact r1,by show last<last+1;omega⟩,fun p hp=>?_,by show ownL 5 0 (φS y s.1.2)=[];rw[hpl];exact h.own⟩,rfl,rfl,by show last+1≤_;omega,?_,hcap.1,hcap.2,hkeep.1,hkeep.2,hpl,n1,by show (cutN (nx,s.1.2) d:Int)=_;rw[hcn];exact g2.symm⟩
 ·have:=hrange _ (hseg e he).1
  exact this.2.2
 ·have hp:p∈φS y s.1.2:=hp
  rw[hpl] at hp
  have:=lall p hp
  show _<last+1
  omega
 ·rw[φ3A hok,φ3A h.ok]
  congr 1
  show mapG (φ1O y) s.2.1=mapG (φ1O d) s.2.1
  unfold mapG
  refine List.map_congr_left fun e he=>?_
  have:=hsegs _ (hseg e he).1
  congr 1
  unfold φ1O
  rw[this]
theorem φLs (n:Nat) (h:n≤100000) (h8:8≤n):JR ((2,[1]),[],1,0,0) (dNew n):=by
 obtain ⟨f1,f2,f3⟩:=φFm n h h8
 have hpl:φS (dNew n) [1]=[]:=by
  rw[φ8P]
  unfold φ11
  rw[f2,φ7V];rfl
 refine ⟨⟨φIp n h h8,fun e he=>by simp at he,⟨2,κP _,φKt,f1⟩,rfl⟩,⟨0,by show φl [] (φS (dNew n) [1]) _=_;rw[hpl];rfl,by decide⟩,fun p hp=>?_,by show ownL 5 0 (φS (dNew n) [1])=[];rw[hpl];rfl⟩
 have hp:p∈φS (dNew n) [1]:=hp
 rw[hpl] at hp
 simp at hp
theorem φIi (c:Int):told c=0∨told c=1∨told c=2∨told c=3:=by
 unfold told
 split
 ·exact .inl rfl
 split
 ·exact .inr (.inl rfl)
 split
 ·exact .inr (.inr (.inl rfl))
 ·exact .inr (.inr (.inr rfl))
def φ3E (c:Int):Prop:=0≤c∧c≤5
theorem φ5e (c:Int):φ3E (told c):=by
 unfold φ3E
 rcases φIi c with e | e | e | e<;>rw[e]<;>decide
theorem φKS {names:List (List UInt8)} {w:φD} (h:φ3E w.2):φ3E (φ1f names w).2:=by
 unfold φ1f
 split
 ·split
  ·exact ⟨by show (0:Int)≤2;decide,by show (2:Int)≤5;decide⟩
  ·exact φ5e _
 ·exact h
theorem φNN (s:φ8) (d:φ1):φ3E (rotP s d).2.2:=by
 unfold rotP
 split
 ·exact ⟨by show (0:Int)≤5;decide,by show (5:Int)≤5;decide⟩
 split
 ·exact φ5e _
 simp only
 split
 ·exact φ5e _
 split
 ·exact φKS (φ5e _)
 ·exact ⟨κP _,by show (0:Int)≤5;decide⟩
theorem φMw (s:φ8) (d:φ1) (r:RecT):φ3E (addP s d r).2.2.1:=by
 have h:φ3E (addR s d (frame (φ7 r))).2.2:=by
  unfold addR
  split
  ·exact φNN s d
  ·exact ⟨κP _,by show (0:Int)≤5;decide⟩
 unfold addP
 simp only
 split
 ·exact h
 split
 ·exact φ5e _
 ·exact ⟨κP _,by show (0:Int)≤5;decide⟩
theorem φDL:∀(rs:List RecT) (s:φ8) (d:φ1),φ3E (φe rs s d).2.2.1
 | [],_,_=>⟨κP _,by show (0:Int)≤5;decide⟩
 | r::rs,s,d=>by
  unfold φe
  split
  ·exact φMw s d r
  ·exact φDL rs _ _
theorem φL8 (s:φ8) (d:φ1) (l:List PutT):φ3E (φ1t s d l).2.2:=by
 unfold φ1t
 simp only
 split
 ·exact φDL _ _ _
 split
 ·exact φ5e _
 ·exact ⟨κP _,by show (0:Int)≤5;decide⟩
theorem φGr {s s':φ8} {d d':φ1} {m:Int} (h:φh s d=true) (h':φh s' d'=true) (hd:s'.2.1=s.2.1) (hk:φ2v m d d') (hm:∀e∈s.2.1,e.2.1<m):φY s' d'=φY s d:=by
 rw[φ3A h,φ3A h',hd,φF5 h hk hm]
theorem φJZ {s:φ8} {d:φ1} (h:JR s d) {l:List PutT} (hp:φ2U l=true) (hb:s.2.2.1≤1000000) (hc:(φ1t s d l).2.2≠0):(φ1t s d l).1.2.1=s.2.1∧φ2v s.1.1 d (φ1t s d l).2.1:=by
 obtain ⟨q1,q2,q3,q4,q5,q6⟩:=φr.1 h.ok
 have hrec:=φ8F (b:=s.2.2.1) (l:=l) ⟨q4.1,hb⟩ hp
 obtain ⟨P,g1,g2,g3,g4,g5⟩:=φ8y (φ1z s.2.2.1 l) _ _ (h.toJB.bump hb) hrec
 unfold φ1t at hc ⊢
 generalize φe (φ1z s.2.2.1 l) (s.1,s.2.1,s.2.2.1+1,s.2.2.2) d=g at *
 simp only at hc ⊢
 by_cases c:g.2.2.1=0
 rotate_left
 ·rw[if_pos c]
  exact ⟨g1.dir,g1.kp⟩
 rw[if_neg (by simpa using c)] at hc ⊢
 by_cases c2:(φI (actN g.1) g.2.1).2=0
 rotate_left
 ·rw[if_pos c2]
  refine ⟨g1.dir,fun e e1 e2 e3=>?_⟩
  obtain ⟨b1,_⟩:=φr.1 g1.jb.ok
  have:=g1.kp e e1 e2 e3
  unfold φ1C at this ⊢
  show φ1F (φ2 (φI (actN g.1) g.2.1).1 (φ0 e.2.1)).1 _ _=_
  rw[φ2a b1]
  exact this
 ·rw[if_neg (by simpa using c2)] at hc
  exact absurd rfl hc
theorem φHT {s:φ8} {d:φ1} (h:JR s d) (l:List PutT):JR (φ2T s d l).1 (φ2T s d l).2.1∧φ3E (φ2T s d l).2.2 ∧
  ((φ2T s d l).2.2=0→φY (φ2T s d l).1 (φ2T s d l).2.1=(φ9q (φY s d).1 l s.2.2.1,0))∧((φ2T s d l).2.2≠0→φY (φ2T s d l).1 (φ2T s d l).2.1=φY s d):=by
 have hd0:φY s d=((φY s d).1,0):=by rw[φ3A h.ok]
 unfold φ2T
 by_cases c1:φh s d=false∨φ2U l=false
 ·rw[if_pos c1]
  exact ⟨h,by show φ3E 4;exact ⟨by decide,by decide⟩,fun e=>by simp at e,fun _=>rfl⟩
 rw[if_neg c1]
 by_cases c2:l.length=0
 ·rw[if_pos c2]
  refine ⟨h,by show φ3E 0;exact ⟨by decide,by decide⟩,fun _=>?_,fun e=>absurd rfl e⟩
  have:l=[]:=List.length_eq_zero_iff.1 c2
  subst this
  exact hd0
 rw[if_neg c2]
 by_cases c3:20<φ3X s.2.1 l∨s.2.2.1 > 1000000
 ·rw[if_pos c3]
  exact ⟨h,by show φ3E 5;exact ⟨by decide,by decide⟩,fun e=>by simp at e,fun _=>rfl⟩
 rw[if_neg c3]
 have hp:φ2U l=true:=by
  cases hp:φ2U l with
  | true=>rfl
  | false=>exact absurd (.inr hp) c1
 have hJ:=φMk h hp (by omega) (by omega)
 refine ⟨hJ,φL8 s d l,fun hc=>?_,fun hc=>?_⟩
 ·obtain ⟨r1,r2,r3,r4,r5⟩:=φE5 h.ok h.lt hp (by omega) (by omega) hc
  rw[←r3,φ3A r1]
 ·obtain ⟨f1,f2⟩:=φJZ h hp (by omega) hc
  exact φGr h.ok hJ.ok f1 f2 h.lt
theorem φL9 {s:φ8} {d:φ1} (h:JR s d):JR (φ2s s d).1 (φ2s s d).2.1∧φY (φ2s s d).1 (φ2s s d).2.1=φY s d:=by
 unfold φ2s
 rw[if_neg (by rw[h.ok];simp)]
 by_cases c:s.1.1+2 > 100000
 ·rw[if_pos c];exact ⟨h,rfl⟩
 rw[if_neg c]
 have hJ:=φMv h (by omega)
 refine ⟨hJ,?_⟩
 obtain ⟨q1,q2,q3,q4,q5,q6⟩:=φr.1 h.ok
 by_cases hc:(φ1A s d (φY s d).1).2.2=0
 ·have hM:=φDZ (φY s d).1 q1 q2 (by omega) hc
  exact (φAX h.ok (by omega) hM).2.1
 ·obtain ⟨f1,f2,f3,f4,f5⟩:=φEB (φY s d).1 h.toJB (by omega) hc
  refine φGr (m:=s.1.1) h.ok hJ.ok (by rw[f1]) (fun e e1 e2 e3=>?_) h.lt
  unfold φ1C
  rw[f5 _ ⟨e1,e2⟩]
abbrev EngT:=Bool×φ8×φ1×List TxnT
abbrev φX:=Int×Int×List UInt8×List UInt8×Int
abbrev AnsT:=Int×List UInt8×List (List UInt8)
def TB (l:List TxnT):Prop:=l.length=3∧∀t∈l,t.2.1.length≤20∧t.2.2.length≤50
structure EI (e:EngT):Prop where
 up:e.1=true→JR e.2.1 e.2.2.1
 dn:e.1=false→(∃s,JR s e.2.2.1)∧e.2.1.1.2.length≤100∧e.2.1.2.1.length≤100
 tx:TB e.2.2.2
theorem TB.new:TB (κJ 3 ((false,[],[]):TxnT)):=⟨rfl,fun t ht=>by
 have:=List.eq_of_mem_replicate ht
 subst this
 exact ⟨by simp,by simp⟩⟩
theorem TB.set {l:List TxnT} (h:TB l) (i:Nat) {t:TxnT} (ht:t.2.1.length≤20∧t.2.2.length≤50):TB (l.set i t):=⟨by rw[List.length_set];exact h.1,fun x hx=>by
 rcases List.mem_or_eq_of_mem_set hx with hx | rfl
 ·exact h.2 x hx
 ·exact ht⟩
theorem JR.small {s:φ8} {d:φ1} (h:JR s d):SmallS s d:=by
 have:=φIg h.ok
 exact this
theorem EI.small {e:EngT} (h:EI e):SmallS e.2.1 e.2.2.1∧φ3 e.2.2.1=true:=by
 cases c:e.1 with
 | true=>exact ⟨(h.up c).small,(φr.1 (h.up c).ok).1⟩
 | false=>
  obtain ⟨⟨s,hs⟩,h1,h2⟩:=h.dn c
  have hd:=(φr.1 hs.ok).1
  exact ⟨⟨φ3H (φ10 hd) (by omega),by omega,by omega⟩,hd⟩
theorem φHI {t:TxnT} (h:t.2.1.length≤20∧t.2.2.length≤50) (p:PutT):(φ4E t p).1.2.1.length≤20∧(φ4E t p).1.2.2.length≤50:=by
 unfold φ4E
 split
 ·refine ⟨h.1,?_⟩
  simp;omega
 ·exact h
theorem EI.same {e:EngT} (h:EI e) {l:List TxnT} (hl:TB l):EI (e.1,e.2.1,e.2.2.1,l):=⟨h.up,h.dn,hl⟩
theorem EI.store {e:EngT} (h:EI e) (hu:e.1=true) {s:φ8} {d:φ1} (hj:JR s d) {l:List TxnT} (hl:TB l):EI (e.1,s,d,l):=⟨fun _=>hj,fun c=>by rw[hu] at c;simp at c,hl⟩
theorem φKZ {c:CurT} (h:Cur c):∃s c',ψ37.f c=some (s,c')∧s.1≠11∧Cur c':=by
 obtain ⟨k,c1,e1,hk,h1⟩:=φ73 h [1,2,2,3,3,3,4,5,5,6,7,8,1,5] (by decide)
 obtain ⟨z,c2,e2,a2,b2,_,h2⟩:=φ3D h1 3
 have hk11:k≠11:=by
  simp only[mc,List.not_mem_nil,or_false] at hk
  omega
 unfold ψ37.f
 simp only[e1,e2,bS]
 -- what follows
 have fin:∀(x0:CurT) (x3:φX),Cur x0→x3.1≠11→∃s c',((ψ3A.f x0 40).bind fun x=>
   bif x.1==0 then some (((9,0,[],[],0):φX),x.2) else
   (bif x.1==1 then some (x.2,((0,0,[],[],0):φX),x3,x.1,x.1==1) else some (x.2,((0,0,[],[],0):φX),x3,x.1,x.1==2)).bind fun x=>
    bif x.2.2.2.2 then some (((10,0,[],[],0):φX),x.1) else
    bif x.2.2.2.1==3 then (ψ3G.f x.1 [(-1),3]).bind fun x_1=>some (((x.2.2.1.1,x_1.1,x.2.2.1.2.2):φX),x_1.2) else
    bif x.2.2.2.1==4 then (ψ3F.f x.1 [[],[110,105,110,101,98,121,116,101,115]]).bind fun x_1=>some (((x.2.2.1.1,x.2.2.1.2.1,x_1.1,x.2.2.1.2.2.2):φX),x_1.2) else
    bif x.2.2.2.1==5 then (ψ3G.f x.1 [0,12]).bind fun x_1=>some (((x_1.1,x.2.2.1.2):φX),x_1.2) else some (x.2.2.1,x.1))=some (s,c')∧s.1≠11∧Cur c':=by
  intro x0 x3 hx h3
  obtain ⟨y,c4,e4,_,_,_,h4⟩:=φ3D hx 40
  simp only[e4,bS]
  cases d0:(y==0)
  rotate_left
  ·exact ⟨_,_,rfl,by decide,h4⟩
  simp only[cF]
  cases d1:(y==1)
  rotate_left
  ·simp only[cT,bS]
   exact ⟨_,_,rfl,by decide,h4⟩
  simp only[cF,bS]
  cases d2:(y==2)
  rotate_left
  ·exact ⟨_,_,rfl,by decide,h4⟩
  simp only[cF]
  cases d3:(y==3)
  rotate_left
  ·obtain ⟨v,c5,e5,_,h5⟩:=φ73 h4 [(-1),3] (by decide)
   simp only[cT,e5,bS]
   exact ⟨_,_,rfl,h3,h5⟩
  simp only[cF]
  cases d4:(y==4)
  rotate_left
  ·obtain ⟨v,c5,e5,_,h5⟩:=φFZ h4 [[],[110,105,110,101,98,121,116,101,115]] (by decide)
   simp only[cT,e5,bS]
   exact ⟨_,_,rfl,h3,h5⟩
  simp only[cF]
  cases d5:(y==5)
  rotate_left
  ·obtain ⟨v,c5,e5,hv,h5⟩:=φ73 h4 [0,12] (by decide)
   simp only[cT,e5,bS]
   refine ⟨_,_,rfl,?_,h5⟩
   simp only[mc,List.not_mem_nil,or_false] at hv
   show v≠11
   omega
  ·exact ⟨_,_,rfl,h3,h4⟩
 cases d2:(k==2)
 ·simp only[cF,bS]
  cases d4:(k==4)
  ·simp only[cF]
   cases d3:(k==3)
   ·simp only[cF,bS]
    exact fin c2 (k,z,[],[],0) h2 hk11
   ·obtain ⟨x,c3,e3,_,h3⟩:=φ9b h2
    obtain ⟨y,c4,e4,_,h4⟩:=φN3 h3 12 (by omega) (by omega)
    simp only[cT,e3,e4,bS]
    exact fin c4 (k,z,x,y,0) h4 hk11
  ·obtain ⟨x,c3,e3,_,h3⟩:=φ9b h2
   simp only[cT,e3,bS]
   exact fin c3 (k,z,x,[],0) h3 hk11
 ·obtain ⟨x,c3,e3,_,h3⟩:=φ9b h2
  simp only[cT,e3,bS]
  exact fin c3 (k,z,x,[],0) h3 hk11
def clOk:List φX→Prop
 | []=>True
 | [s]=>s.1≠9
 | s::t::r=>(s.1=9→t.1=10)∧clOk (t::r)
theorem φBQ:∀(a b:List φX),clOk a→clOk b→clOk (a++b)
 | [],b,_,h=>h
 | [s],[],h,_=>h
 | [s],t::r,h,k=>⟨fun e=>absurd e h,k⟩
 | s::t::r,b,⟨h1,h2⟩,k=>⟨h1,φBQ (t::r) b h2 k⟩
theorem φLv {c:CurT} (h:Cur c) (most:Nat) (hm0:most≤1000):∃l c',ψ38.f c (most:Int)=some (l,c')∧l.length≤2 * most∧(∀s∈l,s.1≠11)∧clOk l∧Cur c':=by
 obtain ⟨n,c1,e1,a1,b1,_,h1⟩:=φ3D h ((most:Int)+1)
 have b1:=b1 (by omega)
 obtain ⟨m,rfl⟩:∃m:Nat,n=(m:Int):=⟨n.toNat,by omega⟩
 have key:=φ9L (step:=ψ38.l0) (fun k (s:CurT×List φX×List Bool)=>(s.1,s.2.1,s.2.2,(k:Int))) (fun k s=>Cur s.1∧s.2.1.length+2 * k≤2 * most∧(∀x∈s.2.1,x.1≠11)∧clOk s.2.1∧s.2.2.length=3) (fun b=>Cur b.1∧b.2.length≤2 * most∧(∀x∈b.2,x.1≠11)∧clOk b.2)
  (fun rec s hi=>⟨_,by simp[ψ38.l0];rfl,hi.1,by have:=hi.2.1;show s.2.1.length≤2 * most;omega,hi.2.2.1,hi.2.2.2.1⟩)
  (fun rec k s hi=>by
   obtain ⟨s,l,o⟩:=s
   obtain ⟨hi1,hi2,hi3,hi5,hi4⟩:=hi
   simp only at hi1 hi2 hi3 hi5 hi4
   have e0:((k+1:Nat):Int) > 0:=by omega
   have hw:=φIs (show k<2 ^ 60 by omega)
   obtain ⟨t,c3,f3,ht,h3⟩:=φKZ hi1
   have q1:decide ((l.length+(0+1)) * 56≤140737488355328)=true:=by simp;omega
   -- the last part
   have fin:∀(x0:CurT) (x6:List Bool) (x8:φX),Cur x0→x6.length=3→x8.1≠11→∃s':CurT×List φX×List Bool,(Cur s'.1∧s'.2.1.length+2 * k≤2 * most∧(∀x∈s'.2.1,x.1≠11)∧clOk s'.2.1∧s'.2.2.length=3) ∧
     ((bif x8.1==9 then bif decide ((l.length+(0+1)) * 56≤140737488355328) then some (x0,l++[x8],κJ 3 false,((k+1:Nat):Int),((10,0,[],[],0):φX)) else none else some (x0,l,x6,((k+1:Nat):Int),x8)).bind fun x=>
      bif decide ((x.2.1.length+(0+1)) * 56≤140737488355328) then rec (x.1,x.2.1++[x.2.2.2.2],x.2.2.1,w64 (x.2.2.2.1 - 1)) else none)=rec (s'.1,s'.2.1,s'.2.2,(k:Int)):=by
    intro x0 x6 x8 hx0 hx6 hx8
    cases d9:(x8.1==9)
    ·simp only[cF,bS,q1,cT,hw]
     refine ⟨(x0,l++[x8],x6),⟨hx0,by simp;omega,fun y hy=>?_,φBQ l [x8] hi5 (by show x8.1≠9;simpa using d9),hx6⟩,rfl⟩
     rcases mA.1 hy with hy | hy
     ·exact hi3 y hy
     ·rw[mZ.1 hy];exact hx8
    ·have q2:decide (((l++[x8]).length+(0+1)) * 56≤140737488355328)=true:=by simp;omega
     simp only[cT,q1,bS,q2,hw]
     refine ⟨(x0,l++[x8]++[(10,0,[],[],0)],κJ 3 false),⟨hx0,by simp;omega,fun y hy=>?_,by show clOk ((l++[x8])++[(10,0,[],[],0)]);rw[aA];exact φBQ l _ hi5 ⟨fun _=>rfl,by show (10:Int)≠9;decide⟩,rfl⟩,rfl⟩
     rcases mA.1 hy with hy | hy
     ·rcases mA.1 hy with hy | hy
      ·exact hi3 y hy
      ·rw[mZ.1 hy];exact hx8
     ·rw[mZ.1 hy];decide
   simp only[ψ38.l0,e0,dT,cT,f3,bS,φ2G,lC,lN]
   by_cases d6:t.1≤6
   rotate_left
   ·simp only[d6,dF,cF,bS]
    exact fin c3 o t h3 hi4 ht
   simp only[d6,dT,cT]
   by_cases ds:0≤t.2.1∧t.2.1≤2
   rotate_left
   ·simp only[ds,dF,cF,bS]
    exact fin c3 o t h3 hi4 ht
   obtain ⟨n,hn⟩:∃n:Nat,t.2.1=(n:Int):=⟨t.2.1.toNat,by omega⟩
   have hin:inB t.2.1 o.length=true:=by rw[hn,φH,hi4];simp;omega
   simp only[ds,and_self,dT,cT,hin]
   have hset:∀b:Bool,(o.set t.2.1.toNat b).length=3:=fun b=>by rw[List.length_set];exact hi4
   -- a step that stays as it is
   have stay:∀(x0:CurT) (x8:φX),Cur x0→x8.1≠11→x8.2.1=t.2.1→∃s':CurT×List φX×List Bool,(Cur s'.1∧s'.2.1.length+2 * k≤2 * most∧(∀x∈s'.2.1,x.1≠11)∧clOk s'.2.1∧s'.2.2.length=3) ∧
     ((bif x8.1 != 5 then bif inB x8.2.1 o.length then some (x0,l,o.set x8.2.1.toNat (x8.1 != 6),((k+1:Nat):Int),x8) else none else bif inB x8.2.1 o.length then some (x0,l,o.set x8.2.1.toNat false,((k+1:Nat):Int),x8) else none).bind fun x=>
      (bif x.2.2.2.2.1==9 then bif decide ((x.2.1.length+(0+1)) * 56≤140737488355328) then some (x.1,x.2.1++[x.2.2.2.2],κJ 3 false,x.2.2.2.1,((10,0,[],[],0):φX)) else none else some (x.1,x.2.1,x.2.2.1,x.2.2.2.1,x.2.2.2.2)).bind fun x=>
       bif decide ((x.2.1.length+(0+1)) * 56≤140737488355328) then rec (x.1,x.2.1++[x.2.2.2.2],x.2.2.1,w64 (x.2.2.2.1 - 1)) else none)=rec (s'.1,s'.2.1,s'.2.2,(k:Int)):=by
    intro x0 x8 hx0 hx8 he
    rw[he]
    cases d5:(x8.1 != 5)
    ·simp only[cF,hin,cT,bS]
     exact fin x0 _ x8 hx0 (hset _) hx8
    ·simp only[hin,cT,bS]
     exact fin x0 _ x8 hx0 (hset _) hx8
   cases hb:rdA false o t.2.1
   ·obtain ⟨w,c4,f4,h4⟩:=φBN h3 8
    simp only[nF,cT,f4,bS]
    cases w
    ·simp only[nF,cT,bS,hin,hb,cF]
     have:=stay c4 (1,t.2.1,[],[],0) h4 (by show (1:Int)≠11;decide) rfl
     simp only[hin,cT] at this
     exact this
    ·simp only[nZ,cF,bS,hin,cT,hb]
     have:=stay c4 t h4 ht rfl
     simp only[hin,cT] at this
     exact this
   ·simp only[nZ,cF,bS,hin,cT,hb]
    cases d1:(t.1==1)
    ·simp only[cF,bS]
     exact stay c3 t h3 ht rfl
    ·obtain ⟨w,c4,f4,h4⟩:=φBN h3 8
     simp only[cT,f4,bS]
     cases w
     ·simp only[nF,cT,bS]
      exact stay c4 (5,t.2) h4 (by show (5:Int)≠11;decide) rfl
     ·simp only[nZ,cF,bS]
      exact stay c4 t h4 ht rfl)
  m (c1,[],κJ 3 false) ⟨h1,by simp;omega,fun x hx=>by simp at hx,trivial,rfl⟩ (by omega)
 obtain ⟨⟨c2,l⟩,e2,h2,hl,hs,hcl⟩:=key
 unfold ψ38.f
 have hw:w64 ((most:Int)+1)=(most:Int)+1:=φG (by omega) (by omega)
 have e2:lp ψ38.l0 (c1,[],κJ 3 false,(m:Int))=some (c2,l):=e2
 simp only[hw,e1,e2,bS]
 exact ⟨l,c2,rfl,hl,hs,hcl,h2⟩
theorem φNS (l:List TxnT) (hl:l.length<1000000) (ht:∀t∈l,t.2.1.length≤20∧t.2.2.length≤50):ψ1S.f l=some l:=by
 have key:=φAp (step:=ψ1S.l0) (fun n (a:List TxnT)=>(a,l,(l.length:Int),(n:Int))) l.length (fun n a=>a=l.take n) (fun b=>b=l)
  (fun rec a hi=>⟨_,by simp[ψ1S.l0];rfl,by rw[hi,κb]⟩)
  (fun rec n a hn hi=>by
   have e0:(n:Int)<(l.length:Int):=by omega
   have hw:=φQ (show n+1<9223372036854775808 by omega)
   have h:=ht _ (gM hn)
   have hc:=φBO l[n] (by omega) (by omega)
   have hal:a.length=n:=by rw[hi,lT];omega
   have q:decide ((a.length+(0+1)) * 56≤140737488355328)=true:=by simp;omega
   refine ⟨a++[l[n]],by rw[hi,κ6 hn],?_⟩
   simp only[ψ1S.l0,e0,dT,cT,φH,hn,φM,φE hn,φ2K,hc,bS,lC,lN,q,hw])
  [] (by simp) (by omega)
 obtain ⟨b,k,kb⟩:=key
 unfold ψ1S.f
 have k:lp ψ1S.l0 ([],l,(l.length:Int),0)=some b:=k
 rw[k,kb];rfl
theorem φJ7 {s:φ8} {d:φ1} (h:SmallS s d):(φY s d).1.length≤1000:=by
 have:=φ7i s d
 have:=h.dir
 omega
abbrev zTx:List TxnT:=κJ 3 (false,[],[])
abbrev φM2 (d:φ1):EngT:=(false,((0,[]),[],0,0,0),d,zTx)
theorem φLU {e:EngT} (h1:e.2.1.1.2.length≤1000) (h2:e.2.1.2.1.length≤1000) (h3:e.2.2.1.1.length<200000) (hl:e.2.2.2.length≤3) (ht:∀t∈e.2.2.2,t.2.1.length≤20∧t.2.2.length≤50):ψ1N.f e=some e:=by
 unfold ψ1N.f
 simp only[φ9n e.2.1 (by omega) (by omega),φ5Q e.2.2.1 (by omega),φNS e.2.2.2 (by omega) ht,bS,φ2K]
def C2 (c:Int):Prop:=c=0∨c=2
theorem φIa {id:Int} (h:1≤id∧id≤100000):φ1s (φK id)=true:=by
 have hl:=φ9p id
 rw[φ7Q h] at hl ⊢
 have hs:=φ7T h
 rw[φ78 h] at hs
 unfold φ1s at hs ⊢
 simp only[bA,decide_eq_true_eq,List.all_append,lA] at hs ⊢
 refine ⟨⟨by decide,hs.1.2⟩,?_,?_⟩
 ·show 1≤4+_;omega
 ·rw[lA] at hl;show 4+_≤12;have:([104,105,110,116]:List UInt8).length=4:=rfl;omega
theorem φ72 {c:Int} (h:C2 c):told c=c:=by
 rcases h with rfl | rfl<;>rfl
structure FD (d:φ1):Prop where
 dk:φ3 d=true
 fr:Free d
theorem φ9o {d:φ1} (h:FD d) (n:List UInt8):FD (φC n d).1∧(φC n d).2=0∧(φ2 (φC n d).1 n).2=false:=
 ⟨⟨φ2D h.dk n,φ4z (P:=Free) (fun d act k=>φ1H k) n h.fr⟩,φAd h.dk h.fr n,φAa (φAd h.dk h.fr n)⟩
theorem φGK {d:φ1} (h:FD d) {n:List UInt8} (hn:φ1s n=true) (ha:(φ2 d n).2=false):FD (φU n d).1∧C2 (φU n d).2:=by
 refine ⟨⟨φ31 h.dk n,φ1H h.fr⟩,?_⟩
 unfold φU
 rw[φ4e h.dk h.fr]
 unfold φ2b
 simp only
 rw[if_neg (by rw[hn];simp),if_neg]
 ·split
  ·exact .inr rfl
  ·exact .inl rfl
 ·rcases φz d.1 n with ⟨e,_⟩ | ⟨i,hi,e,hx⟩
  ·rw[e];decide
  ·exfalso
   have:=φ34 h.dk (gM hi)
   rw[hx] at this
   rw[this] at ha;simp at ha
theorem φA3 {d:φ1} (h:FD d) {n:List UInt8} (hn:(φ2 d n).2=true) (t:List UInt8):FD (φO n t d).1∧C2 (φO n t d).2:=by
 refine ⟨⟨φ3G h.dk n t,φ1H h.fr⟩,?_⟩
 obtain ⟨i,hi,e,_⟩:=φ6Z hn
 unfold φO
 rw[φ4e h.dk h.fr]
 unfold φ2X
 simp only
 rw[e]
 simp only
 split
 ·exact .inr rfl
 ·exact .inl rfl
theorem φ7h {d:φ1} (h:FD d) {n:List UInt8} (hn:(φ2 d n).2=true):FD (φI n d).1∧(φI n d).2=0:=
 ⟨⟨φ3J h.dk n,φ1H h.fr⟩,φ7b h.dk h.fr hn⟩
theorem φAe {w:φD} (h:FD w.1) (hc:C2 w.2) {n:List UInt8} (hn:φ1s n=true):FD (sNew n w).1∧C2 (sNew n w).2:=by
 obtain ⟨d,c⟩:=w
 rcases hc with hc | hc
 ·have hc:c=0:=hc
  subst hc
  obtain ⟨g1,g2,g3⟩:=φ9o h n
  have e:sNew n (d,0)=φU n (φC n d).1:=by
   unfold sNew φA
   rw[if_pos rfl,if_pos g2]
  rw[e]
  exact φGK g1 hn g3
 ·have hc:c=2:=hc
  subst hc
  rw[φCO (by decide)]
  exact ⟨h,.inr rfl⟩
theorem φGm {w:φD} (h:FD w.1) (hc:C2 w.2) {n:List UInt8} (hn:φ1s n=true) (t:List UInt8):FD (φ1Y n t w).1∧C2 (φ1Y n t w).2:=by
 obtain ⟨g1,g2⟩:=φAe h hc hn
 show FD (φA (φI n) (φA (φO n t) (sNew n w))).1∧C2 (φA (φI n) (φA (φO n t) (sNew n w))).2
 by_cases c:(sNew n w).2=0
 ·obtain ⟨_,ht⟩:=φ6m c
  obtain ⟨a1,a2⟩:=φA3 g1 (n:=n) (by rw[ht]) t
  have e1:φA (φO n t) (sNew n w)=φO n t (sNew n w).1:=by unfold φA;rw[if_pos c]
  rw[e1]
  by_cases c2:(φO n t (sNew n w).1).2=0
  ·have e2:φA (φI n) (φO n t (sNew n w).1)=φI n (φO n t (sNew n w).1).1:=by unfold φA;rw[if_pos c2]
   rw[e2]
   obtain ⟨s1,s2⟩:=φ7h a1 (n:=n) (by rw[(φ5k c2).2])
   exact ⟨s1,.inl s2⟩
  ·have e2:φA (φI n) (φO n t (sNew n w).1)=φO n t (sNew n w).1:=by unfold φA;rw[if_neg c2]
   rw[e2];exact ⟨a1,a2⟩
 ·have e1:φA (φO n t) (sNew n w)=sNew n w:=by unfold φA;rw[if_neg c]
  have e2:φA (φI n) (sNew n w)=sNew n w:=by unfold φA;rw[if_neg c]
  rw[e1,e2];exact ⟨g1,g2⟩
theorem φEC {w:φD} (h:FD w.1) (hc:C2 w.2) (v:φP):FD (sPut v w).1∧C2 (sPut v w).2:=by
 obtain ⟨g1,g2⟩:=φGm h hc (n:=[116,101,109,112]) (by decide) (φt v)
 refine ⟨⟨φ3z h.dk v,φ90 (P:=Free) (fun d act k=>φ1H k) v h.fr⟩,?_⟩
 unfold sPut φA
 by_cases c:(φ1Y [116,101,109,112] (φt v) w).2=0
 ·rw[if_pos c]
  obtain ⟨_,ht⟩:=φ96 c
  obtain ⟨i,hi,e,hx,_⟩:=φ6Z (by rw[ht])
  left
  show (φT _ (φ2S [116,101,109,112] [108,105,118,101])).2=0
  rw[φ4e g1.dk g1.fr]
  unfold φ2S
  rw[if_neg (by decide),e]
 ·rw[if_neg c];exact g2
theorem φJ0 {d:φ1} (h:FD d) (names:List (List UInt8)):FD (φj names (d,0)).1∧(φj names (d,0)).2=0:=
 ⟨⟨φ4V names h.dk,φ5Z (P:=Free) (fun d act k=>φ1H k) names h.fr⟩,φ8J names h.dk h.fr rfl⟩
theorem φCT {names:List (List UInt8)} {w:φD} (h:FD w.1) (hc:C2 w.2):C2 (φ1f names w).2:=by
 unfold φ1f
 split
 ·split
  ·exact .inr rfl
  ·show C2 (told (φj names (w.1,0)).2)
   rw[(φJ0 h names).2];exact .inl rfl
 ·exact hc
theorem JB.fd {s:φ8} {d:φ1} (h:JB s d):FD d:=⟨(φr.1 h.ok).1,h.fre⟩
theorem φLF {s:φ8} {d:φ1} (h:JB s d):C2 (rotP s d).2.2∨(rotP s d).2.2=5:=by
 obtain ⟨q1,q2,q3,q4,q5,q6⟩:=φr.1 h.ok
 obtain ⟨k1,k2,k3,k4⟩:=(φ15 s.1).1 q2
 have hex:(φ2 d (actN s)).2=true:=(((φ20 _).1 q5).1 _ (φ3l (φ4p q2))).1
 obtain ⟨s1,s2⟩:=φ7h h.fd hex
 obtain ⟨g1,g2,g3⟩:=φ9o s1 (φ0 s.1.1)
 have hn:=φ7T (id:=s.1.1) ⟨k2.1,k2.2⟩
 obtain ⟨c1,c2⟩:=φGK g1 hn g3
 have e:φA (φU (φ0 s.1.1)) (φC (φ0 s.1.1) (φI (actN s) d).1)=φU (φ0 s.1.1) (φC (φ0 s.1.1) (φI (actN s) d).1).1:=by unfold φA;rw[if_pos g2]
 unfold rotP
 split
 ·exact .inr rfl
 left
 rw[if_neg (by rw[s2];simp)]
 simp only
 rw[e]
 split
 ·show C2 (told _)
  rw[φ72 c2];exact c2
 obtain ⟨p1,p2⟩:=φEC (w:=((φU (φ0 s.1.1) (φC (φ0 s.1.1) (φI (actN s) d).1).1).1,0)) c1 (.inl rfl) (s.1.1+1,s.1.2++[s.1.1])
 split
 ·refine φCT (w:=φ9 _) p1 ?_
  show C2 (told _)
  rw[φ72 p2];exact p2
 ·exact .inl rfl
theorem φNO {s:φ8} {d:φ1} (h:JB s d) (r:RecT):C2 (addP s d r).2.2.1∨(addP s d r).2.2.1=5:=by
 have hR:Grow s d (addR s d (frame (φ7 r))).1 (addR s d (frame (φ7 r))).2.1 []∧(C2 (addR s d (frame (φ7 r))).2.2∨(addR s d (frame (φ7 r))).2.2=5):=by
  unfold addR
  split
  ·exact ⟨φFV h,φLF h⟩
  ·exact ⟨Grow.refl h,.inl (.inl rfl)⟩
 unfold addP
 generalize addR s d (frame (φ7 r))=R at *
 obtain ⟨hR,hc⟩:=hR
 simp only
 split
 ·exact hc
 obtain ⟨q1,q2,q3,q4,q5,q6⟩:=φr.1 hR.jb.ok
 have hex:(φ2 R.2.1 (actN R.1)).2=true:=(((φ20 _).1 q5).1 _ (φ3l (φ4p q2))).1
 obtain ⟨a1,a2⟩:=φA3 hR.jb.fd hex (frame (φ7 r))
 split
 ·left;show C2 (told _);rw[φ72 a2];exact a2
 ·exact .inl (.inl rfl)
theorem φEE:∀(rs:List RecT) (s:φ8) (d:φ1),JB s d→(∀r∈rs,φZ r=true)→C2 (φe rs s d).2.2.1∨(φe rs s d).2.2.1=5
 | [],_,_,_,_=>.inl (.inl rfl)
 | r::rs,s,d,h,hr=>by
  unfold φe
  split
  ·exact φNO h r
  ·rename_i c
   obtain ⟨p,g,_⟩:=(φEj h (hr r (by simp))).1 (by simpa using c)
   exact φEE rs _ _ g.jb fun x hx=>hr x (by simp[hx])
def C4 (c:Int):Prop:=c=0∨c=2∨c=4∨c=5
theorem C2.c4 {c:Int} (h:C2 c):C4 c:=h.elim .inl fun k=>.inr (.inl k)
theorem φHb {s:φ8} {d:φ1} (h:JR s d) (l:List PutT):C4 (φ2T s d l).2.2:=by
 obtain ⟨q1,q2,q3,q4,q5,q6⟩:=φr.1 h.ok
 unfold φ2T
 by_cases c1:φh s d=false∨φ2U l=false
 ·rw[if_pos c1];exact .inr (.inr (.inl rfl))
 rw[if_neg c1]
 by_cases c2:l.length=0
 ·rw[if_pos c2];exact .inl rfl
 rw[if_neg c2]
 by_cases c3:20<φ3X s.2.1 l∨s.2.2.1 > 1000000
 ·rw[if_pos c3];exact .inr (.inr (.inr rfl))
 rw[if_neg c3]
 have hp:φ2U l=true:=by
  cases hp:φ2U l with
  | true=>rfl
  | false=>exact absurd (.inr hp) c1
 have hrec:=φ8F (b:=s.2.2.1) (l:=l) ⟨q4.1,by omega⟩ hp
 have hJ1:=h.toJB.bump (by omega)
 have hC:=φEE (φ1z s.2.2.1 l) _ _ hJ1 hrec
 obtain ⟨P,g1,_⟩:=φ8y (φ1z s.2.2.1 l) _ _ hJ1 hrec
 unfold φ1t
 generalize φe (φ1z s.2.2.1 l) (s.1,s.2.1,s.2.2.1+1,s.2.2.2) d=g at *
 simp only
 split
 ·rcases hC with hC | hC
  ·exact hC.c4
  ·exact .inr (.inr (.inr hC))
 obtain ⟨b1,b2,b3,b4,b5,b6⟩:=φr.1 g1.jb.ok
 have hex:(φ2 g.2.1 (actN g.1)).2=true:=(((φ20 _).1 b5).1 _ (φ3l (φ4p b2))).1
 rw[if_neg (by rw[(φ7h g1.jb.fd hex).2];simp)]
 exact .inl rfl
theorem φAD (n:List UInt8):∀(recs:List RecT) {w:φD},FD w.1→C2 w.2→(w.2=0→(φ2 w.1 n).2=true)→FD (sApp n recs w).1∧C2 (sApp n recs w).2∧((sApp n recs w).2=0→(φ2 (sApp n recs w).1 n).2=true)
 | [],w,h,hc,he=>⟨h,hc,he⟩
 | r::recs,w,h,hc,he=>by
  have es:sApp n (r::recs) w=sApp n recs (φA (φO n (frame (φ7 r))) w):=rfl
  rw[es]
  by_cases c:w.2=0
  ·have e:φA (φO n (frame (φ7 r))) w=φO n (frame (φ7 r)) w.1:=by unfold φA;rw[if_pos c]
   obtain ⟨a1,a2⟩:=φA3 h (he c) (frame (φ7 r))
   rw[e]
   exact φAD n recs (w:=φO n (frame (φ7 r)) w.1) a1 a2 fun c2=>by rw[(φ5k c2).2]
  ·have e:φA (φO n (frame (φ7 r))) w=w:=by unfold φA;rw[if_neg c]
   rw[e]
   exact φAD n recs (w:=w) h hc he
theorem φJA {w:φD} (h:FD w.1) (hc:C2 w.2) {n:List UInt8} (he:w.2=0→(φ2 w.1 n).2=true):FD (φA (φI n) w).1∧C2 (φA (φI n) w).2:=by
 unfold φA
 by_cases c:w.2=0
 ·rw[if_pos c]
  obtain ⟨a,b⟩:=φ7h h (he c)
  exact ⟨a,.inl b⟩
 ·rw[if_neg c];exact ⟨h,hc⟩
theorem φLh {d:φ1} (h:FD d) {m:Int} (hm:1≤m∧m≤100000):FD (φ1p m d).1∧(φ1p m d).2=0:=by
 obtain ⟨a,b⟩:=φGm (w:=(d,0)) h (.inl rfl) (φIa hm) (φ1c (φ16 m (φ2 d (φ0 m)).1).1)
 unfold φ1p
 simp only
 split
 ·obtain ⟨x,y,_⟩:=φ9o a (φK m)
  exact ⟨x,y⟩
 ·rename_i c
  exact ⟨a,b.elim id fun k=>absurd k c⟩
theorem φIO {s:φ8} {d:φ1} (h:JR s d):C4 (φ2s s d).2.2:=by
 obtain ⟨q1,q2,q3,q4,q5,q6⟩:=φr.1 h.ok
 obtain ⟨k1,k2,k3,k4⟩:=(φ15 s.1).1 q2
 unfold φ2s
 rw[if_neg (by rw[h.ok];simp)]
 by_cases c:s.1.1+2 > 100000
 ·rw[if_pos c];exact .inr (.inr (.inr rfl))
 rw[if_neg c]
 refine C2.c4 ?_
 generalize (φY s d).1=l
 have n1:=φ7T (id:=s.1.1) ⟨k2.1,k2.2⟩
 have n2:=φ7T (id:=s.1.1+1) ⟨by omega,by omega⟩
 obtain ⟨a1,a2⟩:=φAe (w:=(d,0)) h.fd (.inl rfl) n1
 obtain ⟨b1,b2,b3⟩:=φAD (φ0 s.1.1) (φW l (s.2.2.1 - 1)) a1 a2 fun e=>by rw[(φ6m e).2]
 obtain ⟨c1,c2⟩:=φJA b1 b2 b3
 have c1:FD (sWM s.1.1 (φW l (s.2.2.1 - 1)) (d,0)).1:=c1
 obtain ⟨d1,d2⟩:=φAe c1 c2 n2
 unfold φ1A
 simp only
 have d1:FD (sNew (φ0 (s.1.1+1)) (sWM s.1.1 (φW l (s.2.2.1 - 1)) (d,0))).1:=d1
 have d2:C2 (sNew (φ0 (s.1.1+1)) (sWM s.1.1 (φW l (s.2.2.1 - 1)) (d,0))).2:=d2
 generalize sNew (φ0 (s.1.1+1)) (sWM s.1.1 (φW l (s.2.2.1 - 1)) (d,0))=w1 at *
 have e12:FD (φq s.1.1 w1).1∧C2 (φq s.1.1 w1).2:=by
  unfold φq
  split
  ·exact ⟨d1,d2⟩
  ·obtain ⟨x,y⟩:=φLh d1 (m:=s.1.1) ⟨k2.1,k2.2⟩
   exact ⟨x,.inl y⟩
 generalize φq s.1.1 w1=w2 at *
 obtain ⟨e1,e2⟩:=e12
 have f12:FD (if w2.2=0 then φ9 (sPut (s.1.1+2,[s.1.1,s.1.1+1]) w2) else φ9 w2).1∧C2 (if w2.2=0 then φ9 (sPut (s.1.1+2,[s.1.1,s.1.1+1]) w2) else φ9 w2).2:=by
  split
  ·obtain ⟨x,y⟩:=φEC e1 e2 (s.1.1+2,[s.1.1,s.1.1+1])
   exact ⟨x,by show C2 (told _);rw[φ72 y];exact y⟩
  ·exact ⟨e1,by show C2 (told _);rw[φ72 e2];exact e2⟩
 generalize (if w2.2=0 then φ9 (sPut (s.1.1+2,[s.1.1,s.1.1+1]) w2) else φ9 w2)=w3 at *
 obtain ⟨f1,f2⟩:=f12
 split
 ·exact φCT f1 f2
 ·show C2 (told (sOld s.1.2 (w3.1,0)).2)
  rw[φAs s.1.2 (w:=(w3.1,0)) f1.dk f1.fr rfl]
  exact .inl rfl
theorem JR.cap {s:φ8} {d:φ1} (h:JR s d) {c:Int} (hc:(φJ d.1:Int)≤c) (h2:c≤100000):JR s (d.1,c,d.2.2):=by
 obtain ⟨q1,q2,q3,q4,q5,q6⟩:=φr.1 h.ok
 obtain ⟨e1,e2,e3,e4,e5,e6⟩:=(φ3V d).1 q1
 have hk:φ3 (d.1,c,d.2.2)=true:=(φ3V _).2 ⟨⟨by show 0≤c;omega,h2⟩,e2,e3,hc,e5,e6⟩
 have hft:∀n,φ2 (d.1,c,d.2.2) n=φ2 d n:=fun n=>φFD q1 hk n fun t=>Iff.rfl
 have hpl:φS (d.1,c,d.2.2) s.1.2=φS d s.1.2:=φ5z fun id _=>hft _
 obtain ⟨nx,n1,n2,n3⟩:=h.liv
 refine ⟨⟨φr.2 ⟨hk,q2,q3,q4,?_,fun e he=>?_⟩,h.lt,⟨nx,n1,n2,by rw[hft];exact n3⟩,h.fre⟩,by rw[hpl];exact h.reg,by rw[hpl];exact h.pb,by rw[hpl];exact h.own⟩
 ·obtain ⟨g1,g2⟩:=(φ20 _).1 q5
  exact (φ20 _).2 ⟨fun id hid=>by rw[hft];exact g1 id hid,fun hne=>by rw[hft];exact g2 hne⟩
 ·have:=q6 e he
  rw[φ32] at this ⊢
  have ea:φ1C (d.1,c,d.2.2) e=φ1C d e:=by unfold φ1C;rw[hft]
  rw[ea];exact this
abbrev zT:TxnT:=(false,[],[])
def φ3b (l:List TxnT) (s:φX):Bool:=
 decide (1≤s.1∧s.1≤6) && (decide (0≤s.2.1∧s.2.1≤2) && ((rdA zT l s.2.1).1==(s.1 != 1)))
def putS (s:φX):PutT:=(s.2.2.1,s.1==4,s.2.2.2.1)
def ownA (p:PutT):AnsT:=bif p.2.1 then (8,[],[]) else (0,p.2.2,[])
def getG (look:List UInt8→φ12×Int) (l:List TxnT) (s:φX):List TxnT×AnsT:=
 let t:=rdA zT l s.2.1
 bif !φ1Q s.2.2.1 then (l,(4,[],[])) else
 bif (ownW t.2.2 s.2.2.1).2 then (l,ownA (ownW t.2.2 s.2.2.1).1) else
 let p:=look s.2.2.1
 let r:=φ3F t s.2.2.1 p.1.2.2
 (l.set s.2.1.toNat r.1,bif r.2 != 0 then (r.2,[],[]) else (p.2,p.1.2.1,[]))
def putG (l:List TxnT) (s:φX):List TxnT×AnsT:=
 let w:=φ4E (rdA zT l s.2.1) (putS s)
 (l.set s.2.1.toNat w.1,bif !φ2h (putS s) then (4,[],[]) else bif !w.2 then (5,[],[]) else (0,[],[]))
def sesG (look:List UInt8→φ12×Int) (val:TxnT→Bool) (l:List TxnT) (s:φX):List TxnT×AnsT×Option (List PutT):=
 bif !φ3b l s then (l,(4,[],[]),none) else
 bif s.1==1 then (l.set s.2.1.toNat (true,[],[]),(0,[],[]),none) else
 bif s.1==6 then (l.set s.2.1.toNat zT,(0,[],[]),none) else
 bif s.1==2 then ((getG look l s).1,(getG look l s).2,none) else
 bif s.1==5 then (l.set s.2.1.toNat zT,(7,[],[]),bif val (rdA zT l s.2.1) then some (netW (rdA zT l s.2.1).2.2) else none) else
 ((putG l s).1,(putG l s).2,none)
noncomputable def comE (e:EngT) (g:List TxnT×AnsT×Option (List PutT)):EngT×AnsT:=
 match g.2.2 with
 | none=>((e.1,e.2.1,e.2.2.1,g.1),g.2.1)
 | some w=>((e.1,(φ2T e.2.1 e.2.2.1 w).1,(φ2T e.2.1 e.2.2.1 w).2.1,g.1),((φ2T e.2.1 e.2.2.1 w).2.2,[],[]))
noncomputable def sesE (e:EngT) (s:φX):EngT×AnsT:=
 comE e (sesG (getP e.2.1 e.2.2.1) (fun t=>φ5B t e.2.1.2.1) e.2.2.2 s)
noncomputable def stE (e:EngT) (s:φX):EngT×AnsT:=
 bif s.1==10 then (bif e.1 then (e,(4,[],[])) else (((φ2C e.2.2.1).2.2==0,(φ2C e.2.2.1).1,(φ2C e.2.2.1).2.1,zTx),((φ2C e.2.2.1).2.2,[],[]))) else
 bif s.1==11 then (bif φ3 e.2.2.1 && decide (0≤s.2.2.2.2∧s.2.2.2.2≤100000 - (φJ e.2.2.1.1:Int)) then
  ((e.1,e.2.1,(e.2.2.1.1,(φJ e.2.2.1.1:Int)+s.2.2.2.2,e.2.2.1.2.2),e.2.2.2),(0,[],[])) else (e,(4,[],[]))) else
 bif !e.1 then (e,(6,[],[])) else
 bif s.1==7 then ((e.1,(φ2s e.2.1 e.2.2.1).1,(φ2s e.2.1 e.2.2.1).2.1,e.2.2.2),((φ2s e.2.1 e.2.2.1).2.2,[],[])) else
 bif s.1==8 then (e,(0,[],e.2.1.2.1.map (·.1))) else
 bif s.1==9 then (φM2 e.2.2.1,(0,[],[])) else
 sesE e s
theorem φLx {l:List TxnT} (hl:l.length=3) (s:φX):ψ1w.f l s=some (φ3b l s):=by
 have hw:w64 ((l.length:Int) - 1)=2:=by rw[hl];rfl
 unfold ψ1w.f φ3b
 simp only[φ1U,bS,hw]
 by_cases h1:1≤s.1∧s.1≤6
 ·simp only[h1,and_self,dT,cT,tA]
  by_cases h2:0≤s.2.1∧s.2.1≤2
  ·obtain ⟨n,hn⟩:∃n:Nat,s.2.1=(n:Int):=⟨s.2.1.toNat,by omega⟩
   have hin:inB s.2.1 l.length=true:=by rw[hn,φH,hl];simp;omega
   simp only[h2,and_self,dT,cT,tA,hin]
  ·simp only[h2,dF,cF,κD]
 ·simp only[h1,dF,cF,κD]
theorem φ8h {l:List TxnT} (hl:l.length=3) {s:φX} (h:φ3b l s=true):∃n:Nat,∃hn:n<l.length,s.2.1=(n:Int)∧inB s.2.1 l.length=true∧rdA zT l s.2.1=l[n]∧s.2.1.toNat=n∧(l[n].1=(s.1 != 1))∧1≤s.1∧s.1≤6:=by
 unfold φ3b at h
 simp only[bA,decide_eq_true_eq,beq_iff_eq] at h
 obtain ⟨h1,h2,h3⟩:=h
 obtain ⟨n,hn⟩:∃n:Nat,s.2.1=(n:Int):=⟨s.2.1.toNat,by omega⟩
 have hn3:n<l.length:=by omega
 have hrd:rdA zT l s.2.1=l[n]:=by rw[hn,φM,φE hn3]
 exact ⟨n,hn3,hn,by rw[hn,φH];simp[hn3],hrd,by omega,by rw[←hrd];exact h3,h1.1,h1.2⟩
theorem φHi (t:TxnT) (key:List UInt8) (h:t.2.2.length<2 ^ 62):ψ1f.f t key=some (bif (ownW t.2.2 key).2 then (ownA (ownW t.2.2 key).1,true) else ((0,[],[]),false)):=by
 unfold ψ1f.f ownA
 rw[φLt t key h,bS]
 generalize ownW t.2.2 key=x
 obtain ⟨⟨a,b,v⟩,c⟩:=x
 cases c
 ·rfl
 ·cases b<;>rfl
theorem φGW {s:φ8} {d:φ1} (h:φh s d=true) (key:List UInt8):(getP s d key).2=0∨getP s d key=(([],[],0),8):=by
 rcases φK5 s.2.1 key with c | ⟨c1,c2⟩
 ·right
  unfold getP
  rw[if_pos c]
 ·by_cases hk:∃e∈s.2.1,e.1=key
  ·obtain ⟨e,he,rfl⟩:=hk
   exact .inl (φEL h he).1
  ·exact .inr (φIH fun e he k=>hk ⟨e,he,k⟩)
theorem φLz {e:EngT} (hl:e.2.2.2.length=3) (ht:∀t∈e.2.2.2,t.2.1.length≤20∧t.2.2.length≤50) (hS:SmallS e.2.1 e.2.2.1) (h3:∀k,(getP e.2.1 e.2.2.1 k).2≠3) {s:φX} (hf:φ3b e.2.2.2 s=true) :
  ψK.f e s=some ((getG (getP e.2.1 e.2.2.1) e.2.2.2 s).2,(e.1,e.2.1,e.2.2.1,(getG (getP e.2.1 e.2.2.1) e.2.2.2 s).1)):=by
 obtain ⟨hlim,hu⟩:=hS.lim
 have hd:=hS.dir
 obtain ⟨n,hn,h1,hin,hrd,hto,_,_,_⟩:=φ8h hl hf
 have htn:=ht _ (gM hn)
 have hc3:((getP e.2.1 e.2.2.1 s.2.2.1).2==3)=false:=by simpa using h3 s.2.2.1
 unfold ψK.f getG
 simp only[hin,cT,φ5g,bS,hrd,φ2K]
 cases φ1Q s.2.2.1
 ·rfl
 simp only[nZ,cF,φHi e.2.2.2[n] s.2.2.1 (by omega),bS]
 cases (ownW e.2.2.2[n].2.2 s.2.2.1).2
 ·simp only[cF,φCj e.2.1 e.2.2.1 s.2.2.1 hlim hu (by omega),bS,hc3]
  unfold ψ1j.f
  rw[φIb e.2.2.2[n] s.2.2.1 _ (by omega) (by omega),bS]
  generalize φ3F e.2.2.2[n] s.2.2.1 (getP e.2.1 e.2.2.1 s.2.2.1).1.2.2=r
  obtain ⟨r1,r2⟩:=r
  simp only
  cases (r2 != 0)<;>rfl
 ·rfl
theorem φI6 {t:TxnT} (ht:t.2.1.length≤20∧t.2.2.length≤50) (s:φX):ψ2G.f t s=some ((φ4E t (putS s)).1,bif !φ2h (putS s) then (4,[],[]) else bif !(φ4E t (putS s)).2 then (5,[],[]) else (0,[],[])):=by
 unfold ψ2G.f
 show ((ψ1F.f t (putS s)).bind fun x=>(ψ1i.f (putS s)).bind fun t2=>bif !t2 then _ else bif !x.2 then _ else _)=_
 rw[φMg t _ (by omega) (by omega),bS,φB5,bS]
 generalize φ4E t (putS s)=x
 obtain ⟨x1,x2⟩:=x
 cases φ2h (putS s)
 ·rfl
 ·cases x2<;>rfl
theorem φJB {e:EngT} (hl:e.2.2.2.length=3) (ht:∀t∈e.2.2.2,t.2.1.length≤20∧t.2.2.length≤50) (hS:SmallS e.2.1 e.2.2.1) (h3:∀k,(getP e.2.1 e.2.2.1 k).2≠3) (s:φX) :
  ψM.f e s=some ((sesE e s).2,(sesE e s).1):=by
 obtain ⟨hlim,hu⟩:=hS.lim
 have hd:=hS.dir
 unfold ψM.f sesE sesG comE
 rw[φLx hl s,bS]
 cases hf:φ3b e.2.2.2 s
 ·rfl
 obtain ⟨n,hn,h1,hin,hrd,hto,_,k1,k6⟩:=φ8h hl hf
 have htn:=ht _ (gM hn)
 simp only[nZ,cF,hin,cT]
 cases c1:(s.1==1)
 rotate_left
 ·rfl
 cases c6:(s.1==6)
 rotate_left
 ·rfl
 cases c2:(s.1==2)
 rotate_left
 ·simp only[cT,cF,φLz hl ht hS h3 hf,bS]
 have com:((ψ1I.f ((rdA (false,[],[]) e.2.2.2 s.2.1).1,(rdA (false,[],[]) e.2.2.2 s.2.1).2) e.2.1.2.1).bind fun t9=>
   bif !t9 then some (((7,[],[]):AnsT),((e.1,e.2.1,e.2.2.1,e.2.2.2.set s.2.1.toNat (false,[],[])):EngT)) else
   (ψd.f ((rdA (false,[],[]) e.2.2.2 s.2.1).1,(rdA (false,[],[]) e.2.2.2 s.2.1).2)).bind fun t10=>
   (ψ2.f e.2.1 e.2.2.1 t10).bind fun x=>some (((x.2.2,[],[]):AnsT),((e.1,x.1,x.2.1,e.2.2.2.set s.2.1.toNat (false,[],[])):EngT))) =
   some ((comE e (e.2.2.2.set s.2.1.toNat zT,(7,[],[]),bif φ5B (rdA zT e.2.2.2 s.2.1) e.2.1.2.1 then some (netW (rdA zT e.2.2.2 s.2.1).2.2) else none)).2,(comE e (e.2.2.2.set s.2.1.toNat zT,(7,[],[]),bif φ5B (rdA zT e.2.2.2 s.2.1) e.2.1.2.1 then some (netW (rdA zT e.2.2.2 s.2.1).2.2) else none)).1):=by
  have hnl:=φMt e.2.2.2[n].2.2
  rw[φ2K,show rdA (false,[],[]) e.2.2.2 s.2.1=e.2.2.2[n] from hrd,φKo e.2.2.2[n] e.2.1.2.1 (by omega) (by omega),bS]
  cases φ5B e.2.2.2[n] e.2.1.2.1
  ·rfl
  ·simp only[nZ,cF,cT,φAJ e.2.2.2[n] (by omega),bS,φHk hS (netW e.2.2.2[n].2.2) (by omega),comE]
 have put:((ψ2G.f ((rdA (false,[],[]) e.2.2.2 s.2.1).1,(rdA (false,[],[]) e.2.2.2 s.2.1).2) s).bind fun x=>some ((x.2:AnsT),((e.1,e.2.1,e.2.2.1,e.2.2.2.set s.2.1.toNat x.1):EngT))) =
   some ((putG e.2.2.2 s).2,(e.1,e.2.1,e.2.2.1,(putG e.2.2.2 s).1)):=by
  unfold putG
  rw[φ2K,show rdA (false,[],[]) e.2.2.2 s.2.1=e.2.2.2[n] from hrd,φI6 htn s,bS]
 unfold comE at com
 simp only[cF]
 cases c3:(s.1==3)
 ·cases c4:(s.1==4)
  ·cases c5:(s.1==5)
   ·exfalso
    simp at c1 c2 c3 c4 c5 c6
    omega
   ·exact com
  ·have c5:(s.1==5)=false:=by simp at c4 ⊢;omega
   simp only[cT,cF,c5]
   exact put
 ·have c5:(s.1==5)=false:=by simp at c3 ⊢;omega
  simp only[cT,cF,c5]
  exact put
theorem φFe {e:EngT} (hl:e.2.2.2.length=3) (ht:∀t∈e.2.2.2,t.2.1.length≤20∧t.2.2.length≤50) (hS:SmallS e.2.1 e.2.2.1):ψ1N.f e=some e:=
 φLU hS.ids hS.dir hS.sm.1 (by omega) ht
structure Fit (e:EngT):Prop where
 len:e.2.2.2.length=3
 tx:∀t∈e.2.2.2,t.2.1.length≤20∧t.2.2.length≤50
 sm:SmallS e.2.1 e.2.2.1
 dk:φ3 e.2.2.1=true
 n3:e.1=true→∀k,(getP e.2.1 e.2.2.1 k).2≠3
theorem φF0 {e:EngT} (h:Fit e) (s:φX):ψO.f e s=some ((stE e s).2,(stE e s).1):=by
 have hd:=(φ10 h.dk)
 have hlim:=φ1L hd (show 100001≤1000000000 by omega)
 have hu:φJ e.2.2.1.1≤100000:=by have:=hd.2.1;omega
 have hw:w64 (100000 - ((φJ e.2.2.1.1:Nat):Int))=100000 - (φJ e.2.2.1.1:Int):=φG (by omega) (by omega)
 have open_:((ψI.f e.2.2.1).bind fun x=>some (((x.2,[],[]):AnsT),x.1))=some ((((φ2C e.2.2.1).2.2,[],[]):AnsT),(((φ2C e.2.2.1).2.2==0,(φ2C e.2.2.1).1,(φ2C e.2.2.1).2.1,zTx):EngT)):=by
  unfold ψI.f
  rw[φCr e.2.2.1 (φ3H hd (by omega))]
  rfl
 have cap:((ψ1x.f e.2.2.1).bind fun t2=>(ψD.f e.2.2.1).bind fun t3=>bif !t3 then some (((4,[],[]):AnsT),e) else
   (ψ1Z.f s.2.2.2.2 0 (w64 (100000 - t2))).bind fun t4=>bif !t4 then some (((4,[],[]):AnsT),e) else
   some (((0,[],[]):AnsT),((e.1,e.2.1,(e.2.2.1.1,w64 (t2+s.2.2.2.2),e.2.2.1.2.2),e.2.2.2):EngT))) =
   some ((bif φ3 e.2.2.1 && decide (0≤s.2.2.2.2∧s.2.2.2.2≤100000 - (φJ e.2.2.1.1:Int)) then (((e.1,e.2.1,(e.2.2.1.1,(φJ e.2.2.1.1:Int)+s.2.2.2.2,e.2.2.1.2.2),e.2.2.2):EngT),((0,[],[]):AnsT)) else (e,(4,[],[]))).2,
    (bif φ3 e.2.2.1 && decide (0≤s.2.2.2.2∧s.2.2.2.2≤100000 - (φJ e.2.2.1.1:Int)) then (((e.1,e.2.1,(e.2.2.1.1,(φJ e.2.2.1.1:Int)+s.2.2.2.2,e.2.2.1.2.2),e.2.2.2):EngT),((0,[],[]):AnsT)) else (e,(4,[],[]))).1):=by
  simp only[φ9K e.2.2.1 (by have:=hlim.1;omega) (by omega),φ4m e.2.2.1 hlim,h.dk,bS,nZ,cF,φ1U,hw,tA]
  by_cases c:0≤s.2.2.2.2∧s.2.2.2.2≤100000 - (φJ e.2.2.1.1:Int)
  ·have:w64 ((φJ e.2.2.1.1:Int)+s.2.2.2.2)=(φJ e.2.2.1.1:Int)+s.2.2.2.2:=φG (by omega) (by omega)
   simp only[c,and_self,dT,nZ,cF,cT,this]
  ·simp only[c,dF,nF,cT,cF]
 unfold ψO.f stE
 cases c10:(s.1==10)
 rotate_left
 ·simp only[cT]
  cases hu:e.1
  ·exact open_
  ·rfl
 simp only[cF]
 cases c11:(s.1==11)
 rotate_left
 ·simp only[cT]
  exact cap
 simp only[cF]
 cases hup:e.1
 ·rfl
 have hdr:=h.sm.dir
 simp only[nZ,cF]
 cases c7:(s.1==7)
 rotate_left
 ·simp only[cT,(φMe h.sm).1,bS]
 simp only[cF]
 cases c8:(s.1==8)
 rotate_left
 ·simp only[cT,φDk e.2.1.2.1 (by omega),bS]
 simp only[cF]
 cases c9:(s.1==9)
 rotate_left
 ·rfl
 simp only[cF,φJB h.len h.tx h.sm (h.n3 hup) s,bS]
theorem φNT {e:EngT} (h:Fit e) (s:φX):ψJ.f e s=some (stE e s):=by
 unfold ψJ.f
 rw[φFe h.len h.tx h.sm,bS,φF0 h s,bS]
theorem mapB {A B C:Type} {X:Option A} {f:A→Option B} {f':A→Option C} {g:C→B} (h:∀x,f x=(f' x).map g):X.bind f=(X.bind f').map g:=by
 cases X with
 | none=>rfl
 | some x=>exact h x
theorem mapC {B C:Type} {b:Bool} {x y:Option B} {x' y':Option C} {g:C→B} (h1:x=x'.map g) (h2:y=y'.map g):(bif b then x else y)=(bif b then x' else y').map g:=by
 cases b
 ·exact h2
 ·exact h1
abbrev φ3a:=List AnsT×List (Int×List PutT)×List PutT
theorem φHh (e:EngT) (r:φ3a) (s:φX):ψL.f (e,r) s=(ψK.f e s).map fun x=>(x.1,(x.2,r)):=by
 unfold ψL.f ψK.f
 repeat' first
  | rfl
  | apply mapC
  | (apply mapB;intro x;try obtain ⟨a,b⟩:=(x:_×_))
theorem φJD (e:EngT) (r:φ3a) (s:φX):ψN.f (e,r) s=(ψM.f e s).map fun x=>(x.1,(x.2,r)):=by
 unfold ψN.f ψM.f
 rw[φHh e r s]
 cases ψK.f e s with
 | none=>
  repeat' first
   | rfl
   | apply mapC
   | (apply mapB;intro x;try obtain ⟨a,b⟩:=(x:_×_))
 | some z=>
  repeat' first
   | rfl
   | apply mapC
   | (apply mapB;intro x;try obtain ⟨a,b⟩:=(x:_×_))
theorem φMi (e:EngT) (r:φ3a) (s:φX):ψP.f (e,r) s=(ψO.f e s).map fun x=>(x.1,(x.2,r)):=by
 unfold ψP.f ψO.f
 rw[φJD e r s]
 cases ψM.f e s with
 | none=>
  repeat' first
   | rfl
   | apply mapC
   | (apply mapB;intro x;try obtain ⟨a,b⟩:=(x:_×_))
 | some z=>
  repeat' first
   | rfl
   | apply mapC
   | (apply mapB;intro x;try obtain ⟨a,b⟩:=(x:_×_))
theorem φN8 {e:EngT} (h:Fit e) (r:φ3a) (s:φX):ψP.f (e,r) s=some ((stE e s).2,((stE e s).1,r)):=by
 rw[φMi,φF0 h s];rfl
def netO (e:EngT) (s:φX):List PutT:=bif (s.1==5) && (e.1 && φ3b e.2.2.2 s) then netW (rdA zT e.2.2.2 s.2.1).2.2 else []
theorem φIx {e:EngT} (h:Fit e) (s:φX):ψ1e.f e s=some (netO e s):=by
 have hl:=h.len
 have hw:w64 ((e.2.2.2.length:Int) - 1)=2:=by rw[hl];rfl
 unfold ψ1e.f netO
 cases c5:(s.1==5)
 ·have:(s.1 != 5)=true:=by simpa using c5
  simp only[this,cT,κD,cF]
 have c5':s.1=5:=by simpa using c5
 have:(s.1 != 5)=false:=by simpa using c5
 simp only[this,cF,tA]
 cases hu:e.1
 ·rfl
 simp only[nZ,cF,tA,φ1U,bS,hw]
 unfold φ3b
 have k:decide (1≤s.1∧s.1≤6)=true:=by rw[c5'];decide
 have k1:(s.1 != 1)=true:=by rw[c5'];decide
 rw[k,k1,tA]
 by_cases h2:0≤s.2.1∧s.2.1≤2
 ·obtain ⟨n,hn⟩:∃n:Nat,s.2.1=(n:Int):=⟨s.2.1.toNat,by omega⟩
  have hn3:n<e.2.2.2.length:=by omega
  have hin:inB s.2.1 e.2.2.2.length=true:=by rw[hn,φH];simp[hn3]
  have hrd:rdA zT e.2.2.2 s.2.1=e.2.2.2[n]:=by rw[hn,φM,φE hn3]
  have ht:=h.tx _ (gM hn3)
  simp only[h2,and_self,dT,nZ,cF,hin,cT,tA,show rdA (false,[],[]) e.2.2.2 s.2.1=e.2.2.2[n] from hrd,hrd]
  cases hb:e.2.2.2[n].1
  ·rfl
  ·simp only[nZ,cF,beq_self_eq_true,cT]
   have:((true,e.2.2.2[n].2):TxnT)=e.2.2.2[n]:=by rw[←hb]
   rw[this,φAJ e.2.2.2[n] (by omega)]
   rfl
 ·simp only[h2,dF,nF,cT,κD,cF]
noncomputable def runE:EngT→List φX→EngT×List AnsT
 | e,[]=>(e,[])
 | e,s::r=>((runE (stE e s).1 r).1,(stE e s).2::(runE (stE e s).1 r).2)
theorem φDC:∀(a b:List φX) (e:EngT),runE e (a++b)=((runE (runE e a).1 b).1,(runE e a).2++(runE (runE e a).1 b).2)
 | [],b,e=>rfl
 | s::a,b,e=>by
  show ((runE (stE e s).1 (a++b)).1,(stE e s).2::(runE (stE e s).1 (a++b)).2)=_
  rw[φDC a b];rfl
theorem φBx:∀(l:List φX) (e:EngT),(runE e l).2.length=l.length
 | [],_=>rfl
 | s::r,e=>by
  show (_::_).length=_
  rw[lC,φBx r];rfl
theorem φC1 (l:List φX) (s:φX) (e:EngT):runE e (l++[s])=((stE (runE e l).1 s).1,(runE e l).2++[(stE (runE e l).1 s).2]):=by
 rw[φDC];rfl
theorem φCC {I:Nat→EngT→Prop} {l:List φX} (hs:∀n (hn:n<l.length) e,I n e→I (n+1) (stE e l[n]).1) {e:EngT} (h0:I 0 e):∀n,n≤l.length→I n (runE e (l.take n)).1
 | 0,_=>by rw[List.take_zero];exact h0
 | n+1,hn=>by
  rw[κ6 (by omega),φC1]
  exact hs n (by omega) _ (φCC hs h0 n (by omega))
theorem φLf {I:Nat→EngT→Prop} {l:List φX} (hl:l.length≤300) (hI:∀n e,I n e→Fit e) (hs:∀n (hn:n<l.length) e,I n e→I (n+1) (stE e l[n]).1∧(stE e l[n]).2.1≠1) {e:EngT} (h0:I 0 e) :
  ∃acks,ψw.f e l=some ((runE e l).1,(runE e l).2,acks,[])∧I l.length (runE e l).1:=by
 have hinv:=φCC (I:=I) (l:=l) (fun n hn e h=>(hs n hn e h).1) h0
 have h00:=hI 0 e h0
 have key:=φAp (step:=ψw.l0) (fun n (s:EngT×List AnsT×List (Int×List PutT))=>((((false,((0,[]),[],0,0,0),([],0,0,false),[]),[],[],[]),(s.1,s.2.1,s.2.2,[]),l,(l.length:Int),(n:Int)):(EngT×φ3a)×(EngT×φ3a)×List φX×Int×Int)) l.length
  (fun n s=>s.1=(runE e (l.take n)).1∧s.2.1=(runE e (l.take n)).2∧s.2.2.length≤n) (fun b=>∃acks,b.2=((runE e l).1,(runE e l).2,acks,[]))
  (fun rec s hi=>by
   obtain ⟨a,b,c⟩:=s
   obtain ⟨h1,h2,_⟩:=hi
   rw[κb] at h1 h2
   refine ⟨_,by simp[ψw.l0];rfl,c,?_⟩
   simp only at h1 h2 ⊢
   rw[h1,h2])
  (fun rec n s hn hi=>by
   obtain ⟨a,b,c⟩:=s
   obtain ⟨h1,h2,h3⟩:=hi
   simp only at h1 h2 h3
   have hIn:=hinv n (by omega)
   have hF:=hI n _ hIn
   obtain ⟨_,hne⟩:=hs n hn _ hIn
   rw[←h1] at hF hne hIn
   have e0:(n:Int)<(l.length:Int):=by omega
   have hw:=φQ (show n+1<9223372036854775808 by omega)
   have h300:¬(n:Int)≥300:=by omega
   have hb:b.length=n:=by rw[h2,φBx,lT];omega
   have q1:decide ((b.length+(0+1)) * 48≤140737488355328)=true:=by simp;omega
   have q2:decide ((c.length+(0+1)) * 32≤140737488355328)=true:=by simp;omega
   have c1:((stE a l[n]).2.1==1)=false:=by simpa using hne
   have hsn:runE e (l.take (n+1))=((stE a l[n]).1,b++[(stE a l[n]).2]):=by
    rw[κ6 hn,φC1,←h1,←h2]
   have go:∀acks:List (Int×List PutT),acks.length≤n+1→∃s':EngT×List AnsT×List (Int×List PutT),(s'.1=(runE e (l.take (n+1))).1∧s'.2.1=(runE e (l.take (n+1))).2∧s'.2.2.length≤n+1) ∧
     rec ((((false,((0,[]),[],0,0,0),([],0,0,false),[]),[],[],[]),((stE a l[n]).1,b++[(stE a l[n]).2],acks,[]),l,(l.length:Int),((n+1:Nat):Int)):(EngT×φ3a)×(EngT×φ3a)×List φX×Int×Int) =
     rec ((((false,((0,[]),[],0,0,0),([],0,0,false),[]),[],[],[]),(s'.1,s'.2.1,s'.2.2,[]),l,(l.length:Int),((n+1:Nat):Int)):(EngT×φ3a)×(EngT×φ3a)×List φX×Int×Int):=fun acks ha=>
    ⟨((stE a l[n]).1,b++[(stE a l[n]).2],acks),⟨by rw[hsn],by rw[hsn],ha⟩,rfl⟩
   simp only[ψw.l0,e0,dT,cT,φH,hn,φM,φE hn,h300,dF,cF,φ2K,φIx hF,φN8 hF,bS,lC,lN,q1,q2,c1]
   cases ((stE a l[n]).2.1==0)
   ·simp only[cF,bS,hw]
    exact go c (by omega)
   ·simp only[cT]
    by_cases hp:((netO a l[n]).length:Int) > 0
    ·simp only[hp,dT,cT,bS,hw]
     exact go (c++[_]) (by rw[lA];simp;omega)
    ·simp only[hp,dF,cF,bS,hw]
     exact go c (by omega))
  (e,[],[]) ⟨by rw[List.take_zero];rfl,by rw[List.take_zero];rfl,by simp⟩ (by omega)
 obtain ⟨b,k,acks,hb⟩:=key
 unfold ψw.f
 rw[φFe h00.len h00.tx h00.sm,bS]
 have k:lp ψw.l0 ((((false,((0,[]),[],0,0,0),([],0,0,false),[]),[],[],[]),(e,[],[],[]),l,(l.length:Int),0):(EngT×φ3a)×(EngT×φ3a)×List φX×Int×Int)=some b:=k
 rw[k,bS]
 obtain ⟨b1,b2⟩:=b
 simp only at hb ⊢
 subst hb
 have:=hinv l.length (κB _)
 rw[κb] at this
 exact ⟨acks,rfl,this⟩
abbrev newE (n:Nat):EngT:=(true,((2,[1]),[],1,0,0),dNew n,zTx)
theorem φJL (n:Nat) (h:n≤100000) (h8:8≤n):ψI.f (d0N n)=some (newE n,0):=by
 obtain ⟨y,hy,e⟩:=φDA n h
 rw[if_neg (by omega)] at e
 unfold ψI.f
 have hd:dl 1048577 (d0N n):=by
  have:=φ6t (n:Int) ⟨by omega,by omega⟩
  exact φ3H (φ10 this) (by omega)
 rw[φCr _ hd,e]
 rfl
theorem φIT (n:Nat) (h:n≤100000) (h8:8≤n) (l:List φX):ψh.f ((n:Int),-1,l)=ψw.f (newE n) l:=by
 have hk:=φ6t (n:Int) ⟨by omega,by omega⟩
 have hlim:=φ1L (φ10 hk) (show 100001≤1000000000 by omega)
 have a1:decide ((0:Int)≤(n:Int)∧(n:Int)≤100000)=true:=by simp;omega
 have a2:decide ((-1:Int)≤-1∧(-1:Int)≤100000)=true:=by decide
 have e1:ψC.f (n:Int)=some (([],(n:Int),-1,false):φ1):=by
  unfold ψC.f
  simp only[φ1U,a1,bS,nZ,cF]
 have e2:ψ1K.f (([],(n:Int),-1,false):φ1) (-1)=some (([],(n:Int),-1,false):φ1):=by
  unfold ψ1K.f
  rw[φ5Q _ (by simp),bS,φ4m _ hlim,bS,hk]
  simp only[cT,φ1U,a2,bS]
 unfold ψh.f
 simp only[φ1U,a1,a2,bS,nZ,cF,e1,e2]
 rw[show (([],(n:Int),-1,false):φ1)=d0N n from rfl,φJL n h h8]
 simp only[bS,show ((0:Int) != 0)=false from rfl,cF]
 cases ψw.f (newE n) l<;>rfl
theorem φLo {t:TxnT} (h:t.2.1.length≤20∧t.2.2.length≤50) (k:List UInt8) (b:Int):(φ3F t k b).1.2.1.length≤20∧(φ3F t k b).1.2.2.length≤50:=by
 unfold φ3F
 repeat' split
 all_goals first
  | exact h
  | (refine ⟨?_,h.2⟩;simp;omega)
theorem φI5 (t:TxnT) (k:List UInt8) (b:Int):(φ3F t k b).2=0∨(φ3F t k b).2=4∨(φ3F t k b).2=5∨(φ3F t k b).2=7:=by
 unfold φ3F
 repeat' split
 all_goals simp
def cS (c:Int):Prop:=c=0∨c=4∨c=5∨c=7∨c=8
theorem φK6 {look:List UInt8→φ12×Int} (hk:∀k,(look k).2=0∨(look k).2=8) {l:List TxnT} (hl:TB l) {s:φX} (hf:φ3b l s=true):TB (getG look l s).1∧cS (getG look l s).2.1:=by
 obtain ⟨n,hn,h1,hin,hrd,hto,_,_,_⟩:=φ8h hl.1 hf
 have ht:=hl.2 _ (gM hn)
 unfold getG
 simp only[hrd]
 cases φ1Q s.2.2.1
 ·exact ⟨hl,.inr (.inl rfl)⟩
 simp only[nZ,cF]
 cases (ownW l[n].2.2 s.2.2.1).2
 ·simp only[cF]
  refine ⟨hl.set _ (φLo ht _ _),?_⟩
  have hc:=φI5 l[n] s.2.2.1 (look s.2.2.1).1.2.2
  generalize φ3F l[n] s.2.2.1 (look s.2.2.1).1.2.2=r at hc
  by_cases h0:r.2=0
  ·have:(r.2 != 0)=false:=by simpa using h0
   simp only[this,cF]
   rcases hk s.2.2.1 with e | e
   ·exact .inl e
   ·exact .inr (.inr (.inr (.inr e)))
  ·have:(r.2 != 0)=true:=by simpa using h0
   simp only[this,cT]
   show cS r.2
   unfold cS
   omega
 ·refine ⟨hl,?_⟩
  simp only[cT]
  unfold ownA
  cases (ownW l[n].2.2 s.2.2.1).1.2.1
  ·exact .inl rfl
  ·exact .inr (.inr (.inr (.inr rfl)))
theorem φIP {l:List TxnT} (hl:TB l) {s:φX} (hf:φ3b l s=true):TB (putG l s).1∧cS (putG l s).2.1:=by
 obtain ⟨n,hn,h1,hin,hrd,hto,_,_,_⟩:=φ8h hl.1 hf
 have ht:=hl.2 _ (gM hn)
 unfold putG
 simp only[hrd]
 refine ⟨hl.set _ (φHI ht _),?_⟩
 cases φ2h (putS s)
 ·exact .inr (.inl rfl)
 ·cases (φ4E l[n] (putS s)).2
  ·exact .inr (.inr (.inl rfl))
  ·exact .inl rfl
theorem φHw {look:List UInt8→φ12×Int} (hk:∀k,(look k).2=0∨(look k).2=8) (val:TxnT→Bool) {l:List TxnT} (hl:TB l) (s:φX):TB (sesG look val l s).1∧cS (sesG look val l s).2.1.1:=by
 have hz:TB (l.set s.2.1.toNat zT):=hl.set _ ⟨by simp,by simp⟩
 unfold sesG
 cases hf:φ3b l s
 ·exact ⟨hl,.inr (.inl rfl)⟩
 simp only[nZ,cF]
 cases (s.1==1)
 rotate_left
 ·exact ⟨hl.set _ ⟨by simp,by simp⟩,.inl rfl⟩
 cases (s.1==6)
 rotate_left
 ·exact ⟨hz,.inl rfl⟩
 cases (s.1==2)
 rotate_left
 ·exact φK6 hk hl hf
 cases (s.1==5)
 rotate_left
 ·exact ⟨hz,.inr (.inr (.inr (.inl rfl)))⟩
 exact φIP hl hf
theorem EI.fit {e:EngT} (h:EI e):Fit e:=by
 obtain ⟨h1,h2⟩:=h.small
 exact ⟨h.tx.1,h.tx.2,h1,h2,fun hu k=>by
  rcases φGW (h.up hu).ok k with c | c
  ·rw[c];decide
  ·rw[c];decide⟩
theorem φJX {e:EngT} (h:EI e) (s:φX):EI (stE e s).1∧(stE e s).2.1≠1∧(stE e s).2.1≠3 ∧
  ((stE e s).2.1=2→(stE e s).1.1=e.1∧(e.1=true→φY (stE e s).1.2.1 (stE e s).1.2.2.1=φY e.2.1 e.2.2.1)):=by
 obtain ⟨hS,hdk⟩:=h.small
 unfold stE
 cases c10:(s.1==10)
 rotate_left
 ·simp only[cT]
  cases hu:e.1
  ·obtain ⟨s0,hs0⟩:=(h.dn hu).1
   obtain ⟨t,y,ho,hj,_⟩:=φIZ hs0
   simp only[cF,ho]
   exact ⟨⟨fun _=>hj,fun c=>by simp at c,TB.new⟩,by decide,by decide,fun c=>by simp at c⟩
  ·exact ⟨h,by show (4:Int)≠1;decide,by show (4:Int)≠3;decide,fun c=>absurd c (by show ¬(4:Int)=2;decide)⟩
 simp only[cF]
 cases c11:(s.1==11)
 rotate_left
 ·simp only[cT,hdk,tA]
  by_cases c:0≤s.2.2.2.2∧s.2.2.2.2≤100000 - (φJ e.2.2.1.1:Int)
  ·simp only[c,and_self,dT,cT]
   exact ⟨⟨fun hu=>(h.up hu).cap (by omega) (by omega),fun hu=>⟨by obtain ⟨s0,hs0⟩:=(h.dn hu).1;exact ⟨s0,hs0.cap (by omega) (by omega)⟩,(h.dn hu).2⟩,h.tx⟩,by decide,by decide,fun c=>by simp at c⟩
  ·simp only[c,dF,cF]
   exact ⟨h,by decide,by decide,fun c=>by simp at c⟩
 simp only[cF]
 cases hu:e.1
 ·exact ⟨h,by show (6:Int)≠1;decide,by show (6:Int)≠3;decide,fun c=>absurd c (by show ¬(6:Int)=2;decide)⟩
 have hJ:=h.up hu
 simp only[nZ,cF]
 cases c7:(s.1==7)
 rotate_left
 ·obtain ⟨m1,m2⟩:=φL9 hJ
  have mc:=φIO hJ
  unfold C4 at mc
  simp only[cT]
  exact ⟨⟨fun _=>m1,fun c=>by simp at c,h.tx⟩,by show (φ2s e.2.1 e.2.2.1).2.2≠1;omega,by show (φ2s e.2.1 e.2.2.1).2.2≠3;omega,fun _=>⟨trivial,fun _=>m2⟩⟩
 simp only[cF]
 cases c8:(s.1==8)
 rotate_left
 ·exact ⟨h,by show (0:Int)≠1;decide,by show (0:Int)≠3;decide,fun c=>absurd c (by show ¬(0:Int)=2;decide)⟩
 simp only[cF]
 cases c9:(s.1==9)
 rotate_left
 ·exact ⟨⟨fun c=>by simp at c,fun _=>⟨⟨_,hJ⟩,by simp,by simp⟩,TB.new⟩,by show (0:Int)≠1;decide,by show (0:Int)≠3;decide,fun c=>absurd c (by show ¬(0:Int)=2;decide)⟩
 simp only[cF]
 unfold sesE
 obtain ⟨g1,g2⟩:=φHw (look:=getP e.2.1 e.2.2.1) (fun k=>by
  rcases φGW hJ.ok k with c | c
  ·exact .inl c
  ·rw[c];exact .inr rfl) (fun t=>φ5B t e.2.1.2.1) h.tx s
 generalize sesG (getP e.2.1 e.2.2.1) (fun t=>φ5B t e.2.1.2.1) e.2.2.2 s=g at g1 g2
 obtain ⟨l,a,w⟩:=g
 unfold cS at g2
 simp only at g1 g2
 unfold comE
 cases w with
 | none=>
  simp only
  exact ⟨h.same g1,by omega,by omega,fun c=>by omega⟩
 | some w=>
  obtain ⟨k1,k2,k3,k4⟩:=φHT hJ w
  have kc:=φHb hJ w
  unfold C4 at kc
  simp only
  exact ⟨h.store hu k1 g1,by omega,by omega,fun c=>⟨hu,fun _=>k4 (by omega)⟩⟩
noncomputable def mapE (e:EngT):List φ12×Int:=bif !e.1 then ([],6) else φY e.2.1 e.2.2.1
theorem φFw {e:EngT} (h:SmallS e.2.1 e.2.2.1):ψH.f e=some (mapE e):=by
 obtain ⟨k1,k2⟩:=h.lim
 have k3:=h.dir
 unfold ψH.f mapE
 cases e.1
 ·rfl
 ·simp only[nZ,cF,φEv e.2.1 e.2.2.1 k1 k2 (by omega),bS]
theorem φGh {e:EngT} (h:SmallS e.2.1 e.2.2.1):(mapE e).1.length≤1000:=by
 unfold mapE
 cases e.1
 ·simp
 ·exact φJ7 h
theorem φMG {d:φ1} (h:φ3 d=true):ψ1H.f d=some (φJ d.1:Int)∧¬(φJ d.1:Int) > d.2.1:=by
 have hd:=φ10 h
 have hlim:=φ1L hd (show 100001≤1000000000 by omega)
 have hu:=hd.2.1
 constructor
 ·unfold ψ1H.f
  simp only[φ4m d hlim,h,bS,nZ,cF,φ9K d (by have:=hlim.1;omega) (by omega)]
 ·unfold φ3 at h
  simp only[bA,decide_eq_true_eq] at h
  omega
theorem φJa (x:Int×Int×List φX) (hx:x.2.2.length<1000000):∀(e:EngT),EI e→lp ψ2H.l0 (x,e,0)=some (Sum.inl ()):=by
 intro e he
 have key:=φAp (step:=ψ2H.l0) (fun n (e:EngT)=>((x,e,(n:Int)):(Int×Int×List φX)×EngT×Int)) (min x.2.2.length 60) (fun n e=>EI e) (fun r=>r=Sum.inl ())
  (fun rec e hi=>by
   refine ⟨_,?_,rfl⟩
   by_cases hc:(60:Nat)<x.2.2.length
   ·have e1:min x.2.2.length 60=60:=by omega
    rw[e1]
    have e0:(((60:Nat):Int)<(x.2.2.length:Int)):=by omega
    have e2:¬(((60:Nat):Int)<60):=by decide
    simp only[ψ2H.l0,e0,e2,dT,dF,cT,cF]
   ·have e1:min x.2.2.length 60=x.2.2.length:=by omega
    rw[e1]
    have e0:¬((x.2.2.length:Int)<(x.2.2.length:Int)):=by omega
    simp only[ψ2H.l0,e0,dF,cF])
  (fun rec n e hn hi=>by
   have hn1:n<x.2.2.length:=by omega
   have e0:(n:Int)<(x.2.2.length:Int):=by omega
   have e2:(n:Int)<60:=by omega
   have hw:=φQ (show n+1<9223372036854775808 by omega)
   obtain ⟨k1,k2,k3,k4⟩:=φJX hi x.2.2[n]
   refine ⟨(stE e x.2.2[n]).1,k1,?_⟩
   have hm:=φFw hi.small.1
   have hm2:=φFw k1.small.1
   have hl1:=φGh hi.small.1
   have hl2:=φGh k1.small.1
   obtain ⟨u1,u2⟩:=φMG k1.small.2
   obtain ⟨l1,l2⟩:=k1.small.1.lim
   have l3:=k1.small.1.ids
   have l4:=k1.small.1.dir
   simp only[ψ2H.l0,e0,e2,dT,cT,hm,φH,hn1,φM,φE hn1,φ2K,φNT hi.fit x.2.2[n],bS,hm2]
   have c1:((stE e x.2.2[n]).2.1==1)=false:=by simpa using k2
   have c3:((stE e x.2.2[n]).2.1==3)=false:=by simpa using k3
   have fin:(bif (stE e x.2.2[n]).2.1==1 then some (Sum.inr false) else bif (stE e x.2.2[n]).2.1==3 then some (Sum.inr false) else
     (ψ2Q.f (stE e x.2.2[n]).1.2.2.1).bind fun t12=>bif !t12 then some (Sum.inr false) else
     (ψ1H.f (stE e x.2.2[n]).1.2.2.1).bind fun t13=>bif decide (t13 > (stE e x.2.2[n]).1.2.2.1.2.1) then some (Sum.inr false) else
     rec (x,(stE e x.2.2[n]).1,w64 ((n:Int)+1)))=rec (x,(stE e x.2.2[n]).1,((n+1:Nat):Int)):=by
    simp only[c1,c3,cF,φ6S _ l1,k1.small.2,u1,u2,bS,nZ,dF,hw]
   by_cases c2:(stE e x.2.2[n]).2.1=2
   ·obtain ⟨q1,q2⟩:=k4 c2
    have hme:mapE (stE e x.2.2[n]).1=mapE e:=by
     unfold mapE
     rw[q1]
     cases hu:e.1
     ·rfl
     ·exact q2 hu
    have hbb:∀b:Bool,(!(b==b))=false:=fun b=>by cases b<;>rfl
    have cc:((stE e x.2.2[n]).2.1==2)=true:=by simpa using c2
    have cne:((mapE e).2 != (mapE e).2)=false:=by simp
    simp only[cc,cT,hme,cne,cF,φHZ _ _ (show (mapE e).1.length<2 ^ 62 by omega),dT,bS,nZ,q1,hbb]
    cases hu:e.1
    ·simp only[cF,bS,φV]
     exact fin
    ·have hj:=(k1.up (q1.trans hu)).ok
     simp only[cT,φDq (stE e x.2.2[n]).1.2.1 (stE e x.2.2[n]).1.2.2.1 l1 l2 (by omega) (by omega),hj,bS,nZ,cF,φV]
     exact fin
   ·have cc:((stE e x.2.2[n]).2.1==2)=false:=by simpa using c2
    simp only[cc,cF,bS,φV]
    exact fin)
  e he (by omega)
 obtain ⟨b,k,rfl⟩:=key
 exact k
theorem φMp {c:CurT} (h:Cur c):∃x c',ψ39.f c 40=some (x,c')∧(0≤x.1∧x.1≤100000)∧x.2.2.length≤81∧Cur c':=by
 obtain ⟨l,c1,e1,hl,_,_,h1⟩:=φLv h 40 (by omega)
 obtain ⟨z,c2,e2,a2,b2,_,h2⟩:=φ3D h1 6
 have e1:ψ38.f c 40=some (l,c1):=e1
 unfold ψ39.f
 simp only[e1,e2,bS]
 cases d0:(z==0)
 rotate_left
 ·obtain ⟨y,c3,e3,a3,b3,_,h3⟩:=φ3D h2 300
  have b3:=b3 (by omega)
  have hw:w64 (100+y)=100+y:=φG (by omega) (by omega)
  simp only[cT,e3,bS,hw]
  exact ⟨_,_,rfl,⟨by show 0≤100+y;omega,by show 100+y≤100000;omega⟩,by show l.length≤81;omega,h3⟩
 simp only[cF]
 cases d1:(z==1)
 ·exact ⟨_,_,rfl,⟨by show (0:Int)≤100000;decide,by show (100000:Int)≤100000;decide⟩,by show l.length≤81;omega,h2⟩
 have hw:w64 ((l.length:Int)+1)=(l.length:Int)+1:=φG (by omega) (by omega)
 obtain ⟨k,c3,e3,a3,b3,_,h3⟩:=φ3D h2 ((l.length:Int)+1)
 have b3:=b3 (by omega)
 obtain ⟨n,c4,e4,_,_,_,h4⟩:=φ3D h3 120
 have hk:(decide (0≤k) && decide (k≤(l.length:Int)))=true:=by simp;omega
 have ht:(l.take k.toNat).length≤80:=by rw[lT];omega
 have hdr:(l.drop k.toNat).length≤80:=by rw[lD];omega
 have htd:(l.take k.toNat).length+(l.drop k.toNat).length=l.length:=by rw[lT,lD];omega
 have q1:decide ((0+(l.take k.toNat).length) * 56≤140737488355328)=true:=by simp only[decide_eq_true_eq];omega
 have q2:decide (((l.take k.toNat).length+(0+1)) * 56≤140737488355328)=true:=by simp only[decide_eq_true_eq];omega
 have q3:decide (((l.take k.toNat).length+(0+1)+(l.drop k.toNat).length) * 56≤140737488355328)=true:=by simp only[decide_eq_true_eq];omega
 simp only[cT,hw,e3,bS,hk,lN,q1,e4,κ7,lC,q2,lA,q3]
 exact ⟨_,_,rfl,⟨by show (0:Int)≤100000;decide,by show (100000:Int)≤100000;decide⟩,by show ((l.take k.toNat++[_])++l.drop k.toNat).length≤81;simp only[lA,lC,lN];omega,h4⟩
theorem φKL (l:List Int) (hl:l.length<2 ^ 60):∃x,ψ2R.f l=some x∧(-1≤x.1∧x.1≤100001)∧x.2.2.length≤81:=by
 obtain ⟨c,e0,h0⟩:=φHq l hl
 obtain ⟨x,c1,e1,hx,hxl,h1⟩:=φMp h0
 obtain ⟨z,c2,e2,_,_,_,h2⟩:=φ3D h1 6
 unfold ψ2R.f
 simp only[e0,e1,e2,bS]
 -- the end
 have fin:∀(a:Int×Int×List φX) (c:CurT) (y:Int×Int×List φX),Cur c→(-1≤y.1∧y.1≤100001)→y.2.2.length≤81→∃x,((ψ3E.f c 20).bind fun x=>bif x.1 then (ψ3G.f x.2 [-1,100001,0,9]).bind fun x_1=>some (((x_1.1,y.2):Int×Int×List φX)) else some y)=some x∧(-1≤x.1∧x.1≤100001)∧x.2.2.length≤81:=by
  intro a c y hc hy hyl
  obtain ⟨b,c3,e3,h3⟩:=φBN hc 20
  simp only[e3,bS]
  cases b
  ·exact ⟨_,rfl,hy,hyl⟩
  ·obtain ⟨v,c4,e4,hv,h4⟩:=φ73 h3 [-1,100001,0,9] (by decide)
   simp only[cT,e4,bS]
   refine ⟨_,rfl,?_,hyl⟩
   simp only[mc,List.not_mem_nil,or_false] at hv
   show -1≤v∧v≤100001
   omega
 have hx1:-1≤x.1∧x.1≤100001:=by omega
 have mid:∀b:Bool,∃x',(((some (((0,0,[]):Int×Int×List φX),c2,x,z,b):Option ((Int×Int×List φX)×CurT×(Int×Int×List φX)×Int×Bool)).bind fun x_1=>
   bif x_1.2.2.2.2 then (ψ3A.f x_1.2.1 60).bind fun t=>some (x_1.1,t.2,((x_1.2.2.1.1,t.1,x_1.2.2.1.2.2):Int×Int×List φX)) else
   (bif x_1.2.2.2.1==2 then (ψ3G.f x_1.2.1 [-2,-1,0,100001]).bind fun t=>some (x_1.1,t.2,((x_1.2.2.1.1,t.1,x_1.2.2.1.2.2):Int×Int×List φX)) else some (x_1.1,x_1.2.1,x_1.2.2.1)).bind fun x=>some (x.1,x.2.1,x.2.2)).bind fun y=>
   (ψ3E.f y.2.1 20).bind fun x=>bif x.1 then (ψ3G.f x.2 [-1,100001,0,9]).bind fun x_1=>some (((x_1.1,y.2.2.2):Int×Int×List φX)) else some y.2.2)=some x'∧(-1≤x'.1∧x'.1≤100001)∧x'.2.2.length≤81:=by
  intro b
  simp only[bS]
  cases b
  ·simp only[cF]
   cases (z==2)
   ·simp only[cF,bS]
    exact fin (0,0,[]) c2 x h2 hx1 hxl
   ·obtain ⟨v,c4,e4,hv,h4⟩:=φ73 h2 [-2,-1,0,100001] (by decide)
    simp only[cT,e4,bS]
    exact fin (0,0,[]) c4 (x.1,v,x.2.2) h4 hx1 hxl
  ·obtain ⟨v,c4,e4,_,_,_,h4⟩:=φ3D h2 60
   simp only[cT,e4,bS]
   exact fin (0,0,[]) c4 (x.1,v,x.2.2) h4 hx1 hxl
 cases (z==0)
 ·exact mid _
 ·exact mid _
theorem φIU (x0:List Int) (w0:wfD (.sl false (.int .u8)) x0):ψ2H.f x0=some true:=by
 unfold ψ2H.f
 rw[φLd,bS]
 by_cases cb:(x0.length:Int) > 1048576
 ·simp[cb]
 simp only[cb,dF,cF]
 obtain ⟨x,ex,hx,hxl⟩:=φKL x0 (by omega)
 obtain ⟨a,ea,ha0,ha1⟩:=φN1 x0 (fun y hy=>w0.2 y hy) 0 (by omega) (by omega)
 have ea:ψ2I.f x0 0=some a:=ea
 have fin:∀(n:Nat),8≤n→n≤100000→((ψh.f ((n:Int),-1,[])).bind fun t5=>bif !t5.1.1 then some false else (lp ψ2H.l0 ((((n:Int),-1,x.2.2):Int×Int×List φX),t5.1,0)).bind fun o14=>φV o14 (fun _=>some true) fun x2=>some x2)=some true:=by
  intro n h8 hn
  have hE:EI (newE n):=⟨fun _=>φLs n hn h8,fun c=>by simp at c,TB.new⟩
  obtain ⟨acks,e1,_⟩:=φLf (I:=fun _ e=>EI e) (l:=[]) (by simp) (fun _ e h=>h.fit) (fun n hn=>by simp at hn) hE
  rw[φIT n hn h8,e1]
  have e2:=φJa ((n:Int),-1,x.2.2) (by show x.2.2.length<_;omega) (newE n) hE
  simp only[bS,runE,nZ,cF,e2,φV]
 simp only[ex,bS,ea]
 by_cases c1:x.1<100
 ·have hw:w64 (100+a)=100+a:=φG (by omega) (by omega)
  have c2:¬(100+a > 100000):=by omega
  obtain ⟨n,hn⟩:∃n:Nat,(100+a)=(n:Int):=⟨(100+a).toNat,by omega⟩
  have hn1:8≤n∧n≤100000:=by omega
  simp only[c1,dT,cT,hw,bS,c2,dF,cF]
  rw[hn]
  exact fin n hn1.1 hn1.2
 ·simp only[c1,dF,cF,bS]
  by_cases c2:x.1 > 100000
  ·simp only[c2,dT,cT,bS]
   exact fin 100000 (by omega) (by omega)
  ·obtain ⟨n,hn⟩:∃n:Nat,x.1=(n:Int):=⟨x.1.toNat,by omega⟩
   simp only[c2,dF,cF,bS]
   rw[hn]
   exact fin n (by omega) (by omega)
end Go.Rf.G
