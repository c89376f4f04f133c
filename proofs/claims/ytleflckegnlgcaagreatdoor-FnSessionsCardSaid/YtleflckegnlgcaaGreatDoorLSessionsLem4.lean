import Derived.Test.YtleflckegnlgcaaGreatDoorLSessionsLem3
open Option renaming bind_some→bS
open List renaming length_append→lA,append_assoc→aA,mem_cons_of_mem→mC,mem_append→mA,mem_append_right→mR,mem_append_left→mL,mem_cons→mc,drop_eq_getElem_cons→dG,length_take→lT,length_drop→lD,mem_map→mM,length_map→lM,length_cons→lC,length_nil→lN,getElem_mem→gM,map_append→mp,mem_singleton→mZ,mem_cons_self→κ0,take_succ_eq_append_getElem→κ4,map_cons→κ5,append_nil→κ7,nil_append→κ9,length_singleton→κB,drop_zero→κC,take_append_drop→κE,cons_append→κF,flatMap_append→κI,nodup_append→κJ,foldl_cons→κM,drop_left→κN,nodup_cons→κO,range'→κP,all_eq_true→κS,take_length→κU,foldl_append→κW,replicate→κX,pairwise_cons→κY,mem_or_eq_of_mem_set→κc,pairwise_append→κd
open Bool renaming and_eq_true→bA,eq_false_or_eq_true→bE,not_true→nZ,not_false→nF,true_and→tA,not_not→nn,false_eq_true→κ2,true_eq_false→κ8,false_and→κD,or_eq_false_iff→κH,and_true→κK,not_eq_true'→κL,false_or→κQ,or_eq_true→κV
open Int renaming toNat_natCast→tN,ofNat_lt→oL,le_refl→κR
open Nat renaming lt_or_ge→κ1,zero_le→κ3,le_refl→κ6,eq_of_beq_eq_true→κA,lt_of_lt_of_le→κG,zero_add→κT,pow_succ→κZ,mod_eq_of_lt→κb
open Array renaming length_toList→κa
set_option linter.unusedVariables false
set_option linter.unusedSimpArgs false
namespace Go.Rf.G
open Go Go.Rf
set_option synthInstance.maxSize 4000
theorem φLN (s:List UInt8):scan (s.take (scan s).2)=scan s:=by
 obtain ⟨rs,q,h1,h2,h3⟩:=φM8 s
 rw[h3]
 have:s.take (txt rs).length=txt rs:=by rw[h2,List.take_left]
 rw[this,φ96 h1]
theorem φNL {d:φ1} (h:φ3 d=true) (v:φP):(φ3E d v).length≤130:=by
 unfold φ3E
 rw[if_neg (by rw[h];simp),lM]
 exact Nat.le_trans (List.length_filter_le _ _) (φ8A h).2.2
noncomputable def φq (v:φP) (d:φ1):φD:=φm (φ3E d v) (d,0)
theorem φ7r {d:φ1} (h:φ3 d=true) (v:φP):φ3 (φq v d).1=true:=φ4i _ h
theorem φDP (w:φD) (v:φP) (h:φ3 w.1=true) (hv:v.2.length<1000000000):ψ24.f w v=some (φ4s (φ3E w.1 v) w):=by
 unfold ψ24.f
 rw[φIO w.1 v (φ1X (φ12 h) (by omega)) hv,bS]
 have hl:=φNL h v
 generalize φ3E w.1 v=names at hl ⊢
 have key:=φ3m (step:=ψ24.l0) names (fun (w:φD) n=>φ1B (φB n) w) (fun n (a:φD)=>(a,names,(names.length:Int),(n:Int))) (fun a=>a) (fun _ a=>φ3 a.1=true) (by omega)
  (fun rec n a h1 ha=>by
   have hw:=φR (show n+1<9223372036854775808 by omega)
   simp only[ψ24.l0,oL,h1,dT,cT,φK,φN,φE h1,φ50 a names[n] (φ12 ha) (by omega),bS,hw])
  (fun n a h1 ha=>φ86 (op:=φB names[n]) ha fun k=>φ2P k _)
  (fun rec a ha=>by simp[ψ24.l0])
  w h
 have key:lp ψ24.l0 (w,names,(names.length:Int),0)=some (φ4s names w):=key
 rw[key];rfl
noncomputable def φ11 (d:φ1) (id:Int):List φF:=(scan (φ2 d (φ0 id)).1).1.map fun x=>((id,x):φF)
theorem φ6g {d:φ1} (h:φ3 d=true) (n:List UInt8):(φ2 d n).1.length≤100000:=by
 have h1:=φ4e d n (φ1X (φ12 h) (by omega))
 have h2:=φ9l h
 omega
theorem φEb {d:φ1} (h:φ3 d=true) (id:Int):(φ11 d id).length≤100000:=by
 unfold φ11
 rw[lM]
 exact Nat.le_trans (φ69 _).2 (φ6g h _)
theorem φFY {d:φ1} (h:φ3 d=true):∀ids:List Int,(ids.flatMap (φ11 d)).length≤100000 * ids.length
 | []=>by simp
 | id::r=>by
  have:=φEb h id
  have:=φFY h r
  simp only[List.flatMap_cons,lA,lC];omega
abbrev φ1U:φ6:=((0,[]),[],0,0,0)
noncomputable def φ9G (d:φ1):φ6×φ1×Int:=
 let w:=sPut (2,[1]) (φ9 (φV (φ0 1)) (φq φ1G d))
 if w.2≠0 then (φ1U,w.1,told w.2) else (((2,[1]),[],1,0,0),w.1,0)
theorem φKT:φk (2,[1])=true:=by decide
theorem φJl (d:φ1) (h:φ3 d=true):∃w:φD,ψ20.f (d,0)=some (((2,[1]),[],1,0,0),w)∧w=φA (sPut (2,[1]) (φ9 (φV (φ0 1)) (φq φ1G d))):=by
 refine ⟨_,?_,rfl⟩
 unfold ψ20.f
 have h1:=φDP (d,0) φ1G h (by show 0<_;omega)
 have e1:φ4s (φ3E d φ1G) (d,0)=φA (φq φ1G d):=φBh _ (d,0)
 have hd1:=φ7r h φ1G
 have h2:=φ8k (φA (φq φ1G d)) (φ0 1) (k:=100001) (φ12 hd1) (by omega) (by have:=φ4E 1;omega)
 have e2:φ1B (φV (φ0 1)) (φA (φq φ1G d))=φA (φ9 (φV (φ0 1)) (φq φ1G d)):=φ2l _ _
 have hd2:φ3 (φ9 (φV (φ0 1)) (φq φ1G d)).1=true:=φ1o hd1 fun k=>φ39 k _
 have h3:=φBk (φA (φ9 (φV (φ0 1)) (φq φ1G d))) (2,[1]) (k:=100001) (φ12 hd2) (by omega) (by show 1<_;decide)
 have e3:=φBw (2,[1]) (φ9 (φV (φ0 1)) (φq φ1G d))
 have h1:ψ24.f (d,0) (0,[])=some (φA (φq φ1G d)):=h1.trans (by rw[e1])
 rw[e2] at h2
 rw[e3] at h3
 simp only[h1,bS,φ3G,h2,h3]
noncomputable def φ2Z (d:φ1):List Int→Bool
 | []=>true
 | id::r=>(φ2 d (φ0 id)).2 && ((r.isEmpty || decide ((scan (φ2 d (φ0 id)).1).2=(φ2 d (φ0 id)).1.length)) && φ2Z d r)
noncomputable def φ3v (d:φ1):List Int→Int→Int
 | [],z=>z
 | id::r,_=>φ3v d r ((scan (φ2 d (φ0 id)).1).2:Int)
theorem φFe (d:φ1):∀(l:List Int) (z:Int),l≠[]→φ3v d l z=((scan (φ2 d (φ0 (φM l))).1).2:Int)
 | [],_,h=>absurd rfl h
 | [x],z,_=>by rw[φ3v,φ3v,φ8z]
 | x::y::l,z,_=>by rw[φ3v,φ8V];exact φFe d (y::l) _ (by simp)
theorem φMa {α:Type} (l:List α) (n:Nat) (h:n<l.length):(l.drop (n+1)).isEmpty=decide (¬n<l.length - 1):=by
 apply Bool.eq_iff_iff.2
 rw[List.isEmpty_iff,List.drop_eq_nil_iff,decide_eq_true_eq];omega
theorem φF8 (w:φD) (v:φP) (h:φ3 w.1=true) (hv:v.2.length<1000000) :
  ψ28.f w v=some (if φ2Z w.1 v.2=true then (v.2.map (φ11 w.1),φ3v w.1 v.2 0,true,w) else ([],0,false,w)):=by
 have key:=φh (step:=ψ28.l0) (fun n (s:List (List φF)×Int)=>(w,v,s.1,s.2,v.2,(v.2.length:Int),(n:Int))) v.2.length
  (fun n s=>if φ2Z w.1 (v.2.drop n)=true then .inl (w,s.1++(v.2.drop n).map (φ11 w.1),φ3v w.1 (v.2.drop n) s.2) else .inr (w,[],0,false)) (fun n s=>s.1.length≤n)
  (fun rec n s hn hs ih=>by
   rcases κ1 n v.2.length with h1 | h1
   ·have hw:=φR (show n+1<9223372036854775808 by omega)
    have hwl:w64 ((v.2.length:Int) - 1)=((v.2.length - 1:Nat):Int):=by rw[φJ (by omega) (by omega)];omega
    have hd:v.2.drop n=v.2[n]::v.2.drop (n+1):=dG h1
    have htx:=φ6g h (φ0 v.2[n])
    have hsc:=φ69 (φ2 w.1 (φ0 v.2[n])).1
    have hpl:=φF3 v.2[n] (scan (φ2 w.1 (φ0 v.2[n])).1).1 (by omega)
    have hb:decide ((s.1.length+([φ11 w.1 v.2[n]]:List (List φF)).length) * 24≤140737488355328)=true:=by simp only[decide_eq_true_eq];exact φEx (by omega)
    have ih:=ih (s.1++[φ11 w.1 v.2[n]],((scan (φ2 w.1 (φ0 v.2[n])).1).2:Int)) h1 (by simp only[lA,κB];omega)
    have hft:=φ4f w.1 (φ0 v.2[n]) (φ1X (φ12 h) (by omega))
    have hsr:=φAP (φ2 w.1 (φ0 v.2[n])).1 (by omega)
    rw[hd]
    simp only[φ2Z,φ3v,κ5,φMa v.2 n h1]
    simp only[ψ28.l0,oL,h1,dT,cT,φK,φN,φE h1,φ3G,bS,hft,hsr,hwl]
    have hpl2:ψ1e.f v.2[n] (scan (φ2 w.1 (φ0 v.2[n])).1).1=some (φ11 w.1 v.2[n]):=hpl
    have hgo:((ψ1e.f v.2[n] (scan (φ2 w.1 (φ0 v.2[n])).1).1).bind fun t5=>bif decide ((s.1.length+[t5].length) * 24≤140737488355328) then rec (w,v,s.1++[t5],((scan (φ2 w.1 (φ0 v.2[n])).1).2:Int),v.2,(v.2.length:Int),w64 ((n:Int)+1)) else none) =
      some (if φ2Z w.1 (v.2.drop (n+1))=true then .inl (w,s.1++(φ11 w.1 v.2[n]::(v.2.drop (n+1)).map (φ11 w.1)),φ3v w.1 (v.2.drop (n+1)) ((scan (φ2 w.1 (φ0 v.2[n])).1).2:Int)) else .inr (w,[],0,false)):=by
     rw[hpl2,bS,hb,cT,hw]
     have:s.1++(φ11 w.1 v.2[n]::(v.2.drop (n+1)).map (φ11 w.1))=s.1++[φ11 w.1 v.2[n]]++(v.2.drop (n+1)).map (φ11 w.1):=by simp
     rw[this];exact ih
    cases hk:(φ2 w.1 (φ0 v.2[n])).2 with
    | false=>simp only[nF,cT,bS,φn,κD,κ2,if_false]
    | true=>
     simp only[nZ,cF,tA]
     by_cases c1:n<v.2.length - 1
     ·simp only[c1,dT,cT,not_true,dF,κQ]
      by_cases c2:(scan (φ2 w.1 (φ0 v.2[n])).1).2=(φ2 w.1 (φ0 v.2[n])).1.length
      ·rw[φ7X c2,cF]
       simp only[bS,φe,decide_eq_true c2,tA]
       exact hgo
      ·rw[φ71 c2,cT]
       simp only[bS,φn,decide_eq_false c2,κD,κ2,if_false]
     ·simp only[c1,dF,cF,not_false_iff,dT,Bool.true_or,tA,bS,φe]
      exact hgo
   ·have:n=v.2.length:=by omega
    subst this
    rw[List.drop_length]
    simp[ψ28.l0,φ2Z,φ3v])
  (by omega) 0 ([],0) (κ3 _) (κ6 _)
 have key:lp ψ28.l0 (w,v,[],0,v.2,(v.2.length:Int),0)=_:=key
 unfold ψ28.f
 rw[key,bS,κC]
 by_cases c:φ2Z w.1 v.2=true
 ·rw[if_pos c,if_pos c];simp only[φe,κ9]
 ·rw[if_neg c,if_neg c];simp only[φn]
theorem φCY {hi:Int}:∀(l:List Int) (p:Option Int),φ1c hi p l=true→l.Pairwise (·<·)∧∀q,p=some q→∀x∈l,q<x
 | [],p,_=>⟨List.Pairwise.nil,by simp⟩
 | x::r,p,h=>by
  simp only[φ1c,bA,decide_eq_true_eq] at h
  obtain ⟨h1,h2,h3⟩:=h
  obtain ⟨k1,k2⟩:=φCY r (some x) h3
  have k2:=k2 x rfl
  refine ⟨List.Pairwise.cons k2 k1,?_⟩
  rintro q rfl y hy
  have h2:q<x:=by simpa using h2
  rcases mc.1 hy with rfl | hy
  ·exact h2
  ·exact Int.lt_trans h2 (k2 y hy)
theorem φJx {v:φP} (h:φk v=true):v.2.Pairwise (·<·):=(φCY v.2 none ((φ13 v).1 h).1).1
noncomputable def φ3K (d:φ1) (id:Int):Option φ16:=
 if (φ2 d (φI id)).2=true∧(φ3S (φ2 d (φI id)).1).2=true∧φ77 id (φ2 d (φ0 id)).1 (φ3S (φ2 d (φI id)).1).1=true then
  some ((φ3S (φ2 d (φI id)).1).1.2.2,(φ3S (φ2 d (φI id)).1).1.2.1,0) else none
theorem φLE (w:φD) (id:Int) (h:φ3 w.1=true):ψ23.f w id=some (match φ3K w.1 id with | some g=>(g,true,w) | none=>(([],0,0),false,w)):=by
 have hlm:=φ1X (φ12 h) (show 100001≤1000000000 by omega)
 have ht:=φ6g h (φI id)
 have ht2:=φ6g h (φ0 id)
 unfold ψ23.f φ3K
 simp only[φ8y,bS,φ4f w.1 (φI id) hlm,φL8 _ (show (φ2 w.1 (φI id)).1.length<900000000 by omega),φ3G,φ4f w.1 (φ0 id) hlm,
  φL1 id (φ2 w.1 (φ0 id)).1 (φ3S (φ2 w.1 (φI id)).1).1 (by omega)]
 cases (φ2 w.1 (φI id)).2<;>cases (φ3S (φ2 w.1 (φI id)).1).2<;>cases φ77 id (φ2 w.1 (φ0 id)).1 (φ3S (φ2 w.1 (φI id)).1).1<;>simp
noncomputable def φS (x:φ1) (ids:List Int):List φF:=ids.flatMap (φ11 x)
theorem φOA (w:φD) (v:φP) (S:φ6) (g:φ16) (L:List (List φF)) (z:φP) (hL:∀l∈L,l.length≤100000) (hl:L.length≤1000) :
  lp ψ21.l0 (w,φ1U,(v.1,[]),S,g,[],L,(L.length:Int),0)=some (w,φ1U,(v.1,[]),S,g,L.flatten):=by
 have hk:=φ3m (step:=ψ21.l0) L (fun (s:List φF) l=>s++l) (fun n s=>(w,φ1U,(v.1,[]),S,g,s,L,(L.length:Int),(n:Int))) (fun s=>(w,φ1U,(v.1,[]),S,g,s)) (fun n s=>s.length≤100000 * n) (by omega)
  (fun rec n s h hi=>by
   have hw:=φR (show n+1<9223372036854775808 by omega)
   have h1:=hL _ (gM h)
   have hb:decide ((s.length+L[n].length) * 88≤140737488355328)=true:=by simp only[decide_eq_true_eq];omega
   simp only[ψ21.l0,oL,h,dT,cT,φK,φN,φE h,hb,hw])
  (fun n s h hi=>by have h1:=hL _ (gM h);simp only[lA];omega)
  (fun rec s hi=>by simp[ψ21.l0]) [] (κ6 _)
 have hk:lp ψ21.l0 (w,φ1U,(v.1,[]),S,g,[],L,(L.length:Int),0)=_:=hk
 rw[hk]
 have:∀(L:List (List φF)) (s:List φF),L.foldl (fun (s:List φF) l=>s++l) s=s++L.flatten:=by
  intro L
  induction L with
  | nil=>intro s;simp
  | cons x L ih=>intro s;rw[κM,ih];simp
 rw[this];rfl
theorem φK8 {d:φ1} (h:φ3 d=true) {m n:List UInt8} (z:Int) (hne:n≠m):φ2 (φ3P m z d).1 n=φ2 d n:=by
 refine φ5x h (φ6C h m z) n fun t=>?_
 unfold φ42
 rcases φv d.1 m with ⟨e,_⟩ | ⟨i,hi,e,hn⟩
 ·rw[φ1D e]
 ·rw[φ17 e]
  simp only
  split
  ·rw[φE hi]
   constructor
   ·rintro ⟨s,hs⟩;exact ⟨s,(φ61 (f:=(d.1[i].1,d.1[i].2.1.take z.toNat,if z<d.1[i].2.2 then z else d.1[i].2.2)) hi rfl (by rw[hn];exact hne)).2 hs⟩
   ·rintro ⟨s,hs⟩;exact ⟨s,(φ61 (f:=(d.1[i].1,d.1[i].2.1.take z.toNat,if z<d.1[i].2.2 then z else d.1[i].2.2)) hi rfl (by rw[hn];exact hne)).1 hs⟩
  ·exact Iff.rfl
theorem φJk {d:φ1} {n:List UInt8} {z:Int} (h:(φ3P n z d).2=0):φ2 (φ3P n z d).1 n=((φ2 d n).1.take z.toNat,true):=by
 obtain ⟨k,ha,hx⟩:=φ5a h
 have hk:φ3 (φ3P n z d).1=true:=φ6C k n z
 have hx:(φ3P n z d).1=_:=hx
 unfold φ42 at ha hx
 rcases φv d.1 n with ⟨e,_⟩ | ⟨i,hi,e,hn⟩
 ·rw[φ1D e] at ha;simp at ha
 rw[φ17 e] at ha hx
 simp only at ha hx
 split at ha
 ·rename_i c
  rw[if_pos c,φE hi] at hx
  have e1:=φ2r k (gM hi)
  rw[hn] at e1
  have hm:((n,d.1[i].2.1.take z.toNat,if z<d.1[i].2.2 then z else d.1[i].2.2):φ4)∈(φ3P n z d).1.1:=by
   rw[hx,←hn]
   exact List.mem_iff_getElem.2 ⟨i,by simpa using hi,by simp⟩
  have e2:=φ2r hk hm
  rw[e1]
  exact e2
 ·simp at ha
noncomputable def cutN (v:φP) (d:φ1):Nat:=(scan (φ2 d (φ0 (φM v.2))).1).2
noncomputable def cutW (v:φP) (d:φ1):φD:=
 φ9 (φG (φ0 (φM v.2))) (if (φ2 d (φ0 (φM v.2))).1.length=cutN v d then (d,0) else φ3P (φ0 (φM v.2)) (cutN v d:Int) d)
theorem φES {v:φP} {d:φ1} (h:φ3 d=true):φ3 (cutW v d).1=true:=by
 unfold cutW
 refine φ1o ?_ fun k=>φ3J k _
 split
 ·exact h
 ·exact φ6C h _ _
theorem φIs {v:φP} {d:φ1} (h:φ3 d=true) (n:List UInt8) (hne:n≠φ0 (φM v.2)):φ2 (cutW v d).1 n=φ2 d n:=by
 unfold cutW
 split
 ·rw[φ2p (φ2K h _ _)]
 ·have hk:φ3 (φ3P (φ0 (φM v.2)) (cutN v d:Int) d).1=true:=φ6C h _ _
  rw[φ2p (φ2K hk _ _)]
  exact φK8 h _ hne
theorem φN9 {v:φP} {d:φ1} (h:φ3 d=true) (hl:(φ2 d (φ0 (φM v.2))).2=true) (hc:(cutW v d).2=0) :
  φ2 (cutW v d).1 (φ0 (φM v.2))=((φ2 d (φ0 (φM v.2))).1.take (cutN v d),true):=by
 unfold cutW at hc ⊢
 have h0:=(φ3u hc).1
 split
 ·rename_i c
  rw[φ2p (φ2K h _ _),←c,κU]
  exact Prod.ext rfl hl
 ·rename_i c
  rw[if_neg c] at h0
  have hk:φ3 (φ3P (φ0 (φM v.2)) (cutN v d:Int) d).1=true:=φ6C h _ _
  rw[φ2p (φ2K hk _ _),φJk h0,tN]
theorem φDU {v:φP} {d:φ1} (h:φ3 d=true) (hl:(φ2 d (φ0 (φM v.2))).2=true) (hc:(cutW v d).2=0) (id:Int):φ11 (cutW v d).1 id=φ11 d id:=by
 unfold φ11
 by_cases c:φ0 id=φ0 (φM v.2)
 ·rw[c,φN9 h hl hc]
  show List.map _ (scan ((φ2 d (φ0 (φM v.2))).1.take (cutN v d))).1=_
  unfold cutN
  rw[φLN]
 ·rw[φIs h _ c]
theorem φGI {d:φ1}:∀(l:List Int),l≠[]→φ2Z d l=true→(φ2 d (φ0 (φM l))).2=true
 | [],h,_=>absurd rfl h
 | [x],_,h=>by
  simp only[φ2Z,bA] at h
  rw[φ8z];exact h.1
 | x::y::l,_,h=>by
  rw[φ8V]
  have h:φ2Z d (x::(y::l))=true:=h
  rw[φ2Z,bA,bA] at h
  exact φGI (y::l) (by simp) h.2.2
noncomputable def φ4c (v:φP) (d:φ1):φ6×φ1×Int:=
 if (cutW v d).2≠0 then (φ1U,(cutW v d).1,told (cutW v d).2) else
 let x:=(cutW v d).1
 let g:=match φ3K x (v.2.getD 0 0) with
  | some g=>φ2O g (φS x (v.2.drop 1))
  | none=>φ2O ([],0,0) (φS x v.2)
 let hinted:=match φ3K x (v.2.getD 0 0) with
  | some _=>v.2.getD 0 0
  | none=>0
 if g.2.2≠0 then (φ1U,x,3) else
 if (φq v x).2≠0 then (φ1U,(φq v x).1,told (φq v x).2) else
 ((v,g.1,w64 (g.2.1+1),(cutN v d:Int),hinted),(φq v x).1,0)
noncomputable def φ2N (d:φ1):φ6×φ1×Int:=
 if φ3 d=false then (φ1U,d,4) else if d.2.2.2=true then (φ1U,d,1) else
 if (φ2 d φa).2=false then φ9G d else
 if (φ2v (φ2 d φa).1).2=false then (φ1U,d,3) else
 if φ2Z d (φ2v (φ2 d φa).1).1.2=false then (φ1U,d,3) else φ4c (φ2v (φ2 d φa).1).1 d
theorem φN6 {x:φ1} {id:Int} {g:φ16} (h:φ3K x id=some g):g.1.length≤20∧g.2.2=0:=by
 unfold φ3K at h
 split at h
 ·rename_i c
  simp only[Option.some.injEq] at h
  subst h
  refine ⟨?_,rfl⟩
  rcases φDE (φ2 x (φI id)).1 with ⟨e,_⟩ | ⟨u,e,hu⟩
  ·rw[e] at c;simp at c
  ·rw[e];exact (φD6 hu.1).2.2.1
 ·simp at h
theorem φFA {x:φ1} {id:Int} {g:φ16} (h:φ3K x id=some g):φ2j g:=by
 obtain ⟨h1,h2⟩:=φN6 h
 unfold φ2j
 rw[if_pos h2];omega
theorem φGZ:φ2j ([],0,0):=by unfold φ2j;simp
theorem φAK {x:φ1} (h:φ3 x=true) {ids:List Int} (hl:ids.length≤60):(φS x ids).length<10000000:=by
 have:=φFY h ids
 unfold φS;omega
theorem φMf (d:φ1) (t:List UInt8) (h:φ3 d=true) (ht:t.length<1000000000) :
  ∃S w,ψ21.f (d,0) t=some (S,w) ∧
   (if w.2≠0 then (φ1U,w.1,w.2) else (S,w.1,(0:Int))) =
   (if (φ2v t).2=false then (φ1U,d,3) else if φ2Z d (φ2v t).1.2=false then (φ1U,d,3) else φ4c (φ2v t).1 d):=by
 unfold ψ21.f
 rw[φNs t ht,bS]
 rcases φGm t with ⟨e,_⟩ | ⟨v,e,hv⟩
 ·rw[e]
  have hs:=φF8 (d,0) φ1G h (by show 0<_;omega)
  rw[if_pos (show φ2Z d φ1G.2=true from rfl)] at hs
  simp only[hs,bS,nF,cT,if_true]
  exact ⟨_,_,rfl,by simp⟩
 rw[e]
 have hlen:=φ89 hv.1
 have hpos:=((φ13 v).1 hv.1).2.2.1
 have hs:=φF8 (d,0) v h (by omega)
 simp only[hs,bS]
 cases hc:φ2Z d v.2 with
 | false=>
  simp only[κ2,if_false,nZ,cF,nF,cT]
  exact ⟨_,_,rfl,by simp⟩
 | true=>
  have hlast:=φGI v.2 (fun z=>by rw[z] at hpos;simp at hpos) hc
  obtain ⟨l1,l2,l3⟩:=φBo hpos (by omega)
  have hle:=φFe d v.2 0 (fun z=>by rw[z] at hpos;simp at hpos)
  have hlm:=φ1X (φ12 h) (show 100001≤1000000000 by omega)
  have hT:=φHw d (φ0 (φM v.2)) (cutN v d:Int) hlm
  have hT:ψ1A.f d (φ0 (φM v.2)) (cutN v d:Int)=some (φ3P (φ0 (φM v.2)) (cutN v d:Int) d):=hT
  have hcw:φ3v d v.2 0=(cutN v d:Int):=hle
  simp only[if_true,nZ,cF,κ8,if_false,l1,l2,cT,l3,φ3G,bS,φ4f d _ hlm,hcw]
  -- cut and kept
  have hmid:∃w0:φD,w0=φA (if (φ2 d (φ0 (φM v.2))).1.length=cutN v d then (d,0) else φ3P (φ0 (φM v.2)) (cutN v d:Int) d) ∧
    ((bif ((φ2 d (φ0 (φM v.2))).1.length:Int) != (cutN v d:Int) then
     (ψ1A.f d (φ0 (φM v.2)) (cutN v d:Int)).bind fun (t5_0,t5_1)=>(ψ2A.f (d,0) t5_0 t5_1).bind fun t6=>some (t6,φ1U,v,v.2.map (φ11 d),(cutN v d:Int),φ0 (φM v.2))
     else some ((d,0),φ1U,v,v.2.map (φ11 d),(cutN v d:Int),φ0 (φM v.2)):Option (φD×φ6×φP×List (List φF)×Int×List UInt8)))=some (w0,φ1U,v,v.2.map (φ11 d),(cutN v d:Int),φ0 (φM v.2)):=by
   refine ⟨_,rfl,?_⟩
   by_cases c:(φ2 d (φ0 (φM v.2))).1.length=cutN v d
   ·rw[φ7X c,if_pos c];rfl
   ·rw[φ71 c,if_neg c,cT,hT,bS]
    generalize φ3P (φ0 (φM v.2)) (cutN v d:Int) d=p
    obtain ⟨p1,p2⟩:=p
    simp only[φ6f,bS];rfl
  obtain ⟨w0,ew0,hmid⟩:=hmid
  have hmid:=hmid
  have hsync:ψ29.f w0 (φ0 (φM v.2))=some (φA (cutW v d)):=by
   have hd0:φ3 w0.1=true:=by
    rw[ew0]
    show φ3 (if (φ2 d (φ0 (φM v.2))).1.length=cutN v d then (d,(0:Int)) else φ3P (φ0 (φM v.2)) (cutN v d:Int) d).1=true
    split
    ·exact h
    ·exact φ6C h _ _
   rw[φ7f w0 (φ0 (φM v.2)) (φ12 hd0) (by omega),ew0,φ2l];rfl
  refine (show ∃S w,_∧_ from ?_)
  have hx0:inB 0 v.2.length=true:=by rw[show (0:Int)=((0:Nat):Int) from rfl,φK];simp;omega
  have hr0:rdA 0 v.2 0=v.2.getD 0 0:=by rw[show (0:Int)=((0:Nat):Int) from rfl,φN]
  have hsl:(decide (0≤(1:Int)) && decide (1≤((v.2.map (φ11 d)).length:Int)))=true:=by rw[lM];simp;omega
  have hd1:=φES (v:=v) h
  have hpl:=fun hc2=>φDU (v:=v) h hlast hc2
  unfold φ4c
  have hfl:∀ids:List Int,(cutW v d).2=0→(ids.map (φ11 d)).flatten=φS (cutW v d).1 ids:=fun ids hc2=>by
   unfold φS
   rw[List.flatMap_def]
   congr 1
   exact List.map_congr_left fun id _=>(hpl hc2 id).symm
  have hmap:∀(ids:List Int),∀l∈ids.map (φ11 d),l.length≤100000:=fun ids l hl=>by
   obtain ⟨id,_,rfl⟩:=mM.1 hl;exact φEb h id
  rw[show (((d,(0:Int)):φD).1)=d from rfl] at *
  rw[hmid,bS]
  simp only[hsync,bS]
  generalize hW:cutW v d=W at *
  obtain ⟨x,c⟩:=W
  by_cases c0:c=0
  rotate_left
  ·have t1:(told c != 0)=true:=by rw[φ6W];simpa using c0
   have t2:told c≠0:=fun z=>c0 ((φ1C c).1 z)
   rw[if_pos c0]
   simp only[φA,t1,cT]
   exact ⟨_,_,rfl,by rw[if_pos t2]⟩
  subst c0
  have hd1:φ3 x=true:=hd1
  rw[if_neg (by simp)]
  have t1:(told 0 != 0)=false:=rfl
  have t0:told 0=0:=rfl
  have hh:=φLE (x,0) (v.2.getD 0 0) hd1
  simp only[φA,t1,t0,cF,hx0,cT,hr0,hh,bS]
  -- the end,alike for both ways
  have fin:∀(g0:φ16) (ids:List Int) (hin:Int),φ2j g0→ids.length≤60 →
    ∃S w,((lp ψ21.l0 ((x,0),φ1U,(v.1,[]),(v,[],0,(cutN v d:Int),hin),g0,[],ids.map (φ11 d),((ids.map (φ11 d)).length:Int),0)).bind (fun (x0,x4,x5,x13,x14,x16)=>
     (ψp.f x14 x16).bind fun t10=>
     bif t10.2.2 != 0 then some (φ1U,(x0.1,3)) else
     (ψ24.f x0 (x5.1,x13.1.2)).bind fun t11=>some ((x13.1,t10.1,w64 (t10.2.1+1),x13.2.2.2),t11)):Option (φ6×φD))=some (S,w) ∧
    (if w.2≠0 then (φ1U,w.1,w.2) else (S,w.1,(0:Int))) =
     (if (φ2O g0 (φS x ids)).2.2≠0 then (φ1U,x,3) else if (φq v x).2≠0 then (φ1U,(φq v x).1,told (φq v x).2) else
      ((v,(φ2O g0 (φS x ids)).1,w64 ((φ2O g0 (φS x ids)).2.1+1),(cutN v d:Int),hin),(φq v x).1,0)):=by
   intro g0 ids hin hg hi
   rw[φOA (x,0) v (v,[],0,(cutN v d:Int),hin) g0 (ids.map (φ11 d)) v (hmap ids) (by rw[lM];omega),bS]
   have hfl2:=hfl ids rfl
   have hrg:=φJ9 g0 (φS x ids) (φAK hd1 hi) hg
   have hor:=φDP (x,0) (v.1,v.2) hd1 (by show v.2.length<_;omega)
   have ewd:φ4s (φ3E x v) (x,0)=φA (φq v x):=φBh _ (x,0)
   have hor:ψ24.f (x,0) (v.1,v.2)=some (φA (φq v x)):=hor.trans (by rw[←ewd])
   simp only[hfl2,hrg,bS]
   by_cases c1:(φ2O g0 (φS x ids)).2.2=0
   rotate_left
   ·have d1:((φ2O g0 (φS x ids)).2.2 != 0)=true:=by simpa using c1
    rw[d1,cT,if_pos c1]
    exact ⟨_,_,rfl,by simp⟩
   have d1:((φ2O g0 (φS x ids)).2.2 != 0)=false:=by simpa using c1
   rw[d1,cF,if_neg (fun z=>z c1),hor,bS]
   refine ⟨_,_,rfl,?_⟩
   generalize φq v x=S2
   obtain ⟨y,c2⟩:=S2
   by_cases c3:c2=0
   ·subst c3;simp[φA,told]
   ·have t2:told c2≠0:=fun z=>c3 ((φ1C c2).1 z)
    simp[φA,t2,c3]
  cases hg:φ3K x (v.2.getD 0 0) with
  | some g=>
   simp only[cT,hx0,hsl,hr0,bS]
   have e1:(v.2.map (φ11 d)).drop 1=(v.2.drop 1).map (φ11 d):=by rw[List.map_drop]
   rw[e1]
   exact fin g (v.2.drop 1) (v.2.getD 0 0) (φFA hg) (by rw[lD];omega)
  | none=>
   simp only[cF,bS]
   exact fin ([],0,0) v.2 0 φGZ hlen
theorem φHm (d:φ1) (hd:dl 1048577 d):ψc.f d=some (φ2N d):=by
 have hlm:=φ1X hd (by omega)
 unfold ψc.f φ2N
 rw[φ5U d (by have:=hd.1;omega),bS,φ5e d hlm,bS]
 cases h:φ3 d with
 | false=>rfl
 | true=>
  simp only[nZ,cF,κ8,if_false]
  obtain ⟨fs,cap,fuel,down⟩:=d
  cases hdn:down with
  | true=>rfl
  | false=>
   subst hdn
   simp only[cF,κ2,if_false]
   have hft:=φ4f (fs,cap,fuel,false) φa hlm
   have hft:ψO.f (fs,cap,fuel,false) [108,105,118,101]=_:=hft
   rw[hft,bS]
   have htl:=φ6g h φa
   generalize ((fs,cap,fuel,false):φ1)=d at *
   generalize φ2 d φa=q at htl ⊢
   obtain ⟨t,b⟩:=q
   cases b with
   | false=>
    simp only[cF,if_true]
    obtain ⟨w,e1,e2⟩:=φJl d h
    simp only[e1,bS]
    unfold φ9G
    rw[e2]
    generalize sPut (2,[1]) (φ9 (φV (φ0 1)) (φq φ1G d))=p
    obtain ⟨y,c⟩:=p
    by_cases c0:c=0
    ·subst c0;simp[φA,told]
    ·have t1:(told c != 0)=true:=by rw[φ6W];simpa using c0
     simp only[φA,t1,cT]
     rw[if_pos c0]
   | true=>
    simp only[cT,κ8,if_false]
    obtain ⟨S,w,e1,e2⟩:=φMf d t h (by have:t.length≤100000:=htl;omega)
    rw[←e2]
    simp only[e1,bS]
    obtain ⟨y,c⟩:=w
    by_cases c0:c=0
    ·subst c0;simp
    ·have t1:(c != 0)=true:=by simpa using c0
     simp only[t1,cT]
     rw[if_pos c0]
theorem φCv:∀(r pre:List φF) (g:φ16),φ2j g→pre.length+r.length<10000000→φ2j (φp pre r g)
 | [],_,g,h,_=>h
 | p::r,pre,g,h,hl=>by
  unfold φp
  simp only[lC] at hl
  split
  ·exact h
  ·rename_i c
   exact φCv r (pre++[p]) _ (φDJ h (by simpa using c) (by omega)) (by simp only[lA,κB];omega)
theorem φD9 {g:φ16} {l:List φF} (h:φ2j g) (hl:l.length<10000000):(φ2O g l).1.length≤11000020:=by
 have:=φCv l [] g h (by simpa using hl)
 unfold φ2j at this
 unfold φ2O φ7S
 split
 ·show (φp [] l g).1.length≤_
  split at this<;>omega
 ·split at this<;>omega
noncomputable def φ5H (v:φP) (x:φ1) (e:Int) (g:φ16) (hin:Int):φ6×φ1×Int:=
 if g.2.2≠0 then (φ1U,x,3) else
 if (φq v x).2≠0 then (φ1U,(φq v x).1,told (φq v x).2) else
 ((v,g.1,w64 (g.2.1+1),e,hin),(φq v x).1,0)
theorem φEE (v:φP) (d:φ1):φ4c v d=if (cutW v d).2≠0 then (φ1U,(cutW v d).1,told (cutW v d).2) else
  match φ3K (cutW v d).1 (v.2.getD 0 0) with
  | some g=>φ5H v (cutW v d).1 (cutN v d:Int) (φ2O g (φS (cutW v d).1 (v.2.drop 1))) (v.2.getD 0 0)
  | none=>φ5H v (cutW v d).1 (cutN v d:Int) (φ2O ([],0,0) (φS (cutW v d).1 v.2)) 0:=by
 unfold φ4c
 by_cases c:(cutW v d).2≠0
 ·rw[if_pos c,if_pos c]
 ·rw[if_neg c,if_neg c]
  simp only
  cases φ3K (cutW v d).1 (v.2.getD 0 0)<;>rfl
theorem φFz {v:φP} {x:φ1} (e:Int) (g:φ16) (hin:Int) (h:φ3 x=true) (hl:v.2.length≤60) (hg:g.1.length≤11000020) :
  φ3 (φ5H v x e g hin).2.1=true∧(φ5H v x e g hin).1.1.2.length≤60∧(φ5H v x e g hin).1.2.1.length≤11000020:=by
 unfold φ5H
 have hs:=φ7r h v
 split
 ·exact ⟨h,by simp,by simp⟩
 split
 ·exact ⟨hs,by simp,by simp⟩
 exact ⟨hs,hl,hg⟩
theorem φNK {d:φ1} (h:φ3 d=true):φ3 (φ2N d).2.1=true∧(φ2N d).1.1.2.length≤60∧(φ2N d).1.2.1.length≤11000020:=by
 unfold φ2N
 rw[if_neg (by rw[h];simp)]
 split
 ·exact ⟨h,by simp,by simp⟩
 split
 ·unfold φ9G
  have h1:φ3 (sPut (2,[1]) (φ9 (φV (φ0 1)) (φq φ1G d))).1=true:=φ3r (φ1o (φ7r h φ1G) fun k=>φ39 k _) _
  simp only
  split
  ·exact ⟨h1,by simp,by simp⟩
  ·exact ⟨h1,by simp,by simp⟩
 split
 ·exact ⟨h,by simp,by simp⟩
 rename_i hv
 split
 ·exact ⟨h,by simp,by simp⟩
 rcases φGm (φ2 d φa).1 with ⟨e,_⟩ | ⟨v,e,hlv⟩
 ·rw[e] at hv;simp at hv
 rw[e]
 show φ3 (φ4c v d).2.1=true∧(φ4c v d).1.1.2.length≤60∧(φ4c v d).1.2.1.length≤11000020
 have hlen:=φ89 hlv.1
 have hd1:=φES (v:=v) h
 rw[φEE]
 split
 ·exact ⟨hd1,by simp,by simp⟩
 cases hg:φ3K (cutW v d).1 (v.2.getD 0 0) with
 | some g=>exact φFz _ _ _ hd1 hlen (φD9 (φFA hg) (φAK hd1 (by rw[lD];omega)))
 | none=>exact φFz _ _ _ hd1 hlen (φD9 φGZ (φAK hd1 hlen))
theorem φMY:φ0 1=[115,101,103,49]:=by
 unfold φ0 φ2C
 rw[if_pos (by decide)]
 show _++Lib.decDigits 1=_
 rw[Lib.decDigits_one (by decide)]
 rfl
theorem φKq:(φl (2,[1])).length=8:=by
 unfold φl
 rw[if_neg (by decide)]
 have e2:varT 2=[2]:=by rw[show (2:Int)=((2:Nat):Int) from rfl,φ4q 2 (by decide),φ5R (by decide)];rfl
 have e1:varT 1=[1]:=by rw[show (1:Int)=((1:Nat):Int) from rfl,φ4q 1 (by decide),φ5R (by decide)];rfl
 have e:varT (2,[1]).1++varT (((2,[1]):φP).2.length:Int)++(((2,[1]):φP).2.map varT).flatten=[2,1,1]:=by
  show varT 2++varT 1++(varT 1++[])=_
  rw[e2,e1];rfl
 rw[e]
 obtain ⟨h1,h2⟩:=φ9R (t:=[2,1,1]) (by decide)
 rw[h1,lA,h2,lA,φ5R (by decide)]
 rfl
theorem φ5d {d:φ1} {c:Int} (h:φ3 d=true) (hf:d.2=(c,-1,false)) (act:List φ4→Int×List φ4):φT d act=(((act d.1).2,c,-1,false),(act d.1).1):=by
 obtain ⟨l,t⟩:=d
 simp only at hf
 subst hf
 unfold φT tick
 rw[if_neg (by rw[h];simp),if_neg (by simp)]
 simp
def dNew (n:Nat):φ1:=([(φa,φl (2,[1]),8),(φ0 1,[],0)],(n:Int),-1,false)
abbrev d0N (n:Nat):φ1:=([],(n:Int),-1,false)
theorem φNS (n:Nat) (h:n≤100000):∃y,φ3 y=true∧sPut (2,[1]) (φ9 (φV (φ0 1)) (φq φ1G (d0N n)))=if n<8 then (y,2) else (dNew n,0):=by
 have k0:φ3 (d0N n)=true:=φ76 (n:Int) (by omega)
 have hsw:φq φ1G (d0N n)=(d0N n,0):=by
  unfold φq φ3E
  rw[if_neg (by rw[k0];simp)];rfl
 have hL:=φKq
 unfold dNew sPut φ1Q
 generalize φl (2,[1])=L at hL ⊢
 rw[hsw,φ2V,φMY]
 -- the segment
 have s1:φV [115,101,103,49] (d0N n)=(([([115,101,103,49],[],0)],(n:Int),-1,false),0):=by
  show φT _ _=_
  rw[φ5d k0 rfl]
  have:φ2e [115,101,103,49] []=(0,[([115,101,103,49],[],0)]):=by decide
  rw[this]
 have k1:=φ39 k0 [115,101,103,49]
 rw[s1] at k1 ⊢
 have k1:φ3 (([([115,101,103,49],[],0)],(n:Int),-1,false):φ1)=true:=k1
 rw[φ2V]
 have s2:φB [116,101,109,112] (([([115,101,103,49],[],0)],(n:Int),-1,false):φ1)=(([([115,101,103,49],[],0)],(n:Int),-1,false),0):=by
  unfold φB
  rw[if_neg (show ¬φ1l ([([115,101,103,49],[],0)]:List φ4) [116,101,109,112]≥0 by decide)]
 rw[s2,φ2V]
 have s3:φV [116,101,109,112] (([([115,101,103,49],[],0)],(n:Int),-1,false):φ1)=(([([115,101,103,49],[],0),([116,101,109,112],[],0)],(n:Int),-1,false),0):=by
  show φT _ _=_
  rw[φ5d k1 rfl]
  have:φ2e [116,101,109,112] [([115,101,103,49],[],0)]=(0,[([115,101,103,49],[],0),([116,101,109,112],[],0)]):=by decide
  rw[this]
 have k2:=φ39 k1 [116,101,109,112]
 rw[s3] at k2 ⊢
 have k2:φ3 (([([115,101,103,49],[],0),([116,101,109,112],[],0)],(n:Int),-1,false):φ1)=true:=k2
 rw[φ2V]
 have k3:=φ3N k2 [116,101,109,112] L
 by_cases c:n<8
 ·simp only[if_pos c]
  have s4:φL [116,101,109,112] L (([([115,101,103,49],[],0),([116,101,109,112],[],0)],(n:Int),-1,false):φ1)=(([([115,101,103,49],[],0),([116,101,109,112],[],0)],(n:Int),-1,false),2):=by
   show φT _ _=_
   rw[φ5d k2 rfl]
   unfold φ2S
   have:([([115,101,103,49],[],0),([116,101,109,112],[],0)]:List φ4).findIdx? (fun f=>f.1==[116,101,109,112])=some 1:=by decide
   rw[this]
   have hu:φH ([([115,101,103,49],[],0),([116,101,109,112],[],0)]:List φ4)=0:=by decide
   simp only[hu]
   rw[if_pos (by omega)]
  rw[s4,φ2o (show (2:Int)≠0 by decide),φ2o (show (2:Int)≠0 by decide)]
  exact ⟨_,k2,rfl⟩
 ·simp only[if_neg c]
  have s4:φL [116,101,109,112] L (([([115,101,103,49],[],0),([116,101,109,112],[],0)],(n:Int),-1,false):φ1)=(([([115,101,103,49],[],0),([116,101,109,112],L,0)],(n:Int),-1,false),0):=by
   show φT _ _=_
   rw[φ5d k2 rfl]
   unfold φ2S
   have:([([115,101,103,49],[],0),([116,101,109,112],[],0)]:List φ4).findIdx? (fun f=>f.1==[116,101,109,112])=some 1:=by decide
   rw[this]
   have hu:φH ([([115,101,103,49],[],0),([116,101,109,112],[],0)]:List φ4)=0:=by decide
   simp only[hu]
   rw[if_neg (by omega)]
   rfl
  rw[s4] at k3 ⊢
  have k3:φ3 (([([115,101,103,49],[],0),([116,101,109,112],L,0)],(n:Int),-1,false):φ1)=true:=k3
  rw[φ2V]
  have k4:=φ3J k3 [116,101,109,112]
  have s5:φG [116,101,109,112] (([([115,101,103,49],[],0),([116,101,109,112],L,0)],(n:Int),-1,false):φ1)=(([([115,101,103,49],[],0),([116,101,109,112],L,8)],(n:Int),-1,false),0):=by
   show φT _ _=_
   rw[φ5d k3 rfl]
   unfold φ29
   have:([([115,101,103,49],[],0),([116,101,109,112],L,0)]:List φ4).findIdx? (fun f=>f.1==[116,101,109,112])=some 1:=rfl
   rw[this]
   show ((([([115,101,103,49],[],0),([116,101,109,112],L,(L.length:Int))]:List φ4),(n:Int),-1,false),(0:Int))=_
   rw[hL];rfl
  rw[s5] at k4 ⊢
  have k4:φ3 (([([115,101,103,49],[],0),([116,101,109,112],L,8)],(n:Int),-1,false):φ1)=true:=k4
  rw[φ2V]
  have s6:φ2R [116,101,109,112] [108,105,118,101] (([([115,101,103,49],[],0),([116,101,109,112],L,8)],(n:Int),-1,false):φ1)=(([([108,105,118,101],L,8),([115,101,103,49],[],0)],(n:Int),-1,false),0):=by
   show φT _ _=_
   rw[φ5d k4 rfl]
   unfold φ2B
   have:([([115,101,103,49],[],0),([116,101,109,112],L,8)]:List φ4).findIdx? (fun f=>f.1==[116,101,109,112])=some 1:=rfl
   rw[this,if_neg (by decide)]
   rfl
  rw[s6]
  exact ⟨_,k4,rfl⟩
theorem φEo (n:Nat) (h:n≤100000):∃y,φ3 y=true∧φ2N (d0N n)=if n<8 then (φ1U,y,2) else (((2,[1]),[],1,0,0),dNew n,0):=by
 have k0:φ3 (d0N n)=true:=φ76 (n:Int) (by omega)
 obtain ⟨y,hy,e⟩:=φNS n h
 refine ⟨y,hy,?_⟩
 have ht:φ2 (d0N n) φa=([],false):=φ8Y fun f hf=>by simp at hf
 unfold φ2N
 rw[if_neg (by rw[k0];simp),if_neg (by simp),if_pos (by rw[ht])]
 unfold φ9G
 rw[e]
 split
 ·rename_i c;rfl
 ·rename_i c;rfl
theorem φDn (n:Nat) (h:n≤100000) (h8:8≤n):φ3 (dNew n)=true:=by
 have k0:φ3 (d0N n)=true:=φ76 (n:Int) (by omega)
 obtain ⟨y,hy,e⟩:=φEo n h
 rw[if_neg (by omega)] at e
 have:=(φNK k0).1
 rw[e] at this
 exact this
theorem φAu (n:Nat) (h:n≤100000) (h8:8≤n):φ2 (dNew n) φa=(φl (2,[1]),true)∧φ2 (dNew n) (φ0 1)=([],true)∧∀m,m≠φa→m≠φ0 1→φ2 (dNew n) m=([],false):=by
 have hk:=φDn n h h8
 refine ⟨φ2r hk (f:=(φa,φl (2,[1]),8)) (by simp[dNew]),φ2r hk (f:=(φ0 1,[],0)) (by simp[dNew]),fun m h1 h2=>φ8Y fun f hf=>?_⟩
 simp only[dNew,mc,List.not_mem_nil,or_false] at hf
 rcases hf with rfl | rfl
 ·exact Ne.symm h1
 ·exact Ne.symm h2
theorem φJ0 {s:List UInt8} {v:φP} (h:φ3I s v) (hl:s.length<1000000000):φ2v s=(v,true):=by
 have h1:=φGQ h
 rw[φLG s hl] at h1
 exact Option.some.inj h1
theorem φ7B (i:Int):φI i≠φa:=by
 unfold φI φ2C
 split
 ·intro e
  have:=congrArg (fun l=>l.getD 0 0) e
  simp[φa] at this
 ·simp[φa]
theorem φLh (i:Int):φI i≠φ1E:=by
 unfold φI φ2C
 split
 ·intro e
  have:=congrArg (fun l=>l.getD 0 0) e
  simp[φ1E] at this
 ·simp[φ1E]
theorem φLL:¬∃id,φ3a φa id:=by
 rintro ⟨id,_,e | e⟩
 ·exact φ2f id e.symm
 ·exact φ7B id e.symm
theorem φL2 (n:Nat) (h:n≤100000) (h8:8≤n):φf ((2,[1]),[],1,0,0) (dNew n)=true:=by
 obtain ⟨t1,t2,t3⟩:=φAu n h h8
 refine φg.2 ⟨φDn n h h8,by decide,by decide,by decide,?_,fun e he=>by simp at he⟩
 refine (φ1q _).2 ⟨fun id hid=>?_,fun _=>?_⟩
 ·have hid:id=1:=by simpa using hid
  subst hid
  rw[t2];exact ⟨rfl,φEl⟩
 ·show (0:Int)=((φ2 _ (φ0 1)).1.length:Int)
  rw[t2];rfl
theorem φIy {v:φP} {x:φ1} (h:φ3 x=true) {n:List UInt8} (hn:n∈φ3E x v):(∃id,φ3a n id∧id ∉ v.2)∨n=φ1E:=by
 unfold φ3E at hn
 rw[if_neg (by rw[h];simp)] at hn
 obtain ⟨f,hf,rfl⟩:=mM.1 hn
 have ho:=(List.mem_filter.1 hf).2
 unfold φ4W at ho
 rw[κV,bA] at ho
 rcases ho with ⟨h1,h2⟩ | h1
 ·left
  refine ⟨(idOf f.1).1,φME (by rw[←h1]),fun hi=>?_⟩
  have:(v.2.any fun i=>i==(idOf f.1).1)=true:=List.any_eq_true.2 ⟨_,hi,by simp⟩
  rw[this] at h2;simp at h2
 ·right;simpa using h1
theorem φEt {v:φP} {x:φ1} (h:φ3 x=true) {n:List UInt8} (hn:∀id,φ3a n id→id∈v.2) (ht:n≠φ1E):φ2 (φq v x).1 n=φ2 x n:=by
 refine φ83 (φ3E x v) (w:=(x,0)) h fun m hm e=>?_
 subst e
 rcases φIy h hm with ⟨id,hid,hno⟩ | e
 ·exact hno (hn id hid)
 ·exact ht e
theorem φNa {id:Int} (h:1≤id∧id≤100000):φ3a (φ0 id) id:=⟨h,.inl rfl⟩
theorem φBV {v:φP} (h:φk v=true) {id:Int} (hi:id∈v.2):1≤id∧id≤100000∧id<v.1:=by
 obtain ⟨k1,k2,k3,k4⟩:=(φ13 v).1 h
 rw[φJ (by omega) (by omega)] at k1
 have:=φ3j _ _ k1 id hi
 omega
theorem φEJ {A B σ:Type} {step:(A→Option B)→A→Option B} (st:Nat→σ→A) (N:Nat) (Inv:Nat→σ→Prop) (Post:B→Prop)
  (hz:∀rec s,Inv N s→∃b,step rec (st N s)=some b∧Post b)
  (hs:∀rec n s,n<N→Inv n s→∃s',Inv (n+1) s'∧step rec (st n s)=rec (st (n+1) s')) (s:σ) (hi:Inv 0 s) (hn:N<2 ^ 62):∃b,lp step (st 0 s)=some b∧Post b:=by
 have key:=φKy (step:=step) (fun k (s:σ)=>st (N - k) s) (fun k s=>Inv (N - k) s∧k≤N) Post
  (fun rec s hi=>hz rec s hi.1)
  (fun rec k s hi=>by
   obtain ⟨h1,h2⟩:=hi
   have e:N - (k+1)+1=N - k:=by omega
   obtain ⟨s',h3,h4⟩:=hs rec (N - (k+1)) s (by omega) h1
   rw[e] at h3 h4
   exact ⟨s',⟨h3,by omega⟩,h4⟩)
  N s ⟨by rw[Nat.sub_self];exact hi,κ6 _⟩ hn
 simpa using key
def Free (d:φ1):Prop:=d.2.2=(-1,false)
theorem φ1I {d:φ1} {act:List φ4→Int×List φ4} (h:Free d):Free (φT d act).1:=by
 unfold φT
 split
 ·exact h
 ·split
  ·rename_i c
   rw[show d.2.2=(-1,false) from h] at c
   simp at c
  ·show (tick d).2.2=_
   unfold tick
   rw[if_neg]
   ·exact h
   ·rw[show d.2.2=(-1,false) from h];simp
theorem φKQ {d:φ1} {act:List φ4→Int×List φ4} (h:(φT d act).2=0):d.2.2.2=false:=by
 unfold φT at h
 split at h
 ·simp at h
 split at h
 ·simp at h
 rename_i c
 cases hd:d.2.2.2 with
 | false=>rfl
 | true=>exact absurd (.inl hd) c
theorem φ9g {d:φ1} {act:List φ4→Int×List φ4} (h:d.2.2.2=true):(φT d act).1.2.2.2=true:=by
 unfold φT
 split
 ·exact h
 ·rw[if_pos (.inl h)]
theorem φ5F {P:φ1→Prop} (hP:∀(d:φ1) (act:List φ4→Int×List φ4),P d→P (φT d act).1) (n:List UInt8) {d:φ1} (h:P d):P (φB n d).1:=by
 unfold φB
 split
 ·exact hP d _ h
 ·exact h
theorem φ3p {P:φ1→Prop} (hP:∀(d:φ1) (act:List φ4→Int×List φ4),P d→P (φT d act).1) {op:φ1→φ1×Int} (ho:∀d,P d→P (op d).1) {w:φD} (h:P w.1):P (φ9 op w).1:=by
 unfold φ9
 split
 ·exact ho _ h
 ·exact h
theorem φ6h {P:φ1→Prop} (hP:∀(d:φ1) (act:List φ4→Int×List φ4),P d→P (φT d act).1) (n:List UInt8) {w:φD} (h:P w.1):P (sNew n w).1:=
 φ3p hP (fun d k=>hP d _ k) (φ3p hP (fun d k=>φ5F hP n k) h)
theorem φ8U {P:φ1→Prop} (hP:∀(d:φ1) (act:List φ4→Int×List φ4),P d→P (φT d act).1) (n t:List UInt8) {w:φD} (h:P w.1):P (φ1Q n t w).1:=
 φ3p hP (fun d k=>hP d _ k) (φ3p hP (fun d k=>hP d _ k) (φ3p hP (fun d k=>hP d _ k) (φ3p hP (fun d k=>φ5F hP n k) h)))
theorem φ7P {P:φ1→Prop} (hP:∀(d:φ1) (act:List φ4→Int×List φ4),P d→P (φT d act).1) (v:φP) {w:φD} (h:P w.1):P (sPut v w).1:=
 φ3p hP (fun d k=>hP d _ k) (φ8U hP _ _ h)
theorem φHn {P:φ1→Prop} (hP:∀(d:φ1) (act:List φ4→Int×List φ4),P d→P (φT d act).1) (n:List UInt8):∀(recs:List RecT) {w:φD},P w.1→P (sApp n recs w).1
 | [],w,h=>h
 | r::recs,w,h=>φHn hP n recs (w:=φ9 (φL n (frame (φ5 r))) w) (φ3p hP (fun d k=>hP d _ k) h)
theorem φ8x {P:φ1→Prop} (hP:∀(d:φ1) (act:List φ4→Int×List φ4),P d→P (φT d act).1) (m:Int) (recs:List RecT) {w:φD} (h:P w.1):P (sWM m recs w).1:=
 φ3p hP (fun d k=>hP d _ k) (φHn hP _ recs (φ6h hP _ h))
theorem φ5P {P:φ1→Prop} (hP:∀(d:φ1) (act:List φ4→Int×List φ4),P d→P (φT d act).1):∀(names:List (List UInt8)) {w:φD},P w.1→P (φm names w).1
 | [],w,h=>h
 | n::names,w,h=>φ5P hP names (w:=φ9 (φB n) w) (φ3p hP (fun d k=>φ5F hP n k) h)
theorem φC7 {P:φ1→Prop} (hP:∀(d:φ1) (act:List φ4→Int×List φ4),P d→P (φT d act).1):∀(ids:List Int) {w:φD},P w.1→P (sOld ids w).1
 | [],w,h=>h
 | i::ids,w,h=>φC7 hP ids (w:=φm [φ0 i,φI i] w) (φ5P hP _ h)
theorem φ92 {P:φ1→Prop} (hP:∀(d:φ1) (act:List φ4→Int×List φ4),P d→P (φT d act).1) (m:Int) {d:φ1} (h:P d):P (φ1u m d).1:=by
 unfold φ1u
 simp only
 have:=φ8U hP (φI m) (φ1S (φ15 m (φ2 d (φ0 m)).1).1) (w:=(d,0)) h
 split
 ·exact φ5F hP _ this
 ·exact this
theorem φ95 {n t:List UInt8} {w:φD} (h:(φ1Q n t w).2=0):w.2=0∧φ2 (φ1Q n t w).1 n=(t,true):=by
 unfold φ1Q at h ⊢
 obtain ⟨h1,h2,h3⟩:=φ3u (op:=φG n) h
 obtain ⟨h4,h5,h6⟩:=φ3u (op:=φL n t) h1
 have h4:(sNew n w).2=0:=h4
 obtain ⟨h7,h8⟩:=φ6w h4
 obtain ⟨a1,a2⟩:=φ4F h5
 have a2:φ2 (φL n t (sNew n w).1).1 n=((φ2 (sNew n w).1 n).1++t,true):=a2
 rw[h3,h6]
 obtain ⟨k,_,_⟩:=φ5a h2
 rw[h6] at k
 refine ⟨h7,?_⟩
 rw[φ2K k n n]
 show φ2 (φL n t (sNew n w).1).1 n=_
 rw[a2,h8];rfl
theorem φGg {v:φP} {w:φD} (h:(sPut v w).2=0):w.2=0∧φ2 (sPut v w).1 φa=(φl v,true):=by
 unfold sPut at h ⊢
 obtain ⟨h1,h2,h3⟩:=φ3u h
 obtain ⟨h4,h5⟩:=φ95 h1
 refine ⟨h4,?_⟩
 rw[h3]
 show φ2 (φ2R [116,101,109,112] [108,105,118,101] (φ1Q [116,101,109,112] (φl v) w).1).1 φa=_
 rw[φLn h2,h5]
theorem φCW {s:φ6} {d:φ1} (l:List φX) (h:φ3 d=true) (hc:(φ14 s d l).2.2=0):∃w1 w2:φD,
  w1=sNew (φ0 (s.1.1+1)) (sWM s.1.1 (φW l (s.2.2.1 - 1)) (d,0))∧w1.2=0∧φ3 w1.1=true∧w2=φ1u s.1.1 w1.1∧w2.2=0∧φ3 w2.1=true ∧
  (sPut (s.1.1+2,[s.1.1,s.1.1+1]) w2).2=0∧(φ14 s d l).2.1=(sOld s.1.2 ((sPut (s.1.1+2,[s.1.1,s.1.1+1]) w2).1,0)).1:=by
 have g1:=φ5w s.1.1 (φW l (s.2.2.1 - 1)) (w:=(d,0)) h
 have g2:=φ47 g1 (φ0 (s.1.1+1))
 unfold φ14 at hc ⊢
 simp only at hc ⊢
 generalize hw1:sNew (φ0 (s.1.1+1)) (sWM s.1.1 (φW l (s.2.2.1 - 1)) (d,0))=w1 at *
 have g3:φ3 (φo s.1.1 w1).1=true:=by
  unfold φo;split
  ·exact g2
  ·exact φ7j _ g2
 by_cases z:(if (φo s.1.1 w1).2=0 then φA (sPut (s.1.1+2,[s.1.1,s.1.1+1]) (φo s.1.1 w1)) else φA (φo s.1.1 w1)).2=0
 rotate_left
 ·rw[if_pos z] at hc
  exfalso
  revert hc
  generalize (if (φo s.1.1 w1).2=0 then φA (sPut (s.1.1+2,[s.1.1,s.1.1+1]) (φo s.1.1 w1)) else φA (φo s.1.1 w1))=w3 at *
  unfold φ1e
  split
  ·split
   ·simp
   ·rename_i c4;exact c4
  ·exact z
 have z2:(φo s.1.1 w1).2=0:=by
  by_cases c:(φo s.1.1 w1).2=0
  ·exact c
  ·rw[if_neg c] at z;exact (φ1C _).1 z
 rw[if_pos z2] at z hc
 rw[if_pos z2]
 have z3:(sPut (s.1.1+2,[s.1.1,s.1.1+1]) (φo s.1.1 w1)).2=0:=(φ1C _).1 z
 have z1:w1.2=0:=by
  unfold φo at z2
  split at z2
  ·exact z2
  ·rename_i c;simpa using c
 have zh:φo s.1.1 w1=φ1u s.1.1 w1.1:=by
  unfold φo;rw[if_neg (by simpa using z1)]
 rw[if_neg (by simpa using z)]
 rw[zh] at z2 z3 g3 ⊢
 exact ⟨w1,φ1u s.1.1 w1.1,rfl,z1,g2,rfl,z2,g3,z3,rfl⟩
structure MergedF (s:φ6) (d:φ1) (l:List φX) (S:φ6) (y:φ1):Prop extends Merged s d l S y where
 liv:φ2 y φa=(φl (s.1.1+2,[s.1.1,s.1.1+1]),true)
 hin:(φ2 y (φI s.1.1)).2=false∨φ2 y (φI s.1.1)=(φ1S (φ15 s.1.1 (txt (φW l (s.2.2.1 - 1)))).1,true)
 fre:0 > d.2.2.1→Free y
theorem φH1 {s:φ6} {d:φ1} (l:List φX) (h:φ3 d=true) (hv:φk s.1=true) (h2:s.1.1+2≤100000) (hc:(φ14 s d l).2.2=0):MergedF s d l (φ14 s d l).1 (φ14 s d l).2.1:=by
 have hM:=φFB l h hv h2 hc
 refine ⟨hM,?_,?_,?_⟩
 all_goals
  obtain ⟨w1,w2,hw1,z1,g1,hw2,z2,g2,z3,hy⟩:=φCW l h hc
  obtain ⟨k1,k2,k3,k4⟩:=(φ13 s.1).1 hv
  rw[φJ (by omega) (by omega)] at k1
  have hids:=φ3j _ _ k1
  have g3:φ3 (sPut (s.1.1+2,[s.1.1,s.1.1+1]) w2).1=true:=φ3r (v:=(s.1.1+2,[s.1.1,s.1.1+1])) g2
 ·rw[hy,φ66 s.1.2 (w:=((sPut (s.1.1+2,[s.1.1,s.1.1+1]) w2).1,0)) g3 (fun id hid=>⟨(φ2f id).symm,(φ7B id).symm⟩)]
  exact (φGg z3).2
 ·have e1:∀n,n≠φ1E→n≠φa→(∀id∈s.1.2,n≠φ0 id∧n≠φI id)→φ2 (φ14 s d l).2.1 n=φ2 w2.1 n:=fun n q1 q2 q3=>by
   rw[hy,φ66 s.1.2 (w:=((sPut (s.1.1+2,[s.1.1,s.1.1+1]) w2).1,0)) g3 q3]
   exact φ6m g2 _ q1 q2
  have e2:φ2 (φ14 s d l).2.1 (φI s.1.1)=φ2 w2.1 (φI s.1.1):=e1 _ (φLh _) (φ7B _) fun id hid=>by
   have:=hids id hid
   refine ⟨fun e=>φ41 id s.1.1 (by omega) e.symm,fun e=>?_⟩
   have:=φDf (by omega) (by omega) e
   omega
  have hf:=φ4m (w:=(w1.1,0)) g1 (φI s.1.1) (φ1S (φ15 s.1.1 (φ2 w1.1 (φ0 s.1.1)).1).1)
  have e3:φ2 (φ14 s d l).2.1 (φ0 s.1.1)=φ2 w1.1 (φ0 s.1.1):=by
   rw[e1 _ (φ49 _) (φ2f _) fun id hid=>by
    have:=hids id hid
    refine ⟨fun e=>?_,φ41 _ _ (by omega)⟩
    have:=φ3x (by omega) (by omega) e
    omega]
   rw[hw2]
   unfold φ1u
   simp only
   split
   ·rw[φ5G hf (φ41 _ _ (by omega)),φ5K (w:=(w1.1,0)) g1 (φ41 _ _ (by omega))]
   ·rw[φ5K (w:=(w1.1,0)) g1 (φ41 _ _ (by omega))]
  rw[hM.one] at e3
  rw[e2]
  rw[←e3] at hf
  rw[hw2] at z2 ⊢
  unfold φ1u at z2 ⊢
  rw[←e3] at z2 ⊢
  simp only at z2 hf ⊢
  split
  ·rename_i c
   rw[if_pos c] at z2
   exact .inl (φAB z2)
  ·rename_i c
   rw[if_neg c] at z2
   exact .inr (φ95 z2).2
 ·intro hfu
  have hup:d.2.2.2=false:=by
   cases hd:d.2.2.2 with
   | false=>rfl
   | true=>
    have q1:w1.1.2.2.2=true:=by rw[hw1];exact φ6h (P:=fun d=>d.2.2.2=true) (fun d act k=>φ9g k) _ (φ8x (P:=fun d=>d.2.2.2=true) (fun d act k=>φ9g k) _ _ hd)
    have q2:w2.1.2.2.2=true:=by rw[hw2];exact φ92 (P:=fun d=>d.2.2.2=true) (fun d act k=>φ9g k) _ q1
    have q3:=φ8U (P:=fun d=>d.2.2.2=true) (fun d act k=>φ9g k) [116,101,109,112] (φl (s.1.1+2,[s.1.1,s.1.1+1])) (w:=w2) q2
    unfold sPut at z3
    have:=φKQ (φ3u z3).2.1
    rw[q3] at this
    simp at this
  have hfr:Free d:=by
   have:=(φ8A h).1
   show d.2.2=(-1,false)
   rw[show d.2.2=(d.2.2.1,d.2.2.2) from rfl,hup]
   have:d.2.2.1=-1:=by omega
   rw[this]
  have q1:Free w1.1:=by rw[hw1];exact φ6h (P:=Free) (fun d act k=>φ1I k) _ (φ8x (P:=Free) (fun d act k=>φ1I k) _ _ hfr)
  have q2:Free w2.1:=by rw[hw2];exact φ92 (P:=Free) (fun d act k=>φ1I k) _ q1
  rw[hy]
  exact φC7 (P:=Free) (fun d act k=>φ1I k) s.1.2 (φ7P (P:=Free) (fun d act k=>φ1I k) _ q2)
theorem φNd {α:Type} {l:List (List UInt8×α)} {p:List UInt8×α} (h:∀x∈l,Op.bytesLess x.1 p.1=true):insB l p=l++[p]:=by
 have e:l.takeWhile (fun x=>leK x.1 p.1)=l:=by
  induction l with
  | nil=>rfl
  | cons x l ih=>
   have h1:=h x (by simp)
   rw[List.takeWhile_cons_of_pos (by unfold leK;simp[h1]),ih fun y hy=>h y (by simp[hy])]
 unfold insB
 rw[e]
 show l.take l.length++[p]++l.drop l.length=_
 rw[κU,List.drop_length,κ7]
theorem φLX {α:Type} {l:List (List UInt8×α)} {k:List UInt8} (h:∀x∈l,Op.bytesLess x.1 k=true):φ18 l k=l:=by
 unfold φ18
 refine List.filter_eq_self.2 fun x hx=>?_
 have:=φ5z (h x hx)
 simpa using this
theorem φAi (id:Int):∀(l:List φ1p) (dir:List φC),(∀x∈l,x.2.2.1=4)→srt (dir++l.map (entS id))→φ21 dir (l.map fun x=>((id,x):φF))=dir++l.map (entS id)
 | [],dir,_,_=>by simp[φ21]
 | x::l,dir,h4,hs=>by
  have hx:=h4 x (by simp)
  have hlt:∀y∈dir,Op.bytesLess y.1 (entS id x).1=true:=fun y hy=>by
   have:=(κd.1 hs).2.2 y hy (entS id x) (by simp)
   exact this
  have hp:putD dir ((id,x):φF)=dir++[entS id x]:=by
   unfold putD
   rw[if_neg (by rw[hx];decide)]
   show insB (φ18 dir (entS id x).1) (entS id x)=_
   rw[φLX hlt,φNd hlt]
  show φ21 (putD dir (id,x)) (l.map fun x=>((id,x):φF))=_
  rw[hp,φAi id l _ (fun y hy=>h4 y (by simp[hy])) (by simpa using hs)]
  simp
theorem φ9t (id b:Int):∀(l:List φ1p) (acc:List φF),(∀x∈l,x.2.2.1=4)→(l.map fun x=>((id,x):φF)).foldl (φ1f 5 b) acc=acc++l.map fun x=>((id,x):φF)
 | [],acc,_=>by simp
 | x::l,acc,h=>by
  have hx:=h x (by simp)
  have e:φ1f 5 b acc ((id,x):φF)=acc++[((id,x):φF)]:=by
   unfold φ1f
   rw[if_neg (by simp),if_neg (by rw[hx];decide),if_pos (.inr ⟨rfl,hx⟩)]
  rw[κ5,κM,e,φ9t id b l _ fun y hy=>h y (by simp[hy])]
  simp
theorem φCe (id b:Int):∀(l:List φ1p) (acc:List φF),(∀x∈l,x.2.2.1=4∨x.2.2.1=5)→(l.map fun x=>((id,x):φF)).foldl (φ1f 3 b) acc=acc
 | [],acc,_=>by simp
 | x::l,acc,h=>by
  have hx:=h x (by simp)
  have e:φ1f 3 b acc ((id,x):φF)=acc:=by
   unfold φ1f
   split
   ·rfl
   ·rw[if_neg (by rcases hx with e | e<;>rw[e]<;>decide),if_neg (by rcases hx with e | e<;>rw[e]<;>simp)]
  rw[κ5,κM,e,φCe id b l _ fun y hy=>h y (by simp[hy])]
theorem φ5n:∀(A B pre:List φF) (g:φ16),(φp pre A g).2.2=0→φp pre (A++B) g=φp (pre++A) B (φp pre A g)
 | [],B,pre,g,h=>by simp[φp]
 | p::A,B,pre,g,h=>by
  rw[φp] at h
  rw[κF,φp,φp]
  by_cases c:g.2.2≠0
  ·rw[if_pos c] at h;exact absurd h c
  rw[if_neg c] at h ⊢
  rw[if_neg c,φ5n A B _ _ h]
  simp
theorem φCc {A:List φF} (hA:∀k b,k=3∨k=5→ownL k b A=[]):∀(B pre:List φF) (g:φ16),φp (A++pre) B g=φp pre B g
 | [],pre,g=>rfl
 | p::B,pre,g=>by
  rw[φp,φp]
  by_cases c:g.2.2≠0
  ·rw[if_pos c,if_pos c]
  rw[if_neg c,if_neg c,aA,φCc hA B]
  congr 1
  have e:∀k b,k=3∨k=5→ownL k b (A++pre)=ownL k b pre:=fun k b hk=>by
   have:=hA k b hk
   unfold ownL at *
   rw[κW,this]
  unfold φ1b
  simp only
  by_cases c2:p.2.2.2.1=3∨p.2.2.2.1=5
  ·rw[if_pos c2,if_pos c2,e _ _ c2]
  ·rw[if_neg c2,if_neg c2]
theorem φCA (id mark:Int):∀(l:List φ1p) (pre:List φF) (z:Int),(∀x∈l,x.2.2.1=4∧x.2.2.2.1≤mark)→z≤mark→∃z',z'≤mark∧φp pre (l.map fun x=>((id,x):φF)) ([],z,0)=([],z',0)
 | [],pre,z,_,hz=>⟨z,hz,rfl⟩
 | x::l,pre,z,h,hz=>by
  obtain ⟨h4,hb⟩:=h x (by simp)
  rw[κ5,φp,if_neg (by simp)]
  have e:φ1b pre ((id,x):φF) ([],z,0)=([],if x.2.2.2.1 > z then x.2.2.2.1 else z,0):=by
   unfold φ1b
   simp only
   rw[if_neg (by rw[h4];decide)]
  rw[e]
  refine φCA id mark l _ _ (fun y hy=>h y (by simp[hy])) ?_
  split<;>omega
theorem φEM {mark:Int}:∀(l:List φ1p) (p:Option (List UInt8)),φ2i mark p l=true→∀x∈l,x.2.2.1=4∧x.2.2.2.1≤mark
 | [],_,_,x,hx=>by simp at hx
 | y::l,p,h,x,hx=>by
  simp only[φ2i,bA,beq_iff_eq,κL,decide_eq_false_iff_not] at h
  rcases mc.1 hx with rfl | hx
  ·exact ⟨h.1,by omega⟩
  ·exact φEM l _ h.2.2.2 x hx
theorem φ9o {id:Int} {t:List UInt8} {h:φ1H} (k:φ15 id t=(h,true)):∃(l:List φ1p) (z:φ1p),(scan t).1=l++[z]∧z.2.2.1=5∧φ3T z.2.2 (l.map (·.2.2))=true∧(∀x∈l,x.2.2.1=4∧x.2.2.2.1≤z.2.2.2.1)∧h=((t.length:Int),z.2.2.2.1,l.map (entS id))∧(scan t).2=t.length∧(1≤id∧id≤100000):=by
 unfold φ15 at k
 simp only at k
 split at k
 ·simp at k
 rename_i c
 simp only[not_or,Bool.not_eq_false,ne_eq,Decidable.not_not] at c
 obtain ⟨c1,c2,c3,c4,c5,c6⟩:=c
 generalize (scan t).1=L at *
 have hl:L.length - 1<L.length:=by omega
 have hL:L=L.take (L.length - 1)++[L.getD (L.length - 1) φ2M]:=by
  rw[φE hl]
  have:=κ4 hl
  rw[show L.length - 1+1=L.length by omega,κU] at this
  exact this
 simp only[Prod.mk.injEq,and_true] at k
 exact ⟨L.take (L.length - 1),L.getD (L.length - 1) φ2M,hL,c4,c5,φEM _ _ c6,k.symm,c2,c3⟩
theorem φNe {id:Int} {t:List UInt8} {h:φ1H} (k:φ15 id t=(h,true)) (hd:φ1s h.2.2=true) (h0:0≤h.2.1) (B:List φF):φ2O ([],0,0) (((scan t).1.map fun x=>((id,x):φF))++B)=φ2O (h.2.2,h.2.1,0) B:=by
 obtain ⟨l,z,e,z5,hf,hk,hh,_,_⟩:=φ9o k
 have hsrt:srt ([]++l.map (entS id)):=by have:=φ5o hd;rw[hh] at this;simpa using this
 have hlen:(l.map (entS id)).length≤20:=by
  unfold φ1s at hd
  rw[hh] at hd
  simp only[bA,decide_eq_true_eq] at hd
  exact hd.2
 rw[hh] at h0
 have h0:0≤z.2.2.2.1:=h0
 rw[e,hh]
 -- over the segment itself
 obtain ⟨z',hz',eg⟩:=φCA id z.2.2.2.1 l [] 0 hk h0
 have e1:φp [] ((l++[z]).map fun x=>((id,x):φF)) ([],0,0)=(l.map (entS id),z.2.2.2.1,0):=by
  rw[mp,φ5n _ _ _ _ (by rw[eg]),eg,κ9,List.map_singleton,φp,if_neg (by simp)]
  have eo:ownL z.2.2.1 z.2.2.2.1 (l.map fun x=>((id,x):φF))=l.map fun x=>((id,x):φF):=by
   rw[z5];unfold ownL;rw[φ9t id _ l [] fun x hx=>(hk x hx).1];rfl
  have ea:φ21 [] (l.map fun x=>((id,x):φF))=l.map (entS id):=by
   rw[φAi id l [] (fun x hx=>(hk x hx).1) hsrt];rfl
  have er:(l.map fun x=>((id,x):φF)).map (·.2.2.2)=l.map (·.2.2):=by rw[List.map_map];rfl
  have es:φ1b (l.map fun x=>((id,x):φF)) ((id,z):φF) ([],z',0)=(l.map (entS id),z.2.2.2.1,0):=by
   unfold φ1b
   simp only
   have el:(if z.2.2.2.1 > z' then z.2.2.2.1 else z')=z.2.2.2.1:=by split<;>omega
   rw[if_pos (.inr z5),eo,er,if_pos hf,ea,el]
   unfold φ4v
   rw[if_neg (Nat.not_lt.2 hlen)]
  rw[es];rfl
 have hA:∀k b,k=3∨k=5→ownL k b ((l++[z]).map fun x=>((id,x):φF))=[]:=fun k b hk2=>by
  rcases hk2 with rfl | rfl
  ·unfold ownL
   exact φCe id b (l++[z]) [] fun x hx=>by
    rcases mA.1 hx with hx | hx
    ·exact .inl (hk x hx).1
    ·rw[mZ.1 hx];exact .inr z5
  ·unfold ownL
   rw[mp,κW,List.map_singleton,κM,List.foldl_nil]
   unfold φ1f
   rw[if_neg (by simp),if_pos z5]
 unfold φ2O
 rw[φ5n _ _ _ _ (by rw[e1]),e1]
 have:=φCc hA B [] (l.map (entS id),z.2.2.2.1,0)
 rw[κ7] at this
 rw[κ9,this]
 unfold φ7S
 have eo:ownL 5 0 (((l++[z]).map fun x=>((id,x):φF))++B)=ownL 5 0 B:=by
  have:=hA 5 0 (.inr rfl)
  unfold ownL at *
  rw[κW,this]
 rw[eo]
theorem φ4D {d:φ1} {act:List φ4→Int×List φ4} (h:φ3 d=true) (hf:Free d):φT d act=(((act d.1).2,d.2),(act d.1).1):=by
 have:=φ5d (d:=d) (c:=d.2.1) h (by rw[show d.2=(d.2.1,d.2.2) from rfl,show d.2.2=(-1,false) from hf]) act
 rw[this]
 congr 2
 rw[show d.2=(d.2.1,d.2.2) from rfl,show d.2.2=(-1,false) from hf]
theorem φ7i {d:φ1} (h:φ3 d=true) (hf:Free d) {n:List UInt8} (hn:(φ2 d n).2=true):(φG n d).2=0:=by
 obtain ⟨i,hi,e,_⟩:=φ57 hn
 show (φT d (φ29 n)).2=0
 rw[φ4D h hf]
 unfold φ29
 rw[e]
theorem φBy {d:φ1} (h:φ3 d=true) (hf:Free d) (n:List UInt8):(φB n d).2=0:=by
 unfold φB
 split
 ·rename_i c
  show (φT d (φ2A n)).2=0
  rw[φ4D h hf]
  unfold φ2A
  rcases φv d.1 n with ⟨e,_⟩ | ⟨i,hi,e,_⟩
  ·rw[e] at c;simp at c
  ·rw[φ17 e]
 ·rfl
theorem φ9Z:∀(names:List (List UInt8)) {w:φD},φ3 w.1=true→Free w.1→w.2=0→(φm names w).2=0
 | [],w,_,_,h=>h
 | n::names,w,hk,hf,h=>by
  have e:φ9 (φB n) w=φB n w.1:=by unfold φ9;rw[if_pos h]
  show (φm names (φ9 (φB n) w)).2=0
  rw[e]
  exact φ9Z names (φ2P hk n) (φ5F (P:=Free) (fun d act k=>φ1I k) n hf) (φBy hk hf n)
theorem φGj {id mark:Int}:∀(l:List φ1p) (p:Option (List UInt8)),(∀x∈l,x.2.2.1=4∧x.2.2.2.1≤mark)→srt (l.map (entS id))→(∀q,p=some q→∀x∈l,Op.bytesLess q x.2.2.2.2.1=true)→φ2i mark p l=true
 | [],_,_,_,_=>rfl
 | x::l,p,h,hs,hp=>by
  obtain ⟨h4,hb⟩:=h x (by simp)
  obtain ⟨s1,s2⟩:=κY.1 hs
  simp only[φ2i,bA,beq_iff_eq,κL,decide_eq_false_iff_not]
  refine ⟨h4,by omega,?_,φGj l _ (fun y hy=>h y (by simp[hy])) s2 fun q hq y hy=>?_⟩
  ·cases p with
   | none=>rfl
   | some q=>exact hp q rfl x (by simp)
  ·simp only[Option.some.injEq] at hq
   subst hq
   exact s1 (entS id y) (mM.2 ⟨y,hy,rfl⟩)
theorem φIG {id:Int} {t:List UInt8} {l:List φ1p} {z:φ1p} (hs:scan t=(l++[z],t.length)) (hi:1≤id∧id≤100000) (z5:z.2.2.1=5) (hf:φ3T z.2.2 (l.map (·.2.2))=true) (hr:φ2i z.2.2.2.1 none l=true) :
  φ15 id t=(((t.length:Int),z.2.2.2.1,l.map (entS id)),true):=by
 unfold φ15
 have e1:(l++[z]).length - 1=l.length:=by simp
 have e2:(l++[z]).getD l.length φ2M=z:=by simp
 have e3:(l++[z]).take l.length=l:=by simp
 simp only[hs,e1,e2,e3]
 rw[if_neg]
 simp only[not_or,Bool.not_eq_false,ne_eq,Decidable.not_not]
 exact ⟨by simp,trivial,hi,z5,hf,hr⟩
theorem φCX (m:Int):∀(recs:List RecT) (a:Nat),(∀r∈recs,r.1=4)→φz m (a:Int) recs=(φ1R a recs).map (entS m)
 | [],_,_=>rfl
 | r::recs,a,h=>by
  have h4:=h r (by simp)
  have ih:=φCX m recs (a+(fr r).length) fun x hx=>h x (by simp[hx])
  rw[φz,if_pos h4,φ1R,κ5,←ih]
  have:((a+(fr r).length:Nat):Int)=(a:Int)+((frame (φ5 r)).length:Int):=by simp only[fr];omega
  rw[this]
  rfl
theorem φH0 {p:RecT→Prop}:∀(recs:List RecT) (a:Nat),(∀r∈recs,p r)→∀x∈φ1R a recs,p x.2.2
 | [],_,_,x,hx=>by simp[φ1R] at hx
 | r::recs,a,h,x,hx=>by
  rw[φ1R] at hx
  rcases mc.1 hx with rfl | hx
  ·exact h r (by simp)
  ·exact φH0 recs _ (fun y hy=>h y (by simp[hy])) x hx
theorem φFI:∀(recs:List RecT) (a:Nat),∀x∈φ1R a recs,x.1≤((a+(txt recs).length:Nat):Int)
 | [],_,x,hx=>by simp[φ1R] at hx
 | r::recs,a,x,hx=>by
  rw[φ1R] at hx
  rw[φ3F,lA]
  rcases mc.1 hx with rfl | hx
  ·show (a:Int)≤_
   omega
  ·have:=φFI recs _ x hx
   omega
theorem φE4 {s S:φ6} {d y:φ1} (h:φf s d=true) (h2:s.1.1+2≤100000) (hM:Merged s d (φU s d).1 S y) :
  φ15 s.1.1 (txt (φW (φU s d).1 (s.2.2.1 - 1)))=((((txt (φW (φU s d).1 (s.2.2.1 - 1))).length:Int),s.2.2.1 - 1,S.2.1),true)∧φ2d (((txt (φW (φU s d).1 (s.2.2.1 - 1))).length:Int),s.2.2.1 - 1,S.2.1)=true:=by
 obtain ⟨m1,m2,m3,m4⟩:=φ90 h h2 hM
 obtain ⟨q1,q2,q3,q4,q5,q6⟩:=φg.1 h
 obtain ⟨k1,k2,k3,k4⟩:=(φ13 s.1).1 q2
 have hkeep:=φCi h
 have hbat:=φHL h
 have hl20:(φU s d).1.length≤20:=by have:=φ80 s d;have:=(φ48 q3).1;omega
 have hdir:=(φg.1 m1).2.2.1
 have hone:=hM.one
 have htl:=φ6g hM.dk (φ0 s.1.1)
 rw[hone] at htl
 have hst:=hM.st
 generalize (φU s d).1=l at *
 have hents:S.2.1=(φ1R 0 (l.map φQ)).map (entS s.1.1):=by
  rw[hst]
  show φz s.1.1 0 (φW l (s.2.2.1 - 1))=_
  have e:φz s.1.1 0 (φW l (s.2.2.1 - 1))=φz s.1.1 0 (l.map φQ):=φ9f s.1.1 _ (show (5:Int)≠4 by decide) _ _
  rw[e]
  exact φCX s.1.1 (l.map φQ) 0 fun r hr=>(hkeep r hr).2
 have hmk:φZ (5,s.2.2.1 - 1,[],[],(l.length:Int),φ1j (l.map φQ))=true:=φHJ (by omega) (by omega) (φ5D _)
 have hall:∀r∈φW l (s.2.2.1 - 1),φZ r=true:=fun r hr=>by
  unfold φW at hr
  rcases mA.1 hr with hr | hr
  ·exact (hkeep r hr).1
  ·rw[mZ.1 hr];exact hmk
 have hsc:=φ96 hall
 have hk:∀x∈φ1R 0 (l.map φQ),x.2.2.1=4∧x.2.2.2.1≤s.2.2.1 - 1:=φH0 (p:=fun r=>r.1=4∧r.2.1≤s.2.2.1 - 1) (l.map φQ) 0 fun r hr=>by
  refine ⟨(hkeep r hr).2,?_⟩
  obtain ⟨p,hp,rfl⟩:=mM.1 hr
  have:=hbat p hp
  show p.2.2≤_
  omega
 have hsrt:srt ((φ1R 0 (l.map φQ)).map (entS s.1.1)):=by rw[←hents];exact φ5o hdir
 refine ⟨?_,?_⟩
 ·rw[hents]
  refine φIG (id:=s.1.1) (l:=φ1R 0 (l.map φQ)) (z:=(((0+(txt (l.map φQ)).length:Nat):Int),((fr (5,s.2.2.1 - 1,[],[],(l.length:Int),φ1j (l.map φQ))).length:Int),(5,s.2.2.1 - 1,[],[],(l.length:Int),φ1j (l.map φQ)))) ?_ ⟨by omega,by omega⟩ rfl ?_ ?_
  ·rw[hsc]
   unfold φW
   rw[φ9n]
   rfl
  ·rw[φDz]
   unfold φ3T
   simp
  ·exact φGj (id:=s.1.1) _ none hk hsrt fun q hq=>by simp at hq
 ·unfold φ2d
  simp only[bA,decide_eq_true_eq]
  have hlen:((txt (φW l (s.2.2.1 - 1))).length:Int)≤100000:=by simp only at htl;omega
  refine ⟨κS.2 fun e he=>?_,⟨Int.natCast_nonneg _,hlen⟩,⟨by show 0≤s.2.2.1 - 1;omega,by show s.2.2.1 - 1≤1000000;omega⟩,hdir⟩
  have he:e∈S.2.1:=he
  have hseg:∀e∈S.2.1,e.2.1=s.1.1∧e.2.2.1≤100000:=fun e he=>by
   rw[hents] at he
   obtain ⟨x,hx,rfl⟩:=mM.1 he
   refine ⟨rfl,?_⟩
   have:=φFI (l.map φQ) 0 x hx
   have hle:(txt (l.map φQ)).length≤(txt (φW l (s.2.2.1 - 1))).length:=by
    unfold φW;rw[φJZ,lA];omega
   show x.1≤100000
   omega
  have hpos:=List.length_pos_of_mem he
  have hg:(S.2.1.getD 0 ([],0,0,0,0)).2.1=s.1.1:=by
   rw[φE hpos];exact (hseg _ (gM hpos)).1
  unfold φ4O
  simp only
  rw[hg,(hseg e he).1]
  have:=(hseg e he).2
  simp;omega
theorem Free.up {d:φ1} (h:Free d):d.2.2.2=false:=by rw[show d.2.2=(-1,false) from h]
theorem φLc {d:φ1} (h:φ3 d=true) {l:List φ4} (hs:l.Sublist d.1):φ3 (l,d.2)=true:=by
 obtain ⟨h1,h2,h3,h4,h5,h6⟩:=(φ3Y d).1 h
 have hl:=hs.length_le
 have hu:φH l≤φH d.1:=φ6U _ hs
 rw[φ3Y]
 exact ⟨h1,h2,by show l.length≤_;omega,by show (φH l:Int)≤d.2.1;omega,fun f hf=>h5 f (hs.subset hf),h6.sublist hs⟩
theorem φKA {l:List φ4} (hp:l.Pairwise fun a b=>Op.bytesLess a.1 b.1=true) {i:Nat} (hi:i<l.length):∀j,(hj:j<l.length)→j≠i→l[j].1≠l[i].1:=fun j hj hne e=>by
 rcases Nat.lt_or_gt_of_ne hne with h | h
 ·have:=List.pairwise_iff_getElem.1 hp j i hj hi h
  rw[e,φ4u] at this;simp at this
 ·have:=List.pairwise_iff_getElem.1 hp i j hi hj h
  rw[e,φ4u] at this;simp at this
theorem φKo {l:List φ4} (hp:l.Pairwise fun a b=>Op.bytesLess a.1 b.1=true) {i:Nat} (hi:i<l.length) {n:List UInt8} (hn:l[i].1=n) (g:φ4→φ4):l.set i (g l[i])=l.map fun f=>if f.1=n then g f else f:=by
 refine List.ext_getElem (by simp) fun j h1 h2=>?_
 rw[List.getElem_map,List.getElem_set]
 have hj:j<l.length:=by simpa using h1
 by_cases c:i=j
 ·subst c;rw[if_pos rfl,if_pos hn]
 ·rw[if_neg c,if_neg]
  intro e
  exact φKA hp hi j hj (fun e2=>c e2.symm) (e.trans hn.symm)
theorem φCQ {l:List φ4} (hp:l.Pairwise fun a b=>Op.bytesLess a.1 b.1=true) {i:Nat} (hi:i<l.length) {n:List UInt8} (hn:l[i].1=n):φb l i=l.filter fun f=>!(f.1==n):=by
 induction l generalizing i with
 | nil=>simp at hi
 | cons x l ih=>
  obtain ⟨h1,h2⟩:=κY.1 hp
  cases i with
  | zero=>
   have hx:x.1=n:=hn
   have e:l.filter (fun f=>!(f.1==n))=l:=List.filter_eq_self.2 fun f hf=>by
    have:=φ5z (h1 f hf)
    simp only[κL,beq_eq_false_iff_ne,ne_eq]
    intro e;exact this (hx.trans e.symm)
   rw[List.filter_cons_of_neg (by simp[hx]),e]
   simp[φb]
  | succ i=>
   have hi':i<l.length:=by simpa using hi
   have hx:x.1≠n:=fun e=>by
    have:=h1 l[i] (gM hi')
    have hn:l[i].1=n:=hn
    rw[e,hn,φ4u] at this;simp at this
   rw[List.filter_cons_of_pos (by simpa using hx),←ih h2 hi' hn]
   simp[φb]
def φ7c (f:φ4):φ4:=(f.1,f.2.1,(f.2.1.length:Int))
def onF (n:List UInt8) (g:φ4→φ4) (l:List φ4):List φ4:=l.map fun f=>if f.1=n then g f else f
theorem φDF {d:φ1} (h:φ3 d=true) (hf:Free d) {n:List UInt8} (hn:(φ2 d n).2=true):φG n d=((onF n φ7c d.1,d.2),0):=by
 obtain ⟨i,hi,e,hx,_⟩:=φ57 hn
 show φT d (φ29 n)=_
 rw[φ4D h hf]
 unfold φ29
 rw[e]
 simp only[φE hi]
 congr 2
 exact φKo (φ5l h) hi hx φ7c
theorem φJS {d:φ1} (h:φ3 d=true) (hf:Free d) (n:List UInt8):φB n d=((d.1.filter (fun f=>!(f.1==n)),d.2),0):=by
 unfold φB
 rcases φv d.1 n with ⟨e,hno⟩ | ⟨i,hi,e,hx⟩
 ·rw[e,if_neg (by simp)]
  have:d.1.filter (fun f=>!(f.1==n))=d.1:=List.filter_eq_self.2 fun f hf=>by simpa using hno f hf
  rw[this]
 ·rw[e,if_pos (by omega)]
  show φT d (φ2A n)=_
  rw[φ4D h hf]
  unfold φ2A
  rw[φ17 e]
  simp only
  rw[φCQ (φ5l h) hi hx]
theorem φE2:∀(names:List (List UInt8)) {d:φ1},φ3 d=true→Free d→φm names (d,0)=((d.1.filter (fun f=>!(names.any fun n=>f.1==n)),d.2),0)
 | [],d,_,_=>by
  show (d,(0:Int))=_
  have:d.1.filter (fun f=>!(([]:List (List UInt8)).any fun n=>f.1==n))=d.1:=List.filter_eq_self.2 fun f hf=>by simp
  rw[this]
 | n::names,d,h,hf=>by
  show φm names (φ9 (φB n) (d,0))=_
  have e:φ9 (φB n) (d,0)=φB n d:=by unfold φ9;rw[if_pos rfl]
  rw[e,φJS h hf,φE2 names (φLc h List.filter_sublist) hf]
  simp only[List.filter_filter]
  congr 2
  refine List.filter_congr fun f _=>?_
  simp[Bool.not_or,Bool.and_comm]
theorem φAk {d:φ1} (h:φ3 d=true) (hf:Free d) (v:φP):φq v d=((d.1.filter (fun f=>!φ4W v f),d.2),0):=by
 unfold φq
 rw[φE2 _ h hf]
 congr 2
 refine List.filter_congr fun f hf=>?_
 unfold φ3E
 rw[if_neg (by rw[h];simp)]
 congr 1
 have hB:∀g:φ4,g.1=f.1→φ4W v g=φ4W v f:=fun g e=>by unfold φ4W;rw[e]
 cases ho:φ4W v f with
 | true=>
  refine List.any_eq_true.2 ⟨f.1,mM.2 ⟨f,List.mem_filter.2 ⟨hf,ho⟩,rfl⟩,by simp⟩
 | false=>
  refine List.any_eq_false.2 fun n hn=>?_
  obtain ⟨g,hg,rfl⟩:=mM.1 hn
  intro e
  have e:f.1=g.1:=by simpa using e
  have:=hB g e.symm
  rw[(List.mem_filter.1 hg).2,ho] at this
  simp at this
theorem φMV {v:φP} (h:φk v=true):∃r,v.2=v.2.getD 0 0::r∧v.2.drop 1=r∧(1≤v.2.getD 0 0∧v.2.getD 0 0≤100000):=by
 have hr:=fun id=>φBV (id:=id) h
 obtain ⟨k1,k2,k3,k4⟩:=(φ13 v).1 h
 obtain ⟨a,l⟩:=v
 cases l with
 | nil=>simp at k3
 | cons i r=>
  have:=hr i (by simp)
  exact ⟨r,rfl,rfl,this.1,this.2.1⟩
theorem φDT {v:φP} {d:φ1} (h:φ3 d=true) (hl:(φ2 d (φ0 (φM v.2))).2=true) (hc:(cutW v d).2=0) (ids:List Int):φS (cutW v d).1 ids=φS d ids:=by
 unfold φS
 congr 1
 funext id
 exact φDU h hl hc id
theorem φJ8 {v:φP} {d:φ1} (h:φ3 d=true) (hv:φk v=true) (hl:(φ2 d (φ0 (φM v.2))).2=true) (hc:(cutW v d).2=0) :
  ∃hin,φ4c v d=φ5H v (cutW v d).1 (cutN v d:Int) (φ2O ([],0,0) (φS d v.2)) hin∧(φ3K (cutW v d).1 (v.2.getD 0 0)=none→hin=0):=by
 rw[φEE,if_neg (by rw[hc];simp)]
 obtain ⟨r,er,ed,hr⟩:=φMV hv
 cases hg:φ3K (cutW v d).1 (v.2.getD 0 0) with
 | none=>
  refine ⟨0,?_,fun _=>rfl⟩
  simp only
  rw[φDT h hl hc]
 | some g=>
  refine ⟨v.2.getD 0 0,?_,fun e=>by simp at e⟩
  simp only
  congr 1
  have e1:=φDT h hl hc v.2
  unfold φ3K at hg
  split at hg
  ·rename_i c
   obtain ⟨_,c2,c3⟩:=c
   rcases φDE (φ2 (cutW v d).1 (φI (v.2.getD 0 0))).1 with ⟨e,_⟩ | ⟨H,e,hH⟩
   ·rw[e] at c2;simp at c2
   rw[e] at hg c3
   simp only[Option.some.injEq] at hg
   have c3:φ15 (v.2.getD 0 0) (φ2 (cutW v d).1 (φ0 (v.2.getD 0 0))).1=(H,true):=by
    unfold φ77 at c3
    simpa using c3
   have hok:=hH.1
   unfold φ2d at hok
   simp only[bA,decide_eq_true_eq] at hok
   have:=φNe c3 hok.2.2.2 hok.2.2.1.1 (φS (cutW v d).1 (v.2.drop 1))
   rw[←hg,←this,←e1]
   conv=>rhs;rw[er]
   rw[ed]
   rfl
  ·simp at hg
theorem φJd {t:List UInt8} (h:φ2a t) {r:RecT} (hr:φZ r=true):(scan (t++fr r)).1=(scan t).1++[((t.length:Int),((fr r).length:Int),r)]:=by
 obtain ⟨rs,h1,rfl⟩:=(φ8r t).1 h
 have h2:∀x∈rs++[r],φZ x=true:=fun x hx=>by
  rcases mA.1 hx with hx | hx
  ·exact h1 x hx
  ·rw[mZ.1 hx];exact hr
 have e:=φ96 h2
 rw[φB9] at e
 rw[e,φ96 h1,φ9n]
 simp[φ1R]
theorem φ9q (d:φ1) (a b:List Int):φS d (a++b)=φS d a++φS d b:=κI
theorem φ9b (d:φ1) (i:Int):φS d [i]=φ11 d i:=by unfold φS;simp
theorem φ5T {d d':φ1} {ids:List Int} (h:∀id∈ids,φ2 d' (φ0 id)=φ2 d (φ0 id)):φS d' ids=φS d ids:=by
 induction ids with
 | nil=>rfl
 | cons i ids ih=>
  have e1:φS d' (i::ids)=φ11 d' i++φS d' ids:=by unfold φS;simp
  have e2:φS d (i::ids)=φ11 d i++φS d ids:=by unfold φS;simp
  rw[e1,e2,ih fun id hid=>h id (by simp[hid])]
  unfold φ11
  rw[h i (by simp)]
theorem φNl {l:List Int} (h:l≠[]):l=l.take (l.length - 1)++[φM l]:=by
 have hl:l.length - 1<l.length:=by have:=List.length_pos_iff.2 h;omega
 unfold φM
 rw[φE hl]
 have:=κ4 hl
 rw[show l.length - 1+1=l.length by omega,κU] at this
 exact this
theorem φJj {d d':φ1} {ids:List Int} (hne:ids≠[]) (hp:ids.Pairwise (·<·)) {r:RecT} (hr:φZ r=true) (hw:φ2a (φ2 d (φ0 (φM ids))).1)
  (h1:φ2 d' (φ0 (φM ids))=((φ2 d (φ0 (φM ids))).1++fr r,true)) (h2:∀id∈ids,id≠φM ids→φ2 d' (φ0 id)=φ2 d (φ0 id)) :
  φS d' ids=φS d ids++[((φM ids,((φ2 d (φ0 (φM ids))).1.length:Int),((fr r).length:Int),r):φF)]:=by
 have e:=φNl hne
 have hin:∀id∈ids.take (ids.length - 1),id≠φM ids∧id∈ids:=fun id hid=>by
  rw[e] at hp
  have:=(κd.1 hp).2.2 id hid (φM ids) (by simp)
  exact ⟨by omega,List.mem_of_mem_take hid⟩
 have e3:φS d' (ids.take (ids.length - 1))=φS d (ids.take (ids.length - 1)):=φ5T fun id hid=>h2 id (hin id hid).2 (hin id hid).1
 have e4:φ11 d' (φM ids)=φ11 d (φM ids)++[((φM ids,((φ2 d (φ0 (φM ids))).1.length:Int),((fr r).length:Int),r):φF)]:=by
  unfold φ11
  rw[h1,φJd hw hr,mp]
  rfl
 conv=>lhs;rw[e]
 conv=>rhs;rw[e]
 rw[φ9q,φ9q,e3,φ9b,φ9b]
 have e5:φM (ids.take (ids.length - 1)++[φM ids])=φM ids:=φJQ _ _
 rw[e5,e4,aA]
def φLv (s:φ6) (d:φ1):Prop:=∃nx,nx≤s.1.1∧φk (nx,s.1.2)=true∧φ2 d φa=(φl (nx,s.1.2),true)
structure JB (s:φ6) (d:φ1):Prop where
 ok:φf s d=true
 lt:φ3w s
 liv:φLv s d
 fre:Free d
structure Grow (s:φ6) (d:φ1) (s':φ6) (d':φ1) (P:List φF):Prop where
 jb:JB s' d'
 dir:s'.2.1=s.2.1
 bat:s'.2.2.1=s.2.2.1
 pl:φS d' s'.1.2=φS d s.1.2++P
 kp:φ2z s.1.1 d d'
 nxt:s.1.1≤s'.1.1
theorem Grow.refl {s:φ6} {d:φ1} (h:JB s d):Grow s d s d []:=⟨h,rfl,rfl,by simp,fun _ _ _ _=>rfl,κR _⟩
theorem Grow.trans {s s' s'':φ6} {d d' d'':φ1} {P Q:List φF} (h:Grow s d s' d' P) (k:Grow s' d' s'' d'' Q):Grow s d s'' d'' (P++Q):=
 ⟨k.jb,by rw[k.dir,h.dir],by rw[k.bat,h.bat],by rw[k.pl,h.pl,aA],h.kp.trans k.kp h.nxt,by have:=h.nxt;have:=k.nxt;omega⟩
theorem φLD {d:φ1} (h:φ3 d=true) (hf:Free d) (n t:List UInt8) (hc:(φL n t d).2≠0):(φL n t d).1=d:=by
 unfold φL at hc ⊢
 rw[φ4D h hf] at hc ⊢
 unfold φ2S at hc ⊢
 cases e:d.1.findIdx? (fun f=>f.1==n) with
 | none=>rfl
 | some i=>
  rw[e] at hc
  simp only at hc ⊢
  split
  ·rfl
  ·rename_i c
   rw[if_neg c] at hc
   exact absurd rfl hc
theorem φDv {v:φP} {w:φD} (h:φ3 w.1=true) (hf:Free w.1) (hc:(sPut v w).2≠0):φ2 (sPut v w).1 φa=φ2 w.1 φa:=by
 have hk:=φ4m h [116,101,109,112] (φl v)
 have hF:Free (φ1Q [116,101,109,112] (φl v) w).1:=φ8U (P:=Free) (fun d act k=>φ1I k) _ _ hf
 have e1:φ2 (φ1Q [116,101,109,112] (φl v) w).1 φa=φ2 w.1 φa:=φ5K h (show φa≠[116,101,109,112] by decide)
 unfold sPut at hc ⊢
 unfold φ9 at hc ⊢
 by_cases c:(φ1Q [116,101,109,112] (φl v) w).2=0
 ·rw[if_pos c] at hc
  exfalso
  obtain ⟨_,ht⟩:=φ95 c
  obtain ⟨i,hi,e,hx,_⟩:=φ57 (by rw[ht])
  apply hc
  show (φT _ (φ2B [116,101,109,112] [108,105,118,101])).2=0
  rw[φ4D hk hF]
  unfold φ2B
  rw[if_neg (by decide),e]
 ·rw[if_neg c]
  exact e1
theorem φFX {hi hi':Int} (h1:hi≤hi'):∀(l:List Int) (p:Option Int),φ1c hi p l=true→φ1c hi' p l=true
 | [],p,h=>h
 | x::l,p,h=>by
  simp only[φ1c,bA,decide_eq_true_eq] at h ⊢
  exact ⟨⟨h.1.1,by omega⟩,h.2.1,φFX h1 l _ h.2.2⟩
theorem φEv {a b:Int} {ids:List Int} (h:φk (a,ids)=true) (hab:a≤b) (hb:b≤100000):φk (b,ids)=true:=by
 obtain ⟨k1,k2,k3,k4⟩:=(φ13 (a,ids)).1 h
 have k2:1≤a∧a≤100000:=k2
 rw[φJ (by simp only;omega) (by simp only;omega)] at k1
 refine (φ13 (b,ids)).2 ⟨?_,⟨by show 1≤b;omega,hb⟩,k3,k4⟩
 rw[φJ (by simp only;omega) (by simp only;omega)]
 exact φFX (by simp only;omega) _ _ k1
theorem φNR {s:φ6} {d:φ1} (h:JB s d) (hc:(rotP s d).2.2≠0):(rotP s d).1.1.2=s.1.2∧(rotP s d).1.2=s.2∧s.1.1≤(rotP s d).1.1.1∧(rotP s d).1.1.1≤100000∧φ2 (rotP s d).2.1 φa=φ2 d φa:=by
 obtain ⟨q1,q2,q3,q4,q5,q6⟩:=φg.1 h.ok
 obtain ⟨k1,k2,k3,k4⟩:=(φ13 s.1).1 q2
 have hF:=h.fre
 obtain ⟨g1,g2⟩:=(φ1q _).1 q5
 have hex:(φ2 d (actN s)).2=true:=(g1 _ (φ33 (φ3D q2))).1
 have hs:=φ3J q1 (actN s)
 have hsF:Free (φG (actN s) d).1:=φ1I hF
 have hs0:=φ7i q1 hF hex
 have hg:=φ2P hs (φ0 s.1.1)
 have hgF:Free (φB (φ0 s.1.1) (φG (actN s) d).1).1:=φ5F (P:=Free) (fun d act k=>φ1I k) _ hsF
 have hcd:φ3 (φ9 (φV (φ0 s.1.1)) (φB (φ0 s.1.1) (φG (actN s) d).1)).1=true:=φ1o (op:=φV _) hg fun k=>φ39 k _
 have hcF:Free (φ9 (φV (φ0 s.1.1)) (φB (φ0 s.1.1) (φG (actN s) d).1)).1:=φ3p (P:=Free) (fun d act k=>φ1I k) (fun d k=>φ1I k) hgF
 have hl1:φ2 (φ9 (φV (φ0 s.1.1)) (φB (φ0 s.1.1) (φG (actN s) d).1)).1 φa=φ2 d φa:=by
  rw[φ2p (op:=φV _) (φ9u hg (φ2f _).symm),φ5G hs (φ2f _).symm,φ2K q1]
 unfold rotP at hc ⊢
 split
 ·exact ⟨rfl,rfl,κR _,k2.2,rfl⟩
 rename_i c0
 rw[if_neg c0] at hc
 rw[if_neg (by rw[hs0];simp)] at hc ⊢
 simp only at hc ⊢
 split
 ·refine ⟨rfl,rfl,by show s.1.1≤s.1.1+1;omega,by show s.1.1+1≤100000;omega,hl1⟩
 rename_i c2
 rw[if_neg c2] at hc
 split
 ·rename_i c3
  refine ⟨rfl,rfl,by show s.1.1≤s.1.1+1;omega,by show s.1.1+1≤100000;omega,?_⟩
  generalize (φ9 (φV (φ0 s.1.1)) (φB (φ0 s.1.1) (φG (actN s) d).1))=w2 at *
  have c3':(sPut (s.1.1+1,s.1.2++[s.1.1]) (w2.1,0)).2≠0:=fun e=>c3 ((φ1C _).2 e)
  have hp:=φ3r (v:=(s.1.1+1,s.1.2++[s.1.1])) (w:=(w2.1,0)) hcd
  rw[φ8C (w:=φA (sPut (s.1.1+1,s.1.2++[s.1.1]) (w2.1,0))) hp (fun m hm=>by
   simp only[mc,List.not_mem_nil,or_false] at hm
   rcases hm with rfl | rfl
   ·decide
   ·exact (φ2f _).symm)]
  show φ2 (sPut (s.1.1+1,s.1.2++[s.1.1]) (w2.1,0)).1 φa=_
  rw[φDv (w:=(w2.1,0)) hcd hcF c3']
  exact hl1
 ·rename_i c3
  rw[if_neg c3] at hc
  exact absurd rfl hc
theorem φDr {s:φ6} {d:φ1} (hF:Free d):Free (rotP s d).2.1:=by
 have hsF:Free (φG (actN s) d).1:=φ1I hF
 have hgF:Free (φB (φ0 s.1.1) (φG (actN s) d).1).1:=φ5F (P:=Free) (fun d act k=>φ1I k) _ hsF
 have hcF:Free (φ9 (φV (φ0 s.1.1)) (φB (φ0 s.1.1) (φG (actN s) d).1)).1:=φ3p (P:=Free) (fun d act k=>φ1I k) (fun d k=>φ1I k) hgF
 have hpF:Free (sPut (s.1.1+1,s.1.2++[s.1.1]) ((φ9 (φV (φ0 s.1.1)) (φB (φ0 s.1.1) (φG (actN s) d).1)).1,0)).1:=φ7P (P:=Free) (fun d act k=>φ1I k) _ hcF
 unfold rotP
 split
 ·exact hF
 split
 ·exact hsF
 simp only
 split
 ·exact hcF
 split
 ·unfold φ1e
  have:=φ5P (P:=Free) (fun d act k=>φ1I k) [[116,101,109,112],φ0 s.1.1] (w:=((φA (sPut (s.1.1+1,s.1.2++[s.1.1]) ((φ9 (φV (φ0 s.1.1)) (φB (φ0 s.1.1) (φG (actN s) d).1)).1,0))).1,0)) hpF
  split
  ·split
   ·exact this
   ·exact this
  ·exact hpF
 ·exact hpF
theorem φDd {s:φ6} {d:φ1} (h:φ3 d=true) (hc:(rotP s d).2.2=0):φ2 (rotP s d).2.1 φa=(φl (s.1.1+1,s.1.2++[s.1.1]),true):=by
 unfold rotP at hc ⊢
 split
 ·rename_i c;rw[if_pos c] at hc;simp at hc
 rename_i c0
 rw[if_neg c0] at hc
 split
 ·rename_i c;rw[if_pos c] at hc;exact absurd ((φ1C _).1 hc) c
 rename_i c1
 rw[if_neg c1] at hc
 simp only at hc ⊢
 split
 ·rename_i c;rw[if_pos c] at hc;exact absurd ((φ1C _).1 hc) c
 rename_i c2
 rw[if_neg c2] at hc
 split
 ·rename_i c
  rw[if_pos c] at hc
  exfalso
  revert hc
  unfold φ1e
  split
  ·split
   ·simp
   ·rename_i c4;exact c4
  ·exact c
 ·rename_i c
  have c:(sPut (s.1.1+1,s.1.2++[s.1.1]) ((φ9 (φV (φ0 s.1.1)) (φB (φ0 s.1.1) (φG (actN s) d).1)).1,0)).2=0:=(φ1C _).1 (Decidable.not_not.1 c)
  exact (φGg c).2
theorem φBb {s:φ6} {d:φ1} (h:JB s d):Grow s d (rotP s d).1 (rotP s d).2.1 []:=by
 obtain ⟨q1,q2,q3,q4,q5,q6⟩:=φg.1 h.ok
 obtain ⟨k1,k2,k3,k4⟩:=(φ13 s.1).1 q2
 rw[φJ (by omega) (by omega)] at k1
 have hids:=φ3j _ _ k1
 obtain ⟨r1,r2,r3,r4,r5,r6⟩:=φ9h q1 q2
 have hkp:=φEs (s:=s) q1 k2.2
 have hft:∀id∈s.1.2,φ2 (rotP s d).2.1 (φ0 id)=φ2 d (φ0 id):=fun id hid=>by
  have:=hids id hid
  rcases φ81 (s:=s) q1 with ⟨_,e2⟩ | ⟨_,_,e2⟩
  ·exact e2 _
  ·exact e2 _ (fun hh=>by have:=φ3x (by omega) (by omega) hh;omega) (φ49 _) (φ2f _)
 have hpl:=φ5T hft
 by_cases c:(rotP s d).2.2=0
 ·have hx:∀e∈s.2.1,e.2.1≠s.1.1:=fun e he=>by have:=h.lt e he;omega
  obtain ⟨e1,e2,e3,e4⟩:=φ70 q1 c
  refine ⟨⟨(φEN h.ok hx c).1,fun e he=>?_,⟨s.1.1+1,by rw[e1];exact κR _,by rw[e1];have:=r5 c;rw[e1] at this;exact this,by rw[φDd q1 c,e1]⟩,φDr h.fre⟩,r3,r4,?_,hkp,by rw[e1];show s.1.1≤s.1.1+1;omega⟩
  ·rw[r3] at he
   have:=h.lt e he
   rw[e1];show e.2.1<s.1.1+1;omega
  ·have ei:(rotP s d).1.1.2=s.1.2++[s.1.1]:=by rw[e1]
   rw[ei,φ9q,hpl,φ9b]
   unfold φ11
   rw[e2,φ6z]
   rfl
 ·obtain ⟨f1,f2,f3,f4,f5⟩:=φNR h c
  obtain ⟨nx,n1,n2,n3⟩:=h.liv
  have hlv:φk (rotP s d).1.1=true:=by
   have:=φEv (a:=s.1.1) (ids:=s.1.2) q2 f3 f4
   rw[←f1] at this
   exact this
  refine ⟨⟨φg.2 ⟨r1,hlv,by rw[f2];exact q3,by rw[f2];exact q4,?_,?_⟩,fun e he=>?_,⟨nx,by omega,by rw[f1];exact n2,by rw[f5,f1];exact n3⟩,φDr h.fre⟩,by rw[f2],by rw[f2],by rw[f1,hpl];simp,hkp,f3⟩
  ·rw[f2,f1]
   obtain ⟨g1,g2⟩:=(φ1q _).1 q5
   refine (φ1q _).2 ⟨fun id hid=>by rw[hft id hid];exact g1 id hid,fun hne=>by rw[hft _ (φ33 hne)];exact g2 hne⟩
  ·rw[f2]
   exact φ6i h.ok hkp h.lt (κR _)
  ·rw[f2] at he
   have:=h.lt e he
   omega
def entP (p:φF):φC:=(p.2.2.2.2.2.1,p.1,p.2.1,p.2.2.1,p.2.2.2.2.1)
theorem φAl {s:φ6} {d:φ1} {r:RecT} (h:JB s d) (hr:φZ r=true) :
  ((addP s d r).2.2.1=0→∃p:φF,Grow s d (addP s d r).1 (addP s d r).2.1 [p]∧p.2.2.2=r∧(addP s d r).2.2.2=entP p) ∧
  ((addP s d r).2.2.1≠0→Grow s d (addP s d r).1 (addP s d r).2.1 []):=by
 have hR:Grow s d (addR s d (frame (φ5 r))).1 (addR s d (frame (φ5 r))).2.1 []:=by
  unfold addR
  split
  ·exact φBb h
  ·exact Grow.refl h
 unfold addP
 generalize addR s d (frame (φ5 r))=R at *
 simp only
 by_cases c:R.2.2=0
 rotate_left
 ·rw[if_pos c]
  exact ⟨fun e=>absurd e c,fun _=>hR⟩
 rw[if_neg (by simpa using c)]
 have hJ:=hR.jb
 obtain ⟨q1,q2,q3,q4,q5,q6⟩:=φg.1 hJ.ok
 by_cases c2:(φL (actN R.1) (frame (φ5 r)) R.2.1).2=0
 rotate_left
 ·rw[if_pos c2]
  refine ⟨fun e=>absurd ((φ1C _).1 e) c2,fun _=>?_⟩
  show Grow s d R.1 (φL (actN R.1) (frame (φ5 r)) R.2.1).1 []
  rw[φLD q1 hJ.fre _ _ c2]
  exact hR
 rw[if_neg (by simpa using c2)]
 refine ⟨fun _=>?_,fun e=>absurd rfl e⟩
 obtain ⟨a1,a2,a3⟩:=φDe hJ.ok hr c2
 obtain ⟨b1,b2⟩:=φ4F c2
 obtain ⟨g1,g2⟩:=(φ1q _).1 q5
 have hne:=φ3D q2
 have hl:=φAs q2
 have hlt:∀id∈R.1.1.2,1≤id∧id≤100000:=fun id hid=>by have:=φBV q2 hid;omega
 obtain ⟨nx,n1,n2,n3⟩:=hJ.liv
 have hsz:=g2 hne
 have hpm:=φJj (d:=R.2.1) (d':=(φL (actN R.1) (frame (φ5 r)) R.2.1).1) hne (φJx q2) hr (g1 _ (φ33 hne)).2 b2 (fun id hid hne2=>φ5Y q1 (fun hh=>hne2 (φ3x (hlt id hid) ⟨hl.1,hl.2.2⟩ hh)))
 refine ⟨(φM R.1.1.2,((φ2 R.2.1 (φ0 (φM R.1.1.2))).1.length:Int),((fr r).length:Int),r),?_,rfl,?_⟩
 ·refine Grow.trans (P:=[]) hR ⟨⟨a1,hJ.lt,⟨nx,n1,n2,?_⟩,φ1I hJ.fre⟩,rfl,rfl,hpm,fun e h1 h2 h3=>a2 e h1 (by have:=(φ13 _).1 q2;omega) h3,κR _⟩
  show φ2 (φL (actN R.1) (frame (φ5 r)) R.2.1).1 φa=_
  rw[φ5Y q1 (show φa≠actN R.1 from (φ2f _).symm)]
  exact n3
 ·unfold entP
  rw[hsz]
  rfl
theorem φ7A:∀(rs:List RecT) (s:φ6) (d:φ1),JB s d→(∀r∈rs,φZ r=true)→∃P:List φF,Grow s d (φd rs s d).1 (φd rs s d).2.1 P∧P.map (·.2.2.2)=rs.take P.length∧P.length≤rs.length ∧
  ((φd rs s d).2.2.1=0→P.length=rs.length∧(φd rs s d).2.2.2=P.map entP)∧((φd rs s d).2.2.1≠0→P.length<rs.length)
 | [],s,d,h,_=>⟨[],Grow.refl h,rfl,κ6 _,fun _=>⟨rfl,rfl⟩,fun e=>absurd rfl e⟩
 | r::rs,s,d,h,hr=>by
  obtain ⟨a1,a2⟩:=φAl h (hr r (by simp))
  unfold φd
  by_cases c:(addP s d r).2.2.1=0
  rotate_left
  ·rw[if_pos c]
   exact ⟨[],a2 c,rfl,κ3 _,fun e=>absurd e c,fun _=>by simp⟩
  rw[if_neg (by simpa using c)]
  obtain ⟨p,p1,p2,p3⟩:=a1 c
  obtain ⟨P,g1,g2,g3,g4,g5⟩:=φ7A rs _ _ p1.jb fun x hx=>hr x (by simp[hx])
  refine ⟨p::P,Grow.trans p1 g1,?_,by simp;omega,fun e=>?_,fun e=>by have:=g5 e;simp;omega⟩
  ·simp[p2,g2]
  ·obtain ⟨x1,x2⟩:=g4 e
   exact ⟨by simp[x1],by simp only[κ5];rw[←p3,←x2]⟩
structure JR (s:φ6) (d:φ1):Prop extends JB s d where
 reg:∃last,φp [] (φS d s.1.2) ([],0,0)=(s.2.1,last,0)∧last<s.2.2.1
 pb:∀p∈φS d s.1.2,p.2.2.2.2.1<s.2.2.1
 own:ownL 5 0 (φS d s.1.2)=[]
theorem φBz (b:Int):∀(P pre:List φF) (dir:List φC) (z:Int),(∀p∈P,(p.2.2.2.1=1∨p.2.2.2.1=2)∧p.2.2.2.2.1=b)→z≤b→∃z',z'≤b∧φp pre P (dir,z,0)=(dir,z',0)
 | [],pre,dir,z,_,hz=>⟨z,hz,rfl⟩
 | p::P,pre,dir,z,h,hz=>by
  obtain ⟨hk,hb⟩:=h p (by simp)
  rw[φp,if_neg (by simp)]
  have e:φ1b pre p (dir,z,0)=(dir,if p.2.2.2.2.1 > z then p.2.2.2.2.1 else z,0):=by
   unfold φ1b
   simp only
   rw[if_neg (by rcases hk with e | e<;>rw[e]<;>decide)]
  rw[e]
  exact φBz b P _ _ _ (fun q hq=>h q (by simp[hq])) (by split<;>omega)
theorem φBL (b:Int):∀(P acc:List φF),(∀p∈P,p.2.2.2.1=1∨p.2.2.2.1=2∨p.2.2.2.1=3)→P.foldl (φ1f 5 b) acc=acc
 | [],acc,_=>rfl
 | p::P,acc,h=>by
  have hk:=h p (by simp)
  have e:φ1f 5 b acc p=acc:=by
   unfold φ1f
   rw[if_neg (by simp),if_neg (by rcases hk with e | e | e<;>rw[e]<;>decide),if_neg (by rcases hk with e | e | e<;>rw[e]<;>simp)]
  rw[κM,e,φBL b P acc fun q hq=>h q (by simp[hq])]
theorem φGT (b:Int):∀(A:List φF) (acc:List φF),(∀p∈A,p.2.2.2.2.1<b)→A.foldl (φ1f 3 b) acc=acc
 | [],acc,_=>rfl
 | p::A,acc,h=>by
  have hb:=h p (by simp)
  have e:φ1f 3 b acc p=acc:=by
   unfold φ1f
   rw[if_pos ⟨rfl,by omega⟩]
  rw[κM,e,φGT b A acc fun q hq=>h q (by simp[hq])]
theorem φGy (b:Int):∀(P acc:List φF),(∀p∈P,(p.2.2.2.1=1∨p.2.2.2.1=2)∧p.2.2.2.2.1=b)→P.foldl (φ1f 3 b) acc=acc++P
 | [],acc,_=>by simp
 | p::P,acc,h=>by
  obtain ⟨hk,hb⟩:=h p (by simp)
  have e:φ1f 3 b acc p=acc++[p]:=by
   unfold φ1f
   rw[if_neg (by rw[hb];simp),if_neg (by rcases hk with e | e<;>rw[e]<;>decide),if_pos (.inl ⟨rfl,hk⟩)]
  rw[κM,e,φGy b P _ fun q hq=>h q (by simp[hq])]
  simp
theorem φEi (b:Int):∀(P:List φF) (l:List PutT) (dir:List φC),P.map (·.2.2.2)=l.map (φ1O b)→φ21 dir P=dirW dir (l.zip (P.map entP))
 | [],l,dir,h=>by
  cases l with
  | nil=>rfl
  | cons x l=>simp at h
 | p::P,l,dir,h=>by
  cases l with
  | nil=>simp at h
  | cons q l=>
   simp only[κ5,List.cons.injEq] at h
   obtain ⟨h1,h2⟩:=h
   have e:putD dir p=φ2s dir (q,entP p):=by
    unfold putD φ2s entP
    rw[h1]
    unfold φ1O
    cases q.2.1<;>rfl
   show φ21 (putD dir p) P=dirW (φ2s dir (q,entP p)) (l.zip (P.map entP))
   rw[e]
   exact φEi b P l _ h2
theorem φFo (b:Int) (p:PutT):((φ1O b p).1=1∨(φ1O b p).1=2)∧(φ1O b p).2.1=b:=by
 unfold φ1O
 split
 ·exact ⟨.inr rfl,rfl⟩
 ·exact ⟨.inl rfl,rfl⟩
theorem JB.bump {s:φ6} {d:φ1} (h:JB s d) (hb:s.2.2.1≤1000000):JB (s.1,s.2.1,s.2.2.1+1,s.2.2.2) d:=by
 obtain ⟨q1,q2,q3,q4,q5,q6⟩:=φg.1 h.ok
 refine ⟨φg.2 ⟨q1,q2,q3,by show 1≤s.2.2.1+1∧s.2.2.1+1≤1000001;omega,q5,fun e he=>?_⟩,h.lt,h.liv,h.fre⟩
 have:=q6 e he
 rw[φ31] at this ⊢
 obtain ⟨a1,a2,a3,a4,a5⟩:=this
 exact ⟨a1,a2,a3,a4,by show e.2.2.2.2<s.2.2.1+1;omega⟩
theorem φF9 {s:φ6} {d:φ1} (h:JR s d) {l:List PutT} (hp:φ27 l=true) (hb:s.2.2.1≤1000000) (hk:φ2n s.2.1 l≤20):JR (φ1N s d l).1 (φ1N s d l).2.1:=by
 obtain ⟨q1,q2,q3,q4,q5,q6⟩:=φg.1 h.ok
 have hrec:=φ6n (b:=s.2.2.1) (l:=l) ⟨q4.1,hb⟩ hp
 have hJ1:=h.toJB.bump hb
 obtain ⟨P,g1,g2,g3,g4,g5⟩:=φ7A (φ1n s.2.2.1 l) _ _ hJ1 hrec
 obtain ⟨last,hreg,hlast⟩:=h.reg
 have hrl:=φ8X s.2.2.1 l
 have hright:=φAx h.ok h.lt hp hb hk
 -- the places of a part of a batch
 have part:∀Q:List φF,(∃k,k≤l.length∧Q.map (·.2.2.2)=(l.map (φ1O s.2.2.1)).take k)→∀p∈Q,(p.2.2.2.1=1∨p.2.2.2.1=2)∧p.2.2.2.2.1=s.2.2.1:=fun Q ⟨k,_,hQ⟩ p hpQ=>by
  have:p.2.2.2∈Q.map (·.2.2.2):=mM.2 ⟨p,hpQ,rfl⟩
  rw[hQ] at this
  obtain ⟨q,_,e⟩:=mM.1 (List.mem_of_mem_take this)
  have:=φFo s.2.2.1 q
  rw[e] at this
  exact this
 unfold φ1N at hright ⊢
 generalize hG:φd (φ1n s.2.2.1 l) (s.1,s.2.1,s.2.2.1+1,s.2.2.2) d=g at *
 simp only at hright ⊢
 have hbat:g.1.2.2.1=s.2.2.1+1:=g1.bat
 have hdir:g.1.2.1=s.2.1:=g1.dir
 have hpl:φS g.2.1 g.1.1.2=φS d s.1.2++P:=g1.pl
 by_cases c:g.2.2.1=0
 rotate_left
 ·-- the batch was not written φ2a
  rw[if_pos c]
  have hlt:=g5 c
  have hP:=part P ⟨P.length,by omega,by
   rw[g2]
   unfold φ1n
   rw[List.take_append_of_le_length (by rw[lM];omega)]⟩
  obtain ⟨z',hz',e⟩:=φBz s.2.2.1 P (φS d s.1.2) s.2.1 last hP (by omega)
  refine ⟨g1.jb,⟨z',?_,by show z'<g.1.2.2.1;omega⟩,fun p hp=>?_,?_⟩
  ·show φp [] (φS g.2.1 g.1.1.2) _=_
   rw[hpl,φ5n _ _ _ _ (by rw[hreg]),hreg,κ9,e,hdir]
  ·have hp:p∈φS g.2.1 g.1.1.2:=hp
   rw[hpl] at hp
   show _<g.1.2.2.1
   rcases mA.1 hp with hp | hp
   ·have:=h.pb p hp;omega
   ·have:=(hP p hp).2;omega
  ·show ownL 5 0 (φS g.2.1 g.1.1.2)=[]
   have ho:=h.own
   rw[hpl]
   unfold ownL at ho ⊢
   rw[κW,ho,φBL 0 P [] fun p hp=>by rcases (hP p hp).1 with e | e<;>simp[e]]
 rw[if_neg (by simpa using c)] at hright ⊢
 obtain ⟨x1,x2⟩:=g4 c
 -- the last sync is done
 obtain ⟨b1,b2,b3,b4,b5,b6⟩:=φg.1 g1.jb.ok
 have hex:(φ2 g.2.1 (actN g.1)).2=true:=(((φ1q _).1 b5).1 _ (φ33 (φ3D b2))).1
 have hs0:(φG (actN g.1) g.2.1).2=0:=φ7i b1 g1.jb.fre hex
 rw[if_neg (by rw[hs0];simp)] at hright ⊢
 obtain ⟨r1,r2,r3,r4,r5⟩:=hright rfl
 have hpl2:φS (φG (actN g.1) g.2.1).1 g.1.1.2=φS d s.1.2++P:=by
  rw[φ5T (d:=g.2.1) fun id _=>φ2K b1 _ _]
  exact hpl
 -- the last place is the seal's
 have hP0:P≠[]:=fun e=>by rw[e] at x1;simp at x1;omega
 obtain ⟨Q,pz,rfl⟩:∃Q pz,P=Q++[pz]:=⟨P.dropLast,P.getLast hP0,(List.dropLast_concat_getLast hP0).symm⟩
 have hQl:Q.length=l.length:=by simp at x1;omega
 have hmap:(Q++[pz]).map (·.2.2.2)=l.map (φ1O s.2.2.1)++[(3,s.2.2.1,[],[],(l.length:Int),φ1j (l.map (φ1O s.2.2.1)))]:=by
  rw[g2,x1,κU];rfl
 rw[mp,List.map_singleton] at hmap
 obtain ⟨hQ,hz⟩:=List.append_inj hmap (by simp[hQl])
 have hz:pz.2.2.2=(3,s.2.2.1,[],[],(l.length:Int),φ1j (l.map (φ1O s.2.2.1))):=by simpa using hz
 have hPQ:=part Q ⟨l.length,κ6 _,by rw[hQ,List.take_of_length_le (by simp)]⟩
 obtain ⟨z',hz',e⟩:=φBz s.2.2.1 Q (φS d s.1.2) s.2.1 last hPQ (by omega)
 have hown3:ownL 3 s.2.2.1 (φS d s.1.2++Q)=Q:=by
  unfold ownL
  rw[κW,φGT _ _ _ h.pb,φGy _ _ _ hPQ];rfl
 have hdw:φ21 s.2.1 Q=dirW s.2.1 (l.zip g.2.2.2):=by
  rw[φEi s.2.2.1 Q l s.2.1 hQ,x2,mp,φGB _ _ _ (by simp[hQl])]
 have hseal:φ1b (φS d s.1.2++Q) pz (s.2.1,z',0)=(dirW s.2.1 (l.zip g.2.2.2),s.2.2.1,0):=by
  unfold φ1b
  simp only
  rw[hz]
  simp only
  rw[if_pos (.inl trivial),hown3,hQ]
  have hfit:φ3T (3,s.2.2.1,[],[],(l.length:Int),φ1j (l.map (φ1O s.2.2.1))) (l.map (φ1O s.2.2.1))=true:=by
   unfold φ3T;simp
  have el:(if s.2.2.1 > z' then s.2.2.1 else z')=s.2.2.1:=by split<;>omega
  rw[if_pos hfit,hdw,el]
  unfold φ4v
  rw[if_neg]
  have r5':(dirW g.1.2.1 (l.zip g.2.2.2)).length=φ2n s.2.1 l:=r5
  rw[hdir] at r5'
  omega
 refine ⟨⟨r1,r2,?_,φ1I g1.jb.fre⟩,⟨s.2.2.1,?_,by show s.2.2.1<g.1.2.2.1;omega⟩,fun p hp=>?_,?_⟩
 ·obtain ⟨nx,n1,n2,n3⟩:=g1.jb.liv
  exact ⟨nx,n1,n2,by rw[φ2K b1];exact n3⟩
 ·show φp [] (φS (φG (actN g.1) g.2.1).1 g.1.1.2) _=_
  rw[hpl2,φ5n _ _ _ _ (by rw[hreg]),hreg,κ9,φ5n _ _ _ _ (by rw[e]),e,φp,if_neg (by simp),hseal,hdir]
  rfl
 ·have hp:p∈φS (φG (actN g.1) g.2.1).1 g.1.1.2:=hp
  rw[hpl2] at hp
  show _<g.1.2.2.1
  rcases mA.1 hp with hp | hp
  ·have:=h.pb p hp;omega
  ·rcases mA.1 hp with hp | hp
   ·have:=(hPQ p hp).2;omega
   ·rw[mZ.1 hp,hz];show s.2.2.1<_;omega
 ·show ownL 5 0 (φS (φG (actN g.1) g.2.1).1 g.1.1.2)=[]
  have ho:=h.own
  rw[hpl2]
  unfold ownL at ho ⊢
  rw[κW,ho,φBL 0 (Q++[pz]) [] fun p hp=>by
   rcases mA.1 hp with hp | hp
   ·rcases (hPQ p hp).1 with e | e<;>simp[e]
   ·rw[mZ.1 hp,hz];simp]
theorem φKe {id:Int} {t:List UInt8} {h:φ1H} (k:φ15 id t=(h,true)) (hd:φ1s h.2.2=true) (h0:0≤h.2.1) :
  φp [] ((scan t).1.map fun x=>((id,x):φF)) ([],0,0)=(h.2.2,h.2.1,0)∧ownL 5 0 ((scan t).1.map fun x=>((id,x):φF))=[]∧∀p∈(scan t).1.map (fun x=>((id,x):φF)),p.2.2.2.2.1≤h.2.1:=by
 obtain ⟨l,z,e,z5,hf,hk,hh,_,_⟩:=φ9o k
 have hsrt:srt ([]++l.map (entS id)):=by have:=φ5o hd;rw[hh] at this;simpa using this
 have hlen:(l.map (entS id)).length≤20:=by
  unfold φ1s at hd
  rw[hh] at hd
  simp only[bA,decide_eq_true_eq] at hd
  exact hd.2
 rw[hh] at h0
 have h0:0≤z.2.2.2.1:=h0
 rw[e,hh]
 obtain ⟨z',hz',eg⟩:=φCA id z.2.2.2.1 l [] 0 hk h0
 refine ⟨?_,?_,fun p hp=>?_⟩
 ·rw[mp,φ5n _ _ _ _ (by rw[eg]),eg,κ9,List.map_singleton,φp,if_neg (by simp)]
  have eo:ownL z.2.2.1 z.2.2.2.1 (l.map fun x=>((id,x):φF))=l.map fun x=>((id,x):φF):=by
   rw[z5];unfold ownL;rw[φ9t id _ l [] fun x hx=>(hk x hx).1];rfl
  have ea:φ21 [] (l.map fun x=>((id,x):φF))=l.map (entS id):=by
   rw[φAi id l [] (fun x hx=>(hk x hx).1) hsrt];rfl
  have er:(l.map fun x=>((id,x):φF)).map (·.2.2.2)=l.map (·.2.2):=by rw[List.map_map];rfl
  have es:φ1b (l.map fun x=>((id,x):φF)) ((id,z):φF) ([],z',0)=(l.map (entS id),z.2.2.2.1,0):=by
   unfold φ1b
   simp only
   have el:(if z.2.2.2.1 > z' then z.2.2.2.1 else z')=z.2.2.2.1:=by split<;>omega
   rw[if_pos (.inr z5),eo,er,if_pos hf,ea,el]
   unfold φ4v
   rw[if_neg (Nat.not_lt.2 hlen)]
  rw[es];rfl
 ·unfold ownL
  rw[mp,κW,List.map_singleton,κM,List.foldl_nil]
  unfold φ1f
  rw[if_neg (by simp),if_pos z5]
 ·obtain ⟨x,hx,rfl⟩:=mM.1 hp
  show x.2.2.2.1≤z.2.2.2.1
  rcases mA.1 hx with hx | hx
  ·exact (hk x hx).2
  ·rw[mZ.1 hx];exact κR _
theorem φ7b:∀(ids:List Int) {w:φD},φ3 w.1=true→Free w.1→w.2=0→(sOld ids w).2=0
 | [],w,_,_,h=>h
 | i::ids,w,hk,hf,h=>φ7b ids (w:=φm [φ0 i,φI i] w) (φ4i _ hk) (φ5P (P:=Free) (fun d act k=>φ1I k) _ hf) (φ9Z _ hk hf h)
theorem φEK {s:φ6} {d:φ1} (l:List φX) (h:JB s d) (h2:s.1.1+2≤100000) (hc:(φ14 s d l).2.2≠0) :
  (φ14 s d l).1=((s.1.1+2,s.1.2),s.2)∧φ3 (φ14 s d l).2.1=true∧Free (φ14 s d l).2.1∧φ2 (φ14 s d l).2.1 φa=φ2 d φa ∧
  ∀id,1≤id∧id<s.1.1→φ2 (φ14 s d l).2.1 (φ0 id)=φ2 d (φ0 id):=by
 obtain ⟨q1,q2,q3,q4,q5,q6⟩:=φg.1 h.ok
 obtain ⟨k1,k2,k3,k4⟩:=(φ13 s.1).1 q2
 have hF:=h.fre
 have g1:=φ5w s.1.1 (φW l (s.2.2.1 - 1)) (w:=(d,0)) q1
 have g0:=φ47 (w:=(d,0)) q1 (φ0 s.1.1)
 have g0a:=φ78 (φ0 s.1.1) (φW l (s.2.2.1 - 1)) g0
 have g2:=φ47 g1 (φ0 (s.1.1+1))
 have F1:Free (sNew (φ0 (s.1.1+1)) (sWM s.1.1 (φW l (s.2.2.1 - 1)) (d,0))).1:=φ6h (P:=Free) (fun d act k=>φ1I k) _ (φ8x (P:=Free) (fun d act k=>φ1I k) _ _ hF)
 have f1:∀n,n≠φ0 s.1.1→n≠φ0 (s.1.1+1)→φ2 (sNew (φ0 (s.1.1+1)) (sWM s.1.1 (φW l (s.2.2.1 - 1)) (d,0))).1 n=φ2 d n:=fun n q1' q2'=>by
  rw[φ6X g1 q2']
  unfold sWM
  rw[φ2p (op:=φG _) (φ2K g0a _ n),φCH q1' _ g0,φ6X (w:=(d,0)) q1 q1']
 unfold φ14 at hc ⊢
 simp only at hc ⊢
 generalize sNew (φ0 (s.1.1+1)) (sWM s.1.1 (φW l (s.2.2.1 - 1)) (d,0))=w1 at *
 have g3:φ3 (φo s.1.1 w1).1=true:=by
  unfold φo;split
  ·exact g2
  ·exact φ7j _ g2
 have F2:Free (φo s.1.1 w1).1:=by
  unfold φo;split
  ·exact F1
  ·exact φ92 (P:=Free) (fun d act k=>φ1I k) _ F1
 have f2:∀n,n≠φI s.1.1→φ2 (φo s.1.1 w1).1 n=φ2 w1.1 n:=fun n q=>by
  unfold φo
  split
  ·rfl
  ·unfold φ1u
   simp only
   have hf:=φ4m (w:=(w1.1,0)) g2 (φI s.1.1) (φ1S (φ15 s.1.1 (φ2 w1.1 (φ0 s.1.1)).1).1)
   split
   ·rw[φ5G hf q,φ5K (w:=(w1.1,0)) g2 q]
   ·rw[φ5K (w:=(w1.1,0)) g2 q]
 generalize φo s.1.1 w1=w2 at *
 have g5:φ3 (if w2.2=0 then φA (sPut (s.1.1+2,[s.1.1,s.1.1+1]) w2) else φA w2).1=true:=by
  split
  ·exact φ3r g3 _
  ·exact g3
 have F5:Free (if w2.2=0 then φA (sPut (s.1.1+2,[s.1.1,s.1.1+1]) w2) else φA w2).1:=by
  split
  ·exact φ7P (P:=Free) (fun d act k=>φ1I k) _ F2
  ·exact F2
 have f3:∀n,n≠φ1E→n≠φa→φ2 (if w2.2=0 then φA (sPut (s.1.1+2,[s.1.1,s.1.1+1]) w2) else φA w2).1 n=φ2 w2.1 n:=fun n q1 q2=>by
  split
  ·exact φ6m g3 _ q1 q2
  ·rfl
 have fl:(if w2.2=0 then φA (sPut (s.1.1+2,[s.1.1,s.1.1+1]) w2) else φA w2).2≠0→φ2 (if w2.2=0 then φA (sPut (s.1.1+2,[s.1.1,s.1.1+1]) w2) else φA w2).1 φa=φ2 w2.1 φa:=fun e=>by
  by_cases c:w2.2=0
  ·rw[if_pos c] at e ⊢
   exact φDv g3 F2 fun e2=>e ((φ1C _).2 e2)
  ·rw[if_neg c];rfl
 generalize (if w2.2=0 then φA (sPut (s.1.1+2,[s.1.1,s.1.1+1]) w2) else φA w2)=w3 at *
 by_cases c:w3.2=0
 ·rw[if_neg (by simpa using c)] at hc
  exfalso
  apply hc
  show told (sOld s.1.2 (w3.1,0)).2=0
  rw[φ7b s.1.2 (w:=(w3.1,0)) g5 F5 rfl];rfl
 rw[if_pos (by simpa using c)]
 refine ⟨rfl,φF7 _ g5,?_,?_,fun id hid=>?_⟩
 ·show Free (φ1e (φ46 s.1.1) w3).1
  have:=φ5P (P:=Free) (fun d act k=>φ1I k) (φ46 s.1.1) (w:=(w3.1,0)) F5
  unfold φ1e
  split
  ·split
   ·exact this
   ·exact this
  ·exact F5
 ·show φ2 (φ1e (φ46 s.1.1) w3).1 φa=_
  rw[φ8C g5 (fun m hm=>by
   unfold φ46 at hm
   simp only[mc,List.not_mem_nil,or_false] at hm
   rcases hm with rfl | rfl | rfl | rfl
   ·decide
   ·exact (φ2f _).symm
   ·exact (φ2f _).symm
   ·exact (φ7B _).symm),fl c,f2 _ (φ7B _).symm,f1 _ (φ2f _).symm (φ2f _).symm]
 ·have n1:φ0 id≠φ0 s.1.1:=fun e=>by have:=φ3x (by omega) (by omega) e;omega
  have n2:φ0 id≠φ0 (s.1.1+1):=fun e=>by have:=φ3x (by omega) (by omega) e;omega
  have n3:φ0 id≠φI s.1.1:=φ41 _ _ (by omega)
  show φ2 (φ1e (φ46 s.1.1) w3).1 (φ0 id)=_
  rw[φ8C g5 (fun m hm=>by
   unfold φ46 at hm
   simp only[mc,List.not_mem_nil,or_false] at hm
   rcases hm with rfl | rfl | rfl | rfl
   ·exact φ49 _
   ·exact n1
   ·exact n2
   ·exact n3),f3 _ (φ49 _) (φ2f _),f2 _ n3,f1 _ n1 n2]
theorem φNr {s:φ6} {d:φ1} (h:JR s d) (h2:s.1.1+2≤100000):JR (φ14 s d (φU s d).1).1 (φ14 s d (φU s d).1).2.1:=by
 obtain ⟨q1,q2,q3,q4,q5,q6⟩:=φg.1 h.ok
 obtain ⟨k1,k2,k3,k4⟩:=(φ13 s.1).1 q2
 rw[φJ (by omega) (by omega)] at k1
 have hids:=φ3j _ _ k1
 by_cases hc:(φ14 s d (φU s d).1).2.2=0
 ·have hM:=φH1 (φU s d).1 q1 q2 h2 hc
  obtain ⟨m1,m2,m3,m4⟩:=φ90 h.ok h2 hM.toMerged
  obtain ⟨k,ok⟩:=φE4 h.ok h2 hM.toMerged
  have hfu:0 > d.2.2.1:=by rw[show d.2.2=(-1,false) from h.fre];decide
  have hF:=hM.fre hfu
  have hst:=hM.st
  have hone:=hM.one
  have htwo:=hM.two
  have hliv:=hM.liv
  generalize φ14 s d (φU s d).1=M at *
  obtain ⟨S,y,c⟩:=M
  simp only at hc hM m1 m2 m3 m4 k ok hF hst hone htwo hliv ⊢
  unfold φ2d at ok
  simp only[bA,decide_eq_true_eq] at ok
  obtain ⟨r1,r2,r3⟩:=φKe k ok.2.2.2 ok.2.2.1.1
  have hI:S.1.2=[s.1.1,s.1.1+1]:=by rw[hst]
  have hB:S.2.2.1=s.2.2.1:=by rw[hst]
  have hpl:φS y S.1.2=(scan (txt (φW (φU s d).1 (s.2.2.1 - 1)))).1.map fun x=>((s.1.1,x):φF):=by
   rw[hI]
   unfold φS φ11
   simp[hone,htwo,φ6z]
  refine ⟨⟨m1,m3,⟨s.1.1+2,by rw[hst];exact κR _,by rw[hI];exact φBr s.1.1 k2.1 h2,by rw[hI];exact hliv⟩,hF⟩,⟨s.2.2.1 - 1,by rw[hpl];exact r1,by rw[hB];omega⟩,fun p hp=>?_,by rw[hpl];exact r2⟩
  rw[hpl] at hp
  have:=r3 p hp
  have:p.2.2.2.2.1≤s.2.2.1 - 1:=this
  rw[hB];omega
 ·obtain ⟨f1,f2,f3,f4,f5⟩:=φEK (φU s d).1 h.toJB h2 hc
  have hft:∀id∈s.1.2,φ2 (φ14 s d (φU s d).1).2.1 (φ0 id)=φ2 d (φ0 id):=fun id hid=>f5 id (by have:=hids id hid;omega)
  have hkp:φ2z s.1.1 d (φ14 s d (φU s d).1).2.1:=fun e e1 e2 e3=>by
   unfold φ1F
   rw[f5 _ ⟨e1,e2⟩]
  have hpl:=φ5T hft
  generalize φ14 s d (φU s d).1=M at *
  obtain ⟨S,y,c⟩:=M
  simp only at f1 f2 f3 f4 f5 hft hkp hpl ⊢
  subst f1
  obtain ⟨last,r1,r2⟩:=h.reg
  obtain ⟨nx,n1,n2,n3⟩:=h.liv
  refine ⟨⟨φg.2 ⟨f2,φEv (a:=s.1.1) q2 (by omega) h2,q3,q4,?_,fun e he=>φ6i (s:=s) h.ok hkp h.lt (κR _) e he⟩,fun e he=>by have:=h.lt e he;show e.2.1<s.1.1+2;omega,⟨nx,by show nx≤s.1.1+2;omega,n2,by rw[f4];exact n3⟩,f3⟩,⟨last,by show φp [] (φS y s.1.2) _=_;rw[hpl];exact r1,r2⟩,?_,?_⟩
  ·obtain ⟨g1,g2⟩:=(φ1q _).1 q5
   exact (φ1q _).2 ⟨fun id hid=>by rw[hft id hid];exact g1 id hid,fun hne=>by rw[hft _ (φ33 hne)];exact g2 hne⟩
  ·intro p hp
   have hp:p∈φS y s.1.2:=hp
   rw[hpl] at hp
   exact h.pb p hp
  ·show ownL 5 0 (φS y s.1.2)=[]
   rw[hpl];exact h.own
theorem φIz (k b:Int) (acc:List φF) (p:φF):∀x∈φ1f k b acc p,x∈acc∨x=p:=by
 intro x hx
 unfold φ1f at hx
 split at hx
 ·exact .inl hx
 split at hx
 ·simp at hx
 split at hx
 ·rcases mA.1 hx with h | h
  ·exact .inl h
  ·exact .inr (mZ.1 h)
 ·exact .inl hx
theorem φCj (k b:Int):∀(l acc:List φF),∀x∈l.foldl (φ1f k b) acc,x∈acc∨x∈l
 | [],acc,x,hx=>.inl hx
 | p::l,acc,x,hx=>by
  rcases φCj k b l _ x hx with h | h
  ·rcases φIz k b acc p x h with h | h
   ·exact .inl h
   ·exact .inr (by simp[h])
  ·exact .inr (by simp[h])
theorem φLS {k b:Int} {l:List φF}:∀x∈ownL k b l,x∈l:=fun x hx=>by
 rcases φCj k b l [] x hx with h | h
 ·simp at h
 ·exact h
theorem φDL:∀(own:List φF) (dir:List φC),∀e∈φ21 dir own,e∈dir∨∃p∈own,e=entP p
 | [],dir,e,he=>.inl he
 | p::own,dir,e,he=>by
  rcases φDL own (putD dir p) e he with h | ⟨q,hq,x⟩
  ·unfold putD at h
   split at h
   ·exact .inl ((φ7N _ _ _).1 h).1
   ·rcases (φ3W _ _ _).1 h with h | h
    ·exact .inr ⟨p,by simp,h⟩
    ·exact .inl ((φ7N _ _ _).1 h).1
  ·exact .inr ⟨q,by simp[hq],x⟩
theorem φJv (pre:List φF) (p:φF) (g:φ16):∀e∈(φ1b pre p g).1,e∈g.1∨∃q∈pre,e=entP q:=by
 intro e he
 unfold φ1b at he
 simp only at he
 split at he
 ·split at he
  ·rcases φDL _ _ e he with h | ⟨q,hq,x⟩
   ·exact .inl h
   ·exact .inr ⟨q,φLS q hq,x⟩
  ·split at he
   ·exact .inl he
   ·exact .inl he
 ·exact .inl he
theorem φJV (pre:List φF) (p:φF) (g:φ16):(φ1b pre p g).2.1=if p.2.2.2.2.1 > g.2.1 then p.2.2.2.2.1 else g.2.1:=by
 unfold φ1b
 simp only
 split
 ·split
  ·rfl
  ·split<;>rfl
 ·rfl
theorem φHH:∀(P pre:List φF) (g:φ16),∀e∈(φp pre P g).1,e∈g.1∨∃q∈pre++P,e=entP q
 | [],pre,g,e,he=>.inl he
 | p::P,pre,g,e,he=>by
  rw[φp] at he
  split at he
  ·exact .inl he
  ·rcases φHH P _ _ e he with h | ⟨q,hq,x⟩
   ·rcases φJv pre p g e h with h | ⟨q,hq,x⟩
    ·exact .inl h
    ·exact .inr ⟨q,mL _ hq,x⟩
   ·exact .inr ⟨q,by simpa using hq,x⟩
theorem φEC:∀(P pre:List φF) (g:φ16),(φp pre P g).2.2=0→g.2.1≤(φp pre P g).2.1∧∀p∈P,p.2.2.2.2.1≤(φp pre P g).2.1
 | [],pre,g,_=>⟨κR _,fun p hp=>by simp at hp⟩
 | p::P,pre,g,h=>by
  rw[φp] at h ⊢
  by_cases c:g.2.2≠0
  ·rw[if_pos c] at h;exact absurd h c
  rw[if_neg c] at h ⊢
  obtain ⟨h1,h2⟩:=φEC P _ _ h
  rw[φJV] at h1
  have:g.2.1≤(φp (pre++[p]) P (φ1b pre p g)).2.1∧p.2.2.2.2.1≤(φp (pre++[p]) P (φ1b pre p g)).2.1:=by
   split at h1<;>omega
  refine ⟨this.1,fun q hq=>?_⟩
  rcases mc.1 hq with rfl | hq
  ·exact this.2
  ·exact h2 q hq
theorem φEQ {d:φ1}:∀{l:List Int},(∀id∈l,(φ2 d (φ0 id)).2=true∧φ2a (φ2 d (φ0 id)).1)→φ2Z d l=true
 | [],_=>rfl
 | id::r,h=>by
  obtain ⟨h1,h2⟩:=h id (by simp)
  unfold φ2a at h2
  rw[φ2Z,h1,φEQ fun i hi=>h i (by simp[hi])]
  simp[h2]
theorem φJB {d:φ1} {ids:List Int}:∀p∈φS d ids,p.1∈ids:=fun p hp=>by
 unfold φS at hp
 obtain ⟨i,hi,hp⟩:=List.mem_flatMap.1 hp
 unfold φ11 at hp
 obtain ⟨x,_,rfl⟩:=mM.1 hp
 exact hi
theorem φEH {s:φ6} {d:φ1} (h:JR s d):∃t y,φ2N d=(t,y,0)∧JR t y∧t.1.2=s.1.2∧t.2.1=s.2.1∧t.2.2.1≤s.2.2.1∧φU t y=φU s d∧y.2.1=d.2.1∧φH y.1≤φH d.1∧(y.2=d.2∧(∀n,(φ2 y n).2=true→φ2 y n=φ2 d n)∧φS y t.1.2=φS d s.1.2∧t.1.1≤s.1.1∧t.2.2.2.1=s.2.2.2.1):=by
 obtain ⟨q1,q2,q3,q4,q5,q6⟩:=φg.1 h.ok
 obtain ⟨nx,n1,n2,n3⟩:=h.liv
 obtain ⟨last,r1,r2⟩:=h.reg
 have hF:=h.fre
 obtain ⟨g1,g2⟩:=(φ1q _).1 q5
 have hne:=φ3D q2
 have g2:=g2 hne
 have hl1:=φ5O (nx,s.1.2)
 have hrl:φ2v (φl (nx,s.1.2))=((nx,s.1.2),true):=φJ0 ⟨n2,rfl⟩ (by omega)
 have hsh:φ2Z d s.1.2=true:=φEQ g1
 obtain ⟨e1,e2⟩:=g1 _ (φ33 hne)
 have hcn:cutN (nx,s.1.2) d=(φ2 d (φ0 (φM s.1.2))).1.length:=e2
 have hcut:cutW (nx,s.1.2) d=φG (φ0 (φM s.1.2)) d:=by
  unfold cutW
  rw[if_pos hcn.symm]
  rfl
 have hs0:(φG (φ0 (φM s.1.2)) d).2=0:=φ7i q1 hF e1
 have hx:=φ3J q1 (φ0 (φM s.1.2))
 have hxF:Free (φG (φ0 (φM s.1.2)) d).1:=φ1I hF
 have hft:∀n,φ2 (φG (φ0 (φM s.1.2)) d).1 n=φ2 d n:=fun n=>φ2K q1 _ n
 have hsw:(φq (nx,s.1.2) (φG (φ0 (φM s.1.2)) d).1).2=0:=φ9Z _ (w:=((φG (φ0 (φM s.1.2)) d).1,0)) hx hxF rfl
 have hrg:φ2O ([],0,0) (φS d s.1.2)=(s.2.1,last,0):=by
  unfold φ2O φ7S
  rw[r1,h.own,if_neg (by simp)]
 obtain ⟨hin,eo,_⟩:=φJ8 (v:=(nx,s.1.2)) q1 n2 e1 (by rw[hcut];exact hs0)
 have ho:φ2N d=(((nx,s.1.2),s.2.1,w64 (last+1),(cutN (nx,s.1.2) d:Int),hin),(φq (nx,s.1.2) (φG (φ0 (φM s.1.2)) d).1).1,0):=by
  unfold φ2N
  rw[if_neg (by rw[q1];simp),if_neg (by rw[hF.up];simp),n3,if_neg (by simp),hrl,if_neg (by simp),if_neg (by rw[hsh];simp),eo,hcut,hrg]
  unfold φ5H
  rw[if_neg (by simp),if_neg (by rw[hsw];simp)]
 refine ⟨_,_,ho,?_⟩
 -- what the disk has
 have hy:=φ7r hx (nx,s.1.2)
 have hyF:Free (φq (nx,s.1.2) (φG (φ0 (φM s.1.2)) d).1).1:=φ5P (P:=Free) (fun d act k=>φ1I k) _ hxF
 have hrange:∀id∈s.1.2,1≤id∧id≤100000∧id<nx:=fun id hid=>φBV (v:=(nx,s.1.2)) n2 hid
 have hsegs:∀id∈s.1.2,φ2 (φq (nx,s.1.2) (φG (φ0 (φM s.1.2)) d).1).1 (φ0 id)=φ2 d (φ0 id):=fun id hid=>by
  have hr:=hrange id hid
  rw[φEt hx (fun j hj=>by rw[φF6 hj (φNa ⟨hr.1,hr.2.1⟩)];exact hid) (φ49 id),hft]
 have hlv:φ2 (φq (nx,s.1.2) (φG (φ0 (φM s.1.2)) d).1).1 φa=(φl (nx,s.1.2),true):=by
  rw[φEt hx (fun j hj=>absurd ⟨j,hj⟩ φLL) (by decide),hft,n3]
 have hcap:(φq (nx,s.1.2) (φG (φ0 (φM s.1.2)) d).1).1.2.1=d.2.1∧φH (φq (nx,s.1.2) (φG (φ0 (φM s.1.2)) d).1).1.1≤φH d.1:=by
  rw[φAk hx hxF,φDF q1 hF e1]
  refine ⟨rfl,?_⟩
  show φH ((onF _ φ7c d.1).filter _)≤_
  refine Nat.le_trans (φ6U _ List.filter_sublist) ?_
  show φH (onF _ φ7c d.1)≤_
  have:∀l:List φ4,φH (onF (φ0 (φM s.1.2)) φ7c l)=φH l:=fun l=>by
   unfold φH onF
   induction l with
   | nil=>rfl
   | cons f l ih=>
    simp only[κ5,sumN,ih]
    congr 1
    split<;>rfl
  rw[this];exact κ6 _
 have hkeep:(φq (nx,s.1.2) (φG (φ0 (φM s.1.2)) d).1).1.2=d.2∧∀n,(φ2 (φq (nx,s.1.2) (φG (φ0 (φM s.1.2)) d).1).1 n).2=true→φ2 (φq (nx,s.1.2) (φG (φ0 (φM s.1.2)) d).1).1 n=φ2 d n:=by
  refine ⟨by rw[φAk hx hxF,φDF q1 hF e1],fun n hn=>?_⟩
  rw[←hft n]
  by_cases hex:∃f∈(φq (nx,s.1.2) (φG (φ0 (φM s.1.2)) d).1).1.1,f.1=n
  ·obtain ⟨f,hf,rfl⟩:=hex
   have hf2:f∈(φG (φ0 (φM s.1.2)) d).1.1:=by
    rw[φAk hx hxF] at hf
    exact (List.mem_filter.1 hf).1
   rw[φ2r hy hf,φ2r hx hf2]
  ·exfalso
   rw[φ9r fun f hf e=>hex ⟨f,hf,e⟩] at hn
   simp at hn
 generalize (φq (nx,s.1.2) (φG (φ0 (φM s.1.2)) d).1).1=y at *
 have hpl:=φ5T hsegs
 -- what the directory's entries are
 have hmem:∀e∈s.2.1,∃p∈φS d s.1.2,e=entP p:=fun e he=>by
  have:e∈(φp [] (φS d s.1.2) ([],0,0)).1:=by rw[r1];exact he
  rcases φHH _ _ _ e this with k | ⟨p,hp,x⟩
  ·simp at k
  ·exact ⟨p,by simpa using hp,x⟩
 obtain ⟨l0,lall⟩:=φEC (φS d s.1.2) [] ([],0,0) (by rw[r1])
 rw[r1] at l0 lall
 have l0:0≤last:=l0
 have lall:∀p∈φS d s.1.2,p.2.2.2.2.1≤last:=lall
 have hseg:∀e∈s.2.1,e.2.1∈s.1.2∧e.2.2.2.2≤last:=fun e he=>by
  obtain ⟨p,hp,rfl⟩:=hmem e he
  exact ⟨φJB p hp,lall p hp⟩
 have hw:w64 (last+1)=last+1:=φJ (by omega) (by omega)
 rw[hw]
 have hok:φf ((nx,s.1.2),s.2.1,last+1,(cutN (nx,s.1.2) d:Int),hin) y=true:=φg.2 ⟨hy,n2,q3,⟨by show 1≤last+1;omega,by show last+1≤1000001;omega⟩,(φ1q _).2 ⟨fun id hid=>by rw[hsegs id hid];exact g1 id hid,fun hne=>by rw[hsegs _ (φ33 hne),hcn]⟩,fun e he=>by
  obtain ⟨s1,s2⟩:=hseg e he
  have k:=φ31.1 (q6 e he)
  have:φ1F y e=φ1F d e:=by unfold φ1F;rw[hsegs _ s1]
  rw[φ31,this]
  exact ⟨k.1,k.2.1,k.2.2.1,k.2.2.2.1,by show e.2.2.2.2<last+1;omega⟩⟩
 refine ⟨⟨⟨hok,fun e he=>?_,⟨nx,κR _,n2,hlv⟩,hyF⟩,⟨last,by show φp [] (φS y s.1.2) _=_;rw[hpl];exact r1,by show last<last+1;omega⟩,fun p hp=>?_,by show ownL 5 0 (φS y s.1.2)=[];rw[hpl];exact h.own⟩,rfl,rfl,by show last+1≤_;omega,?_,hcap.1,hcap.2,hkeep.1,hkeep.2,hpl,n1,by show (cutN (nx,s.1.2) d:Int)=_;rw[hcn];exact g2.symm⟩
 ·have:=hrange _ (hseg e he).1
  exact this.2.2
 ·have hp:p∈φS y s.1.2:=hp
  rw[hpl] at hp
  have:=lall p hp
  show _<last+1
  omega
 ·rw[φ2q hok,φ2q h.ok]
  congr 1
  show mapG (φ1P y) s.2.1=mapG (φ1P d) s.2.1
  unfold mapG
  refine List.map_congr_left fun e he=>?_
  have:=hsegs _ (hseg e he).1
  congr 1
  unfold φ1P
  rw[this]
theorem φL6 (n:Nat) (h:n≤100000) (h8:8≤n):JR ((2,[1]),[],1,0,0) (dNew n):=by
 obtain ⟨f1,f2,f3⟩:=φAu n h h8
 have hpl:φS (dNew n) [1]=[]:=by
  rw[φ9b]
  unfold φ11
  rw[f2,φ6z];rfl
 refine ⟨⟨φL2 n h h8,fun e he=>by simp at he,⟨2,κR _,φKT,f1⟩,rfl⟩,⟨0,by show φp [] (φS (dNew n) [1]) _=_;rw[hpl];rfl,by decide⟩,fun p hp=>?_,by show ownL 5 0 (φS (dNew n) [1])=[];rw[hpl];rfl⟩
 have hp:p∈φS (dNew n) [1]:=hp
 rw[hpl] at hp
 simp at hp
theorem φKl (c:Int):told c=0∨told c=1∨told c=2∨told c=3:=by
 unfold told
 split
 ·exact .inl rfl
 split
 ·exact .inr (.inl rfl)
 split
 ·exact .inr (.inr (.inl rfl))
 ·exact .inr (.inr (.inr rfl))
def φ3V (c:Int):Prop:=0≤c∧c≤5
theorem φ6Q (c:Int):φ3V (told c):=by
 unfold φ3V
 rcases φKl c with e | e | e | e<;>rw[e]<;>decide
theorem φJM {names:List (List UInt8)} {w:φD} (h:φ3V w.2):φ3V (φ1e names w).2:=by
 unfold φ1e
 split
 ·split
  ·exact ⟨by show (0:Int)≤2;decide,by show (2:Int)≤5;decide⟩
  ·exact φ6Q _
 ·exact h
theorem φJ3 (s:φ6) (d:φ1):φ3V (rotP s d).2.2:=by
 unfold rotP
 split
 ·exact ⟨by show (0:Int)≤5;decide,by show (5:Int)≤5;decide⟩
 split
 ·exact φ6Q _
 simp only
 split
 ·exact φ6Q _
 split
 ·exact φJM (φ6Q _)
 ·exact ⟨κR _,by show (0:Int)≤5;decide⟩
theorem φKx (s:φ6) (d:φ1) (r:RecT):φ3V (addP s d r).2.2.1:=by
 have h:φ3V (addR s d (frame (φ5 r))).2.2:=by
  unfold addR
  split
  ·exact φJ3 s d
  ·exact ⟨κR _,by show (0:Int)≤5;decide⟩
 unfold addP
 simp only
 split
 ·exact h
 split
 ·exact φ6Q _
 ·exact ⟨κR _,by show (0:Int)≤5;decide⟩
theorem φDM:∀(rs:List RecT) (s:φ6) (d:φ1),φ3V (φd rs s d).2.2.1
 | [],_,_=>⟨κR _,by show (0:Int)≤5;decide⟩
 | r::rs,s,d=>by
  unfold φd
  split
  ·exact φKx s d r
  ·exact φDM rs _ _
theorem φLH (s:φ6) (d:φ1) (l:List PutT):φ3V (φ1N s d l).2.2:=by
 unfold φ1N
 simp only
 split
 ·exact φDM _ _ _
 split
 ·exact φ6Q _
 ·exact ⟨κR _,by show (0:Int)≤5;decide⟩
theorem φFQ {s s':φ6} {d d':φ1} {m:Int} (h:φf s d=true) (h':φf s' d'=true) (hd:s'.2.1=s.2.1) (hk:φ2z m d d') (hm:∀e∈s.2.1,e.2.1<m):φU s' d'=φU s d:=by
 rw[φ2q h,φ2q h',hd,φHc h hk hm]
theorem φKO {s:φ6} {d:φ1} (h:JR s d) {l:List PutT} (hp:φ27 l=true) (hb:s.2.2.1≤1000000) (hc:(φ1N s d l).2.2≠0):(φ1N s d l).1.2.1=s.2.1∧φ2z s.1.1 d (φ1N s d l).2.1:=by
 obtain ⟨q1,q2,q3,q4,q5,q6⟩:=φg.1 h.ok
 have hrec:=φ6n (b:=s.2.2.1) (l:=l) ⟨q4.1,hb⟩ hp
 obtain ⟨P,g1,g2,g3,g4,g5⟩:=φ7A (φ1n s.2.2.1 l) _ _ (h.toJB.bump hb) hrec
 unfold φ1N at hc ⊢
 generalize φd (φ1n s.2.2.1 l) (s.1,s.2.1,s.2.2.1+1,s.2.2.2) d=g at *
 simp only at hc ⊢
 by_cases c:g.2.2.1=0
 rotate_left
 ·rw[if_pos c]
  exact ⟨g1.dir,g1.kp⟩
 rw[if_neg (by simpa using c)] at hc ⊢
 by_cases c2:(φG (actN g.1) g.2.1).2=0
 rotate_left
 ·rw[if_pos c2]
  refine ⟨g1.dir,fun e e1 e2 e3=>?_⟩
  obtain ⟨b1,_⟩:=φg.1 g1.jb.ok
  have:=g1.kp e e1 e2 e3
  unfold φ1F at this ⊢
  show φ1J (φ2 (φG (actN g.1) g.2.1).1 (φ0 e.2.1)).1 _ _=_
  rw[φ2K b1]
  exact this
 ·rw[if_neg (by simpa using c2)] at hc
  exact absurd rfl hc
theorem φFx {s:φ6} {d:φ1} (h:JR s d) (l:List PutT):JR (φ2Q s d l).1 (φ2Q s d l).2.1∧φ3V (φ2Q s d l).2.2 ∧
  ((φ2Q s d l).2.2=0→φU (φ2Q s d l).1 (φ2Q s d l).2.1=(φ2E (φU s d).1 l s.2.2.1,0))∧((φ2Q s d l).2.2≠0→φU (φ2Q s d l).1 (φ2Q s d l).2.1=φU s d):=by
 have hd0:φU s d=((φU s d).1,0):=by rw[φ2q h.ok]
 unfold φ2Q
 by_cases c1:φf s d=false∨φ27 l=false
 ·rw[if_pos c1]
  exact ⟨h,by show φ3V 4;exact ⟨by decide,by decide⟩,fun e=>by simp at e,fun _=>rfl⟩
 rw[if_neg c1]
 by_cases c2:l.length=0
 ·rw[if_pos c2]
  refine ⟨h,by show φ3V 0;exact ⟨by decide,by decide⟩,fun _=>?_,fun e=>absurd rfl e⟩
  have:l=[]:=List.length_eq_zero_iff.1 c2
  subst this
  exact hd0
 rw[if_neg c2]
 by_cases c3:20<φ2n s.2.1 l∨s.2.2.1 > 1000000
 ·rw[if_pos c3]
  exact ⟨h,by show φ3V 5;exact ⟨by decide,by decide⟩,fun e=>by simp at e,fun _=>rfl⟩
 rw[if_neg c3]
 have hp:φ27 l=true:=by
  cases hp:φ27 l with
  | true=>rfl
  | false=>exact absurd (.inr hp) c1
 have hJ:=φF9 h hp (by omega) (by omega)
 refine ⟨hJ,φLH s d l,fun hc=>?_,fun hc=>?_⟩
 ·obtain ⟨r1,r2,r3,r4,r5⟩:=φAx h.ok h.lt hp (by omega) (by omega) hc
  rw[←r3,φ2q r1]
 ·obtain ⟨f1,f2⟩:=φKO h hp (by omega) hc
  exact φFQ h.ok hJ.ok f1 f2 h.lt
theorem φG9 {s:φ6} {d:φ1} (h:JR s d):JR (φ1x s d).1 (φ1x s d).2.1∧φU (φ1x s d).1 (φ1x s d).2.1=φU s d:=by
 unfold φ1x
 rw[if_neg (by rw[h.ok];simp)]
 by_cases c:s.1.1+2 > 100000
 ·rw[if_pos c];exact ⟨h,rfl⟩
 rw[if_neg c]
 have hJ:=φNr h (by omega)
 refine ⟨hJ,?_⟩
 obtain ⟨q1,q2,q3,q4,q5,q6⟩:=φg.1 h.ok
 by_cases hc:(φ14 s d (φU s d).1).2.2=0
 ·have hM:=φFB (φU s d).1 q1 q2 (by omega) hc
  exact (φ90 h.ok (by omega) hM).2.1
 ·obtain ⟨f1,f2,f3,f4,f5⟩:=φEK (φU s d).1 h.toJB (by omega) hc
  refine φFQ (m:=s.1.1) h.ok hJ.ok (by rw[f1]) (fun e e1 e2 e3=>?_) h.lt
  unfold φ1F
  rw[f5 _ ⟨e1,e2⟩]
abbrev EngT:=Bool×φ6×φ1×List TxnT
abbrev φt:=Int×Int×List UInt8×List UInt8×Int
abbrev AnsT:=Int×List UInt8×List (List UInt8)
def TB (l:List TxnT):Prop:=l.length=3∧∀t∈l,t.2.1.length≤20∧t.2.2.length≤50
structure EI (e:EngT):Prop where
 up:e.1=true→JR e.2.1 e.2.2.1
 dn:e.1=false→(∃s,JR s e.2.2.1)∧e.2.1.1.2.length≤100∧e.2.1.2.1.length≤100
 tx:TB e.2.2.2
theorem TB.new:TB (κX 3 ((false,[],[]):TxnT)):=⟨rfl,fun t ht=>by
 have:=List.eq_of_mem_replicate ht
 subst this
 exact ⟨by simp,by simp⟩⟩
theorem TB.set {l:List TxnT} (h:TB l) (i:Nat) {t:TxnT} (ht:t.2.1.length≤20∧t.2.2.length≤50):TB (l.set i t):=⟨by rw[List.length_set];exact h.1,fun x hx=>by
 rcases κc hx with hx | rfl
 ·exact h.2 x hx
 ·exact ht⟩
theorem JR.small {s:φ6} {d:φ1} (h:JR s d):SmallS s d:=by
 have:=φKK h.ok
 exact this
theorem EI.small {e:EngT} (h:EI e):SmallS e.2.1 e.2.2.1∧φ3 e.2.2.1=true:=by
 cases c:e.1 with
 | true=>exact ⟨(h.up c).small,(φg.1 (h.up c).ok).1⟩
 | false=>
  obtain ⟨⟨s,hs⟩,h1,h2⟩:=h.dn c
  have hd:=(φg.1 hs.ok).1
  exact ⟨⟨φ3Z (φ12 hd) (by omega),by omega,by omega⟩,hd⟩
theorem φJ1 {t:TxnT} (h:t.2.1.length≤20∧t.2.2.length≤50) (p:PutT):(φ2F t p).1.2.1.length≤20∧(φ2F t p).1.2.2.length≤50:=by
 unfold φ2F
 split
 ·refine ⟨h.1,?_⟩
  simp;omega
 ·exact h
theorem EI.same {e:EngT} (h:EI e) {l:List TxnT} (hl:TB l):EI (e.1,e.2.1,e.2.2.1,l):=⟨h.up,h.dn,hl⟩
theorem EI.store {e:EngT} (h:EI e) (hu:e.1=true) {s:φ6} {d:φ1} (hj:JR s d) {l:List TxnT} (hl:TB l):EI (e.1,s,d,l):=⟨fun _=>hj,fun c=>by rw[hu] at c;simp at c,hl⟩
theorem φNB (l:List TxnT) (hl:l.length<1000000) (ht:∀t∈l,t.2.1.length≤20∧t.2.2.length≤50):ψ1P.f l=some l:=by
 have key:=φEJ (step:=ψ1P.l0) (fun n (a:List TxnT)=>(a,l,(l.length:Int),(n:Int))) l.length (fun n a=>a=l.take n) (fun b=>b=l)
  (fun rec a hi=>⟨_,by simp[ψ1P.l0];rfl,by rw[hi,κU]⟩)
  (fun rec n a hn hi=>by
   have e0:(n:Int)<(l.length:Int):=by omega
   have hw:=φR (show n+1<9223372036854775808 by omega)
   have h:=ht _ (gM hn)
   have hc:=φA4 l[n] (by omega) (by omega)
   have hal:a.length=n:=by rw[hi,lT];omega
   have q:decide ((a.length+(0+1)) * 56≤140737488355328)=true:=by simp;omega
   refine ⟨a++[l[n]],by rw[hi,κ4 hn],?_⟩
   simp only[ψ1P.l0,e0,dT,cT,φK,hn,φN,φE hn,φ2c,hc,bS,lC,lN,q,hw])
  [] (by simp) (by omega)
 obtain ⟨b,k,kb⟩:=key
 unfold ψ1P.f
 have k:lp ψ1P.l0 ([],l,(l.length:Int),0)=some b:=k
 rw[k,kb];rfl
abbrev zTx:List TxnT:=κX 3 (false,[],[])
abbrev φNq (d:φ1):EngT:=(false,((0,[]),[],0,0,0),d,zTx)
theorem φJL {e:EngT} (h1:e.2.1.1.2.length≤1000) (h2:e.2.1.2.1.length≤1000) (h3:e.2.2.1.1.length<200000) (hl:e.2.2.2.length≤3) (ht:∀t∈e.2.2.2,t.2.1.length≤20∧t.2.2.length≤50):ψ1K.f e=some e:=by
 unfold ψ1K.f
 simp only[φC8 e.2.1 (by omega) (by omega),φ5U e.2.2.1 (by omega),φNB e.2.2.2 (by omega) ht,bS,φ2c]
def C2 (c:Int):Prop:=c=0∨c=2
theorem φGv {id:Int} (h:1≤id∧id≤100000):φ1i (φI id)=true:=by
 have hl:=φCC id
 rw[φ7h h] at hl ⊢
 have hs:=φ5k h
 rw[φ75 h] at hs
 unfold φ1i at hs ⊢
 simp only[bA,decide_eq_true_eq,List.all_append,lA] at hs ⊢
 refine ⟨⟨by decide,hs.1.2⟩,?_,?_⟩
 ·show 1≤4+_;omega
 ·rw[lA] at hl;show 4+_≤12;have:([104,105,110,116]:List UInt8).length=4:=rfl;omega
theorem φ7L {c:Int} (h:C2 c):told c=c:=by
 rcases h with rfl | rfl<;>rfl
structure FD (d:φ1):Prop where
 dk:φ3 d=true
 fr:Free d
theorem φCD {d:φ1} (h:FD d) (n:List UInt8):FD (φB n d).1∧(φB n d).2=0∧(φ2 (φB n d).1 n).2=false:=
 ⟨⟨φ2P h.dk n,φ5F (P:=Free) (fun d act k=>φ1I k) n h.fr⟩,φBy h.dk h.fr n,φAB (φBy h.dk h.fr n)⟩
theorem φGw {d:φ1} (h:FD d) {n:List UInt8} (hn:φ1i n=true) (ha:(φ2 d n).2=false):FD (φV n d).1∧C2 (φV n d).2:=by
 refine ⟨⟨φ39 h.dk n,φ1I h.fr⟩,?_⟩
 unfold φV
 rw[φ4D h.dk h.fr]
 unfold φ2e
 simp only
 rw[if_neg (by rw[hn];simp),if_neg]
 ·split
  ·exact .inr rfl
  ·exact .inl rfl
 ·rcases φv d.1 n with ⟨e,_⟩ | ⟨i,hi,e,hx⟩
  ·rw[e];decide
  ·exfalso
   have:=φ2r h.dk (gM hi)
   rw[hx] at this
   rw[this] at ha;simp at ha
theorem φB4 {d:φ1} (h:FD d) {n:List UInt8} (hn:(φ2 d n).2=true) (t:List UInt8):FD (φL n t d).1∧C2 (φL n t d).2:=by
 refine ⟨⟨φ3N h.dk n t,φ1I h.fr⟩,?_⟩
 obtain ⟨i,hi,e,_⟩:=φ57 hn
 unfold φL
 rw[φ4D h.dk h.fr]
 unfold φ2S
 simp only
 rw[e]
 simp only
 split
 ·exact .inr rfl
 ·exact .inl rfl
theorem φ8l {d:φ1} (h:FD d) {n:List UInt8} (hn:(φ2 d n).2=true):FD (φG n d).1∧(φG n d).2=0:=
 ⟨⟨φ3J h.dk n,φ1I h.fr⟩,φ7i h.dk h.fr hn⟩
theorem φBM {w:φD} (h:FD w.1) (hc:C2 w.2) {n:List UInt8} (hn:φ1i n=true):FD (sNew n w).1∧C2 (sNew n w).2:=by
 obtain ⟨d,c⟩:=w
 rcases hc with hc | hc
 ·have hc:c=0:=hc
  subst hc
  obtain ⟨g1,g2,g3⟩:=φCD h n
  have e:sNew n (d,0)=φV n (φB n d).1:=by
   unfold sNew φ9
   rw[if_pos rfl,if_pos g2]
  rw[e]
  exact φGw g1 hn g3
 ·have hc:c=2:=hc
  subst hc
  rw[φGD (by decide)]
  exact ⟨h,.inr rfl⟩
theorem φEZ {w:φD} (h:FD w.1) (hc:C2 w.2) {n:List UInt8} (hn:φ1i n=true) (t:List UInt8):FD (φ1Q n t w).1∧C2 (φ1Q n t w).2:=by
 obtain ⟨g1,g2⟩:=φBM h hc hn
 show FD (φ9 (φG n) (φ9 (φL n t) (sNew n w))).1∧C2 (φ9 (φG n) (φ9 (φL n t) (sNew n w))).2
 by_cases c:(sNew n w).2=0
 ·obtain ⟨_,ht⟩:=φ6w c
  obtain ⟨a1,a2⟩:=φB4 g1 (n:=n) (by rw[ht]) t
  have e1:φ9 (φL n t) (sNew n w)=φL n t (sNew n w).1:=by unfold φ9;rw[if_pos c]
  rw[e1]
  by_cases c2:(φL n t (sNew n w).1).2=0
  ·have e2:φ9 (φG n) (φL n t (sNew n w).1)=φG n (φL n t (sNew n w).1).1:=by unfold φ9;rw[if_pos c2]
   rw[e2]
   obtain ⟨s1,s2⟩:=φ8l a1 (n:=n) (by rw[(φ4F c2).2])
   exact ⟨s1,.inl s2⟩
  ·have e2:φ9 (φG n) (φL n t (sNew n w).1)=φL n t (sNew n w).1:=by unfold φ9;rw[if_neg c2]
   rw[e2];exact ⟨a1,a2⟩
 ·have e1:φ9 (φL n t) (sNew n w)=sNew n w:=by unfold φ9;rw[if_neg c]
  have e2:φ9 (φG n) (sNew n w)=sNew n w:=by unfold φ9;rw[if_neg c]
  rw[e1,e2];exact ⟨g1,g2⟩
theorem φD3 {w:φD} (h:FD w.1) (hc:C2 w.2) (v:φP):FD (sPut v w).1∧C2 (sPut v w).2:=by
 obtain ⟨g1,g2⟩:=φEZ h hc (n:=[116,101,109,112]) (by decide) (φl v)
 refine ⟨⟨φ3r h.dk v,φ7P (P:=Free) (fun d act k=>φ1I k) v h.fr⟩,?_⟩
 unfold sPut φ9
 by_cases c:(φ1Q [116,101,109,112] (φl v) w).2=0
 ·rw[if_pos c]
  obtain ⟨_,ht⟩:=φ95 c
  obtain ⟨i,hi,e,hx,_⟩:=φ57 (by rw[ht])
  left
  show (φT _ (φ2B [116,101,109,112] [108,105,118,101])).2=0
  rw[φ4D g1.dk g1.fr]
  unfold φ2B
  rw[if_neg (by decide),e]
 ·rw[if_neg c];exact g2
theorem φKR {d:φ1} (h:FD d) (names:List (List UInt8)):FD (φm names (d,0)).1∧(φm names (d,0)).2=0:=
 ⟨⟨φ4i names h.dk,φ5P (P:=Free) (fun d act k=>φ1I k) names h.fr⟩,φ9Z names h.dk h.fr rfl⟩
theorem φH4 {names:List (List UInt8)} {w:φD} (h:FD w.1) (hc:C2 w.2):C2 (φ1e names w).2:=by
 unfold φ1e
 split
 ·split
  ·exact .inr rfl
  ·show C2 (told (φm names (w.1,0)).2)
   rw[(φKR h names).2];exact .inl rfl
 ·exact hc
theorem JB.fd {s:φ6} {d:φ1} (h:JB s d):FD d:=⟨(φg.1 h.ok).1,h.fre⟩
theorem φK6 {s:φ6} {d:φ1} (h:JB s d):C2 (rotP s d).2.2∨(rotP s d).2.2=5:=by
 obtain ⟨q1,q2,q3,q4,q5,q6⟩:=φg.1 h.ok
 obtain ⟨k1,k2,k3,k4⟩:=(φ13 s.1).1 q2
 have hex:(φ2 d (actN s)).2=true:=(((φ1q _).1 q5).1 _ (φ33 (φ3D q2))).1
 obtain ⟨s1,s2⟩:=φ8l h.fd hex
 obtain ⟨g1,g2,g3⟩:=φCD s1 (φ0 s.1.1)
 have hn:=φ5k (id:=s.1.1) ⟨k2.1,k2.2⟩
 obtain ⟨c1,c2⟩:=φGw g1 hn g3
 have e:φ9 (φV (φ0 s.1.1)) (φB (φ0 s.1.1) (φG (actN s) d).1)=φV (φ0 s.1.1) (φB (φ0 s.1.1) (φG (actN s) d).1).1:=by unfold φ9;rw[if_pos g2]
 unfold rotP
 split
 ·exact .inr rfl
 left
 rw[if_neg (by rw[s2];simp)]
 simp only
 rw[e]
 split
 ·show C2 (told _)
  rw[φ7L c2];exact c2
 obtain ⟨p1,p2⟩:=φD3 (w:=((φV (φ0 s.1.1) (φB (φ0 s.1.1) (φG (actN s) d).1).1).1,0)) c1 (.inl rfl) (s.1.1+1,s.1.2++[s.1.1])
 split
 ·refine φH4 (w:=φA _) p1 ?_
  show C2 (told _)
  rw[φ7L p2];exact p2
 ·exact .inl rfl
theorem φLT {s:φ6} {d:φ1} (h:JB s d) (r:RecT):C2 (addP s d r).2.2.1∨(addP s d r).2.2.1=5:=by
 have hR:Grow s d (addR s d (frame (φ5 r))).1 (addR s d (frame (φ5 r))).2.1 []∧(C2 (addR s d (frame (φ5 r))).2.2∨(addR s d (frame (φ5 r))).2.2=5):=by
  unfold addR
  split
  ·exact ⟨φBb h,φK6 h⟩
  ·exact ⟨Grow.refl h,.inl (.inl rfl)⟩
 unfold addP
 generalize addR s d (frame (φ5 r))=R at *
 obtain ⟨hR,hc⟩:=hR
 simp only
 split
 ·exact hc
 obtain ⟨q1,q2,q3,q4,q5,q6⟩:=φg.1 hR.jb.ok
 have hex:(φ2 R.2.1 (actN R.1)).2=true:=(((φ1q _).1 q5).1 _ (φ33 (φ3D q2))).1
 obtain ⟨a1,a2⟩:=φB4 hR.jb.fd hex (frame (φ5 r))
 split
 ·left;show C2 (told _);rw[φ7L a2];exact a2
 ·exact .inl (.inl rfl)
theorem φEO:∀(rs:List RecT) (s:φ6) (d:φ1),JB s d→(∀r∈rs,φZ r=true)→C2 (φd rs s d).2.2.1∨(φd rs s d).2.2.1=5
 | [],_,_,_,_=>.inl (.inl rfl)
 | r::rs,s,d,h,hr=>by
  unfold φd
  split
  ·exact φLT h r
  ·rename_i c
   obtain ⟨p,g,_⟩:=(φAl h (hr r (by simp))).1 (by simpa using c)
   exact φEO rs _ _ g.jb fun x hx=>hr x (by simp[hx])
def C4 (c:Int):Prop:=c=0∨c=2∨c=4∨c=5
theorem C2.c4 {c:Int} (h:C2 c):C4 c:=h.elim .inl fun k=>.inr (.inl k)
theorem φIh {s:φ6} {d:φ1} (h:JR s d) (l:List PutT):C4 (φ2Q s d l).2.2:=by
 obtain ⟨q1,q2,q3,q4,q5,q6⟩:=φg.1 h.ok
 unfold φ2Q
 by_cases c1:φf s d=false∨φ27 l=false
 ·rw[if_pos c1];exact .inr (.inr (.inl rfl))
 rw[if_neg c1]
 by_cases c2:l.length=0
 ·rw[if_pos c2];exact .inl rfl
 rw[if_neg c2]
 by_cases c3:20<φ2n s.2.1 l∨s.2.2.1 > 1000000
 ·rw[if_pos c3];exact .inr (.inr (.inr rfl))
 rw[if_neg c3]
 have hp:φ27 l=true:=by
  cases hp:φ27 l with
  | true=>rfl
  | false=>exact absurd (.inr hp) c1
 have hrec:=φ6n (b:=s.2.2.1) (l:=l) ⟨q4.1,by omega⟩ hp
 have hJ1:=h.toJB.bump (by omega)
 have hC:=φEO (φ1n s.2.2.1 l) _ _ hJ1 hrec
 obtain ⟨P,g1,_⟩:=φ7A (φ1n s.2.2.1 l) _ _ hJ1 hrec
 unfold φ1N
 generalize φd (φ1n s.2.2.1 l) (s.1,s.2.1,s.2.2.1+1,s.2.2.2) d=g at *
 simp only
 split
 ·rcases hC with hC | hC
  ·exact hC.c4
  ·exact .inr (.inr (.inr hC))
 obtain ⟨b1,b2,b3,b4,b5,b6⟩:=φg.1 g1.jb.ok
 have hex:(φ2 g.2.1 (actN g.1)).2=true:=(((φ1q _).1 b5).1 _ (φ33 (φ3D b2))).1
 rw[if_neg (by rw[(φ8l g1.jb.fd hex).2];simp)]
 exact .inl rfl
theorem φC2 (n:List UInt8):∀(recs:List RecT) {w:φD},FD w.1→C2 w.2→(w.2=0→(φ2 w.1 n).2=true)→FD (sApp n recs w).1∧C2 (sApp n recs w).2∧((sApp n recs w).2=0→(φ2 (sApp n recs w).1 n).2=true)
 | [],w,h,hc,he=>⟨h,hc,he⟩
 | r::recs,w,h,hc,he=>by
  have es:sApp n (r::recs) w=sApp n recs (φ9 (φL n (frame (φ5 r))) w):=rfl
  rw[es]
  by_cases c:w.2=0
  ·have e:φ9 (φL n (frame (φ5 r))) w=φL n (frame (φ5 r)) w.1:=by unfold φ9;rw[if_pos c]
   obtain ⟨a1,a2⟩:=φB4 h (he c) (frame (φ5 r))
   rw[e]
   exact φC2 n recs (w:=φL n (frame (φ5 r)) w.1) a1 a2 fun c2=>by rw[(φ4F c2).2]
  ·have e:φ9 (φL n (frame (φ5 r))) w=w:=by unfold φ9;rw[if_neg c]
   rw[e]
   exact φC2 n recs (w:=w) h hc he
theorem φJD {w:φD} (h:FD w.1) (hc:C2 w.2) {n:List UInt8} (he:w.2=0→(φ2 w.1 n).2=true):FD (φ9 (φG n) w).1∧C2 (φ9 (φG n) w).2:=by
 unfold φ9
 by_cases c:w.2=0
 ·rw[if_pos c]
  obtain ⟨a,b⟩:=φ8l h (he c)
  exact ⟨a,.inl b⟩
 ·rw[if_neg c];exact ⟨h,hc⟩
theorem φO6 {d:φ1} (h:FD d) {m:Int} (hm:1≤m∧m≤100000):FD (φ1u m d).1∧(φ1u m d).2=0:=by
 obtain ⟨a,b⟩:=φEZ (w:=(d,0)) h (.inl rfl) (φGv hm) (φ1S (φ15 m (φ2 d (φ0 m)).1).1)
 unfold φ1u
 simp only
 split
 ·obtain ⟨x,y,_⟩:=φCD a (φI m)
  exact ⟨x,y⟩
 ·rename_i c
  exact ⟨a,b.elim id fun k=>absurd k c⟩
theorem φNu {s:φ6} {d:φ1} (h:JR s d):C4 (φ1x s d).2.2:=by
 obtain ⟨q1,q2,q3,q4,q5,q6⟩:=φg.1 h.ok
 obtain ⟨k1,k2,k3,k4⟩:=(φ13 s.1).1 q2
 unfold φ1x
 rw[if_neg (by rw[h.ok];simp)]
 by_cases c:s.1.1+2 > 100000
 ·rw[if_pos c];exact .inr (.inr (.inr rfl))
 rw[if_neg c]
 refine C2.c4 ?_
 generalize (φU s d).1=l
 have n1:=φ5k (id:=s.1.1) ⟨k2.1,k2.2⟩
 have n2:=φ5k (id:=s.1.1+1) ⟨by omega,by omega⟩
 obtain ⟨a1,a2⟩:=φBM (w:=(d,0)) h.fd (.inl rfl) n1
 obtain ⟨b1,b2,b3⟩:=φC2 (φ0 s.1.1) (φW l (s.2.2.1 - 1)) a1 a2 fun e=>by rw[(φ6w e).2]
 obtain ⟨c1,c2⟩:=φJD b1 b2 b3
 have c1:FD (sWM s.1.1 (φW l (s.2.2.1 - 1)) (d,0)).1:=c1
 obtain ⟨d1,d2⟩:=φBM c1 c2 n2
 unfold φ14
 simp only
 have d1:FD (sNew (φ0 (s.1.1+1)) (sWM s.1.1 (φW l (s.2.2.1 - 1)) (d,0))).1:=d1
 have d2:C2 (sNew (φ0 (s.1.1+1)) (sWM s.1.1 (φW l (s.2.2.1 - 1)) (d,0))).2:=d2
 generalize sNew (φ0 (s.1.1+1)) (sWM s.1.1 (φW l (s.2.2.1 - 1)) (d,0))=w1 at *
 have e12:FD (φo s.1.1 w1).1∧C2 (φo s.1.1 w1).2:=by
  unfold φo
  split
  ·exact ⟨d1,d2⟩
  ·obtain ⟨x,y⟩:=φO6 d1 (m:=s.1.1) ⟨k2.1,k2.2⟩
   exact ⟨x,.inl y⟩
 generalize φo s.1.1 w1=w2 at *
 obtain ⟨e1,e2⟩:=e12
 have f12:FD (if w2.2=0 then φA (sPut (s.1.1+2,[s.1.1,s.1.1+1]) w2) else φA w2).1∧C2 (if w2.2=0 then φA (sPut (s.1.1+2,[s.1.1,s.1.1+1]) w2) else φA w2).2:=by
  split
  ·obtain ⟨x,y⟩:=φD3 e1 e2 (s.1.1+2,[s.1.1,s.1.1+1])
   exact ⟨x,by show C2 (told _);rw[φ7L y];exact y⟩
  ·exact ⟨e1,by show C2 (told _);rw[φ7L e2];exact e2⟩
 generalize (if w2.2=0 then φA (sPut (s.1.1+2,[s.1.1,s.1.1+1]) w2) else φA w2)=w3 at *
 obtain ⟨f1,f2⟩:=f12
 split
 ·exact φH4 f1 f2
 ·show C2 (told (sOld s.1.2 (w3.1,0)).2)
  rw[φ7b s.1.2 (w:=(w3.1,0)) f1.dk f1.fr rfl]
  exact .inl rfl
theorem JR.cap {s:φ6} {d:φ1} (h:JR s d) {c:Int} (hc:(φH d.1:Int)≤c) (h2:c≤100000):JR s (d.1,c,d.2.2):=by
 obtain ⟨q1,q2,q3,q4,q5,q6⟩:=φg.1 h.ok
 obtain ⟨e1,e2,e3,e4,e5,e6⟩:=(φ3Y d).1 q1
 have hk:φ3 (d.1,c,d.2.2)=true:=(φ3Y _).2 ⟨⟨by show 0≤c;omega,h2⟩,e2,e3,hc,e5,e6⟩
 have hft:∀n,φ2 (d.1,c,d.2.2) n=φ2 d n:=fun n=>φEd q1 hk n fun t=>Iff.rfl
 have hpl:φS (d.1,c,d.2.2) s.1.2=φS d s.1.2:=φ5T fun id _=>hft _
 obtain ⟨nx,n1,n2,n3⟩:=h.liv
 refine ⟨⟨φg.2 ⟨hk,q2,q3,q4,?_,fun e he=>?_⟩,h.lt,⟨nx,n1,n2,by rw[hft];exact n3⟩,h.fre⟩,by rw[hpl];exact h.reg,by rw[hpl];exact h.pb,by rw[hpl];exact h.own⟩
 ·obtain ⟨g1,g2⟩:=(φ1q _).1 q5
  exact (φ1q _).2 ⟨fun id hid=>by rw[hft];exact g1 id hid,fun hne=>by rw[hft];exact g2 hne⟩
 ·have:=q6 e he
  rw[φ31] at this ⊢
  have ea:φ1F (d.1,c,d.2.2) e=φ1F d e:=by unfold φ1F;rw[hft]
  rw[ea];exact this
abbrev zT:TxnT:=(false,[],[])
def φ1h (l:List TxnT) (s:φt):Bool:=
 decide (1≤s.1∧s.1≤6) && (decide (0≤s.2.1∧s.2.1≤2) && ((rdA zT l s.2.1).1==(s.1 != 1)))
def putS (s:φt):PutT:=(s.2.2.1,s.1==4,s.2.2.2.1)
def ownA (p:PutT):AnsT:=bif p.2.1 then (8,[],[]) else (0,p.2.2,[])
def getG (look:List UInt8→φX×Int) (l:List TxnT) (s:φt):List TxnT×AnsT:=
 let t:=rdA zT l s.2.1
 bif !φ1A s.2.2.1 then (l,(4,[],[])) else
 bif (ownW t.2.2 s.2.2.1).2 then (l,ownA (ownW t.2.2 s.2.2.1).1) else
 let p:=look s.2.2.1
 let r:=φ1w t s.2.2.1 p.1.2.2
 (l.set s.2.1.toNat r.1,bif r.2 != 0 then (r.2,[],[]) else (p.2,p.1.2.1,[]))
def putG (l:List TxnT) (s:φt):List TxnT×AnsT:=
 let w:=φ2F (rdA zT l s.2.1) (putS s)
 (l.set s.2.1.toNat w.1,bif !φ2H (putS s) then (4,[],[]) else bif !w.2 then (5,[],[]) else (0,[],[]))
def sesG (look:List UInt8→φX×Int) (val:TxnT→Bool) (l:List TxnT) (s:φt):List TxnT×AnsT×Option (List PutT):=
 bif !φ1h l s then (l,(4,[],[]),none) else
 bif s.1==1 then (l.set s.2.1.toNat (true,[],[]),(0,[],[]),none) else
 bif s.1==6 then (l.set s.2.1.toNat zT,(0,[],[]),none) else
 bif s.1==2 then ((getG look l s).1,(getG look l s).2,none) else
 bif s.1==5 then (l.set s.2.1.toNat zT,(7,[],[]),bif val (rdA zT l s.2.1) then some (netW (rdA zT l s.2.1).2.2) else none) else
 ((putG l s).1,(putG l s).2,none)
noncomputable def comE (e:EngT) (g:List TxnT×AnsT×Option (List PutT)):EngT×AnsT:=
 match g.2.2 with
 | none=>((e.1,e.2.1,e.2.2.1,g.1),g.2.1)
 | some w=>((e.1,(φ2Q e.2.1 e.2.2.1 w).1,(φ2Q e.2.1 e.2.2.1 w).2.1,g.1),((φ2Q e.2.1 e.2.2.1 w).2.2,[],[]))
noncomputable def sesE (e:EngT) (s:φt):EngT×AnsT:=
 comE e (sesG (getP e.2.1 e.2.2.1) (fun t=>φ3t t e.2.1.2.1) e.2.2.2 s)
noncomputable def stE (e:EngT) (s:φt):EngT×AnsT:=
 bif s.1==10 then (bif e.1 then (e,(4,[],[])) else (((φ2N e.2.2.1).2.2==0,(φ2N e.2.2.1).1,(φ2N e.2.2.1).2.1,zTx),((φ2N e.2.2.1).2.2,[],[]))) else
 bif s.1==11 then (bif φ3 e.2.2.1 && decide (0≤s.2.2.2.2∧s.2.2.2.2≤100000 - (φH e.2.2.1.1:Int)) then
  ((e.1,e.2.1,(e.2.2.1.1,(φH e.2.2.1.1:Int)+s.2.2.2.2,e.2.2.1.2.2),e.2.2.2),(0,[],[])) else (e,(4,[],[]))) else
 bif !e.1 then (e,(6,[],[])) else
 bif s.1==7 then ((e.1,(φ1x e.2.1 e.2.2.1).1,(φ1x e.2.1 e.2.2.1).2.1,e.2.2.2),((φ1x e.2.1 e.2.2.1).2.2,[],[])) else
 bif s.1==8 then (e,(0,[],e.2.1.2.1.map (·.1))) else
 bif s.1==9 then (φNq e.2.2.1,(0,[],[])) else
 sesE e s
theorem φMh {l:List TxnT} (hl:l.length=3) (s:φt):ψ1t.f l s=some (φ1h l s):=by
 have hw:w64 ((l.length:Int) - 1)=2:=by rw[hl];rfl
 unfold ψ1t.f φ1h
 simp only[φ1Y,bS,hw]
 by_cases h1:1≤s.1∧s.1≤6
 ·simp only[h1,and_self,dT,cT,tA]
  by_cases h2:0≤s.2.1∧s.2.1≤2
  ·obtain ⟨n,hn⟩:∃n:Nat,s.2.1=(n:Int):=⟨s.2.1.toNat,by omega⟩
   have hin:inB s.2.1 l.length=true:=by rw[hn,φK,hl];simp;omega
   simp only[h2,and_self,dT,cT,tA,hin]
  ·simp only[h2,dF,cF,κD]
 ·simp only[h1,dF,cF,κD]
theorem φ6l {l:List TxnT} (hl:l.length=3) {s:φt} (h:φ1h l s=true):∃n:Nat,∃hn:n<l.length,s.2.1=(n:Int)∧inB s.2.1 l.length=true∧rdA zT l s.2.1=l[n]∧s.2.1.toNat=n∧(l[n].1=(s.1 != 1))∧1≤s.1∧s.1≤6:=by
 unfold φ1h at h
 simp only[bA,decide_eq_true_eq,beq_iff_eq] at h
 obtain ⟨h1,h2,h3⟩:=h
 obtain ⟨n,hn⟩:∃n:Nat,s.2.1=(n:Int):=⟨s.2.1.toNat,by omega⟩
 have hn3:n<l.length:=by omega
 have hrd:rdA zT l s.2.1=l[n]:=by rw[hn,φN,φE hn3]
 exact ⟨n,hn3,hn,by rw[hn,φK];simp[hn3],hrd,by omega,by rw[←hrd];exact h3,h1.1,h1.2⟩
theorem φO1 (t:TxnT) (key:List UInt8) (h:t.2.2.length<2 ^ 62):ψ1c.f t key=some (bif (ownW t.2.2 key).2 then (ownA (ownW t.2.2 key).1,true) else ((0,[],[]),false)):=by
 unfold ψ1c.f ownA
 rw[φKa t key h,bS]
 generalize ownW t.2.2 key=x
 obtain ⟨⟨a,b,v⟩,c⟩:=x
 cases c
 ·rfl
 ·cases b<;>rfl
theorem φCg {s:φ6} {d:φ1} (h:φf s d=true) (key:List UInt8):(getP s d key).2=0∨getP s d key=(([],[],0),8):=by
 rcases φGc s.2.1 key with c | ⟨c1,c2⟩
 ·right
  unfold getP
  rw[if_pos c]
 ·by_cases hk:∃e∈s.2.1,e.1=key
  ·obtain ⟨e,he,rfl⟩:=hk
   exact .inl (φ8Z h he).1
  ·exact .inr (φDp fun e he k=>hk ⟨e,he,k⟩)
theorem φN8 {e:EngT} (hl:e.2.2.2.length=3) (ht:∀t∈e.2.2.2,t.2.1.length≤20∧t.2.2.length≤50) (hS:SmallS e.2.1 e.2.2.1) (h3:∀k,(getP e.2.1 e.2.2.1 k).2≠3) {s:φt} (hf:φ1h e.2.2.2 s=true) :
  ψI.f e s=some ((getG (getP e.2.1 e.2.2.1) e.2.2.2 s).2,(e.1,e.2.1,e.2.2.1,(getG (getP e.2.1 e.2.2.1) e.2.2.2 s).1)):=by
 obtain ⟨hlim,hu⟩:=hS.lim
 have hd:=hS.dir
 obtain ⟨n,hn,h1,hin,hrd,hto,_,_,_⟩:=φ6l hl hf
 have htn:=ht _ (gM hn)
 have hc3:((getP e.2.1 e.2.2.1 s.2.2.1).2==3)=false:=by simpa using h3 s.2.2.1
 unfold ψI.f getG
 simp only[hin,cT,φ6K,bS,hrd,φ2c]
 cases φ1A s.2.2.1
 ·rfl
 simp only[nZ,cF,φO1 e.2.2.2[n] s.2.2.1 (by omega),bS]
 cases (ownW e.2.2.2[n].2.2 s.2.2.1).2
 ·simp only[cF,φDs e.2.1 e.2.2.1 s.2.2.1 hlim hu (by omega),bS,hc3]
  unfold ψ1g.f
  rw[φKL e.2.2.2[n] s.2.2.1 _ (by omega) (by omega),bS]
  generalize φ1w e.2.2.2[n] s.2.2.1 (getP e.2.1 e.2.2.1 s.2.2.1).1.2.2=r
  obtain ⟨r1,r2⟩:=r
  simp only
  cases (r2 != 0)<;>rfl
 ·rfl
theorem φJe {t:TxnT} (ht:t.2.1.length≤20∧t.2.2.length≤50) (s:φt):ψ2D.f t s=some ((φ2F t (putS s)).1,bif !φ2H (putS s) then (4,[],[]) else bif !(φ2F t (putS s)).2 then (5,[],[]) else (0,[],[])):=by
 unfold ψ2D.f
 show ((ψ1D.f t (putS s)).bind fun x=>(ψ1f.f (putS s)).bind fun t2=>bif !t2 then _ else bif !x.2 then _ else _)=_
 rw[φIk t _ (by omega) (by omega),bS,φBW,bS]
 generalize φ2F t (putS s)=x
 obtain ⟨x1,x2⟩:=x
 cases φ2H (putS s)
 ·rfl
 ·cases x2<;>rfl
theorem φI2 {e:EngT} (hl:e.2.2.2.length=3) (ht:∀t∈e.2.2.2,t.2.1.length≤20∧t.2.2.length≤50) (hS:SmallS e.2.1 e.2.2.1) (h3:∀k,(getP e.2.1 e.2.2.1 k).2≠3) (s:φt) :
  ψK.f e s=some ((sesE e s).2,(sesE e s).1):=by
 obtain ⟨hlim,hu⟩:=hS.lim
 have hd:=hS.dir
 unfold ψK.f sesE sesG comE
 rw[φMh hl s,bS]
 cases hf:φ1h e.2.2.2 s
 ·rfl
 obtain ⟨n,hn,h1,hin,hrd,hto,_,k1,k6⟩:=φ6l hl hf
 have htn:=ht _ (gM hn)
 simp only[nZ,cF,hin,cT]
 cases c1:(s.1==1)
 rotate_left
 ·rfl
 cases c6:(s.1==6)
 rotate_left
 ·rfl
 cases c2:(s.1==2)
 rotate_left
 ·simp only[cT,cF,φN8 hl ht hS h3 hf,bS]
 have com:((ψ1F.f ((rdA (false,[],[]) e.2.2.2 s.2.1).1,(rdA (false,[],[]) e.2.2.2 s.2.1).2) e.2.1.2.1).bind fun t9=>
   bif !t9 then some (((7,[],[]):AnsT),((e.1,e.2.1,e.2.2.1,e.2.2.2.set s.2.1.toNat (false,[],[])):EngT)) else
   (ψb.f ((rdA (false,[],[]) e.2.2.2 s.2.1).1,(rdA (false,[],[]) e.2.2.2 s.2.1).2)).bind fun t10=>
   (ψ2.f e.2.1 e.2.2.1 t10).bind fun x=>some (((x.2.2,[],[]):AnsT),((e.1,x.1,x.2.1,e.2.2.2.set s.2.1.toNat (false,[],[])):EngT))) =
   some ((comE e (e.2.2.2.set s.2.1.toNat zT,(7,[],[]),bif φ3t (rdA zT e.2.2.2 s.2.1) e.2.1.2.1 then some (netW (rdA zT e.2.2.2 s.2.1).2.2) else none)).2,(comE e (e.2.2.2.set s.2.1.toNat zT,(7,[],[]),bif φ3t (rdA zT e.2.2.2 s.2.1) e.2.1.2.1 then some (netW (rdA zT e.2.2.2 s.2.1).2.2) else none)).1):=by
  have hnl:=φCV e.2.2.2[n].2.2
  rw[φ2c,show rdA (false,[],[]) e.2.2.2 s.2.1=e.2.2.2[n] from hrd,φKW e.2.2.2[n] e.2.1.2.1 (by omega) (by omega),bS]
  cases φ3t e.2.2.2[n] e.2.1.2.1
  ·rfl
  ·simp only[nZ,cF,cT,φBJ e.2.2.2[n] (by omega),bS,φMx hS (netW e.2.2.2[n].2.2) (by omega),comE]
 have put:((ψ2D.f ((rdA (false,[],[]) e.2.2.2 s.2.1).1,(rdA (false,[],[]) e.2.2.2 s.2.1).2) s).bind fun x=>some ((x.2:AnsT),((e.1,e.2.1,e.2.2.1,e.2.2.2.set s.2.1.toNat x.1):EngT))) =
   some ((putG e.2.2.2 s).2,(e.1,e.2.1,e.2.2.1,(putG e.2.2.2 s).1)):=by
  unfold putG
  rw[φ2c,show rdA (false,[],[]) e.2.2.2 s.2.1=e.2.2.2[n] from hrd,φJe htn s,bS]
 unfold comE at com
 simp only[cF]
 cases c3:(s.1==3)
 ·cases c4:(s.1==4)
  ·cases c5:(s.1==5)
   ·exfalso
    simp at c1 c2 c3 c4 c5 c6
    omega
   ·exact com
  ·have c5:(s.1==5)=false:=by simp at c4 ⊢;omega
   simp only[cT,cF,c5]
   exact put
 ·have c5:(s.1==5)=false:=by simp at c3 ⊢;omega
  simp only[cT,cF,c5]
  exact put
theorem φNG {e:EngT} (hl:e.2.2.2.length=3) (ht:∀t∈e.2.2.2,t.2.1.length≤20∧t.2.2.length≤50) (hS:SmallS e.2.1 e.2.2.1):ψ1K.f e=some e:=
 φJL hS.ids hS.dir hS.sm.1 (by omega) ht
structure Fit (e:EngT):Prop where
 len:e.2.2.2.length=3
 tx:∀t∈e.2.2.2,t.2.1.length≤20∧t.2.2.length≤50
 sm:SmallS e.2.1 e.2.2.1
 dk:φ3 e.2.2.1=true
 n3:e.1=true→∀k,(getP e.2.1 e.2.2.1 k).2≠3
theorem φLu {e:EngT} (h:Fit e) (s:φt):ψM.f e s=some ((stE e s).2,(stE e s).1):=by
 have hd:=(φ12 h.dk)
 have hlim:=φ1X hd (show 100001≤1000000000 by omega)
 have hu:φH e.2.2.1.1≤100000:=by have:=hd.2.1;omega
 have hw:w64 (100000 - ((φH e.2.2.1.1:Nat):Int))=100000 - (φH e.2.2.1.1:Int):=φJ (by omega) (by omega)
 have open_:((ψH.f e.2.2.1).bind fun x=>some (((x.2,[],[]):AnsT),x.1))=some ((((φ2N e.2.2.1).2.2,[],[]):AnsT),(((φ2N e.2.2.1).2.2==0,(φ2N e.2.2.1).1,(φ2N e.2.2.1).2.1,zTx):EngT)):=by
  unfold ψH.f
  rw[φHm e.2.2.1 (φ3Z hd (by omega))]
  rfl
 have cap:((ψ1u.f e.2.2.1).bind fun t2=>(ψD.f e.2.2.1).bind fun t3=>bif !t3 then some (((4,[],[]):AnsT),e) else
   (ψ1W.f s.2.2.2.2 0 (w64 (100000 - t2))).bind fun t4=>bif !t4 then some (((4,[],[]):AnsT),e) else
   some (((0,[],[]):AnsT),((e.1,e.2.1,(e.2.2.1.1,w64 (t2+s.2.2.2.2),e.2.2.1.2.2),e.2.2.2):EngT))) =
   some ((bif φ3 e.2.2.1 && decide (0≤s.2.2.2.2∧s.2.2.2.2≤100000 - (φH e.2.2.1.1:Int)) then (((e.1,e.2.1,(e.2.2.1.1,(φH e.2.2.1.1:Int)+s.2.2.2.2,e.2.2.1.2.2),e.2.2.2):EngT),((0,[],[]):AnsT)) else (e,(4,[],[]))).2,
    (bif φ3 e.2.2.1 && decide (0≤s.2.2.2.2∧s.2.2.2.2≤100000 - (φH e.2.2.1.1:Int)) then (((e.1,e.2.1,(e.2.2.1.1,(φH e.2.2.1.1:Int)+s.2.2.2.2,e.2.2.1.2.2),e.2.2.2):EngT),((0,[],[]):AnsT)) else (e,(4,[],[]))).1):=by
  simp only[φEw e.2.2.1 (by have:=hlim.1;omega) (by omega),φ5e e.2.2.1 hlim,h.dk,bS,nZ,cF,φ1Y,hw,tA]
  by_cases c:0≤s.2.2.2.2∧s.2.2.2.2≤100000 - (φH e.2.2.1.1:Int)
  ·have:w64 ((φH e.2.2.1.1:Int)+s.2.2.2.2)=(φH e.2.2.1.1:Int)+s.2.2.2.2:=φJ (by omega) (by omega)
   simp only[c,and_self,dT,nZ,cF,cT,this]
  ·simp only[c,dF,nF,cT,cF]
 unfold ψM.f stE
 cases c10:(s.1==10)
 rotate_left
 ·simp only[cT]
  cases hu:e.1
  ·exact open_
  ·rfl
 simp only[cF]
 cases c11:(s.1==11)
 rotate_left
 ·simp only[cT]
  exact cap
 simp only[cF]
 cases hup:e.1
 ·rfl
 have hdr:=h.sm.dir
 simp only[nZ,cF]
 cases c7:(s.1==7)
 rotate_left
 ·simp only[cT,(φN5 h.sm).1,bS]
 simp only[cF]
 cases c8:(s.1==8)
 rotate_left
 ·simp only[cT,φHe e.2.1.2.1 (by omega),bS]
 simp only[cF]
 cases c9:(s.1==9)
 rotate_left
 ·rfl
 simp only[cF,φI2 h.len h.tx h.sm (h.n3 hup) s,bS]
theorem mapB {A B C:Type} {X:Option A} {f:A→Option B} {f':A→Option C} {g:C→B} (h:∀x,f x=(f' x).map g):X.bind f=(X.bind f').map g:=by
 cases X with
 | none=>rfl
 | some x=>exact h x
theorem mapC {B C:Type} {b:Bool} {x y:Option B} {x' y':Option C} {g:C→B} (h1:x=x'.map g) (h2:y=y'.map g):(bif b then x else y)=(bif b then x' else y').map g:=by
 cases b
 ·exact h2
 ·exact h1
abbrev φ3o:=List AnsT×List (Int×List PutT)×List PutT
theorem φIe (e:EngT) (r:φ3o) (s:φt):ψJ.f (e,r) s=(ψI.f e s).map fun x=>(x.1,(x.2,r)):=by
 unfold ψJ.f ψI.f
 repeat' first
  | rfl
  | apply mapC
  | (apply mapB;intro x;try obtain ⟨a,b⟩:=(x:_×_))
theorem φJs (e:EngT) (r:φ3o) (s:φt):ψL.f (e,r) s=(ψK.f e s).map fun x=>(x.1,(x.2,r)):=by
 unfold ψL.f ψK.f
 rw[φIe e r s]
 cases ψI.f e s with
 | none=>
  repeat' first
   | rfl
   | apply mapC
   | (apply mapB;intro x;try obtain ⟨a,b⟩:=(x:_×_))
 | some z=>
  repeat' first
   | rfl
   | apply mapC
   | (apply mapB;intro x;try obtain ⟨a,b⟩:=(x:_×_))
theorem φIl (e:EngT) (r:φ3o) (s:φt):ψN.f (e,r) s=(ψM.f e s).map fun x=>(x.1,(x.2,r)):=by
 unfold ψN.f ψM.f
 rw[φJs e r s]
 cases ψK.f e s with
 | none=>
  repeat' first
   | rfl
   | apply mapC
   | (apply mapB;intro x;try obtain ⟨a,b⟩:=(x:_×_))
 | some z=>
  repeat' first
   | rfl
   | apply mapC
   | (apply mapB;intro x;try obtain ⟨a,b⟩:=(x:_×_))
theorem φKk {e:EngT} (h:Fit e) (r:φ3o) (s:φt):ψN.f (e,r) s=some ((stE e s).2,((stE e s).1,r)):=by
 rw[φIl,φLu h s];rfl
def netO (e:EngT) (s:φt):List PutT:=bif (s.1==5) && (e.1 && φ1h e.2.2.2 s) then netW (rdA zT e.2.2.2 s.2.1).2.2 else []
theorem φIY {e:EngT} (h:Fit e) (s:φt):ψ1b.f e s=some (netO e s):=by
 have hl:=h.len
 have hw:w64 ((e.2.2.2.length:Int) - 1)=2:=by rw[hl];rfl
 unfold ψ1b.f netO
 cases c5:(s.1==5)
 ·have:(s.1 != 5)=true:=by simpa using c5
  simp only[this,cT,κD,cF]
 have c5':s.1=5:=by simpa using c5
 have:(s.1 != 5)=false:=by simpa using c5
 simp only[this,cF,tA]
 cases hu:e.1
 ·rfl
 simp only[nZ,cF,tA,φ1Y,bS,hw]
 unfold φ1h
 have k:decide (1≤s.1∧s.1≤6)=true:=by rw[c5'];decide
 have k1:(s.1 != 1)=true:=by rw[c5'];decide
 rw[k,k1,tA]
 by_cases h2:0≤s.2.1∧s.2.1≤2
 ·obtain ⟨n,hn⟩:∃n:Nat,s.2.1=(n:Int):=⟨s.2.1.toNat,by omega⟩
  have hn3:n<e.2.2.2.length:=by omega
  have hin:inB s.2.1 e.2.2.2.length=true:=by rw[hn,φK];simp[hn3]
  have hrd:rdA zT e.2.2.2 s.2.1=e.2.2.2[n]:=by rw[hn,φN,φE hn3]
  have ht:=h.tx _ (gM hn3)
  simp only[h2,and_self,dT,nZ,cF,hin,cT,tA,show rdA (false,[],[]) e.2.2.2 s.2.1=e.2.2.2[n] from hrd,hrd]
  cases hb:e.2.2.2[n].1
  ·rfl
  ·simp only[nZ,cF,beq_self_eq_true,cT]
   have:((true,e.2.2.2[n].2):TxnT)=e.2.2.2[n]:=by rw[←hb]
   rw[this,φBJ e.2.2.2[n] (by omega)]
   rfl
 ·simp only[h2,dF,nF,cT,κD,cF]
noncomputable def runE:EngT→List φt→EngT×List AnsT
 | e,[]=>(e,[])
 | e,s::r=>((runE (stE e s).1 r).1,(stE e s).2::(runE (stE e s).1 r).2)
theorem φGP:∀(a b:List φt) (e:EngT),runE e (a++b)=((runE (runE e a).1 b).1,(runE e a).2++(runE (runE e a).1 b).2)
 | [],b,e=>rfl
 | s::a,b,e=>by
  show ((runE (stE e s).1 (a++b)).1,(stE e s).2::(runE (stE e s).1 (a++b)).2)=_
  rw[φGP a b];rfl
theorem φCp:∀(l:List φt) (e:EngT),(runE e l).2.length=l.length
 | [],_=>rfl
 | s::r,e=>by
  show (_::_).length=_
  rw[lC,φCp r];rfl
theorem φHt (l:List φt) (s:φt) (e:EngT):runE e (l++[s])=((stE (runE e l).1 s).1,(runE e l).2++[(stE (runE e l).1 s).2]):=by
 rw[φGP];rfl
theorem φHQ {I:Nat→EngT→Prop} {l:List φt} (hs:∀n (hn:n<l.length) e,I n e→I (n+1) (stE e l[n]).1) {e:EngT} (h0:I 0 e):∀n,n≤l.length→I n (runE e (l.take n)).1
 | 0,_=>by rw[List.take_zero];exact h0
 | n+1,hn=>by
  rw[κ4 (by omega),φHt]
  exact hs n (by omega) _ (φHQ hs h0 n (by omega))
theorem φNE {I:Nat→EngT→Prop} {l:List φt} (hl:l.length≤300) (hI:∀n e,I n e→Fit e) (hs:∀n (hn:n<l.length) e,I n e→I (n+1) (stE e l[n]).1∧(stE e l[n]).2.1≠1) {e:EngT} (h0:I 0 e) :
  ∃acks,ψu.f e l=some ((runE e l).1,(runE e l).2,acks,[])∧I l.length (runE e l).1:=by
 have hinv:=φHQ (I:=I) (l:=l) (fun n hn e h=>(hs n hn e h).1) h0
 have h00:=hI 0 e h0
 have key:=φEJ (step:=ψu.l0) (fun n (s:EngT×List AnsT×List (Int×List PutT))=>((((false,((0,[]),[],0,0,0),([],0,0,false),[]),[],[],[]),(s.1,s.2.1,s.2.2,[]),l,(l.length:Int),(n:Int)):(EngT×φ3o)×(EngT×φ3o)×List φt×Int×Int)) l.length
  (fun n s=>s.1=(runE e (l.take n)).1∧s.2.1=(runE e (l.take n)).2∧s.2.2.length≤n) (fun b=>∃acks,b.2=((runE e l).1,(runE e l).2,acks,[]))
  (fun rec s hi=>by
   obtain ⟨a,b,c⟩:=s
   obtain ⟨h1,h2,_⟩:=hi
   rw[κU] at h1 h2
   refine ⟨_,by simp[ψu.l0];rfl,c,?_⟩
   simp only at h1 h2 ⊢
   rw[h1,h2])
  (fun rec n s hn hi=>by
   obtain ⟨a,b,c⟩:=s
   obtain ⟨h1,h2,h3⟩:=hi
   simp only at h1 h2 h3
   have hIn:=hinv n (by omega)
   have hF:=hI n _ hIn
   obtain ⟨_,hne⟩:=hs n hn _ hIn
   rw[←h1] at hF hne hIn
   have e0:(n:Int)<(l.length:Int):=by omega
   have hw:=φR (show n+1<9223372036854775808 by omega)
   have h300:¬(n:Int)≥300:=by omega
   have hb:b.length=n:=by rw[h2,φCp,lT];omega
   have q1:decide ((b.length+(0+1)) * 48≤140737488355328)=true:=by simp;omega
   have q2:decide ((c.length+(0+1)) * 32≤140737488355328)=true:=by simp;omega
   have c1:((stE a l[n]).2.1==1)=false:=by simpa using hne
   have hsn:runE e (l.take (n+1))=((stE a l[n]).1,b++[(stE a l[n]).2]):=by
    rw[κ4 hn,φHt,←h1,←h2]
   have go:∀acks:List (Int×List PutT),acks.length≤n+1→∃s':EngT×List AnsT×List (Int×List PutT),(s'.1=(runE e (l.take (n+1))).1∧s'.2.1=(runE e (l.take (n+1))).2∧s'.2.2.length≤n+1) ∧
     rec ((((false,((0,[]),[],0,0,0),([],0,0,false),[]),[],[],[]),((stE a l[n]).1,b++[(stE a l[n]).2],acks,[]),l,(l.length:Int),((n+1:Nat):Int)):(EngT×φ3o)×(EngT×φ3o)×List φt×Int×Int) =
     rec ((((false,((0,[]),[],0,0,0),([],0,0,false),[]),[],[],[]),(s'.1,s'.2.1,s'.2.2,[]),l,(l.length:Int),((n+1:Nat):Int)):(EngT×φ3o)×(EngT×φ3o)×List φt×Int×Int):=fun acks ha=>
    ⟨((stE a l[n]).1,b++[(stE a l[n]).2],acks),⟨by rw[hsn],by rw[hsn],ha⟩,rfl⟩
   simp only[ψu.l0,e0,dT,cT,φK,hn,φN,φE hn,h300,dF,cF,φ2c,φIY hF,φKk hF,bS,lC,lN,q1,q2,c1]
   cases ((stE a l[n]).2.1==0)
   ·simp only[cF,bS,hw]
    exact go c (by omega)
   ·simp only[cT]
    by_cases hp:((netO a l[n]).length:Int) > 0
    ·simp only[hp,dT,cT,bS,hw]
     exact go (c++[_]) (by rw[lA];simp;omega)
    ·simp only[hp,dF,cF,bS,hw]
     exact go c (by omega))
  (e,[],[]) ⟨by rw[List.take_zero];rfl,by rw[List.take_zero];rfl,by simp⟩ (by omega)
 obtain ⟨b,k,acks,hb⟩:=key
 unfold ψu.f
 rw[φNG h00.len h00.tx h00.sm,bS]
 have k:lp ψu.l0 ((((false,((0,[]),[],0,0,0),([],0,0,false),[]),[],[],[]),(e,[],[],[]),l,(l.length:Int),0):(EngT×φ3o)×(EngT×φ3o)×List φt×Int×Int)=some b:=k
 rw[k,bS]
 obtain ⟨b1,b2⟩:=b
 simp only at hb ⊢
 subst hb
 have:=hinv l.length (κ6 _)
 rw[κU] at this
 exact ⟨acks,rfl,this⟩
abbrev newE (n:Nat):EngT:=(true,((2,[1]),[],1,0,0),dNew n,zTx)
theorem φMI (n:Nat) (h:n≤100000) (h8:8≤n):ψH.f (d0N n)=some (newE n,0):=by
 obtain ⟨y,hy,e⟩:=φEo n h
 rw[if_neg (by omega)] at e
 unfold ψH.f
 have hd:dl 1048577 (d0N n):=by
  have:=φ76 (n:Int) ⟨by omega,by omega⟩
  exact φ3Z (φ12 this) (by omega)
 rw[φHm _ hd,e]
 rfl
theorem φKd (n:Nat) (h:n≤100000) (h8:8≤n) (l:List φt):ψf.f ((n:Int),-1,l)=ψu.f (newE n) l:=by
 have hk:=φ76 (n:Int) ⟨by omega,by omega⟩
 have hlim:=φ1X (φ12 hk) (show 100001≤1000000000 by omega)
 have a1:decide ((0:Int)≤(n:Int)∧(n:Int)≤100000)=true:=by simp;omega
 have a2:decide ((-1:Int)≤-1∧(-1:Int)≤100000)=true:=by decide
 have e1:ψC.f (n:Int)=some (([],(n:Int),-1,false):φ1):=by
  unfold ψC.f
  simp only[φ1Y,a1,bS,nZ,cF]
 have e2:ψ1H.f (([],(n:Int),-1,false):φ1) (-1)=some (([],(n:Int),-1,false):φ1):=by
  unfold ψ1H.f
  rw[φ5U _ (by simp),bS,φ5e _ hlim,bS,hk]
  simp only[cT,φ1Y,a2,bS]
 unfold ψf.f
 simp only[φ1Y,a1,a2,bS,nZ,cF,e1,e2]
 rw[show (([],(n:Int),-1,false):φ1)=d0N n from rfl,φMI n h h8]
 simp only[bS,show ((0:Int) != 0)=false from rfl,cF]
 cases ψu.f (newE n) l<;>rfl
theorem φNO {t:TxnT} (h:t.2.1.length≤20∧t.2.2.length≤50) (k:List UInt8) (b:Int):(φ1w t k b).1.2.1.length≤20∧(φ1w t k b).1.2.2.length≤50:=by
 unfold φ1w
 repeat' split
 all_goals first
  | exact h
  | (refine ⟨?_,h.2⟩;simp;omega)
theorem φMX (t:TxnT) (k:List UInt8) (b:Int):(φ1w t k b).2=0∨(φ1w t k b).2=4∨(φ1w t k b).2=5∨(φ1w t k b).2=7:=by
 unfold φ1w
 repeat' split
 all_goals simp
def cS (c:Int):Prop:=c=0∨c=4∨c=5∨c=7∨c=8
theorem φMS {look:List UInt8→φX×Int} (hk:∀k,(look k).2=0∨(look k).2=8) {l:List TxnT} (hl:TB l) {s:φt} (hf:φ1h l s=true):TB (getG look l s).1∧cS (getG look l s).2.1:=by
 obtain ⟨n,hn,h1,hin,hrd,hto,_,_,_⟩:=φ6l hl.1 hf
 have ht:=hl.2 _ (gM hn)
 unfold getG
 simp only[hrd]
 cases φ1A s.2.2.1
 ·exact ⟨hl,.inr (.inl rfl)⟩
 simp only[nZ,cF]
 cases (ownW l[n].2.2 s.2.2.1).2
 ·simp only[cF]
  refine ⟨hl.set _ (φNO ht _ _),?_⟩
  have hc:=φMX l[n] s.2.2.1 (look s.2.2.1).1.2.2
  generalize φ1w l[n] s.2.2.1 (look s.2.2.1).1.2.2=r at hc
  by_cases h0:r.2=0
  ·have:(r.2 != 0)=false:=by simpa using h0
   simp only[this,cF]
   rcases hk s.2.2.1 with e | e
   ·exact .inl e
   ·exact .inr (.inr (.inr (.inr e)))
  ·have:(r.2 != 0)=true:=by simpa using h0
   simp only[this,cT]
   show cS r.2
   unfold cS
   omega
 ·refine ⟨hl,?_⟩
  simp only[cT]
  unfold ownA
  cases (ownW l[n].2.2 s.2.2.1).1.2.1
  ·exact .inl rfl
  ·exact .inr (.inr (.inr (.inr rfl)))
theorem φJq {l:List TxnT} (hl:TB l) {s:φt} (hf:φ1h l s=true):TB (putG l s).1∧cS (putG l s).2.1:=by
 obtain ⟨n,hn,h1,hin,hrd,hto,_,_,_⟩:=φ6l hl.1 hf
 have ht:=hl.2 _ (gM hn)
 unfold putG
 simp only[hrd]
 refine ⟨hl.set _ (φJ1 ht _),?_⟩
 cases φ2H (putS s)
 ·exact .inr (.inl rfl)
 ·cases (φ2F l[n] (putS s)).2
  ·exact .inr (.inr (.inl rfl))
  ·exact .inl rfl
theorem φIa {look:List UInt8→φX×Int} (hk:∀k,(look k).2=0∨(look k).2=8) (val:TxnT→Bool) {l:List TxnT} (hl:TB l) (s:φt):TB (sesG look val l s).1∧cS (sesG look val l s).2.1.1:=by
 have hz:TB (l.set s.2.1.toNat zT):=hl.set _ ⟨by simp,by simp⟩
 unfold sesG
 cases hf:φ1h l s
 ·exact ⟨hl,.inr (.inl rfl)⟩
 simp only[nZ,cF]
 cases (s.1==1)
 rotate_left
 ·exact ⟨hl.set _ ⟨by simp,by simp⟩,.inl rfl⟩
 cases (s.1==6)
 rotate_left
 ·exact ⟨hz,.inl rfl⟩
 cases (s.1==2)
 rotate_left
 ·exact φMS hk hl hf
 cases (s.1==5)
 rotate_left
 ·exact ⟨hz,.inr (.inr (.inr (.inl rfl)))⟩
 exact φJq hl hf
theorem EI.fit {e:EngT} (h:EI e):Fit e:=by
 obtain ⟨h1,h2⟩:=h.small
 exact ⟨h.tx.1,h.tx.2,h1,h2,fun hu k=>by
  rcases φCg (h.up hu).ok k with c | c
  ·rw[c];decide
  ·rw[c];decide⟩
theorem φKg {e:EngT} (h:EI e) (s:φt):EI (stE e s).1∧(stE e s).2.1≠1∧(stE e s).2.1≠3 ∧
  ((stE e s).2.1=2→(stE e s).1.1=e.1∧(e.1=true→φU (stE e s).1.2.1 (stE e s).1.2.2.1=φU e.2.1 e.2.2.1)):=by
 obtain ⟨hS,hdk⟩:=h.small
 unfold stE
 cases c10:(s.1==10)
 rotate_left
 ·simp only[cT]
  cases hu:e.1
  ·obtain ⟨s0,hs0⟩:=(h.dn hu).1
   obtain ⟨t,y,ho,hj,_⟩:=φEH hs0
   simp only[cF,ho]
   exact ⟨⟨fun _=>hj,fun c=>by simp at c,TB.new⟩,by decide,by decide,fun c=>by simp at c⟩
  ·exact ⟨h,by show (4:Int)≠1;decide,by show (4:Int)≠3;decide,fun c=>absurd c (by show ¬(4:Int)=2;decide)⟩
 simp only[cF]
 cases c11:(s.1==11)
 rotate_left
 ·simp only[cT,hdk,tA]
  by_cases c:0≤s.2.2.2.2∧s.2.2.2.2≤100000 - (φH e.2.2.1.1:Int)
  ·simp only[c,and_self,dT,cT]
   exact ⟨⟨fun hu=>(h.up hu).cap (by omega) (by omega),fun hu=>⟨by obtain ⟨s0,hs0⟩:=(h.dn hu).1;exact ⟨s0,hs0.cap (by omega) (by omega)⟩,(h.dn hu).2⟩,h.tx⟩,by decide,by decide,fun c=>by simp at c⟩
  ·simp only[c,dF,cF]
   exact ⟨h,by decide,by decide,fun c=>by simp at c⟩
 simp only[cF]
 cases hu:e.1
 ·exact ⟨h,by show (6:Int)≠1;decide,by show (6:Int)≠3;decide,fun c=>absurd c (by show ¬(6:Int)=2;decide)⟩
 have hJ:=h.up hu
 simp only[nZ,cF]
 cases c7:(s.1==7)
 rotate_left
 ·obtain ⟨m1,m2⟩:=φG9 hJ
  have hmc:=φNu hJ
  unfold C4 at hmc
  simp only[cT]
  exact ⟨⟨fun _=>m1,fun c=>by simp at c,h.tx⟩,by show (φ1x e.2.1 e.2.2.1).2.2≠1;omega,by show (φ1x e.2.1 e.2.2.1).2.2≠3;omega,fun _=>⟨trivial,fun _=>m2⟩⟩
 simp only[cF]
 cases c8:(s.1==8)
 rotate_left
 ·exact ⟨h,by show (0:Int)≠1;decide,by show (0:Int)≠3;decide,fun c=>absurd c (by show ¬(0:Int)=2;decide)⟩
 simp only[cF]
 cases c9:(s.1==9)
 rotate_left
 ·exact ⟨⟨fun c=>by simp at c,fun _=>⟨⟨_,hJ⟩,by simp,by simp⟩,TB.new⟩,by show (0:Int)≠1;decide,by show (0:Int)≠3;decide,fun c=>absurd c (by show ¬(0:Int)=2;decide)⟩
 simp only[cF]
 unfold sesE
 obtain ⟨g1,g2⟩:=φIa (look:=getP e.2.1 e.2.2.1) (fun k=>by
  rcases φCg hJ.ok k with c | c
  ·exact .inl c
  ·rw[c];exact .inr rfl) (fun t=>φ3t t e.2.1.2.1) h.tx s
 generalize sesG (getP e.2.1 e.2.2.1) (fun t=>φ3t t e.2.1.2.1) e.2.2.2 s=g at g1 g2
 obtain ⟨l,a,w⟩:=g
 unfold cS at g2
 simp only at g1 g2
 unfold comE
 cases w with
 | none=>
  simp only
  exact ⟨h.same g1,by omega,by omega,fun c=>by omega⟩
 | some w=>
  obtain ⟨k1,k2,k3,k4⟩:=φFx hJ w
  have kc:=φIh hJ w
  unfold C4 at kc
  simp only
  exact ⟨h.store hu k1 g1,by omega,by omega,fun c=>⟨hu,fun _=>k4 (by omega)⟩⟩
theorem φJw {d:φ1} {a b:List UInt8} (h:(φ2R a b d).2=0) (hab:a≠b):(φ2 (φ2R a b d).1 a).2=false:=by
 obtain ⟨k,ha,hx⟩:=φ5a h
 have hx:(φ2R a b d).1=_:=hx
 unfold φ2B at ha hx
 split at ha
 ·simp at ha
 rename_i c
 rw[if_neg c] at hx
 rcases φv d.1 a with ⟨e,_⟩ | ⟨i,hi,e,hn⟩
 ·rw[φ1D e] at ha;simp at ha
 rw[φ17 e] at hx
 simp only at hx
 rw[if_neg hab] at hx
 have hp:=(φ5l k)
 refine φ9r fun f hf=>?_
 rw[hx] at hf
 have hf:f∈insB (φ1W (φb d.1 i) b) (b,(d.1.getD i ([],[],0)).2):=hf
 rw[φ3W] at hf
 rcases hf with rfl | hf
 ·exact fun e=>hab e.symm
 ·intro ef
  have hfr:f∈φb d.1 i:=by
   unfold φ1W at hf
   split at hf
   ·rcases mA.1 hf with k | k
    ·exact List.mem_of_mem_take k
    ·exact List.mem_of_mem_drop k
   ·exact hf
  rw[φCQ hp hi hn] at hfr
  have:=(List.mem_filter.1 hfr).2
  simp[ef] at this
theorem φGX {v:φP} {w:φD} (h:(sPut v w).2=0):(φ2 (sPut v w).1 φ1E).2=false:=by
 unfold sPut at h ⊢
 obtain ⟨h1,h2,h3⟩:=φ3u h
 rw[h3]
 exact φJw h2 (by decide)
structure PB (k N:Nat) (s:φ6) (d:φ1):Prop where
 cap:d.2=(100000,-1,false)
 nm:∀n,(φ2 d n).2=true→n=φa∨(∃id∈s.1.2,n=φ0 id)∨n=φI (s.1.2.headD 0)
 sz:∀n,(φ2 d n).1.length≤1500
 pot:130 * (s.1.2.length:Int)+s.2.2.2.1≤260+71 * k
 act:s.2.2.2.1≤200
 nx:s.1.1≤2+k+2 * N
theorem PB.same {k N:Nat} {s s':φ6} {d:φ1} (h:PB k N s d) (h1:s'.1=s.1) (h2:s'.2.2.2.1=s.2.2.2.1):PB k N s' d:=
 ⟨h.cap,by rw[h1];exact h.nm,h.sz,by rw[h1,h2];exact h.pot,by rw[h2];exact h.act,by rw[h1];exact h.nx⟩
theorem PB.up {k N k' N':Nat} {s:φ6} {d:φ1} (h:PB k N s d) (h1:k≤k') (h2:N≤N'):PB k' N' s d:=
 ⟨h.cap,h.nm,h.sz,by have:=h.pot;omega,h.act,by have:=h.nx;omega⟩
theorem φMw {l:List φ4} {z:Nat} (h:∀f∈l,f.2.1.length≤z):φH l≤z * l.length:=by
 unfold φH
 induction l with
 | nil=>simp[sumN]
 | cons f l ih=>
  have h1:=h f (by simp)
  have h2:=ih fun g hg=>h g (by simp[hg])
  simp only[sumN,lC]
  rw[Nat.mul_add]
  omega
theorem PB.room {k N:Nat} {s:φ6} {d:φ1} (h:PB k N s d) (hs:φf s d=true) {K:Nat} (hk:k≤K):Room 100000 (1500 * ((260+71 * K) / 130+2)) ((260+71 * K) / 130+2) d∧s.1.2.length≤(260+71 * K) / 130:=by
 obtain ⟨q1,q2,q3,q4,q5,q6⟩:=φg.1 hs
 have hp:=φ5l q1
 have h0:=(φ7x hs).s0
 have hpot:=h.pot
 have hL:s.1.2.length≤(260+71 * K) / 130:=by
  rw[Nat.le_div_iff_mul_le (by omega)]
  omega
 have hfl:d.1.length≤s.1.2.length+2:=by
  have hnd:(d.1.map (·.1)).Nodup:=φLt (l:=d.1) hp
  have:=φM9 (A:=d.1.map (·.1)) (B:=φa::φI (s.1.2.headD 0)::s.1.2.map φ0) hnd fun n hn=>by
   obtain ⟨f,hf,rfl⟩:=mM.1 hn
   rcases h.nm f.1 (by rw[φ2r q1 hf]) with e | ⟨id,hid,e⟩ | e
   ·rw[e];simp
   ·rw[e]
    exact mC _ (mC _ (mM.2 ⟨id,hid,rfl⟩))
   ·rw[e];simp
  simpa using this
 have hus:φH d.1≤1500 * d.1.length:=φMw fun f hf=>by
  have:=h.sz f.1
  rw[φ2r q1 hf] at this
  exact this
 refine ⟨⟨q1,h.cap,?_,by omega⟩,hL⟩
 exact Nat.le_trans hus (Nat.mul_le_mul_left _ (by omega))
theorem φ68 {d:φ1} {n:List UInt8} (h:(φ2 d n).2=false):φ2 d n=([],false):=by
 unfold φ2 at h ⊢
 split
 ·rfl
 ·rename_i c
  rw[if_neg c] at h
  cases hf:d.1.findIdx? (fun f=>f.1==n) with
  | none=>rfl
  | some i=>rw[hf] at h;simp at h
theorem φOH {s:φ6} {d:φ1} (hc:(rotP s d).2.2=0):(φ2 (rotP s d).2.1 φ1E).2=false:=by
 unfold rotP at hc ⊢
 split
 ·rename_i c;rw[if_pos c] at hc;simp at hc
 rename_i c0
 rw[if_neg c0] at hc
 split
 ·rename_i c;rw[if_pos c] at hc;exact absurd ((φ1C _).1 hc) c
 rename_i c1
 rw[if_neg c1] at hc
 simp only at hc ⊢
 split
 ·rename_i c;rw[if_pos c] at hc;exact absurd ((φ1C _).1 hc) c
 rename_i c2
 rw[if_neg c2] at hc
 split
 ·rename_i c
  rw[if_pos c] at hc
  exfalso
  revert hc
  unfold φ1e
  split
  ·split
   ·simp
   ·rename_i c3;exact c3
  ·exact c
 ·rename_i c
  have c:(sPut (s.1.1+1,s.1.2++[s.1.1]) ((φ9 (φV (φ0 s.1.1)) (φB (φ0 s.1.1) (φG (actN s) d).1)).1,0)).2=0:=(φ1C _).1 (Decidable.not_not.1 c)
  exact φGX c
theorem φJH {k N:Nat} {s:φ6} {d:φ1} (h:JB s d) (p:PB k N s d) (t:List UInt8) (ht:t.length≤71) (hk:k≤98) (hN:N≤1000) :
  (addR s d t).2.2=0∧(addR s d t).2.1.2=(100000,-1,false) ∧
  (∀n,(φ2 (addR s d t).2.1 n).2=true→n=φa∨(∃id∈(addR s d t).1.1.2,n=φ0 id)∨n=φI ((addR s d t).1.1.2.headD 0)) ∧
  (∀n,(φ2 (addR s d t).2.1 n).1.length≤1500)∧130 * ((addR s d t).1.1.2.length:Int)+(addR s d t).1.2.2.2.1≤260+71 * k ∧
  (addR s d t).1.2.2.2.1+(t.length:Int)≤200∧(addR s d t).1.1.1≤3+k+2 * N:=by
 obtain ⟨q1,q2,q3,q4,q5,q6⟩:=φg.1 h.ok
 have h0:=(φ7x h.ok).s0
 have hpot:=p.pot
 have hact:=p.act
 have hnx:=p.nx
 unfold addR
 by_cases c:s.2.2.2.1 > 0∧s.2.2.2.1+(t.length:Int) > 200
 rotate_left
 ·rw[if_neg c]
  exact ⟨rfl,p.cap,p.nm,p.sz,hpot,by show s.2.2.2.1+(t.length:Int)≤200;omega,by show s.1.1≤_;omega⟩
 rw[if_pos c]
 obtain ⟨R,hL⟩:=p.room h.ok hk
 have R:Room 100000 85500 57 d:=R.mono (by decide) (by decide)
 have hL:s.1.2.length≤55:=Nat.le_trans hL (by decide)
 have hn:=((φ13 _).1 q2).2.1
 obtain ⟨r1,r2⟩:=φCb R (φBe h.ok) (by omega) ⟨hn.1,by omega⟩ (by omega) (by omega)
 obtain ⟨e1,e2,e3,e4⟩:=φ70 q1 r2
 have hlv:=φDd q1 r2
 have htm:=φOH r2
 have hot:∀n,n≠φ0 s.1.1→n≠φ1E→n≠φa→φ2 (rotP s d).2.1 n=φ2 d n:=by
  rcases φ81 (s:=s) q1 with ⟨k1,_⟩ | ⟨_,_,k2⟩
  ·rw[e1] at k1
   simp only at k1
   omega
  ·exact k2
 have hne:=φ3D q2
 have hhd:(s.1.2++[s.1.1]).headD 0=s.1.2.headD 0:=by
  cases hs:s.1.2 with
  | nil=>exact absurd hs hne
  | cons a l=>rfl
 refine ⟨r2,r1.tl,fun n hnn=>?_,fun n=>?_,?_,?_,?_⟩
 ·rw[e1]
  show n=φa∨(∃id∈s.1.2++[s.1.1],n=φ0 id)∨n=φI ((s.1.2++[s.1.1]).headD 0)
  rw[hhd]
  by_cases a1:n=φ0 s.1.1
  ·exact .inr (.inl ⟨s.1.1,by simp,a1⟩)
  by_cases a2:n=φ1E
  ·rw[a2,htm] at hnn;simp at hnn
  by_cases a3:n=φa
  ·exact .inl a3
  rw[hot n a1 a2 a3] at hnn
  rcases p.nm n hnn with e | ⟨id,hid,e⟩ | e
  ·exact .inl e
  ·exact .inr (.inl ⟨id,mL _ hid,e⟩)
  ·exact .inr (.inr e)
 ·by_cases a1:n=φ0 s.1.1
  ·rw[a1,e2];simp
  by_cases a2:n=φ1E
  ·rw[a2,φ68 htm];simp
  by_cases a3:n=φa
  ·rw[a3,hlv]
   have:=φ5O (s.1.1+1,s.1.2++[s.1.1])
   show (φl _).length≤1500
   omega
  rw[hot n a1 a2 a3]
  exact p.sz n
 ·rw[e1]
  show 130 * ((s.1.2++[s.1.1]).length:Int)+0≤_
  simp only[lA,lC,lN]
  omega
 ·rw[e1]
  show (0:Int)+(t.length:Int)≤200
  omega
 ·rw[e1]
  show s.1.1+1≤_
  omega
theorem φK9 {k N:Nat} {s:φ6} {d:φ1} {r:RecT} (h:JB s d) (p:PB k N s d) (hr:φZ r=true) (hk:k≤98) (hN:N≤1000):(addP s d r).2.2.1=0∧PB (k+1) N (addP s d r).1 (addP s d r).2.1:=by
 obtain ⟨q1,q2,q3,q4,q5,q6⟩:=φg.1 h.ok
 obtain ⟨R,hL⟩:=p.room h.ok hk
 have R:Room 100000 85500 57 d:=R.mono (by decide) (by decide)
 have hL:s.1.2.length≤55:=Nat.le_trans hL (by decide)
 have hnx:=p.nx
 obtain ⟨a1,a2,a3,a4⟩:=φNn (r:=r) R h.ok h.lt (by omega) (by omega) (by omega) (by omega)
 obtain ⟨f1,f2⟩:=φ4j r
 obtain ⟨b1,b2,b3,b4,b5,b6,b7⟩:=φJH h p (fr r) f2 hk hN
 have hgrow:JB (addR s d (fr r)).1 (addR s d (fr r)).2.1:=by
  unfold addR
  split
  ·exact (φBb h).jb
  ·exact h
 refine ⟨a2,?_⟩
 have hcap:=a1.tl
 unfold addP at a2 hcap ⊢
 rw[show frame (φ5 r)=fr r from rfl] at *
 generalize addR s d (fr r)=S at *
 simp only at a2 hcap ⊢
 rw[if_neg (by rw[b1];simp)] at a2 hcap ⊢
 by_cases c2:(φL (actN S.1) (fr r) S.2.1).2=0
 rotate_left
 ·rw[if_pos c2] at a2
  exact absurd ((φ1C _).1 a2) c2
 rw[if_neg (by simpa using c2)] at hcap ⊢
 obtain ⟨d1,d2,d3,d4,d5,d6⟩:=φg.1 hgrow.ok
 obtain ⟨t1,t2⟩:=φ4F c2
 have hsz:=((φ1q _).1 d5).2 (φ3D d2)
 refine ⟨hcap,fun n hn=>?_,fun n=>?_,?_,?_,?_⟩
 ·by_cases e:n=actN S.1
  ·exact .inr (.inl ⟨φM S.1.1.2,φ33 (φ3D d2),e⟩)
  ·rw[φ5Y d1 e] at hn
   exact b3 n hn
 ·by_cases e:n=actN S.1
  ·rw[e,t2]
   show ((φ2 S.2.1 (actN S.1)).1++fr r).length≤1500
   rw[lA]
   have:S.1.2.2.2.1=((φ2 S.2.1 (actN S.1)).1.length:Int):=hsz
   omega
  ·rw[φ5Y d1 e]
   exact b4 n
 ·show 130 * (S.1.1.2.length:Int)+(S.1.2.2.2.1+((fr r).length:Int))≤260+71 * ((k+1:Nat):Int)
  omega
 ·show S.1.2.2.2.1+((fr r).length:Int)≤200
  omega
 ·show S.1.1.1≤2+((k+1:Nat):Int)+2 * N
  omega
theorem φD7:∀(rs:List RecT) (k N:Nat) (s:φ6) (d:φ1),JB s d→PB k N s d→(∀r∈rs,φZ r=true)→k+rs.length≤99→N≤1000→(φd rs s d).2.2.1=0∧PB (k+rs.length) N (φd rs s d).1 (φd rs s d).2.1
 | [],k,N,s,d,_,p,_,_,_=>⟨rfl,p⟩
 | r::rs,k,N,s,d,h,p,hr,hk,hN=>by
  simp only[lC] at hk
  obtain ⟨a1,a2⟩:=φK9 h p (hr r κ0) (by omega) hN
  obtain ⟨q,hq,_⟩:=(φAl h (hr r κ0)).1 a1
  obtain ⟨b1,b2⟩:=φD7 rs (k+1) N _ _ hq.jb a2 (fun x hx=>hr x (mC _ hx)) (by omega) hN
  unfold φd
  rw[if_neg (by rw[a1];simp)]
  refine ⟨b1,?_⟩
  rw[show k+(r::rs).length=k+1+rs.length by simp only[lC];omega]
  exact b2
structure PR (k N:Nat) (s:φ6) (d:φ1):Prop extends JR s d where
 bk:PB k N s d
 ex:s.2.2.1=1∨∃p∈φS d s.1.2,p.2.2.2.2.1=s.2.2.1 - 1
theorem PR.up {k N k' N':Nat} {s:φ6} {d:φ1} (h:PR k N s d) (h1:k≤k') (h2:N≤N'):PR k' N' s d:=⟨h.toJR,h.bk.up h1 h2,h.ex⟩
theorem φNy {k N:Nat} {s:φ6} {d:φ1} (h:PR k N s d) {l:List PutT} (hp:φ27 l=true) (hb:s.2.2.1≤1000000) (hkk:φ2n s.2.1 l≤20) (hk:k+(l.length+1)≤99) (hN:N≤1000) :
  (φ1N s d l).2.2=0∧PR (k+(l.length+1)) N (φ1N s d l).1 (φ1N s d l).2.1∧(φ1N s d l).1.2.2.1=s.2.2.1+1:=by
 obtain ⟨q1,q2,q3,q4,q5,q6⟩:=φg.1 h.ok
 have hrec:=φ6n (b:=s.2.2.1) (l:=l) ⟨q4.1,hb⟩ hp
 have hJ1:=h.toJB.bump hb
 obtain ⟨P,g1,g2,g3,g4,g5⟩:=φ7A (φ1n s.2.2.1 l) _ _ hJ1 hrec
 have hrl:=φ8X s.2.2.1 l
 obtain ⟨c1,c2⟩:=φD7 (φ1n s.2.2.1 l) k N (s.1,s.2.1,s.2.2.1+1,s.2.2.2) d hJ1 (h.bk.same rfl rfl) hrec (by omega) hN
 rw[hrl] at c2
 have hj:=φF9 h.toJR hp hb hkk
 have hright:=φAx h.ok h.lt hp hb hkk
 unfold φ1N at hj hright ⊢
 generalize hG:φd (φ1n s.2.2.1 l) (s.1,s.2.1,s.2.2.1+1,s.2.2.2) d=g at *
 simp only at hj hright ⊢
 rw[if_neg (by rw[c1];simp)] at hj hright ⊢
 obtain ⟨b1,b2,b3,b4,b5,b6⟩:=φg.1 g1.jb.ok
 have hex:(φ2 g.2.1 (actN g.1)).2=true:=(((φ1q _).1 b5).1 _ (φ33 (φ3D b2))).1
 have hs0:(φG (actN g.1) g.2.1).2=0:=φ7i b1 g1.jb.fre hex
 rw[if_neg (by rw[hs0];simp)] at hj hright ⊢
 obtain ⟨r1,r2,r3,r4,r5⟩:=hright rfl
 have hpl2:φS (φG (actN g.1) g.2.1).1 g.1.1.2=φS d s.1.2++P:=by
  rw[φ5T (d:=g.2.1) fun id _=>φ2K b1 _ _]
  exact g1.pl
 have hcap:(φG (actN g.1) g.2.1).1.2=(100000,-1,false):=by
  have:=φ4D (act:=φ29 (actN g.1)) b1 g1.jb.fre
  show (φT g.2.1 (φ29 (actN g.1))).1.2=_
  rw[this]
  exact c2.cap
 refine ⟨rfl,⟨hj,?_,?_⟩,r4⟩
 ·exact ⟨hcap,fun n hn=>by rw[φ2K b1] at hn;exact c2.nm n hn,fun n=>by rw[φ2K b1];exact c2.sz n,c2.pot,c2.act,c2.nx⟩
 ·right
  obtain ⟨x1,x2⟩:=g4 c1
  cases hP:P with
  | nil=>rw[hP] at x1;simp at x1;omega
  | cons p P'=>
   refine ⟨p,?_,?_⟩
   ·show p∈φS (φG (actN g.1) g.2.1).1 g.1.1.2
    rw[hpl2,hP]
    exact mR _ κ0
   ·have hm:p.2.2.2∈P.map (·.2.2.2):=mM.2 ⟨p,by rw[hP];exact κ0,rfl⟩
    rw[g2] at hm
    have hm:=List.mem_of_mem_take hm
    have hb2:p.2.2.2.2.1=s.2.2.1:=by
     unfold φ1n at hm
     rcases mA.1 hm with k1 | k1
     ·obtain ⟨q,_,e⟩:=mM.1 k1
      have:=(φFo s.2.2.1 q).2
      rw[e] at this
      exact this
     ·rw[mZ.1 k1]
    have r4:g.1.2.2.1=s.2.2.1+1:=r4
    show p.2.2.2.2.1=g.1.2.2.1 - 1
    rw[hb2,r4];omega
theorem φBB {c u f:Nat} {d:φ1} (h:Room c u f d) {n:List UInt8} (ho:φ1i n=true) (hf:f<130):Room c u (f+1) (sNew n (d,0)).1∧(sNew n (d,0)).2=0∧(φ2 (sNew n (d,0)).1 n).2=true:=by
 unfold sNew
 rw[φ44]
 obtain ⟨g1,g2,g3⟩:=φ9p h n
 generalize φB n d=w at *
 obtain ⟨d1,c1⟩:=w
 simp only at g1 g2 g3
 subst g2
 rw[φ44]
 obtain ⟨k1,k2⟩:=φA5 g1 g3 ho hf
 exact ⟨k1,k2,by rw[φ9V k2]⟩
theorem φDN {c f:Nat} {n:List UInt8}:∀(recs:List RecT) (u:Nat) (d:φ1),Room c u f d→(φ2 d n).2=true→u+71 * recs.length≤c →
  Room c (u+71 * recs.length) f (sApp n recs (d,0)).1∧(sApp n recs (d,0)).2=0∧(φ2 (sApp n recs (d,0)).1 n).2=true
 | [],u,d,h,hn,_=>⟨h,rfl,hn⟩
 | r::rs,u,d,h,hn,hu=>by
  simp only[lC] at hu
  have hf:=(φ4j r).2
  obtain ⟨k1,k2⟩:=φ8f (t:=fr r) h hn (by omega)
  have k3:=(φ4F k2).2
  have e:sApp n (r::rs) (d,0)=sApp n rs (φL n (fr r) d):=by
   show sApp n rs (φ9 (φL n (frame (φ5 r))) (d,0))=_
   rw[φ44];rfl
  rw[e]
  generalize φL n (fr r) d=w at *
  obtain ⟨d1,c1⟩:=w
  simp only at k1 k2 k3
  subst k2
  obtain ⟨m1,m2,m3⟩:=φDN rs (u+71) d1 (k1.mono (by omega) (κ6 _)) (by rw[k3]) (by omega)
  exact ⟨m1.mono (by simp only[lC];omega) (κ6 _),m2,m3⟩
theorem φD8 {c u f:Nat} {w:φD} (h:Room c u f w.1) (h0:w.2=0) {n:List UInt8} (hn:(φ2 w.1 n).2=true):Room c u f (φ9 (φG n) w).1∧(φ9 (φG n) w).2=0:=by
 obtain ⟨d,x⟩:=w
 simp only at h h0 hn
 subst h0
 rw[φ44]
 exact φBD h hn
theorem φMP {c u f:Nat} {d:φ1} (h:Room c u f d) {n t:List UInt8} (ho:φ1i n=true) (hf:f<130) (hu:u+t.length≤c):Room c (u+t.length) (f+1) (φ1Q n t (d,0)).1∧(φ1Q n t (d,0)).2=0:=by
 obtain ⟨a1,a2,a3⟩:=φBB h ho hf
 show Room c (u+t.length) (f+1) (φ9 (φG n) (φ9 (φL n t) (sNew n (d,0)))).1∧(φ9 (φG n) (φ9 (φL n t) (sNew n (d,0)))).2=0
 generalize sNew n (d,0)=w at *
 obtain ⟨d1,x⟩:=w
 simp only at a1 a2 a3
 subst a2
 rw[φ44]
 obtain ⟨k1,k2⟩:=φ8f (t:=t) a1 a3 hu
 have k3:=(φ4F k2).2
 exact φD8 k1 k2 (by rw[k3])
theorem φDj {x:Int×Int×Bool} (hx:x.2=(-1,false)) {d:φ1} {act:List φ4→Int×List φ4} (h:d.2=x):(φT d act).1.2=x:=by
 unfold φT
 split
 ·exact h
 ·split
  ·rename_i c
   rw[h,hx] at c
   simp at c
  ·show (tick d).2=x
   unfold tick
   rw[if_neg (by rw[h,hx];decide)]
   exact h
theorem φMc {c u f:Nat} {s:φ6} {d:φ1} {l:List φX} (h:Room c u f d) (hv:φk s.1=true) (h2:s.1.1+2≤100000) (hl:l.length≤20) (hu:u+2800≤c) (hf:f+5≤130) :
  (φ14 s d l).2.2=0∧(φ14 s d l).2.1.2=((c:Int),-1,false):=by
 have hm:=((φ13 _).1 hv).2.1
 have ho1:=φ5k (id:=s.1.1) ⟨hm.1,by omega⟩
 have ho2:=φ5k (id:=s.1.1+1) ⟨by omega,by omega⟩
 have ho3:=φGv (id:=s.1.1) ⟨hm.1,by omega⟩
 have hkl:=φ9Y l (s.2.2.1 - 1)
 -- the merged segment
 have w0:Room c (u+71 * 21) (f+1) (sWM s.1.1 (φW l (s.2.2.1 - 1)) (d,0)).1∧(sWM s.1.1 (φW l (s.2.2.1 - 1)) (d,0)).2=0:=by
  unfold sWM
  obtain ⟨a1,a2,a3⟩:=φBB h ho1 (by omega)
  generalize sNew (φ0 s.1.1) (d,0)=w at *
  obtain ⟨d1,x⟩:=w
  simp only at a1 a2 a3
  subst a2
  obtain ⟨b1,b2,b3⟩:=φDN (n:=φ0 s.1.1) (φW l (s.2.2.1 - 1)) u d1 a1 a3 (by omega)
  obtain ⟨k1,k2⟩:=φD8 b1 b2 b3
  exact ⟨k1.mono (by omega) (κ6 _),k2⟩
 unfold φ14
 simp only
 generalize hW0:sWM s.1.1 (φW l (s.2.2.1 - 1)) (d,0)=W0 at *
 obtain ⟨d0,x0⟩:=W0
 obtain ⟨r0,e0⟩:=w0
 simp only at r0 e0
 subst e0
 obtain ⟨r1,e1,_⟩:=φBB r0 ho2 (by omega)
 generalize sNew (φ0 (s.1.1+1)) (d0,0)=W1 at *
 obtain ⟨d1,x1⟩:=W1
 simp only at r1 e1
 subst e1
 -- the hint
 have w2:Room c (u+71 * 21+1004) (f+3) (φo s.1.1 (d1,0)).1∧(φo s.1.1 (d1,0)).2=0:=by
  unfold φo
  rw[if_neg (by simp)]
  unfold φ1u
  simp only
  have hh:=φ8a (φ15 s.1.1 (φ2 d1 (φ0 s.1.1)).1).1
  obtain ⟨k1,k2⟩:=φMP (t:=φ1S (φ15 s.1.1 (φ2 d1 (φ0 s.1.1)).1).1) r1 ho3 (by omega) (by omega)
  rw[if_neg (by rw[k2];decide)]
  exact ⟨k1.mono (by omega) (by omega),k2⟩
 generalize φo s.1.1 (d1,0)=W2 at *
 obtain ⟨d2,x2⟩:=W2
 obtain ⟨r2,e2⟩:=w2
 simp only at r2 e2
 subst e2
 obtain ⟨r3,e3⟩:=φCd r2 (s.1.1+2,[s.1.1,s.1.1+1]) (by omega) (by omega)
 have et:(φA (sPut (s.1.1+2,[s.1.1,s.1.1+1]) (d2,0))).2=0:=(φ1C _).2 e3
 have hF:Free (sPut (s.1.1+2,[s.1.1,s.1.1+1]) (d2,0)).1:=by
  unfold Free
  rw[r3.tl]
 rw[if_pos rfl,if_neg (by rw[et];simp)]
 have hs0:=φ7b s.1.2 (w:=((sPut (s.1.1+2,[s.1.1,s.1.1+1]) (d2,0)).1,0)) r3.dk hF rfl
 exact ⟨(φ1C _).2 hs0,φC7 (P:=fun d=>d.2=((c:Int),-1,false)) (fun d act k=>φDj rfl k) s.1.2 (w:=((sPut (s.1.1+2,[s.1.1,s.1.1+1]) (d2,0)).1,0)) r3.tl⟩
end Go.Rf.G
