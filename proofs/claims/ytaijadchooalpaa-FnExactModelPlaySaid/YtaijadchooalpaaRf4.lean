import Derived.LoopN
import Derived.Test.YtaijadchooalpaaRf3
open Option renaming bind_some→bS
open List renaming length_append→lA,append_assoc→aA,mem_cons_of_mem→mC,mem_append→mA,mem_append_right→mR,mem_append_left→mL,mem_cons→mc,drop_eq_getElem_cons→dG,length_take→lT,length_drop→lD,mem_map→mM,length_map→lM,length_cons→lC,length_nil→lN,getElem_mem→gM,map_append→mp,mem_singleton→mZ,take_succ_eq_append_getElem→κ0,nodup_append→κ2,mem_cons_self→κ3,append_nil→κ5,flatMap_append→κ8,replicate→κA,take_length→κB,nodup_cons→κC,range'→κE,cons_append→κG,map_cons→κH,take_append_drop→κJ
open Bool renaming and_eq_true→bA,eq_false_or_eq_true→bE,not_true→nZ,not_false→nF,true_and→tA,not_not→nn,or_eq_false_iff→κ6,not_eq_true'→κF,false_eq_true→κI
open Int renaming toNat_natCast→tN,ofNat_lt→oL
open Nat renaming eq_of_beq_eq_true→κ1,lt_or_ge→κ4,lt_of_lt_of_le→κ7,le_of_ble_eq_true→κ9,le_refl→κD,zero_le→κL
open Array renaming length_toList→κK
set_option linter.unusedVariables false
set_option linter.unusedSimpArgs false
namespace Go.Rf
section
variable {P:Program} {T:Tab} {E:Env} {B:Base} {Al Al':Nat→Prop} {s s':St} {a:Act} {w w':World} {W W':Wit} {o:Oper} {f:Nat}
 {ob ob':Nat→Option Obj} {rs rs':List Key} {u:Upd} {I:Nat→Prop}
def at1:List NewOb→Nat→Option NewOb
 | [],_=>none
 | o::r,j=>if j=o.id then some o else at1 r j
theorem φ3H:∀{os:List NewOb} {j:Nat} {o:NewOb},at1 os j=some o→o∈os∧o.id=j
 | [],_,_,h=>by simp[at1] at h
 | x::os,j,o,h=>by
  unfold at1 at h
  split at h
  ·rename_i e
   simp only[Option.some.injEq] at h
   subst h;exact ⟨by simp,e.symm⟩
  ·obtain ⟨h1,h2⟩:=φ3H h;exact ⟨mC _ h1,h2⟩
theorem φ5Y:∀{os:List NewOb} {o:NewOb},(os.map (·.id)).Nodup→o∈os→at1 os o.id=some o
 | x::os,o,hn,ho=>by
  rw[κH,κC] at hn
  unfold at1
  rcases mc.1 ho with k | k
  ·subst k;rw[if_pos rfl]
  ·rw[if_neg]
   ·exact φ5Y hn.2 k
   ·intro e;exact hn.1 (e ▸ mM.2 ⟨o,k,rfl⟩)
theorem φ9E:∀{os:List NewOb} {j:Nat},at1 os j=none→∀o∈os,o.id≠j
 | x::os,j,h,o,ho=>by
  unfold at1 at h
  split at h
  ·simp at h
  ·rename_i e
   rcases mc.1 ho with k | k
   ·subst k;exact fun e'=>e e'.symm
   ·exact φ9E h o k
theorem φ3j:∀(os:List NewOb) (g:Nat→Option Obj) (j:Nat),(os.map (·.id)).Nodup→updS g (os.map NewOb.upd) j=match at1 os j with | some o=>some o.ob | none=>g j
 | [],_,_,_=>rfl
 | x::os,g,j,hn=>by
  rw[κH,κC] at hn
  show updS (upd g x.id (some x.ob)) (os.map NewOb.upd) j=_
  rw[φ3j os _ j hn.2,show at1 (x::os) j=if j=x.id then some x else at1 os j from rfl]
  by_cases e:j=x.id
  ·rw[if_pos e]
   have:at1 os j=none:=by
    cases h:at1 os j with
    | none=>rfl
    | some o=>obtain ⟨h1,h2⟩:=φ3H h;exact absurd (mM.2 ⟨o,h1,h2.trans e⟩) hn.1
   rw[this,e,φb]
  ·rw[if_neg e]
   cases at1 os j with
   | none=>exact φV _ _ e
   | some o=>rfl
theorem φ4K:∀(ids:List Nat) (g:Nat→Option Obj) (j:Nat),updS g (gone ids) j=if j∈ids then none else g j
 | [],g,j=>by simp[gone,updS]
 | i::ids,g,j=>by
  show updS (upd g i none) (gone ids) j=_
  rw[φ4K ids]
  by_cases h:j∈ids
  ·rw[if_pos h,if_pos (mC _ h)]
  ·rw[if_neg h]
   by_cases e:j=i
   ·subst e;rw[φb,if_pos (by simp)]
   ·rw[φV _ _ e,if_neg (by simp[h,e])]
theorem φ6i {α:Type}:∀(l m:List (Nat×α)) (g:Nat→α),updS g (l++m)=updS (updS g l) m
 | [],_,_=>rfl
 | (i,v)::l,m,g=>φ6i l m (upd g i v)
noncomputable def putW (Al:Nat→Prop) (w':World) (W:Wit) (I:Nat→Prop) (os:List NewOb):Wit where
 I:=I
 ns:=W.ns
 sj:=W.sj
 hol:=W.hol
 hd:=fun i=>match at1 os i with | some o=>(fun z=>@ite _ (Al i) (Classical.propDecidable _) (W.hd i z) (hdOf w' o.g z)) | none=>W.hd i
 η:=fun i=>match at1 os i with | some o=>o.g | none=>W.η i
 nf:=fun i=>match at1 os i with | some o=>o.nf | none=>W.nf i
 cp:=fun i=>match at1 os i with | some o=>o.c | none=>W.cp i
 nl:=fun i=>match at1 os i with | some o=>o.nl | none=>W.nl i
theorem φ5I {α:Type} {g:α→List Nat}:∀{l:List α},(l.flatMap g).Nodup→(∀x∈l,(g x).Nodup)
 | x::l,h,y,hy=>by
  rw[List.flatMap_cons,κ2] at h
  rcases mc.1 hy with k | k
  ·subst k;exact h.1
  ·exact φ5I h.2.1 y k
theorem φ6p {g:NewOb→List Nat}:∀{l:List NewOb},(l.flatMap g).Nodup→∀x∈l,∀y∈l,x.id≠y.id→∀b∈g x,b ∉ g y
 | z::l,h,x,hx,y,hy,hne,b,hb,hb'=>by
  rw[List.flatMap_cons,κ2] at h
  rcases mc.1 hx with k | k<;>rcases mc.1 hy with q | q
  ·subst k;subst q;exact hne rfl
  ·subst k;exact h.2.2 b hb b (List.mem_flatMap.2 ⟨y,q,hb'⟩) rfl
  ·subst q;exact h.2.2 b hb' b (List.mem_flatMap.2 ⟨x,k,hb⟩) rfl
  ·exact φ6p h.2.1 x k y q hne b hb hb'
structure Inst (B:Base) (Al Al':Nat→Prop) (s:St) (W:Wit) (w w':World) (ids:List Nat) (os:List NewOb) (I' Fr:Nat→Prop):Prop where
 sub:∀i,Al i→Al' i
 isS:∀i∈ids,(s.ob i).isSome=true
 ndO:(os.map (·.id)).Nodup
 new:∀o∈os,Al' o.id∧(¬Al o.id∨(φ3a W s.ob o∧o.id∈ids))
 I1:∀b,W.I b→I' b
 I2:∀b,I' b→W.I b∨b∈blk W ids∨w.heap.size≤b
 I3:∀b,I' b→b<w'.heap.size
 I4:∀b,I' b→b ∉ os.flatMap NewOb.fp
 ndB:(os.flatMap NewOb.fp).Nodup
 frD:∀b,Fr b→∀j,(s.ob j).isSome=true→b ∉ fpOf W j
 frB:∀b,Fr b→B.fpT b∨B.fpN b∨B.w0.heap.size≤b
 fpB:∀b∈os.flatMap NewOb.fp,(b∈blk W ids∨w.heap.size≤b)∨Fr b
 tpB:∀b∈os.flatMap NewOb.tp,((∃i∈ids,W.nl i=false∧b=W.η i)∨w.heap.size≤b)∨(B.fpT b∨B.w0.heap.size≤b)
 heap:∀b,b<w.heap.size→(∀i∈ids,W.nl i=false→b≠W.η i)→(W.ns=true→b ∉ blk W ids)→w'.heap[b]?=w.heap[b]?
 J:W.ns=false→∀i∈ids,∀b∈W.nf i,I' b∨∃o∈os,b∈o.nf
 ok:∀o∈os,NOk w' I' os o
 size:w.heap.size≤w'.heap.size
 os':w'.os=w.os
 tape:w'.tape=w.tape
 output:w'.output=w.output
theorem Rel.install (h:Rel B Al s a w W) {ids:List Nat} {os:List NewOb} {I' Fr:Nat→Prop} (i:Inst B Al Al' s W w w' ids os I' Fr) (hhd:W.hol=true→∀o∈os,¬Al o.id) {ob':Nat→Option Obj}
  (hob:∀j,ob' j=match at1 os j with | some o=>some o.ob | none=>if j∈ids then none else s.ob j) :
  (∀c v,VN w' I' os c v→Vs w' (putW Al w' W I' os) ob' c v∧∀j,menS c j→Al' j) ∧
  ∀d r v,φA B d→AVr w' (putW Al w' W I' os) ob' r v→(∀j,menA r j→Al' j)→Rel B Al' ⟨updS s.sl (dl d r),ob'⟩ (a.put d v) w' (putW Al w' W I' os):=by
 have hat:∀o∈os,at1 os o.id=some o:=fun o ho=>φ5Y i.ndO ho
 have hobO:∀o∈os,ob' o.id=some o.ob:=fun o ho=>by rw[hob,hat o ho]
 have hη:∀o∈os,(putW Al w' W I' os).η o.id=o.g:=fun o ho=>by show (match at1 os o.id with | some o=>o.g | none=>_)=_;rw[hat o ho]
 have hnf:∀o∈os,(putW Al w' W I' os).nf o.id=o.nf:=fun o ho=>by show (match at1 os o.id with | some o=>o.nf | none=>_)=_;rw[hat o ho]
 have hcp:∀o∈os,(putW Al w' W I' os).cp o.id=o.c:=fun o ho=>by show (match at1 os o.id with | some o=>o.c | none=>_)=_;rw[hat o ho]
 have hnl:∀o∈os,(putW Al w' W I' os).nl o.id=o.nl:=fun o ho=>by show (match at1 os o.id with | some o=>o.nl | none=>_)=_;rw[hat o ho]
 have hfp:∀o∈os,fpOf (putW Al w' W I' os) o.id=o.fp:=fun o ho=>by unfold fpOf NewOb.fp;rw[hη o ho,hnf o ho,hnl o ho]
 have k0:∀j,at1 os j=none→(putW Al w' W I' os).η j=W.η j∧(putW Al w' W I' os).nf j=W.nf j∧(putW Al w' W I' os).cp j=W.cp j∧(putW Al w' W I' os).nl j=W.nl j:=fun j hj=>by
  refine ⟨?_,?_,?_,?_⟩
  ·show (match at1 os j with | some o=>o.g | none=>W.η j)=_;rw[hj]
  ·show (match at1 os j with | some o=>o.nf | none=>W.nf j)=_;rw[hj]
  ·show (match at1 os j with | some o=>o.c | none=>W.cp j)=_;rw[hj]
  ·show (match at1 os j with | some o=>o.nl | none=>W.nl j)=_;rw[hj]
 have k0h:∀j,at1 os j=none→(putW Al w' W I' os).hd j=W.hd j:=fun j hj=>by
  show (match at1 os j with | some o=>_ | none=>W.hd j)=_;rw[hj]
 have hhd2:∀o∈os,(putW Al w' W I' os).hd o.id=fun z=>@ite _ (Al o.id) (Classical.propDecidable _) (W.hd o.id z) (hdOf w' o.g z):=fun o ho=>by
  show (match at1 os o.id with | some o'=>(fun z=>@ite _ (Al o.id) (Classical.propDecidable _) (W.hd o.id z) (hdOf w' o'.g z)) | none=>_)=_;rw[hat o ho]
 -- which numbers turn
 have cas:∀j,(∃o∈os,o.id=j)∨at1 os j=none:=fun j=>by
  cases hj:at1 os j with
  | none=>exact .inr rfl
  | some o=>exact .inl ⟨o,φ3H hj⟩
 have obN:∀j x,at1 os j=none→ob' j=some x→j ∉ ids∧s.ob j=some x:=fun j x hj hx=>by
  rw[hob,hj] at hx
  simp only at hx
  split at hx
  ·simp at hx
  ·rename_i k;exact ⟨k,hx⟩
 have top:∀b,b<w.heap.size→W.J s.ob b→∀i∈ids,W.nl i=false→b≠W.η i:=fun b _ hb j hj hn=>h.notJ (i.isS j hj) hn hb
 have hJ:∀b,W.J s.ob b→w'.heap[b]?=w.heap[b]?:=fun b hb=>i.heap b (h.Jlt hb) (top b (h.Jlt hb) hb) fun hns k=>by
  rcases hb with q | q | ⟨q,_⟩
  ·obtain ⟨j,hj,hbj⟩:=φa.1 k
   exact h.imm j (i.isS j hj) b hbj q
  ·rw[h.sj] at q
   have:=(h.sjB b q).2.2
   rw[←h.ns,hns] at this;simp at this
  ·rw[hns] at q;simp at q
 have turn:Turn Al W (putW Al w' W I' os) s.ob ob' w w':=
  {I:=i.I1
   J:=fun b hb=>by
    rcases hb with hb | hb | ⟨hh,j,hj,hb⟩
    ·exact .inl (i.I1 b hb)
    ·exact .inr (.inl hb)
    ·by_cases hji:j∈ids
     ·rcases i.J hh j hji b hb with k | ⟨o,ho,k⟩
      ·exact .inl k
      ·exact .inr (.inr ⟨hh,o.id,by rw[hobO o ho];rfl,by rw[hnf o ho];exact k⟩)
     ·rcases cas j with ⟨o,ho,e⟩ | hn
      ·rcases (i.new o ho).2 with k | ⟨_,k⟩
       ·exact absurd (h.al j hj) (e ▸ k)
       ·exact absurd (e ▸ k) hji
      ·exact .inr (.inr ⟨hh,j,by rw[hob,hn];simp only[if_neg hji];exact hj,by rw[(k0 j hn).2.1];exact hb⟩)
   hJ:=hJ
   rows:=fun j hj t xs' hx=>by
    rcases cas j with ⟨o,ho,e⟩ | hn
    ·subst e
     rcases (i.new o ho).2 with k | ⟨k,_⟩
     ·exact absurd hj k
     ·rw[hobO o ho] at hx
      simp only[Option.some.injEq] at hx
      rcases k with ⟨t1,xs1,q1,t0,xs0,q2,q3,q4,q5,q6,q7⟩ | ⟨l,l0,q1,_⟩
      ·rw[q1] at hx
       simp only[Obj.row.injEq] at hx
       obtain ⟨rfl,hx⟩:=hx
       have hx:=eq_of_heq hx
       subst hx
       exact ⟨t0,xs0,q2,q3,q4,by rw[hη o ho];exact q5,by rw[hcp o ho];exact q6,by rw[hnl o ho];exact q7,fun hh=>absurd hj (hhd hh o ho)⟩
      ·rw[q1] at hx;simp at hx
    ·obtain ⟨k1,k2⟩:=obN j _ hn hx
     exact ⟨t,xs',k2,rfl,rfl,(k0 j hn).1,(k0 j hn).2.2.1,(k0 j hn).2.2.2,fun _=>⟨fun _=>rfl,k0h j hn⟩⟩
   hol:=rfl
   sj:=rfl
   ns:=rfl
   vars:=fun j hj l' hx=>by
    rcases cas j with ⟨o,ho,e⟩ | hn
    ·subst e
     rcases (i.new o ho).2 with k | ⟨k,_⟩
     ·exact absurd hj k
     ·rw[hobO o ho] at hx
      simp only[Option.some.injEq] at hx
      rcases k with ⟨t1,xs1,q1,_⟩ | ⟨l,l0,q1,q2,q3⟩
      ·rw[q1] at hx;simp at hx
      ·exact ⟨l0,q2,by rw[hη o ho];exact q3⟩
    ·obtain ⟨k1,k2⟩:=obN j _ hn hx
     exact ⟨l',k2,(k0 j hn).1⟩ }
 have hvn:∀c v,VN w' I' os c v→Vs w' (putW Al w' W I' os) ob' c v∧∀j,menS c j→Al' j:=fun c v hc=>by
  have h1:=hc.one
  cases c with
  | undef=>exact ⟨⟨fun k=>by simp[φL] at k,trivial⟩,fun _ k=>k.elim⟩
  | int k n=>exact ⟨⟨h1,hc⟩,fun _ k=>k.elim⟩
  | bool b=>exact ⟨⟨h1,hc⟩,fun _ k=>k.elim⟩
  | str s=>exact ⟨⟨h1,hc⟩,fun _ k=>k.elim⟩
  | rd sf t xs=>cases sf with
   | false=>exact ⟨⟨h1,hc⟩,fun _ k=>k.elim⟩
   | true=>exact hc.elim
  | bx sf g t x=>cases sf with
   | false=>exact ⟨⟨h1,hc⟩,fun _ k=>k.elim⟩
   | true=>exact hc.elim
  | own id=>
   obtain ⟨o,ho,e,t,xs,q1,q2⟩:=hc
   subst e
   refine ⟨⟨h1,fun t2 xs2 h2=>?_⟩,fun j hj=>by have:o.id=j:=hj;subst this;exact (i.new o ho).1⟩
   rw[hobO o ho,q1] at h2
   simp only[Option.some.injEq,Obj.row.injEq] at h2
   obtain ⟨rfl,h2⟩:=h2
   have h2:=eq_of_heq h2
   subst h2
   unfold slv
   rw[hη o ho,hcp o ho,hnl o ho];exact q2
  | pv id off=>
   obtain ⟨o,ho,e,⟨l,q1⟩,q2⟩:=hc
   subst e
   exact ⟨⟨h1,o.g,q2,fun _ _=>(hη o ho).symm⟩,fun j hj=>by have:o.id=j:=hj;subst this;exact (i.new o ho).1⟩
  | err b=>exact ⟨⟨h1,hc⟩,fun _ k=>k.elim⟩
  | _=>exact hc.elim
 have inC:∀j,(ob' j).isSome=true→(j∈ids∨∃o∈os,o.id=j)→∃o∈os,o.id=j:=fun j hx hj=>by
  rcases hj with hj | hj
  ·rcases cas j with k | hn
   ·exact k
   ·obtain ⟨x,hx⟩:=Option.isSome_iff_exists.1 hx
    exact absurd hj (obN j x hn hx).1
  ·exact hj
 have ntC:∀j,¬(j∈ids∨∃o∈os,o.id=j)→j ∉ ids∧at1 os j=none:=fun j hj=>⟨fun k=>hj (.inl k),(cas j).resolve_left fun k=>hj (.inr k)⟩
 have blkD:∀j,j ∉ ids→(s.ob j).isSome=true→∀b∈fpOf W j,b ∉ blk W ids:=fun j hj hS b hb k=>by
  obtain ⟨q,hq,hbq⟩:=φa.1 k
  exact h.dis q j (fun e=>hj (e ▸ hq)) (i.isS q hq) hS b hbq hb
 have mf:∀{o:NewOb} {b:Nat},o∈os→b∈o.fp→b∈os.flatMap NewOb.fp:=fun ho hb=>List.mem_flatMap.2 ⟨_,ho,hb⟩
 have blkT:∀b,b∈blk W ids∨w.heap.size≤b→B.fpT b∨B.fpN b∨B.w0.heap.size≤b:=fun b hb=>by
  rcases hb with hb | hb
  ·obtain ⟨q,hq,hbq⟩:=φa.1 hb
   obtain ⟨hn,k | k⟩:=φ2T hbq
   ·rw[k];exact (h.ownT q (i.isS q hq) hn).imp id .inr
   ·exact h.ownN q (i.isS q hq) b k
  ·exact .inr (.inr (Nat.le_trans h.grown hb))
 refine ⟨hvn,fun d r v hd hv hm=>h.turn (C:=fun j=>j∈ids∨∃o∈os,o.id=j)
  {turn:=turn
   sub:=i.sub
   kept:=fun j hj=>by
    obtain ⟨k1,k2⟩:=ntC j hj
    exact ⟨by rw[hob,k2];simp only[if_neg k1],k0 j k2⟩
   keptH:=fun j hj hS b hb=>by
    obtain ⟨k1,k2⟩:=ntC j hj
    refine ⟨i.heap b (h.lt hS b hb) (fun q hq hn e=>?_) (fun _=>blkD j k1 hS b hb),fun k=>?_⟩
    ·exact h.dis q j (fun e=>k1 (e ▸ hq)) (i.isS q hq) hS b (e ▸ η_fp hn) hb
    ·rcases i.I2 b k with k | k | k
     ·exact h.imm j hS b hb k
     ·exact blkD j k1 hS b hb k
     ·have:=h.lt hS b hb;omega
   newO:=fun j hj x hx=>by
    obtain ⟨o,ho,e⟩:=inC j (by rw[hx];rfl) hj
    subst e
    rw[hobO o ho] at hx
    simp only[Option.some.injEq] at hx
    subst hx
    have hk:=i.ok o ho
    unfold NOk at hk
    refine ⟨?_,(i.new o ho).1,fun l hl j hj=>?_⟩
    ·unfold φ3u
     split at hk
     ·rename_i t xs e
      rw[e]
      show φ27 w' (putW Al w' W I' os) o.id t xs
      unfold φ27
      rw[hη o ho,hcp o ho,hnl o ho,hnf o ho]
      exact hk
     ·rename_i l e
      rw[e]
      obtain ⟨q1,q2,vs,el,q3,q4⟩:=hk
      exact ⟨(hnl o ho).trans q1,(hnf o ho).trans q2,vs,el,by rw[hη o ho];exact q3,q4.imp fun c _ v k=>(hvn c v k).1⟩
    ·rw[hl] at hk
     obtain ⟨q1,q2,vs,el,q3,q4⟩:=hk
     obtain ⟨c,hc,hcj⟩:=hj
     have:∀{l:List Sc} {vs:List Value},All2 (VN w' I' os) l vs→c∈l→∃v,VN w' I' os c v:=by
      intro l
      induction l with
      | nil=>intro vs _ hc;simp at hc
      | cons x l ih=>
       intro vs ⟨v,vs',_,p,q⟩ hc
       rcases mc.1 hc with k | k
       ·subst k;exact ⟨v,p⟩
       ·exact ih q k
     obtain ⟨v,hv⟩:=this q4 hc
     exact (hvn c v hv).2 j hcj
   newN:=fun j hj hS=>by
    obtain ⟨o,ho,e⟩:=inC j hS hj
    subst e
    rw[hfp o ho]
    exact φ5I i.ndB o ho
   newI:=fun j hj hS b hb k=>by
    obtain ⟨o,ho,e⟩:=inC j hS hj
    subst e
    rw[hfp o ho] at hb
    exact i.I4 b k (mf ho hb)
   newD:=fun j q hj hS hq hSq b hb hb'=>by
    obtain ⟨o,ho,e⟩:=inC j hS hj
    subst e
    rw[hfp o ho] at hb
    rcases i.fpB b (mf ho hb) with (k | k) | k
    ·exact blkD q (ntC q hq).1 hSq b hb' k
    ·have:=h.lt hSq b hb';omega
    ·exact i.frD b k q hSq hb'
   newD2:=fun j q hj hq hne hS hS' b hb hb'=>by
    obtain ⟨o,ho,e⟩:=inC j hS hj
    obtain ⟨o2,ho2,e2⟩:=inC q hS' hq
    subst e;subst e2
    rw[hfp o ho] at hb
    rw[hfp o2 ho2] at hb'
    exact φ6p i.ndB o ho o2 ho2 hne b hb hb'
   newT:=fun j hj hS hn=>by
    obtain ⟨o,ho,e⟩:=inC j hS hj
    subst e
    rw[hη o ho]
    rw[hnl o ho] at hn
    rcases i.tpB o.g (List.mem_flatMap.2 ⟨o,ho,by simp[NewOb.tp,hn]⟩) with (⟨q,hq,hn2,e⟩ | k) | k
    ·rw[e];exact h.ownT q (i.isS q hq) hn2
    ·exact .inr (Nat.le_trans h.grown k)
    ·exact k
   newF:=fun j hj hS b hb=>by
    obtain ⟨o,ho,e⟩:=inC j hS hj
    subst e
    rw[hnf o ho] at hb
    have hk:=i.ok o ho
    have hbf:b∈o.fp:=by
     cases hn:o.nl with
     | false=>simp[NewOb.fp,hn,hb]
     | true=>
      unfold NOk at hk
      split at hk
      ·rcases hk with ⟨_,_,e⟩ | ⟨e,_⟩
       ·rw[e] at hb;simp at hb
       ·rw[e] at hn;simp at hn
      ·rw[hk.1] at hn;simp at hn
    exact (i.fpB b (mf ho hbf)).elim (blkT b) (i.frB b)
   bnd:=i.I3
   os:=i.os'.trans h.os
   tape:=i.tape.trans h.tape
   output:=i.output.trans h.output
   grown:=Nat.le_trans h.grown i.size
   old:=fun b hb hn=>by
    rw[i.heap b (κ7 hb h.grown) (fun q hq hn2 e=>?_) (fun hns k=>?_)]
    ·exact h.old b hb hn
    ·rcases h.ownT q (i.isS q hq) hn2 with k | k
     ·exact hn (h.cTop _ (e ▸ k))
     ·omega
    ·obtain ⟨q,hq,hbq⟩:=φa.1 k
     obtain ⟨hn2,e | e⟩:=φ2T hbq
     ·rcases h.ownT q (i.isS q hq) hn2 with k | k
      ·exact hn (h.cTop _ (e ▸ k))
      ·omega
     ·rcases h.ownN q (i.isS q hq) b e with k | k | k
      ·exact hn (h.cTop _ k)
      ·exact hn (h.cN hns _ k)
      ·omega
   from0:=fun b hb=>by
    rcases i.I2 b hb with k | k | k
    ·exact h.from0 b k
    ·exact .inr (blkT b (.inl k))
    ·exact .inr (blkT b (.inr k))
   hol:=rfl
   ns:=rfl
   hdK:=fun j hj=>k0h j (ntC j hj).2
   hdN:=fun hh j hj t xs hx hn n off hl ho2=>by
    obtain ⟨o,ho,e⟩:=inC j (by rw[hx];rfl) hj
    subst e
    rw[hη o ho,hhd2 o ho]
    show _=@ite _ (Al o.id) (Classical.propDecidable _) (W.hd o.id (n * t.size+off)) (hdOf w' o.g (n * t.size+off))
    rw[if_neg (hhd hh o ho)] } hd hv hm⟩
end
end Go.Rf
namespace Go.Rf
section
variable {P:Program} {T:Tab} {E:Env} {B:Base} {Al Al':Nat→Prop} {s s':St} {a:Act} {w w':World} {W W':Wit} {o:Oper} {f:Nat}
 {ob ob':Nat→Option Obj} {rs rs':List Key} {u:Upd} {I I':Nat→Prop}
theorem Ow.noR:∀(t:Ty),φX t=false→∀(x:t.den) cs fp,Ow w I t x cs fp→Ow w I' t x cs fp
 | .int _,_,_,_,_,h=>h
 | .bool,_,_,_,_,h=>h
 | .str,_,_,_,_,h=>h
 | .sl false _,hn,_,_,_,_=>by simp[φX] at hn
 | .box _ _,hn,_,_,_,_=>by simp[φX] at hn
 | .sl true t,hn,_,_,_,h=>by
  have hn:φX t=false:=by simpa [φX] using hn
  rcases h with h | ⟨g,c,f,e1,e2,ces,rest,e,h4,h5,h6,h7⟩
  ·exact .inl h
  ·exact .inr ⟨g,c,f,e1,e2,ces,rest,e,h4,h5,h6,ChO.mono _ _ _ (fun x cs f' _ k=>Ow.noR t hn x cs f' k) h7⟩
 | .pair a b,hn,_,_,_,⟨c1,c2,f1,f2,e,e',h,h'⟩=>by
  simp only[φX,κ6] at hn
  exact ⟨c1,c2,f1,f2,e,e',Ow.noR a hn.1 _ _ _ h,Ow.noR b hn.2 _ _ _ h'⟩
theorem φT.noR {p:PK} (hn:φX p.ty=false) {x:p.ty.den} {v:Value} {fp tp:List Nat} (h:φT w I p x v fp tp):φT w I' p x v fp tp:=by
 cases p with
 | val t=>obtain ⟨h1,h2,h3⟩:=h;exact ⟨h1,Ow.noR t hn _ _ _ h2,h3⟩
 | io t=>obtain ⟨h1,h2,h3⟩:=h;exact ⟨h1,Ow.noR t hn _ _ _ h2,h3⟩
 | ptr t=>obtain ⟨g,cs,e,f,h1,h2,h3,h4,h5⟩:=h;exact ⟨g,cs,e,f,h1,h2,h3,h4,Ow.noR t hn _ _ _ h5⟩
theorem φW.noR:∀{rs:List RK},anyR (rs.map RK.ty)=false→∀{us:List Value} {x:Tys (rs.map RK.ty)} {fp tp:List Nat},φW w I rs us x fp tp→φW w I' rs us x fp tp
 | [],_,_,_,_,_,h=>h
 | .val t::rs,hn,_,_,_,_,⟨v,vs',f1,f2,t1,t2,e1,e2,e3,h1,h2⟩=>by
  simp only[κH,anyR,κ6] at hn
  exact ⟨v,vs',f1,f2,t1,t2,e1,e2,e3,φT.noR (p:=.val t) hn.1 h1,φW.noR hn.2 h2⟩
 | .ptr t::rs,hn,_,_,_,_,⟨v,vs',f1,f2,t1,t2,e1,e2,e3,h1,h2⟩=>by
  simp only[κH,anyR,κ6] at hn
  exact ⟨v,vs',f1,f2,t1,t2,e1,e2,e3,φT.noR (p:=.ptr t) hn.1 h1,φW.noR hn.2 h2⟩
 | .err::rs,hn,_,_,_,_,⟨v,vs',e1,h1,h2⟩=>by
  simp only[κH,anyR,κ6] at hn
  exact ⟨v,vs',e1,h1,φW.noR hn.2 h2⟩
theorem φg.noR:∀{ps:List PK},anyR (ioOf ps)=false→∀{us:List Value} {x:Tys (ioOf ps)} {fp tp:List Nat},φg w I ps us x fp tp→φg w I' ps us x fp tp
 | [],_,_,_,_,_,h=>h
 | .val t::ps,hn,_,_,_,_,⟨v,vs',e1,h⟩=>⟨v,vs',e1,φg.noR (ps:=ps) hn h⟩
 | .io t::ps,hn,_,_,_,_,⟨v,vs',f1,f2,t1,t2,e1,e2,e3,h1,h2⟩=>by
  have hn:φX t=false∧anyR (ioOf ps)=false:=by simpa [ioOf,anyR] using hn
  exact ⟨v,vs',f1,f2,t1,t2,e1,e2,e3,φT.noR (p:=.io t) hn.1 h1,φg.noR hn.2 h2⟩
 | .ptr t::ps,hn,_,_,_,_,⟨v,vs',f1,f2,t1,t2,e1,e2,e3,h1,h2⟩=>by
  have hn:φX t=false∧anyR (ioOf ps)=false:=by simpa [ioOf,anyR] using hn
  exact ⟨v,vs',f1,f2,t1,t2,e1,e2,e3,φT.noR (p:=.ptr t) hn.1 h1,φg.noR hn.2 h2⟩
theorem φW.mono (hS:∀b,I b→I' b):∀{rs:List RK} {us:List Value} {x:Tys (rs.map RK.ty)} {fp tp:List Nat},φW w I rs us x fp tp→φW w I' rs us x fp tp
 | [],_,_,_,_,h=>h
 | .val t::rs,_,_,_,_,⟨v,vs',f1,f2,t1,t2,e1,e2,e3,h1,h2⟩=>⟨v,vs',f1,f2,t1,t2,e1,e2,e3,h1.mono hS,φW.mono hS h2⟩
 | .ptr t::rs,_,_,_,_,⟨v,vs',f1,f2,t1,t2,e1,e2,e3,h1,h2⟩=>⟨v,vs',f1,f2,t1,t2,e1,e2,e3,h1.mono hS,φW.mono hS h2⟩
 | .err::rs,_,_,_,_,⟨v,vs',e1,h1,h2⟩=>⟨v,vs',e1,h1,φW.mono hS h2⟩
theorem φg.mono (hS:∀b,I b→I' b):∀{ps:List PK} {us:List Value} {x:Tys (ioOf ps)} {fp tp:List Nat},φg w I ps us x fp tp→φg w I' ps us x fp tp
 | [],_,_,_,_,h=>h
 | .val t::ps,_,_,_,_,⟨v,vs',e1,h⟩=>⟨v,vs',e1,φg.mono (ps:=ps) hS h⟩
 | .io t::ps,_,_,_,_,⟨v,vs',f1,f2,t1,t2,e1,e2,e3,h1,h2⟩=>⟨v,vs',f1,f2,t1,t2,e1,e2,e3,h1.mono hS,φg.mono hS h2⟩
 | .ptr t::ps,_,_,_,_,⟨v,vs',f1,f2,t1,t2,e1,e2,e3,h1,h2⟩=>⟨v,vs',f1,f2,t1,t2,e1,e2,e3,h1.mono hS,φg.mono hS h2⟩
theorem φ5n:∀(a b:List Ty),anyR (a++b)=false→anyR a=false∧anyR b=false
 | [],b,h=>⟨rfl,h⟩
 | t::a,b,h=>by
  simp only[κG,anyR,κ6] at h ⊢
  obtain ⟨h1,h2⟩:=φ5n a b h.2
  exact ⟨⟨h.1,h1⟩,h2⟩
theorem φ4G {α:Type} {R:α→List Value→List Nat→Prop}:∀(xs:List α) cs fp,(∀x cs f,R x cs f→f=[])→ChO R xs cs fp→fp=[]
 | [],_,_,_,h=>h.2
 | _::xs,_,_,hR,⟨c1,c2,f1,f2,_,e,r,h⟩=>by rw[e,hR _ _ _ r,φ4G xs c2 f2 hR h];rfl
theorem φ2j:∀(t:Ty),t.owns=false→∀(x:t.den) cs fp,Ow w I t x cs fp→fp=[]
 | .int _,_,_,_,_,h=>h.2
 | .bool,_,_,_,_,h=>h.2
 | .str,_,_,_,_,h=>h.2
 | .sl false _,_,_,_,_,h=>h.2
 | .box _ _,_,_,_,_,h=>h.2
 | .sl true _,hn,_,_,_,_=>by simp[Ty.owns] at hn
 | .pair a b,hn,_,_,_,⟨c1,c2,f1,f2,e,e',h,h'⟩=>by
  simp only[Ty.owns,κ6] at hn
  rw[e',φ2j a hn.1 _ _ _ h,φ2j b hn.2 _ _ _ h'];rfl
theorem φ3D:∀(t:Ty),t.deep=false→∀(x:t.den) cs fp,Ow w I t x cs fp→∀b∈fp,b∈tops t cs
 | .int _,_,_,_,_,h,b,hb=>by rw[h.2] at hb;simp at hb
 | .bool,_,_,_,_,h,b,hb=>by rw[h.2] at hb;simp at hb
 | .str,_,_,_,_,h,b,hb=>by rw[h.2] at hb;simp at hb
 | .sl false _,_,_,_,_,h,b,hb=>by rw[h.2] at hb;simp at hb
 | .box _ _,_,_,_,_,h,b,hb=>by rw[h.2] at hb;simp at hb
 | .sl true t,hn,_,_,_,h,b,hb=>by
  simp only[Ty.deep,κ6,tA] at hn
  rcases h with ⟨_,_,e⟩ | ⟨g,c,f,e1,e2,ces,rest,e,h4,h5,h6,h7⟩
  ·rw[e] at hb;simp at hb
  ·have:=φ4G _ _ _ (fun x cs f k=>φ2j t hn.1 x cs f k) h7
   subst this;subst e1;subst e2
   simpa [tops] using hb
 | .pair a c,hn,_,_,_,⟨c1,c2,f1,f2,e,e',h,h'⟩,b,hb=>by
  simp only[Ty.deep,κ6] at hn
  rw[e,φ39 (Ow.size a _ _ _ h)]
  rw[e'] at hb
  rcases mA.1 hb with k | k
  ·exact mL _ (φ3D a hn.1 _ _ _ h b k)
  ·exact mR _ (φ3D c hn.2 _ _ _ h' b k)
theorem φ4i:∀(ps:List PK),φ1w (ps.map PK.ty)=false→∀(us:List Value) (x:Tys (ps.map PK.ty)) fp tp,φe w I ps us x fp tp→∀b∈fp,b∈tp
 | [],_,_,_,_,_,⟨_,h,_⟩,b,hb=>by rw[h] at hb;simp at hb
 | p::ps,hn,_,_,_,_,⟨v,vs',f1,f2,t1,t2,e1,e2,e3,h1,h2⟩,b,hb=>by
  simp only[κH,φ1w,κ6] at hn
  rw[e2] at hb
  rw[e3]
  rcases mA.1 hb with k | k
  ·refine mL _ ?_
   cases p with
   | val t=>obtain ⟨_,q,e⟩:=h1;rw[e];exact φ3D t hn.1 _ _ _ q b k
   | io t=>obtain ⟨_,q,e⟩:=h1;rw[e];exact φ3D t hn.1 _ _ _ q b k
   | ptr t=>
    obtain ⟨g,cs,e,f,q1,q2,q3,q4,q5⟩:=h1
    rw[q3];rw[q2] at k
    rcases mc.1 k with k | k
    ·subst k;simp
    ·exact mC _ (φ3D t hn.1 _ _ _ q5 b k)
  ·exact mR _ (φ4i ps hn.2 _ _ _ _ h2 b k)
theorem φ32 {S:Nat→Prop}:∀(t:Ty) (x:t.den) cs fp,Ow w S t x cs fp→∀b∈tops t cs,b∈fp
 | .int _,_,_,_,_,b,hb=>by simp[tops] at hb
 | .bool,_,_,_,_,b,hb=>by simp[tops] at hb
 | .str,_,_,_,_,b,hb=>by simp[tops] at hb
 | .sl false _,_,_,_,_,b,hb=>by simp[tops] at hb
 | .box _ _,_,_,_,_,b,hb=>by simp[tops] at hb
 | .sl true t,_,_,_,h,b,hb=>by
  rcases h with ⟨_,e,_⟩ | ⟨g,c,f,e1,e2,_⟩
  ·rw[e] at hb;simp[tops] at hb
  ·rw[e1] at hb;rw[e2];simp[tops] at hb;subst hb;simp
 | .pair a c,x,_,_,⟨c1,c2,f1,f2,e,e',h,h'⟩,b,hb=>by
  rw[e,φ39 (Ow.size a _ _ _ h)] at hb
  rw[e']
  rcases mA.1 hb with k | k
  ·exact mL _ (φ32 a _ _ _ h b k)
  ·exact mR _ (φ32 c _ _ _ h' b k)
theorem φ3f {S:Nat→Prop}:∀(ps:List PK) (vs:List Value) (x:Tys (ps.map PK.ty)) (fp tp:List Nat),φe w S ps vs x fp tp→∀b∈tp,b∈fp
 | [],_,_,_,_,⟨_,_,h⟩,b,hb=>by rw[h] at hb;simp at hb
 | p::ps,_,_,_,_,⟨v,vs',f1,f2,t1,t2,_,e2,e3,h1,h⟩,b,hb=>by
  rw[e3] at hb;rw[e2]
  rcases mA.1 hb with k | k
  ·refine mL _ ?_
   cases p with
   | val t=>obtain ⟨_,q,e⟩:=h1;rw[e] at k;exact φ32 t _ _ _ q b k
   | io t=>obtain ⟨_,q,e⟩:=h1;rw[e] at k;exact φ32 t _ _ _ q b k
   | ptr t=>
    obtain ⟨g,cs,e,f,q1,q2,q3,q4,q5⟩:=h1
    rw[q3] at k;rw[q2]
    rcases mc.1 k with k | k
    ·subst k;simp
    ·exact mC _ (φ32 t _ _ _ q5 b k)
  ·exact mR _ (φ3f ps vs' _ _ _ h b k)
theorem φ6C {os:List NewOb} {l:List (Bool×List Sc)} {us:List Value} (h:All2 (RVN w I os) l us) (hv:∀c v,VN w I os c v→Vs w W' ob' c v∧∀j,menS c j→Al' j) :
  AVr w W' ob' (φs l) (resV us)∧∀j,menA (φs l) j→Al' j:=by
 have hall:∀{l:List Sc} {vs:List Value},All2 (VN w I os) l vs→All2 (Vs w W' ob') l vs∧∀j,menL l j→Al' j:=by
  intro l
  induction l with
  | nil=>intro vs h;exact ⟨h,fun j ⟨c,hc,_⟩=>by simp at hc⟩
  | cons x l ih=>
   intro vs ⟨v,vs',e,p,q⟩
   obtain ⟨q1,q2⟩:=ih q
   obtain ⟨p1,p2⟩:=hv x v p
   refine ⟨⟨v,vs',e,p1,q1⟩,fun j ⟨c,hc,hj⟩=>?_⟩
   rcases mc.1 hc with k | k
   ·subst k;exact p2 j hj
   ·exact q2 j ⟨c,k,hj⟩
 have htup:∀{l:List (Bool×List Sc)} {us:List Value},All2 (RVN w I os) l us→AVr w W' ob' (.tup l) (.tuple us.toArray)∧∀j,menA (.tup l) j→Al' j:=by
  intro l us h
  refine ⟨⟨us,rfl,h.imp fun p _ u k=>?_⟩,fun j hj=>?_⟩
  ·unfold RVN at k
   split
   ·rename_i hb;rw[if_pos hb] at k;obtain ⟨vs,e,k⟩:=k;exact ⟨vs,e,(hall k).1⟩
   ·rename_i hb;rw[if_neg hb] at k;exact (hall k).1
  ·obtain ⟨p,hp,hj⟩:=hj
   have:∀{l:List (Bool×List Sc)} {us:List Value},All2 (RVN w I os) l us→p∈l→∃u,RVN w I os p u:=by
    intro l
    induction l with
    | nil=>intro us _ hp;simp at hp
    | cons x l ih=>
     intro us ⟨v,vs',_,q,q'⟩ hp
     rcases mc.1 hp with k | k
     ·subst k;exact ⟨v,q⟩
     ·exact ih q' k
   obtain ⟨u,k⟩:=this h hp
   unfold RVN at k
   split at k
   ·obtain ⟨vs,e,k⟩:=k;exact (hall k).2 j hj
   ·exact (hall k).2 j hj
 match l,us,h with
 | [],us,h=>have h:us=[]:=h;subst h;exact htup (l:=[]) rfl
 | [(true,cs)],us,⟨u,us',e,p,p'⟩=>
  have p':us'=[]:=p'
  subst p';subst e
  unfold RVN at p
  obtain ⟨vs,e,k⟩:=p
  exact ⟨⟨vs,e,(hall k).1⟩,(hall k).2⟩
 | [(false,[c])],us,⟨u,us',e,p,p'⟩=>
  have p':us'=[]:=p'
  subst p';subst e
  unfold RVN at p
  rw[if_neg (by simp)] at p
  obtain ⟨b,r,e,k,k'⟩:=p
  simp only[List.cons.injEq] at e
  obtain ⟨rfl,-⟩:=e
  exact hv c u k
 | [(false,[])],us,⟨u,us',e,p,p'⟩=>
  unfold RVN at p
  rw[if_neg (by simp)] at p
  have:[u]=[]:=p
  simp at this
 | [(false,_::_::_)],us,⟨u,us',e,p,p'⟩=>
  unfold RVN at p
  rw[if_neg (by simp)] at p
  obtain ⟨b,r,e,k,b2,r2,e2,_⟩:=p
  rw[e2] at e
  simp at e
 | p::q::l,us,h=>
  have h2:=htup h
  obtain ⟨u,us',e,_,u2,us2,e2,_⟩:=h
  have:resV us=.tuple us.toArray:=by rw[e,e2];rfl
  rw[this]
  have hm:φs (p::q::l)=.tup (p::q::l):=by simp[φs]
  rw[hm]
  exact h2
theorem φ3O {os:List NewOb} {f n:Nat} (h:os.map (·.id)=κE f n) {o:NewOb} (ho:o∈os):f≤o.id∧o.id<f+n:=by
 have:o.id∈κE f n:=by rw[←h];exact mM.2 ⟨o,ho,rfl⟩
 rw[List.mem_range'_1] at this
 exact this
theorem Rel.hnil (h:Rel B Al s a w W):∀id t (xs:List (Ty.den t)),s.ob id=some (.row t xs)→W.nl id=true→xs=[]:=fun id t xs ho hn=>by
 rcases h.row id t xs ho with ⟨_,e,_⟩ | ⟨e,_⟩
 ·exact e
 ·rw[e] at hn;simp at hn
theorem φ4b:∀{cs:List Ctr} {vs:List AV} {ct:Ctr},φ1g cs vs=some ct→ct∈cs∧φ1b ct.g.ps vs=true
 | [],_,_,hp=>by simp[φ1g] at hp
 | x::cs,vs,ct,hp=>by
  unfold φ1g at hp
  cases hx:φ1b x.g.ps vs with
  | true=>rw[hx] at hp;simp only[cT,Option.some.injEq] at hp;subst hp;exact ⟨by simp,hx⟩
  | false=>rw[hx] at hp;simp only[cF] at hp;obtain ⟨q1,q2⟩:=φ4b hp;exact ⟨mC _ q1,q2⟩
theorem φ58 [Laid] {g:Nat} {ct:Ctr} {vs:List AV} {us:List Value} {rs1:List Key} (hct:φ1 P g ct) (hL:Laid.L B.w0) (hO:∀b,B.fpT b∨B.fpN b→¬Laid.lb b) (hC:∀b,B.fpC b→B.fpT b∨B.fpN b) (h:Rel B Al s a w W) (hh:W.hol=false) {ns:Bool} (hns:W.ns=ns) (hd:φA B o.dst) (hf:fresh Al f) (hok:φ1b ct.g.ps vs=true)
  (k1:φ1B w W s.ob Al vs us) (hrun:(execOp a.eval o).run P w=(callFunc g us.toArray).run P w) (h1:(φ3s ns ct vs o.dst f).exec s rs1=some (u,rs')):Done P B (Nu Al f) (s.up u) o a w:=by
 unfold φ3s at h1
 obtain ⟨hdw,h1⟩:=φo h1
 have hdw:ct.g.dw=true→W.ns=true:=fun k=>by
  rw[k] at hdw
  rw[hns]
  simpa using hdw
 obtain ⟨x,ids,sn,sf,pl,rs2,fp,tp,fr,m1,m2,m3,m4,m5,m6,m7,m8,m9⟩:=φ2s h _ ct.g.ps vs us _ _ k1 hok h1
 clear h1
 obtain ⟨hck,m1⟩:=φB m1
 simp only[bA,κF] at hck
 obtain ⟨⟨c1,c2⟩,c3⟩:=hck
 have hnd:=φ1t _ c1
 cases hfn:ct.fn x with
 | none=>rw[hfn] at m1;simp[RP.exec] at m1
 | some y=>
  rw[hfn] at m1
  simp only[RP.exec,bS] at m1
  generalize hsp:φ1C (ct.g.rs.map RK.ty) (ioOf ct.g.ps) y=yy at m1
  obtain ⟨ya,yb⟩:=yy
  simp only at m1
  generalize hro:φc ct.g.rs ya f=ro at m1
  obtain ⟨l,osr,f1⟩:=ro
  simp only at m1
  cases hob:φ1Y ct.g.ps pl yb f1 with
  | none=>rw[hob] at m1;simp[RP.exec] at m1
  | some ob2=>
   obtain ⟨osb,f2⟩:=ob2
   rw[hob] at m1
   simp only at m1
   obtain ⟨hble,m1⟩:=φB m1
   have hble:f2≤f+idW:=κ9 hble
   rw[φ1G m1]
   have hall:=h.blkNodup ids hnd m4
   have hpn:=m3.nodup_iff.1 hall
   rw[κ2] at hpn
   obtain ⟨n1,n2,n3⟩:=hpn
   have inBlk:∀b,b∈fp∨b∈fr→b∈blk W ids:=fun b hb=>m3.mem_iff.2 (mA.2 hb)
   have bLt:∀b,b∈blk W ids→b<w.heap.size:=fun b hb=>by
    obtain ⟨i,hi,k⟩:=φa.1 hb;exact h.lt (m4 i hi) b k
   have SSlt:∀b,SS W s.ob fr sn sf b→b<w.heap.size:=fun b hb=>by
    rcases hb with k | k | ⟨_,k⟩ | ⟨i,hi,hS,k⟩
    ·exact bLt b (inBlk b (.inr k))
    ·exact h.bnd b k
    ·exact h.Jlt k
    ·exact h.lt hS b k
   have fpSS:∀b∈bif ct.g.sv then tp else fp,¬SS W s.ob fr sn sf b:=fun b hb0 k=>by
    have hb:b∈fp:=by
     cases hsv:ct.g.sv with
     | true=>rw[hsv] at hb0;exact φ3f _ _ _ _ _ m2 b hb0
     | false=>rw[hsv] at hb0;exact hb0
    obtain ⟨i,hi,hbi⟩:=φa.1 (inBlk b (.inl hb))
    rcases k with k | k | ⟨hsf,k⟩ | ⟨j,hj,hS,k⟩
    ·exact n3 b hb b k rfl
    ·exact h.imm i (m4 i hi) b hbi k
    ·have htp:b∈tp:=by
      cases hsv:ct.g.sv with
      | true=>rw[hsv] at hb0;exact hb0
      | false=>
       rw[hsf,hsv] at c3
       have c3:φ1w (ct.g.ps.map PK.ty)=false:=by simpa using c3
       exact φ4i ct.g.ps c3 _ _ _ _ m2 b hb
     obtain ⟨q,hq,hn,e⟩:=m6 b htp
     exact h.notJ (m4 q hq) hn k e
    ·have hij:i≠j:=fun e=>by
      have:φ1i ids sn=true:=(φ3o ids sn).2 ⟨j,e ▸ hi,hj⟩
      rw[this] at c2;simp at c2
     exact h.dis i j hij (m4 i hi) hS b hbi k
   intro K Q hK
   unfold Oper.wp
   rw[hrun]
   have hLw:Laid.L w:=Laid.keep B.w0 w (fun b hb=>h.old b (Laid.bnd _ _ hL hb) fun k=>hO b (hC b k) hb) hL
   have hLf:∀b∈fp,¬Laid.lb b:=fun b hb hl=>by
    obtain ⟨i,hi,hbi⟩:=φa.1 (inBlk b (.inl hb))
    have hlt:=Laid.bnd _ _ hL hl
    unfold fpOf at hbi
    cases hn:W.nl i with
    | true=>rw[hn] at hbi;simp at hbi
    | false=>
     rw[hn] at hbi
     rcases mc.1 hbi with e | k
     ·rcases h.ownT i (m4 i hi) hn with q | q
      ·exact hO b (.inl (e ▸ q)) hl
      ·rw[←e] at q;omega
     ·rcases h.ownN i (m4 i hi) b k with q | q | q
      ·exact hO b (.inl q) hl
      ·exact hO b (.inr q) hl
      ·omega
   refine hct w us x _ fp tp y SSlt m2 n1 fpSS hLw hLf hfn o a K Q fun rv w' S' q1 q2 t1 t2 hres hback post=>?_
   rw[hsp] at hres hback
   simp only at hres hback
   -- what cannot turn any more
   let I':Nat→Prop:=fun b=>W.I b∨((b∈blk W ids∨w.heap.size≤b)∧b<w'.heap.size∧b ∉ q1++q2)
   have hlift:φW w' I' ct.g.rs rv ya q1 t1∧φg w' I' ct.g.ps us yb q2 t2:=by
    cases hh:anyR ct.g.outs with
    | false=>
     obtain ⟨z1,z2⟩:=φ5n _ _ hh
     exact ⟨hres.noR z1,hback.noR z2⟩
    | true=>
     obtain ⟨e1,e2⟩:=m9 hh
     have hS:∀b,S' b→I' b:=fun b hb=>by
      by_cases hWI:W.I b
      ·exact .inl hWI
      ·refine .inr ⟨?_,post.bnd b hb,fun k=>post.imm b k hb⟩
       rcases post.sub b hb with k | k | k
       ·rcases k with k | k | ⟨hsf,_⟩ | ⟨i,hi,_⟩
        ·exact .inl (inBlk b (.inr k))
        ·exact absurd k hWI
        ·rw[e2] at hsf;simp at hsf
        ·rw[e1] at hi;simp at hi
       ·exact .inl (inBlk b (.inl k))
       ·exact .inr k
     exact ⟨hres.mono hS,hback.mono hS⟩
   obtain ⟨os1,a1,a2,a3,a4,a5,a6,a7⟩:=φ3W ct.g.rs rv ya q1 t1 f hlift.1
   rw[hro] at a1 a2 a6
   simp only at a1 a2 a6
   obtain ⟨os2,n,b1,b2,b3,b4,b5,b6,b7⟩:=φ3N (h.hnil) ct.g.ps us pl yb q2 t2 f1 f2 osb m7 hlift.2 hob
   have s1:∀o∈os1,o∈os1++os2:=fun o ho=>mL _ ho
   have s2:∀o∈os2,o∈os1++os2:=fun o ho=>mR _ ho
   have hfl:(os1++os2).flatMap NewOb.fp=q1++q2:=by rw[κ8,←a4,←b4]
   have htl:(os1++os2).flatMap NewOb.tp=t1++t2:=by rw[κ8,←a5,←b5]
   have pidAl:∀i∈pids pl,Al i:=fun i hi=>h.al i (m4 i (m8.subset hi))
   have ndP:(pids pl).Nodup:=m8.nodup hnd
   have hndO:((os1++os2).map (·.id)).Nodup:=by
    rw[mp,κ2]
    refine ⟨by rw[a3];exact List.nodup_range',?_,fun i hi j hj e=>?_⟩
    ·rw[b3.nodup_iff,κ2]
     refine ⟨ndP,List.nodup_range',fun i hi j hj e=>?_⟩
     subst e
     rw[List.mem_range'_1] at hj
     exact hf i (by omega) (by omega) (pidAl i hi)
    ·subst e
     rw[a3,List.mem_range'_1] at hi
     rcases mA.1 (b3.mem_iff.1 hj) with k | k
     ·exact hf i (by omega) (by omega) (pidAl i k)
     ·rw[List.mem_range'_1] at k;omega
   have hnew:∀o∈os1++os2,Nu Al f o.id∧(¬Al o.id∨(φ3a W s.ob o∧o.id∈ids)):=fun o ho=>by
    rcases mA.1 ho with k | k
    ·have:=φ3O a3 k
     exact ⟨.inr ⟨this.1,by omega⟩,.inl (hf o.id this.1 (by omega))⟩
    ·have hmem:o.id∈pids pl++κE f1 n:=b3.mem_iff.1 (mM.2 ⟨o,k,rfl⟩)
     rcases b7 o k with ⟨k1,k2⟩ | k1
     ·exact ⟨.inr ⟨by omega,by omega⟩,.inl (hf o.id (by omega) (by omega))⟩
     ·rcases mA.1 hmem with k2 | k2
      ·exact ⟨.inl (pidAl _ k2),.inr ⟨k1,m8.subset k2⟩⟩
      ·rw[List.mem_range'_1] at k2
       exact ⟨.inr ⟨by omega,by omega⟩,.inl (hf o.id (by omega) (by omega))⟩
   have inst:Inst B Al (Nu Al f) s W w w' ids (os1++os2) I' (fun _=>False):=
    {sub:=fun i hi=>.inl hi
     isS:=m4
     ndO:=hndO
     new:=hnew
     I1:=fun b hb=>.inl hb
     I2:=fun b hb=>hb.imp id fun k=>k.1
     I3:=fun b hb=>hb.elim (fun k=>κ7 (h.bnd b k) post.size) fun k=>k.2.1
     I4:=fun b hb k=>by
      rw[hfl] at k
      rcases hb with q | q
      ·rcases post.all b k with z | z
       ·obtain ⟨i,hi,hbi⟩:=φa.1 (inBlk b (.inl z))
        exact h.imm i (m4 i hi) b hbi q
       ·have:=h.bnd b q;omega
      ·exact q.2.2 k
     ndB:=by rw[hfl];exact post.nd
     frD:=fun _ h=>h.elim
     frB:=fun _ h=>h.elim
     fpB:=fun b hb=>by rw[hfl] at hb;exact .inl ((post.all b hb).imp (fun z=>inBlk b (.inl z)) id)
     tpB:=fun b hb=>by rw[htl] at hb;exact .inl ((post.top b hb).imp (fun z=>m6 b z) id)
     heap:=fun b hb hne hnb=>post.old b hb (fun k=>by obtain ⟨i,hi,hn,e⟩:=m6 b k;exact hne i hi hn e) fun k hb2=>hnb (hdw k) (inBlk b (.inl hb2))
     J:=fun hn0 i hi b hb=>by
      have hbf:=h.nfFp (m4 i hi) hb
      by_cases hq:b∈q1++q2
      ·right
       rw[←hfl] at hq
       obtain ⟨o',ho',k⟩:=List.mem_flatMap.1 hq
       cases hn:o'.nl with
       | true=>simp[NewOb.fp,hn] at k
       | false=>
        simp only[NewOb.fp,hn,cF] at k
        rcases mc.1 k with k | k
        ·have:b∈t1++t2:=by rw[←htl];exact List.mem_flatMap.2 ⟨o',ho',by simp[NewOb.tp,hn,k]⟩
         rcases post.top b this with z | z
         ·obtain ⟨j,hj,hnj,e⟩:=m6 b z
          exact absurd e (h.notJ (m4 j hj) hnj (.inr (.inr ⟨hn0,i,m4 i hi,hb⟩)))
         ·have:=h.lt (m4 i hi) b hbf;omega
        ·exact ⟨o',ho',k⟩
      ·exact .inl (.inr ⟨.inl (φa.2 ⟨i,hi,hbf⟩),κ7 (h.lt (m4 i hi) b hbf) post.size,hq⟩)
     ok:=fun o ho=>by
      rcases mA.1 ho with k | k
      ·exact NOk.mono (fun _ h=>h) s1 (a7 o k)
      ·exact NOk.mono (fun _ h=>h) s2 (b6 o k)
     size:=post.size
     os':=post.os
     tape:=post.tape
     output:=post.output }
   obtain ⟨hvn,hR⟩:=h.install inst (fun k=>by rw[hh] at k;simp at k) (ob':=updS s.ob (gone ids++osr++osb)) (fun j=>by
    rw[a1,b1,aA,←mp,φ6i,φ3j _ _ j hndO]
    cases at1 (os1++os2) j with
    | some o=>rfl
    | none=>exact φ4K ids s.ob j)
   obtain ⟨z1,z2⟩:=φ6C (a6.imp fun c _ v k=>k.mono (fun _ h=>h) s1) hvn
   exact hK _ _ ⟨_,hR o.dst _ _ hd z1 z2⟩
theorem φ93 [Laid] {c:Call} {g:Nat} (hE:EnvB P E B) (h:Rel B Al s a w W) (hh:W.hol=false) (hd:φA B o.dst) (hf:fresh Al f) (hop:o.op=.call c) (hb:c.callee=.value (.func g)) (he:(φ2 T E o f).exec s rs=some (u,rs')):Done P B (Nu Al f) (s.up u) o a w:=by
 simp only[φ2,hop] at he
 obtain ⟨vs,rs1,h1,k1⟩:=φ17 h he
 clear he
 rw[hb] at h1
 simp only at h1
 cases hl:lkp E g with
 | none=>rw[hl] at h1;simp[RP.exec] at h1
 | some cs=>
  rw[hl] at h1
  simp only at h1
  cases hp:φ1g cs vs with
  | none=>rw[hp] at h1;simp[RP.exec] at h1
  | some ct=>
   rw[hp] at h1
   simp only at h1
   obtain ⟨p1,p2⟩:=φ4b hp
   generalize hus:c.args.toList.map a.eval=us at k1
   refine φ58 (hE.env g cs hl ct p1) hE.laid hE.off hE.offC h hh (h.ns.trans hE.ns) hd hf p2 k1 ?_ h1
   have ha:=φ2C hus
   simp only[execOp,hop,resolve,hb,Act.eval,Deferred.ofValue,Sem.run_bind,Sem.run_pure,Result.andThen_ok,invoke,ha]
   simp
theorem φ6u {ob:Nat→Option Obj}:∀{l:List Sc} {vs:List Value},All2 (Vs w W ob) l vs→(∀id,¬menL l id)→φ1B w W ob Al (l.map .one) vs
 | [],_,h,_=>h
 | c::l,_,⟨v,vs',e,p,q⟩,hm=>⟨v,vs',e,⟨p,fun id hid=>(hm id ⟨c,by simp,hid⟩).elim⟩,φ6u q fun id ⟨s,h1,h2⟩=>hm id ⟨s,mC _ h1,h2⟩⟩
theorem φ1B.append {ob:Nat→Option Obj}:∀{l m:List AV} {vs us:List Value},φ1B w W ob Al l vs→φ1B w W ob Al m us→φ1B w W ob Al (l++m) (vs++us):=fun h k=>All2.append h k
theorem φ7V [Laid] {c:Call} {i:Nat} (hE:EnvB P E B) (h:Rel B Al s a w W) (hh:W.hol=false) (hd:φA B o.dst) (hf:fresh Al f) (hop:o.op=.call c) (hb:c.callee=.value (.tmp i)) (he:(φ2 T E o f).exec s rs=some (u,rs')):Done P B (Nu Al f) (s.up u) o a w:=by
 simp only[φ2,hop] at he
 obtain ⟨vs,rs1,h1,k1⟩:=φ17 h he
 clear he
 rw[hb] at h1
 simp only[RP.exec] at h1
 have hv:=h.slots i
 split at h1<;>try (simp[RP.exec] at h1;done)
 rename_i g t x hsl
 rw[hsl] at hv
 have hv2:Rd w W.I (.box (some g) t) x [a.tmps.getD i undef]:=hv.2
 obtain ⟨caps,ec,hr⟩:=hv2
 simp only[List.cons.injEq,and_true] at ec
 cases hl:lkp E g with
 | none=>rw[hl] at h1;simp[RP.exec] at h1
 | some cs=>
  rw[hl] at h1
  simp only at h1
  cases hp:φ1g cs (vs++(φY false false t x).map .one) with
  | none=>rw[hp] at h1;simp[RP.exec] at h1
  | some ct=>
   rw[hp] at h1
   simp only at h1
   obtain ⟨p1,p2⟩:=φ4b hp
   generalize hus:c.args.toList.map a.eval=us at k1
   have k2:φ1B w W s.ob Al (vs++(φY false false t x).map .one) (us++caps):=k1.append (φ6u (φ2R (ob:=s.ob) false t x caps hr) (φ1z _ _ _ _))
   refine φ58 (hE.env g cs hl ct p1) hE.laid hE.off hE.offC h hh (h.ns.trans hE.ns) hd hf p2 k2 ?_ h1
   have ha:=φ2C hus
   have hcap:(us++caps).toArray=us.toArray++caps.toArray:=by simp
   simp only[execOp,hop,resolve,hb,Act.eval,ec,Deferred.ofValue,Sem.run_bind,Sem.run_pure,Result.andThen_ok,invoke,ha,hcap]
   simp
def φ6E (w:World) (I:Nat→Prop) (t:Ty) (x:t.den) (v:Value):Prop:=Rd w I (.box none t) x [v]
theorem φ6S (h:Rel B Al s a w W) {α:Type} {r:α×List Key} {v:AV} {u:Value} {K:(t:Ty)→t.den→Nat→RP α} {rs:List Key} (hv:AVr w W s.ob v u) (he:(frz1 v K).exec s rs=some r) :
  ∃t x id rs2,(K t x id).exec s rs2=some r∧(∃l,s.ob id=some (.var l))∧∀I':Nat→Prop,I' (W.η id)→φ6E w I' t x u:=by
 unfold frz1 at he
 split at he<;>try (simp[RP.exec] at he;done)
 rename_i id off
 obtain ⟨hoff,he5⟩:=φB he
 clear he
 have hoff:=(φ9 _ _).1 hoff
 subst hoff
 obtain ⟨b,e,k⟩:=hv.2
 simp only[RP.exec] at he5
 have fin:∀(t:Ty) (x:t.den) (c:Sc),s.ob id=some (.var [c])→(∀y,VsC w W s.ob c y→∀I':Nat→Prop,Rd w I' t x [y])→∀I':Nat→Prop,I' (W.η id)→φ6E w I' t x u:=by
  intro t x c ho hc I' hI
  obtain ⟨_,_,vs0,el,hh,y,ys,e1,p1,p2⟩:=h.var id [c] ho
  have p2:ys=[]:=p2
  subst p2;subst e1
  have hb:=k _ ho
  subst hb
  exact ⟨W.η id,0,by rw[e];rfl,.inr ⟨⟨W.η id,0,none⟩,_,el,_,[],[y],[],rfl,rfl,hI,hh,by simp,rfl,[y],[],by simp,hc y p1.2 I',rfl⟩⟩
 split at he5<;>try (simp[RP.exec] at he5;done)
 ·rename_i kk n ho
  exact ⟨_,_,id,_,he5,⟨_,ho⟩,fin (.int kk) n _ ho fun y hy I'=>by rw[show y=_ from hy];rfl⟩
 ·rename_i ss ho
  exact ⟨_,_,id,_,he5,⟨_,ho⟩,fin .str ss _ ho fun y hy I'=>by rw[show y=_ from hy];rfl⟩
 ·rename_i bb ho
  exact ⟨_,_,id,_,he5,⟨_,ho⟩,fin .bool bb _ ho fun y hy I'=>by rw[show y=_ from hy];rfl⟩
theorem φ6W (h:Rel B Al s a w W) {α:Type} {r:α×List Key}:∀{vs:List AV} {us:List Value} {K:(t:Ty)→t.den→List Nat→RP α} {rs:List Key},φ1B w W s.ob Al vs us→(frz vs K).exec s rs=some r →
  ∃t x ids rs2,(K t x ids).exec s rs2=some r∧(∀i∈ids,∃l,s.ob i=some (.var l))∧∀I':Nat→Prop,(∀i∈ids,I' (W.η i))→Rd w I' t x us
 | [],_,_,_,_,he=>by simp[frz,RP.exec] at he
 | [v],_,K,rs,⟨u,us',e,p,q⟩,he=>by
  have q:us'=[]:=q
  subst q;subst e
  simp only[frz] at he
  obtain ⟨t,x,id,rs2,k1,k2,k3⟩:=φ6S h p.1 he
  exact ⟨.box none t,x,[id],rs2,k1,fun i hi=>by rw[mZ.1 hi];exact k2,fun I' hI=>k3 I' (hI id (by simp))⟩
 | v::v2::vs,_,K,rs,⟨u,us',e,p,q⟩,he=>by
  subst e
  simp only[frz] at he
  obtain ⟨t,x,id,rs2,k1,k2,k3⟩:=φ6S h p.1 he
  obtain ⟨t',x',ids,rs3,m1,m2,m3⟩:=φ6W h (vs:=v2::vs) q k1
  refine ⟨.pair (.box none t) t',(x,x'),id::ids,rs3,m1,fun i hi=>?_,fun I' hI=>⟨[u],us',rfl,k3 I' (hI id (by simp)),m3 I' fun i hi=>hI i (mC _ hi)⟩⟩
  rcases mc.1 hi with z | z
  ·subst z;exact k2
  ·exact m2 i z
theorem φ7f {fn:Fn} {first caps:Array Operand} (h:Rel B Al s a w W) (hd:φA B o.dst) (hop:o.op=.makeFunc fn first caps) (he:(φ2 T E o f).exec s rs=some (u,rs')):Done P B Al (s.up u) o a w:=by
 simp only[φ2,hop] at he
 split at he<;>try (simp[RP.exec] at he;done)
 rename_i g
 obtain ⟨hsz,he⟩:=φo he
 have hsz:first.size=0:=κ1 (by simpa using hsz)
 have hfirst:first=#[]:=Array.eq_empty_of_size_eq_zero hsz
 subst hfirst
 obtain ⟨vs,rs1,h1,k1⟩:=φ17 h he
 clear he
 generalize hus:caps.toList.map a.eval=us at k1
 obtain ⟨t,x,ids,rs2,m1,m2,m3⟩:=φ6W h k1 h1
 obtain ⟨_,m1⟩:=φh m1
 rw[φ1G m1]
 let I':Nat→Prop:=fun b=>W.I b∨b∈blk W ids
 have isS:∀i∈ids,(s.ob i).isSome=true:=fun i hi=>by obtain ⟨l,e⟩:=m2 i hi;rw[e];rfl
 have inst:Inst B Al Al s W w w ids [] I' (fun _=>False):=
  {sub:=fun _ h=>h
   isS:=isS
   ndO:=by simp
   new:=by simp
   I1:=fun b hb=>.inl hb
   I2:=fun b hb=>hb.imp id .inl
   I3:=fun b hb=>hb.elim (h.bnd b) fun k=>by obtain ⟨i,hi,q⟩:=φa.1 k;exact h.lt (isS i hi) b q
   I4:=by simp
   ndB:=by simp
   frD:=fun _ h=>h.elim
   frB:=fun _ h=>h.elim
   fpB:=by simp
   tpB:=by simp
   heap:=fun _ _ _ _=>rfl
   J:=fun _ i hi b hb=>by obtain ⟨l,e⟩:=m2 i hi;have:=(h.var i l e).2.1;rw[this] at hb;simp at hb
   ok:=by simp
   size:=κD _
   os':=rfl
   tape:=rfl
   output:=rfl }
 obtain ⟨hvn,hR⟩:=h.install inst (fun _=>by simp) (ob':=updS s.ob (gone ids)) (fun j=>φ4K ids s.ob j)
 have hrd:Rd w I' t x us:=m3 I' fun i hi=>.inr (φa.2 ⟨i,hi,by
  obtain ⟨l,e⟩:=m2 i hi
  have:=(h.var i l e).1
  simp[fpOf,this]⟩)
 have hcaps:(caps.map a.eval)=us.toArray:=by
  apply Array.ext';rw[Array.toList_map,hus]
 obtain ⟨z1,z2⟩:=hvn (.bx false (some g) t x) (.func (.func g) #[] us.toArray) ⟨us,rfl,hrd⟩
 intro K Q hK
 unfold Oper.wp
 have hrun:(execOp a.eval o).run P w=.ok (.value (.func (.func g) #[] us.toArray)) w:=by
  simp[execOp,hop,Instr.makeFunc,hcaps]
 rw[hrun]
 exact hK _ _ ⟨_,hR o.dst (.one (.bx false (some g) t x)) _ hd z1 z2⟩
end
end Go.Rf
namespace Go.Rf
section
variable {P:Program} {T:Tab} {E:Env} {B:Base} {Al Al':Nat→Prop} {s s':St} {a:Act} {w w':World} {W W':Wit} {o:Oper} {f:Nat}
 {ob ob':Nat→Option Obj} {rs rs':List Key} {u:Upd} {I I':Nat→Prop}
theorem φ49:∀{a b:Ty} {h:PLift (a.den=b.den)},Ty.same a b=some h→b.flat=true→a=b
 | .int k,.int k',h,e,_=>by
  unfold Ty.same at e
  cases hk:kEq k k' with
  | true=>rw[φ1M hk]
  | false=>rw[hk] at e;simp at e
 | .bool,.bool,_,_,_=>rfl
 | .str,.str,_,_,_=>rfl
 | .sl _ _,.sl _ _,_,_,hf=>by simp[Ty.flat] at hf
 | .pair a b,.pair c d,h,e,hf=>by
  simp only[Ty.flat,bA] at hf
  unfold Ty.same at e
  cases h1:Ty.same a c with
  | none=>rw[h1] at e;simp at e
  | some x=>
   cases h2:Ty.same b d with
   | none=>rw[h1,h2] at e;simp at e
   | some y=>rw[φ49 h1 hf.1,φ49 h2 hf.2]
 | .box _ _,.box _ _,_,_,hf=>by simp[Ty.flat] at hf
 | .int _,.bool,_,e,_=>by simp[Ty.same] at e
 | .int _,.str,_,e,_=>by simp[Ty.same] at e
 | .int _,.sl _ _,_,e,_=>by simp[Ty.same] at e
 | .int _,.pair _ _,_,e,_=>by simp[Ty.same] at e
 | .int _,.box _ _,_,e,_=>by simp[Ty.same] at e
 | .bool,.int _,_,e,_=>by simp[Ty.same] at e
 | .bool,.str,_,e,_=>by simp[Ty.same] at e
 | .bool,.sl _ _,_,e,_=>by simp[Ty.same] at e
 | .bool,.pair _ _,_,e,_=>by simp[Ty.same] at e
 | .bool,.box _ _,_,e,_=>by simp[Ty.same] at e
 | .str,.int _,_,e,_=>by simp[Ty.same] at e
 | .str,.bool,_,e,_=>by simp[Ty.same] at e
 | .str,.sl _ _,_,e,_=>by simp[Ty.same] at e
 | .str,.pair _ _,_,e,_=>by simp[Ty.same] at e
 | .str,.box _ _,_,e,_=>by simp[Ty.same] at e
 | .sl _ _,.int _,_,e,_=>by simp[Ty.same] at e
 | .sl _ _,.bool,_,e,_=>by simp[Ty.same] at e
 | .sl _ _,.str,_,e,_=>by simp[Ty.same] at e
 | .sl _ _,.pair _ _,_,e,_=>by simp[Ty.same] at e
 | .sl _ _,.box _ _,_,e,_=>by simp[Ty.same] at e
 | .pair _ _,.int _,_,e,_=>by simp[Ty.same] at e
 | .pair _ _,.bool,_,e,_=>by simp[Ty.same] at e
 | .pair _ _,.str,_,e,_=>by simp[Ty.same] at e
 | .pair _ _,.sl _ _,_,e,_=>by simp[Ty.same] at e
 | .pair _ _,.box _ _,_,e,_=>by simp[Ty.same] at e
 | .box _ _,.int _,_,e,_=>by simp[Ty.same] at e
 | .box _ _,.bool,_,e,_=>by simp[Ty.same] at e
 | .box _ _,.str,_,e,_=>by simp[Ty.same] at e
 | .box _ _,.sl _ _,_,e,_=>by simp[Ty.same] at e
 | .box _ _,.pair _ _,_,e,_=>by simp[Ty.same] at e
theorem φ48:∀(t:Ty) (x:t.den) (off:Nat) (cs:List Value) (fp:List Nat),φO t off=true→Ow w I t x cs fp→∃v,cs[off]?=some v∧v.oneCell'=true
 | .sl true t,x,off,cs,fp,ho,h=>by
  have:off=0:=(φ9 _ _).1 ho
  subst this
  rcases h with ⟨_,e,_⟩ | ⟨g,c,f,e,_⟩
  ·rw[e];exact ⟨_,rfl,rfl⟩
  ·rw[e];exact ⟨_,rfl,rfl⟩
 | .sl false _,_,_,_,_,ho,_=>by simp[φO] at ho
 | .int _,_,_,_,_,ho,_=>by simp[φO] at ho
 | .bool,_,_,_,_,ho,_=>by simp[φO] at ho
 | .str,_,_,_,_,ho,_=>by simp[φO] at ho
 | .box _ _,_,_,_,_,ho,_=>by simp[φO] at ho
 | .pair a b,x,off,cs,fp,ho,⟨c1,c2,f1,f2,e,e',h,h'⟩=>by
  have hs:=Ow.size a _ _ _ h
  unfold φO at ho
  subst e
  cases hb:Nat.blt off a.size with
  | true=>
   rw[hb] at ho
   have hlt:off<a.size:=κ9 hb
   obtain ⟨v,k1,k2⟩:=φ48 a x.1 off c1 f1 ho h
   exact ⟨v,by rw[List.getElem?_append_left (by omega)];exact k1,k2⟩
  | false=>
   rw[hb] at ho
   have hge:a.size≤off:=by
    rcases κ4 off a.size with q | q
    ·have:Nat.blt off a.size=true:=Nat.ble_eq_true_of_le q
     rw[this] at hb;simp at hb
    ·exact q
   obtain ⟨v,k1,k2⟩:=φ48 b x.2 (off - a.size) c2 f2 ho h'
   exact ⟨v,by rw[List.getElem?_append_right (by omega),hs];exact k1,k2⟩
theorem φ42 {te:Ty} (hte:te.flat=true):∀(t:Ty) (x:t.den) (off:Nat) (ys:List te.den) (cs:List Value) (fp:List Nat),getN te t x off=some ys→Ow w I t x cs fp →
  ∃v f1 f2 f3,cs[off]?=some v∧fp=f1++(f2++f3)∧Ow w I (.sl true te) ys [v] f2 ∧
   ∀(w':World) (I':Nat→Prop) (zs:List te.den),(∀b,I b→I' b)→(∀b,I b→w'.heap[b]?=w.heap[b]?)→(∀b,b∈f1∨b∈f3→w'.heap[b]?=w.heap[b]?)→Ow w' I' (.sl true te) zs [v] f2→Ow w' I' t (putN te zs t x off) cs fp
 | .sl true t',x,off,ys,cs,fp,hg,h=>by
  unfold getN at hg
  cases hb:nEq off 0 with
  | false=>rw[hb] at hg;simp at hg
  | true=>
   rw[hb] at hg
   have h0:off=0:=(φ9 _ _).1 hb
   subst h0
   simp only[cT] at hg
   cases hs:Ty.same t' te with
   | none=>rw[hs] at hg;simp at hg
   | some q=>
    rw[hs] at hg
    obtain ⟨q⟩:=q
    have e:=φ49 hs hte
    subst e
    simp only[Option.some.injEq] at hg
    have hq:φ1a q x=x:=rfl
    rw[hq] at hg
    subst hg
    have hcs:∃v,cs=[v]:=by
     rcases h with ⟨_,e,_⟩ | ⟨g,c,f,e,_⟩
     ·exact ⟨_,e⟩
     ·exact ⟨_,e⟩
    obtain ⟨v,hv⟩:=hcs
    subst hv
    refine ⟨v,[],fp,[],rfl,by simp,h,fun w' I' zs _ _ _ hz=>?_⟩
    unfold putN
    rw[hs]
    exact hz
 | .sl false _,_,_,_,_,_,hg,_=>by simp[getN] at hg
 | .int _,_,_,_,_,_,hg,_=>by simp[getN] at hg
 | .bool,_,_,_,_,_,hg,_=>by simp[getN] at hg
 | .str,_,_,_,_,_,hg,_=>by simp[getN] at hg
 | .box _ _,_,_,_,_,_,hg,_=>by simp[getN] at hg
 | .pair a b,x,off,ys,cs,fp,hg,⟨c1,c2,f1,f2,e,e',h,h'⟩=>by
  have hs:=Ow.size a _ _ _ h
  unfold getN at hg
  subst e;subst e'
  cases hb:Nat.blt off a.size with
  | true=>
   rw[hb] at hg
   simp only[cT] at hg
   have hlt:off<a.size:=κ9 hb
   obtain ⟨v,g1,g2,g3,k1,k2,k3,k4⟩:=φ42 hte a x.1 off ys c1 f1 hg h
   refine ⟨v,g1,g2,g3++f2,by rw[List.getElem?_append_left (by omega)];exact k1,by rw[k2];simp[aA],k3,fun w' I' zs i1 i2 i3 hz=>?_⟩
   unfold putN
   rw[hb]
   exact ⟨c1,c2,f1,f2,rfl,rfl,k4 w' I' zs i1 i2 (fun b hb=>i3 b (hb.imp id fun k=>mL _ k)) hz,Ow.mono i1 i2 b _ _ _ (fun q hq=>i3 q (.inr (mR _ hq))) h'⟩
  | false=>
   rw[hb] at hg
   simp only[cF] at hg
   have hge:a.size≤off:=by
    rcases κ4 off a.size with q | q
    ·have:Nat.blt off a.size=true:=Nat.ble_eq_true_of_le q
     rw[this] at hb;simp at hb
    ·exact q
   obtain ⟨v,g1,g2,g3,k1,k2,k3,k4⟩:=φ42 hte b x.2 (off - a.size) ys c2 f2 hg h'
   refine ⟨v,f1++g1,g2,g3,by rw[List.getElem?_append_right (by omega),hs];exact k1,by rw[k2];simp[aA],k3,fun w' I' zs i1 i2 i3 hz=>?_⟩
   unfold putN
   rw[hb]
   exact ⟨c1,c2,f1,f2,rfl,rfl,Ow.mono i1 i2 a _ _ _ (fun q hq=>i3 q (.inl (mL _ hq))) h,k4 w' I' zs i1 i2 (fun b hb=>i3 b (hb.imp (fun k=>mR _ k) id)) hz⟩
theorem φ3h:∀{t:Ty},t.flat=true→φX t=false∧t.owns=false
 | .int _,_=>⟨rfl,rfl⟩
 | .bool,_=>⟨rfl,rfl⟩
 | .str,_=>⟨rfl,rfl⟩
 | .sl _ _,h=>by simp[Ty.flat] at h
 | .box _ _,h=>by simp[Ty.flat] at h
 | .pair a b,h=>by
  simp only[Ty.flat,bA] at h
  obtain ⟨h1,h2⟩:=φ3h h.1
  obtain ⟨h3,h4⟩:=φ3h h.2
  exact ⟨by simp[φX,h1,h3],by simp[Ty.owns,h2,h4]⟩
theorem φ7p {te:Ty} (hte:te.flat=true) {ys zs:List te.den} {v:Value} {f2 fq:List Nat} (h:Ow w I (.sl true te) ys [v] f2) (k:Ow w' I' (.sl true te) zs [v] fq):fq=f2:=by
 have nof:∀{w:World} {I:Nat→Prop} {xs:List te.den} {g c:Nat} {f:List Nat},φ2B w (Ow w I te) te.size xs g c f→f=[]:=fun ⟨ces,rest,e,_,_,_,h⟩=>φ4G _ _ _ (fun x cs f k=>φ2j te (φ3h hte).2 x cs f k) h
 rcases h with ⟨_,e1,e2⟩ | ⟨g,c,f,e1,e2,hr⟩
 ·rcases k with ⟨_,_,e4⟩ | ⟨g',c',f',e3,e4,hr'⟩
  ·rw[e2,e4]
  ·rw[e1] at e3;simp at e3
 ·rcases k with ⟨_,e3,_⟩ | ⟨g',c',f',e3,e4,hr'⟩
  ·rw[e1] at e3;simp at e3
  ·rw[e1] at e3
   simp only[List.cons.injEq,Value.slice.injEq,Option.some.injEq,Addr.mk.injEq,and_true] at e3
   rw[e2,e4,nof hr,nof hr',e3.1]
theorem φ7a {te:Ty} {ys:List te.den} {v:Value} {f2:List Nat} (h:Ow w I (.sl true te) ys [v] f2):∀b∈tops (.sl true te) [v],b∈f2:=fun b hb=>by
 rcases h with ⟨_,e,_⟩ | ⟨g,c,f,e1,e2,_⟩
 ·rw[e] at hb;simp[tops] at hb
 ·rw[e1] at hb;rw[e2];simp[tops] at hb;subst hb;simp
theorem φ9Z {t:Nat} {x:Operand} (hT:φK P T) (h:Rel B Al s a w W) (hd:φA B o.dst) (hop:o.op=.load t x) (he:(φj T E o f).exec s rs=some (u,rs')):Done P B Al (s.up u) o a w:=by
 simp only[φj,hop] at he
 cases ht:lkp T t with
 | none=>rw[ht] at he;simp[RP.exec] at he
 | some td=>
  rw[ht] at he
  simp only at he
  have hty:=hT t td ht
  obtain ⟨v,rs2,h1,h2,h3⟩:=φQ h he
  clear he
  split at h1<;>try (simp[RP.exec] at h1;done)
  rename_i id i off
  obtain ⟨b,o',e,k⟩:=h2.2
  simp only[RP.exec] at h1
  split at h1<;>try (simp[RP.exec] at h1;done)
  rename_i t' xs ho
  obtain ⟨hc,h1⟩:=φB h1
  simp only[bA,κF] at hc
  obtain ⟨hoa,hn1,hag⟩:=hc
  have hn1:=(φ9 _ _).1 hn1
  rw[φE h1]
  obtain ⟨k1,rfl,rfl⟩:=k t' xs ho
  obtain ⟨_,hi⟩:=φ1m k1
  obtain ⟨cs,fp,hat,how,hfp,hcs⟩:=h.elem ho k1
  obtain ⟨c,hc1,hc2⟩:=φ48 t' _ off cs fp hoa how
  have hlt:off<cs.length:=by rw[hcs];exact φ2o hoa
  have hpart:=hat.part off 1 (by omega)
  have hone:(cs.drop off).take 1=[c]:=by
   rw[dG hlt]
   have:cs[off]=c:=by rw[List.getElem?_eq_getElem hlt] at hc1;exact Option.some.inj hc1
   simp[this]
  rw[hone] at hpart
  have hr:(execOp a.eval o).run P w=.ok (.value c) w:=by
   have:=φ4k (P:=P) w (n:=1) (g:=false) (vs:=[c]) (by rw[hty.tag.1,hn1]) (by rw[hty.aggD,hag]) rfl (fun _=>rfl) hpart
   simp only[execOp,hop,e,Instr.loadAt,pt,Instr.sureAddr,Sem.run_bind,Sem.run_pure,Result.andThen_ok,this]
   rfl
  refine φp h hd hr ⟨fun _=>hc2,fun hh t2 xs2 ho2=>?_⟩ (fun j hj=>h3 j hj)
  rw[ho] at ho2
  simp only[Option.some.injEq,Obj.row.injEq] at ho2
  obtain ⟨rfl,hx⟩:=ho2
  have hx:=eq_of_heq hx
  subst hx
  refine ⟨k1,hoa,?_⟩
  have hnl:W.nl id=false:=by
   rcases h.row id t' xs ho with ⟨_,e0,_⟩ | ⟨q,_⟩
   ·rw[e0] at hi;exact absurd hi (Nat.not_lt_zero _)
   ·exact q
  rw[←h.hdr hh id t' xs ho hnl i.toNat off hi hoa]
  obtain ⟨C,el,fr,pre,post,q1,q2,q3⟩:=hpart
  rw[φ3y q1,q2,List.getD_eq_getElem?_getD,List.getElem?_append_right (by omega),q3]
  simp
theorem φ7j [Laid] {c:Call} {g:Nat} (hE:EnvB P E B) (h:Rel B Al s a w W) (hh:W.hol=true) (hd:φA B o.dst) (hop:o.op=.call c) (hb:c.callee=.value (.func g)) (he:(φj T E o f).exec s rs=some (u,rs')):Done P B Al (s.up u) o a w:=by
 simp only[φj,hop,hb] at he
 obtain ⟨vs,rs1,h1,k1⟩:=φ17 h he
 clear he
 cases hl:lkp E g with
 | none=>rw[hl] at h1;simp[RP.exec] at h1
 | some cs=>
 rw[hl] at h1
 match cs,hl,h1 with
 | [],_,h1=>simp[RP.exec] at h1
 | _::_::_,_,h1=>simp[RP.exec] at h1
 | [ct],hl,h1=>
 simp only at h1
 have hct:=hE.env g [ct] hl ct (by simp)
 generalize hus:c.args.toList.map a.eval=us at k1
 have hrun:(execOp a.eval o).run P w=(callFunc g us.toArray).run P w:=by
  have ha:=φ2C hus
  simp only[execOp,hop,resolve,hb,Act.eval,Deferred.ofValue,Sem.run_bind,Sem.run_pure,Result.andThen_ok,invoke,ha]
  simp
 have hns:=h.hn hh
 have hJI:∀b,W.J s.ob b→W.I b:=fun b hb=>by
  rcases hb with k | k | ⟨k,_⟩
  ·exact k
  ·rw[h.sj] at k
   have:=(h.sjB b k).2.2
   rw[←h.ns,hns] at this;simp at this
  ·rw[hns] at k;simp at k
 have hL:Laid.L w:=Laid.keep B.w0 w (fun b hb=>h.old b (Laid.bnd _ _ hE.laid hb) fun k=>hE.off b (hE.offC b k) hb) hE.laid
 unfold φ6o at h1
 split at h1
 ·-- a row that lies in a row
  rename_i te fn
  split at h1<;>try (simp[RP.exec] at h1;done)
  rename_i id i off k _
  simp only[RP.exec] at h1
  split at h1<;>try (simp[RP.exec] at h1;done)
  rename_i t xs ho
  obtain ⟨hte,h1⟩:=φB h1
  cases hg:getN te t (xs.getD i.toNat t.zero) off with
  | none=>rw[hg] at h1;simp[RP.exec] at h1
  | some ys=>
  rw[hg] at h1
  simp only at h1
  cases hfn:fn (ys,k) with
  | none=>rw[hfn] at h1;simp[RP.exec] at h1
  | some r=>
  rw[hfn] at h1
  simp only[RP.exec,bS] at h1
  rw[φ1G h1]
  clear h1
  obtain ⟨v,us',e1,⟨hv,hm⟩,⟨kv,us2,e2,⟨hk,_⟩,e3⟩⟩:=k1
  have e3:us2=[]:=e3
  subst e3;subst e2;subst e1
  have hkv:kv=.int .i64 k:=hk.2
  subst hkv
  have hv1:v.oneCell'=true:=hv.1 rfl
  obtain ⟨hin,hoa,hvd⟩:=hv.2 hh t xs ho
  obtain ⟨_,hi⟩:=φ1m hin
  have hS:(s.ob id).isSome=true:=by rw[ho];rfl
  rcases h.row id t xs ho with ⟨_,e0,_⟩ | ⟨hnl,ces,rest,el,q1,q2,q3,q4⟩
  ·rw[e0] at hi;exact absurd hi (Nat.not_lt_zero _)
  obtain ⟨c1,c2,c3,f1,f2,f3,p1,p2,p3,p4,p5⟩:=ChO.at xs ces (W.nf id) i.toNat hi q4
  rw[φ3G _ _ _ hi] at hg ⊢
  obtain ⟨v0,g1,g2,g3,n1,n2,n3,n4⟩:=φ42 hte t xs[i.toNat] off ys c2 f2 hg p3
  have hc1:c1.length=i.toNat * t.size:=by
   rw[ChO.len (fun x cs f=>Ow.size t x cs f) _ _ _ p4,lT,Nat.min_eq_left (Nat.le_of_lt hi)]
  have hc2:=Ow.size t _ _ _ p3
  have hlt:=φ2o hoa
  -- the cell is the argument
  have hv0:v0=v:=by
   have hx:=h.hdr hh id t xs ho hnl i.toNat off hi hoa
   rw[←hvd,φ3y q1,p1,List.getD_eq_getElem?_getD] at hx
   rw[←hx]
   have:(c1++(c2++c3)++rest)[i.toNat * t.size+off]?=some v0:=by
    rw[aA,List.getElem?_append_right (by omega),hc1,Nat.add_sub_cancel_left,aA,List.getElem?_append_left (by omega)]
    exact n1
   show v0=(((c1++(c2++c3)++rest).toArray.toList)[i.toNat * t.size+off]?).getD undef
   rw[show (c1++(c2++c3)++rest).toArray.toList=c1++(c2++c3)++rest from rfl,this]
   rfl
  subst hv0
  have hcell:v0.cells.toList=[v0]:=by rw[cells_one hv1]
  have hnR:φX (.sl true te)=false:=by simpa [φX] using (φ3h hte).1
  have hnod:(W.nf id).Nodup:=by
   have:=h.nod id hS
   simp only[fpOf,hnl,cF,κC] at this
   exact this.2
  have hηn:W.η id ∉ W.nf id:=by
   have:=h.nod id hS
   simp only[fpOf,hnl,cF,κC] at this
   exact this.1
  have hnf:W.nf id=f1++((g1++(g2++g3))++f3):=by rw[p2,n2]
  have hsub:∀b∈g2,b∈W.nf id:=fun b hb=>by rw[hnf];simp[hb]
  have hg2:g2.Nodup:=by
   rw[hnf] at hnod
   exact (κ2.1 (κ2.1 (κ2.1 (κ2.1 hnod).2.1).1).2.1).1
  have hlb:∀b∈g2,¬Laid.lb b:=fun b hb hl=>by
   have hlt:=Laid.bnd _ _ hE.laid hl
   rcases h.ownN id hS b (hsub b hb) with q | q | q
   ·exact hE.off b (.inl q) hl
   ·exact hE.off b (.inr q) hl
   ·omega
  intro K Q hK
  unfold Oper.wp
  rw[hrun]
  refine hct w [v0,.int .i64 k] (ys,k) (fun _=>False) g2 (tops (.sl true te) [v0]) r (fun _ hb=>hb.elim) ?_ hg2 (fun _ _ k=>k) hL hlb hfn o a K Q fun us' w' S' q5 q6 t5 t6 hres hback post=>?_
  ·refine ⟨v0,[.int .i64 k],g2,[],tops (.sl true te) [v0],[],rfl,by simp,by simp,⟨?_,?_,by rw[hcell]⟩,⟨.int .i64 k,[],[],[],[],[],rfl,rfl,rfl,⟨?_,⟨rfl,rfl⟩,rfl⟩,⟨rfl,rfl,rfl⟩⟩⟩
   ·unfold Form;rw[if_neg (by simp[φU])];exact hv1
   ·rw[hcell];exact Ow.noR (.sl true te) hnR _ _ _ n3
   ·unfold Form;rw[if_neg (by simp[φU])];rfl
  -- what comes back
  obtain ⟨rv,rvs,a1,a2,b1,b2,x1,x2,x3,⟨y1,y2,y3⟩,x4⟩:=hres
  obtain ⟨x5,x6,x7⟩:=x4
  obtain ⟨bv,bvs,a3,a4,b3,b4,z1,z2,z3,⟨z4,z5,z6⟩,z7⟩:=hback
  obtain ⟨kv2,kvs,z8,z9⟩:=z7
  obtain ⟨_,z10,z11⟩:=z9
  simp only[List.cons.injEq] at z1
  obtain ⟨hbv,_⟩:=z1
  subst hbv
  rw[hcell] at z5 z6
  have hrv:rv=.int .i64 r.1:=by
   have h1:rv.oneCell'=true:=by
    unfold Form at y1
    rw[if_neg (by simp[φU])] at y1
    exact y1
   have h2:rv.cells.toList=[.int .i64 r.1]:=y2.1
   rw[cells_one h1] at h2
   simpa using h2
  have hfq:=φ7p hte n3 z5
  rw[hfq] at z5
  have hold:∀b,b<w.heap.size→b ∉ g2→w'.heap[b]?=w.heap[b]?:=fun b hb hn=>post.old b hb (fun k=>hn (φ7a n3 b k)) (fun k=>by simp at k)
  have hlt2:∀b∈W.nf id,b<w.heap.size:=fun b hb=>h.lt hS b (h.nfFp hS hb)
  have hηlt:W.η id<w.heap.size:=h.lt hS _ (η_fp hnl)
  have hηg:W.η id ∉ g2:=fun k=>hηn (hsub _ k)
  have hη:=hold _ hηlt hηg
  -- the blocks of the row's other parts
  have nd1:=hnod
  rw[hnf] at nd1
  rw[κ2] at nd1
  obtain ⟨nd1a,nd1b,nd1c⟩:=nd1
  rw[κ2] at nd1b
  obtain ⟨nd2a,nd2b,nd2c⟩:=nd1b
  rw[κ2] at nd2a
  obtain ⟨nd3a,nd3b,nd3c⟩:=nd2a
  rw[κ2] at nd3b
  obtain ⟨nd4a,nd4b,nd4c⟩:=nd3b
  have nf1:∀b∈f1,b ∉ g2:=fun b hb k=>nd1c b hb b (by simp[k]) rfl
  have nf3:∀b∈f3,b ∉ g2:=fun b hb k=>nd2c b (by simp[k]) b hb rfl
  have ng1:∀b∈g1,b ∉ g2:=fun b hb k=>nd3c b hb b (by simp[k]) rfl
  have ng3:∀b∈g3,b ∉ g2:=fun b hb k=>nd4c b k b hb rfl
  have keep:∀b,b∈W.nf id→b ∉ g2→w'.heap[b]?=w.heap[b]?:=fun b hb hn=>hold b (hlt2 b hb) hn
  have hI:∀b,W.I b→w'.heap[b]?=w.heap[b]?:=fun b hb=>hold b (h.bnd b hb) fun k=>h.imm id hS b (h.nfFp hS (hsub b k)) hb
  have hel:Ow w' W.I t (putN te r.2 t xs[i.toNat] off) c2 f2:=n4 w' W.I r.2 (fun _ h=>h) hI (fun b hb=>by
   rcases hb with hb | hb
   ·exact keep b (by rw[hnf];simp[hb]) (ng1 b hb)
   ·exact keep b (by rw[hnf];simp[hb]) (ng3 b hb)) (Ow.noR (.sl true te) hnR _ _ _ z5)
  have hrow:φ27 w' W id t (xs.set i.toNat (putN te r.2 t xs[i.toNat] off)):=by
   refine .inr ⟨hnl,ces,rest,el,hη.trans q1,q2,by simpa using q3,?_⟩
   rw[p1,p2]
   refine φ5H hi ?_ hel ?_
   ·exact ChO.mono _ _ _ (fun x cs f hf k=>Ow.mono (fun _ h=>h) hI t x cs f (fun b hb=>keep b (by rw[hnf];simp[hf b hb]) (nf1 b (hf b hb))) k) p4
   ·exact ChO.mono _ _ _ (fun x cs f hf k=>Ow.mono (fun _ h=>h) hI t x cs f (fun b hb=>keep b (by rw[hnf];simp[hf b hb]) (nf3 b (hf b hb))) k) p5
  subst hrv
  subst x5
  subst x1
  refine hK _ _ ⟨W,?_⟩
  have hob:∀j,j≠id→updS s.ob [(id,some (.row t (xs.set i.toNat (putN te r.2 t xs[i.toNat] off))))] j=s.ob j:=fun j hj=>φV _ _ hj
  have hobf:updS s.ob [(id,some (.row t (xs.set i.toNat (putN te r.2 t xs[i.toNat] off))))] id=some (.row t (xs.set i.toNat (putN te r.2 t xs[i.toNat] off))):=φb _ _ _
  have other:∀j,j≠id→(s.ob j).isSome=true→∀b∈fpOf W j,b ∉ g2:=fun j hj hSj b hb k=>h.dis j id hj hSj hS b hb (h.nfFp hS (hsub b k))
  have turn:Turn Al W W s.ob (updS s.ob [(id,some (.row t (xs.set i.toNat (putN te r.2 t xs[i.toNat] off))))]) w w':=
   {I:=fun b hb=>hb
    J:=fun b hb=>.inl (hJI b hb)
    hJ:=fun b hb=>hI b (hJI b hb)
    rows:=fun j _ t2 xs2 hx=>by
     by_cases e:j=id
     ·subst e
      rw[hobf] at hx
      simp only[Option.some.injEq,Obj.row.injEq] at hx
      obtain ⟨rfl,hx⟩:=hx
      have hx:=eq_of_heq hx
      subst hx
      exact ⟨t,xs,ho,rfl,by simp,rfl,rfl,rfl,fun _=>⟨fun _=>rfl,rfl⟩⟩
     ·rw[hob j e] at hx
      exact ⟨t2,xs2,hx,rfl,rfl,rfl,rfl,rfl,fun _=>⟨fun _=>rfl,rfl⟩⟩
    hol:=rfl
    sj:=rfl
    ns:=rfl
    vars:=fun j _ l2 hx=>by
     by_cases e:j=id
     ·subst e;rw[hobf] at hx;simp at hx
     ·rw[hob j e] at hx;exact ⟨l2,hx,rfl⟩ }
  exact h.turn (C:=fun j=>j=id)
   {turn:=turn
    sub:=fun _ hi=>hi
    kept:=fun j hj=>⟨hob j hj,rfl,rfl,rfl,rfl⟩
    hol:=rfl
    ns:=rfl
    hdK:=fun _ _=>rfl
    hdN:=fun _ j hj t2 xs2 hx _ n z hn hz=>by
     subst hj
     rw[hobf] at hx
     simp only[Option.some.injEq,Obj.row.injEq] at hx
     obtain ⟨rfl,hx⟩:=hx
     have hx:=eq_of_heq hx
     subst hx
     rw[List.length_set] at hn
     rw[←h.hdr hh j t xs ho hnl n z hn hz]
     unfold hdOf
     rw[hη]
    keptH:=fun j hj hSj b hb=>⟨hold b (h.lt hSj b hb) (other j hj hSj b hb),h.imm j hSj b hb⟩
    newO:=fun j hj x hx=>by
     subst hj
     rw[hobf] at hx
     simp only[Option.some.injEq] at hx
     subst hx
     exact ⟨hrow,h.al j hS,fun l hl=>by simp at hl⟩
    newN:=fun j hj _=>by subst hj;exact h.nod j hS
    newI:=fun j hj _ b hb=>by subst hj;exact h.imm j hS b hb
    newD:=fun j q hj _ hq hSq b hb=>by subst hj;exact h.dis j q (fun e=>hq e.symm) hS hSq b hb
    newD2:=fun j q hj hq hne=>absurd (hj.trans hq.symm) hne
    newT:=fun j hj _ hn=>by subst hj;exact h.ownT j hS hn
    newF:=fun j hj _ b hb=>by subst hj;exact h.ownN j hS b hb
    bnd:=fun b hb=>κ7 (h.bnd b hb) post.size
    os:=post.os.trans h.os
    tape:=post.tape.trans h.tape
    output:=post.output.trans h.output
    grown:=Nat.le_trans h.grown post.size
    old:=fun b hb hn=>by
     rw[hold b (κ7 hb h.grown) fun k=>?_]
     ·exact h.old b hb hn
     ·rcases h.ownN id hS b (hsub b k) with q | q | q
      ·exact hn (h.cTop _ q)
      ·exact hn (h.cN hns _ q)
      ·omega
    from0:=h.from0 } hd ⟨fun _=>rfl,rfl⟩ (fun _ k=>k.elim)
 ·-- a number alone
  rename_i fn
  split at h1<;>try (simp[RP.exec] at h1;done)
  rename_i k _
  cases hfn:fn k with
  | none=>rw[hfn] at h1;simp[RP.exec] at h1
  | some r=>
  rw[hfn] at h1
  simp only[RP.exec,bS] at h1
  rw[φE h1]
  obtain ⟨kv,us2,e2,⟨hk,_⟩,e3⟩:=k1
  have e3:us2=[]:=e3
  subst e3;subst e2
  have hkv:kv=.int .i64 k:=hk.2
  subst hkv
  intro K Q hK
  unfold Oper.wp
  rw[hrun]
  refine hct w [.int .i64 k] k (fun _=>False) [] [] r (fun _ hb=>hb.elim) ?_ List.nodup_nil (fun _ hb=>by simp at hb) hL (fun _ hb=>by simp at hb) hfn o a K Q fun us' w' S' q5 q6 t5 t6 hres hback post=>?_
  ·refine ⟨.int .i64 k,[],[],[],[],[],rfl,rfl,rfl,⟨?_,⟨rfl,rfl⟩,rfl⟩,⟨rfl,rfl,rfl⟩⟩
   unfold Form;rw[if_neg (by simp[φU])];rfl
  obtain ⟨rv,rvs,a1,a2,b1,b2,x1,x2,x3,⟨y1,y2,y3⟩,x4⟩:=hres
  obtain ⟨x5,x6,x7⟩:=x4
  have hrv:rv=.string ⟨r.toArray⟩:=by
   have h1:rv.oneCell'=true:=by
    unfold Form at y1
    rw[if_neg (by simp[φU])] at y1
    exact y1
   have h2:rv.cells.toList=[.string ⟨List.toArray r⟩]:=y2.1
   rw[cells_one h1] at h2
   simpa using h2
  subst hrv
  subst x5
  subst x1
  have hold:∀b,b<w.heap.size→w'.heap[b]?=w.heap[b]?:=fun b hb=>post.old b hb (by simp) (fun k=>by simp at k)
  refine hK _ _ ⟨W,?_⟩
  have turn:Turn Al W W s.ob s.ob w w':=
   {I:=fun b hb=>hb
    J:=fun b hb=>hb
    hJ:=fun b hb=>hold b (h.Jlt hb)
    rows:=fun j _ t2 xs2 hx=>⟨t2,xs2,hx,rfl,rfl,rfl,rfl,rfl,fun _=>⟨fun _=>rfl,rfl⟩⟩
    hol:=rfl
    sj:=rfl
    ns:=rfl
    vars:=fun j _ l2 hx=>⟨l2,hx,rfl⟩ }
  exact h.turn (C:=fun _=>False)
   {turn:=turn
    sub:=fun _ hi=>hi
    kept:=fun j hj=>⟨rfl,rfl,rfl,rfl,rfl⟩
    hol:=rfl
    ns:=rfl
    hdK:=fun _ _=>rfl
    hdN:=fun _ j hj=>hj.elim
    keptH:=fun j hj hSj b hb=>⟨hold b (h.lt hSj b hb),h.imm j hSj b hb⟩
    newO:=fun j hj=>hj.elim
    newN:=fun j hj=>hj.elim
    newI:=fun j hj=>hj.elim
    newD:=fun j q hj=>hj.elim
    newD2:=fun j q hj=>hj.elim
    newT:=fun j hj=>hj.elim
    newF:=fun j hj=>hj.elim
    bnd:=fun b hb=>κ7 (h.bnd b hb) post.size
    os:=post.os.trans h.os
    tape:=post.tape.trans h.tape
    output:=post.output.trans h.output
    grown:=Nat.le_trans h.grown post.size
    old:=fun b hb hn=>(hold b (κ7 hb h.grown)).trans (h.old b hb hn)
    from0:=h.from0 } hd ⟨fun _=>rfl,rfl⟩ (fun _ k=>k.elim)
 ·simp[RP.exec] at h1
end
end Go.Rf
namespace Go.Rf
section
variable {P:Program} {T:Tab} {E:Env} {B:Base} {Al Al':Nat→Prop} {s s':St} {a:Act} {w w':World} {W W':Wit} {o:Oper} {f:Nat}
 {rs rs':List Key} {u:Upd}
theorem φ9l [Laid] (hT:φK P T) (hE:EnvB P E B) (h:Rel B Al s a w W) (hh:W.hol=false) (hd:φA B o.dst) (hf:fresh Al f) (he:(φ2 T E o f).exec s rs=some (u,rs')):Done P B (Nu Al f) (s.up u) o a w:=by
 have up:∀{s':St},Done P B Al s' o a w→Done P B (Nu Al f) s' o a w:=fun h=>h.mono fun i hi=>.inl hi
 cases hop:o.op with
 | move x=>exact up (φ3w h hd (.inl hop) he)
 | assign x=>exact up (φ3w h hd (.inr hop) he)
 | pick c x y=>exact up (φ96 h hd hop he)
 | alloc t=>exact φ7K hT h hd hf hop he
 | box t x=>exact φ7v hT h hd hf hop he
 | build t p=>exact up (φ7c hT h hd hop he)
 | buildSlice t n p=>exact φ8i hT h hd hf hop he
 | load t x=>exact up (φ7S hT h (fun q=>h.ns.trans (hE.ns.trans q)) hd hop he)
 | store t x y=>exact up (φ6b hT h (fun k=>by rw[hh] at k;simp at k) hd hop he)
 | nilCheck x=>exact up (φ5C h hd hop he)
 | makeFunc fn first caps=>exact up (φ7f h hd hop he)
 | binOp op t x y t'=>exact up (φ5U hT h hd hop he)
 | unOp op t x=>exact up (φ6F h hd hop he)
 | convert t t' x=>exact up (φ6H hT h hd hop he)
 | slice t x lo hi mx=>
  cases mx with
  | none=>exact up (φ8C hT h hd hop he)
  | some m=>simp[φ2,hop,RP.exec] at he
 | fieldAddr t x j=>exact up (φ6J hT h hd hop he)
 | field t x j=>exact up (φ9Y hT h hd hop he)
 | indexAddr t x y=>exact up (φ5f hT h hd hop he)
 | index t x y=>exact up (φ82 hT h hd hop he)
 | extract x j=>exact up (φ8g h hd hop he)
 | makeSlice t x y=>exact φ9P hT h hd hf hop he
 | call c=>
  cases hc:c.callee with
  | builtin b=>
   have he0:=he
   simp only[φ2,hop] at he
   obtain ⟨vs,rs1,h1,k1⟩:=φ17 h he
   rw[hc] at h1
   cases b<;>first | (simp[RP.exec] at h1;done) | skip
   ·exact φ7B hT h hd hf hop hc he0
   ·exact up (φ5X hT h hd hop hc he0)
   ·exact up (φ50 h hd hop hc (.inr rfl) he0)
   ·exact up (φ50 h hd hop hc (.inl rfl) he0)
  | invoke r n=>
   simp only[φ2,hop] at he
   obtain ⟨vs,rs1,h1,k1⟩:=φ17 h he
   rw[hc] at h1
   simp[RP.exec] at h1
  | value x=>
   cases x with
   | func g=>exact φ93 hE h hh hd hf hop hc he
   | tmp i=>exact φ7V hE h hh hd hf hop hc he
   | _=>
    simp only[φ2,hop] at he
    obtain ⟨vs,rs1,h1,k1⟩:=φ17 h he
    rw[hc] at h1
    simp[RP.exec] at h1
 | _=>simp[φ2,hop,RP.exec] at he
theorem φ9Q [Laid] (hT:φK P T) (hE:EnvB P E B) (h:Rel B Al s a w W) (hh:W.hol=true) (hd:φA B o.dst) (he:(φj T E o f).exec s rs=some (u,rs')):Done P B (Nu Al f) (s.up u) o a w:=by
 have up:∀{s':St},Done P B Al s' o a w→Done P B (Nu Al f) s' o a w:=fun h=>h.mono fun i hi=>.inl hi
 cases hop:o.op with
 | move x=>simp only[φj,hop] at he;exact up (φ3w h hd (.inl hop) he)
 | assign x=>simp only[φj,hop] at he;exact up (φ3w h hd (.inr hop) he)
 | nilCheck x=>simp only[φj,hop] at he;exact up (φ5C h hd hop he)
 | fieldAddr t x j=>simp only[φj,hop] at he;exact up (φ6J hT h hd hop he)
 | indexAddr t x y=>simp only[φj,hop] at he;exact up (φ5f hT h hd hop he)
 | binOp op t x y t'=>simp only[φj,hop] at he;exact up (φ5U hT h hd hop he)
 | unOp op t x=>simp only[φj,hop] at he;exact up (φ6F h hd hop he)
 | convert t t' x=>simp only[φj,hop] at he;exact up (φ6H hT h hd hop he)
 | load t x=>exact up (φ9Z hT h hd hop he)
 | store t x y=>
  simp only[φj,hop] at he
  obtain ⟨rs2,h1,_,_⟩:=φ5u h he
  obtain ⟨hc,h1⟩:=φB h1
  exact up (φ6b hT h (fun _=>hc) hd hop h1)
 | call c=>
  cases hc:c.callee with
  | builtin b=>
   simp only[φj,hop,hc] at he
   cases b<;>first | (simp[RP.exec] at he;done) | exact up (φ5X hT h hd hop hc he)
  | invoke r n=>simp[φj,hop,hc,RP.exec] at he
  | value x=>
   cases x with
   | func g=>exact up (φ7j hE h hh hd hop hc he)
   | _=>simp[φj,hop,hc,RP.exec] at he
 | _=>simp[φj,hop,RP.exec] at he
theorem φ92 [Laid] (hT:φK P T) (hE:EnvB P E B) (h:Rel B Al s a w W) (hd:φA B o.dst) (hf:fresh Al f) (he:(step T E o f).exec s rs=some (u,rs')):Done P B (Nu Al f) (s.up u) o a w:=by
 have hx:W.hol=holE E:=h.hol.trans hE.hol
 unfold step at he
 cases hq:holE E with
 | true=>rw[hq] at he hx;exact φ9Q hT hE h hx hd he
 | false=>rw[hq] at he hx;exact φ9l hT hE h hx hd hf he
end
section
variable {P:Program} {T:Tab} {E:Env} {B:Base} {s s':St} {a:Act} {w w':World} {W W':Wit} {o:Oper} {f0:Nat} {ops:Array Oper}
 {u:Upd} {Q:Exit→Act→World→Prop}
def AlD (f0:Nat) (D:List Nat) (i:Nat):Prop:=i<f0∨∃j∈D,f0+j * idW≤i∧i<f0+j * idW+idW
def SimR (B:Base) (f0:Nat) (D:List Nat) (s:St) (a:Act) (w:World):Prop:=∃W,Rel B (AlD f0 D) s a w W
theorem AlD.fresh {D:List Nat} {i:Nat} (h:i ∉ D):fresh (AlD f0 D) (f0+i * idW):=by
 intro k h1 h2 h3
 rcases h3 with h3 | ⟨j,hj,h4,h5⟩
 ·omega
 ·have hne:i≠j:=fun e=>h (e ▸ hj)
  simp only[idW] at *
  omega
theorem AlD.next {D:List Nat} {i k:Nat} (h:Nu (AlD f0 D) (f0+i * idW) k):AlD f0 (i::D) k:=by
 rcases h with (h | ⟨j,hj,h⟩) | h
 ·exact .inl h
 ·exact .inr ⟨j,mC _ hj,h⟩
 ·exact .inr ⟨i,κ3 ..,h⟩
theorem φ6x [Laid] (hT:φK P T) (hE:EnvB P E B) (hds:∀(i:Nat) (o:Oper),ops[i]?=some o→φA B o.dst) (D:List Nat) (i:Nat) (o:Oper) (s:St) (a:Act) (w:World) (u:Upd) (e:Ent) (K:Act→World→Prop)
  (ho:ops[i]?=some o) (hi:i ∉ D) (hs:SimR B f0 D s a w) (hst:stp T E ops f0 o i s=some (u,e)) (hK:∀a' w',SimR B f0 (i::D) (s.up u) a' w'→K a' w'):wpOp P ops Q i K a w:=by
 obtain ⟨W,h⟩:=hs
 have hd:=hds i o ho
 have go:∀rs,goE T E f0 o i s rs=some (u,e)→o.wp P a w K Q:=by
  intro rs hg
  unfold goE at hg
  cases hx:(step T E o (f0+i * idW)).exec s rs with
  | none=>rw[hx] at hg;simp at hg
  | some q=>
   obtain ⟨u2,rs2⟩:=q
   rw[hx] at hg
   simp only[Option.map_some,Option.some.injEq,Prod.mk.injEq] at hg
   obtain ⟨rfl,_⟩:=hg
   exact φ92 hT hE h hd (AlD.fresh hi) hx K Q fun a' w' ⟨W',r⟩=>hK a' w' ⟨W',r.mono fun k hk=>AlD.next hk⟩
 have off:∀rs,some (offE o i rs)=some (u,e)→K (a.put o.dst undef) w:=by
  intro rs hg
  have hr:=h.skip hd
  refine hK _ _ ⟨W,?_⟩
  have hu:u=⟨dl o.dst (.one .skip),[]⟩:=by
   unfold offE at hg
   cases hdst:o.dst<;>rw[hdst] at hg<;>simp only[Option.some.injEq,Prod.mk.injEq] at hg<;>exact hg.1.symm
  rw[hu]
  exact hr.mono fun k hk=>hk.imp id fun ⟨j,hj,z⟩=>⟨j,mC _ hj,z⟩
 unfold wpOp
 rw[ho]
 simp only
 unfold stp at hst
 cases hg:φ2F ops o with
 | none=>
  rw[hg] at hst
  simp only at hst
  have:o.guard=none:=by
   unfold φ2F at hg
   cases hgd:o.guard with
   | none=>rfl
   | some p=>rw[hgd] at hg;simp at hg
  rw[if_pos (by simp[Region.wanted,this])]
  exact .inl (go _ hst)
 | some p=>
  obtain ⟨gd,want⟩:=p
  obtain ⟨j,hgd,hj⟩:∃j,o.guard=some (j,want)∧(ops[j]?).bind (·.dst)=gd:=by
   unfold φ2F at hg
   cases hgd:o.guard with
   | none=>rw[hgd] at hg;simp at hg
   | some q=>
    rw[hgd] at hg
    simp only[Option.some.injEq,Prod.mk.injEq] at hg
    exact ⟨q.1,by rw[←hg.2],hg.1⟩
  rw[hg] at hst
  cases gd with
  | none=>simp at hst
  | some g=>
   simp only at hst
   have hv:=h.slots g
   cases hsl:s.sl g with
   | one c=>
    rw[hsl] at hst hv
    cases c with
    | bool b=>
     simp only at hst
     have hv:a.tmps.getD g undef=.bool b:=hv.2
     have hget:a.tmps[g]?=some (.bool b):=by
      by_cases hlt:g<a.tmps.size
      ·simp[Array.getD,hlt] at hv;simp[hlt,hv]
      ·simp[Array.getD,hlt,undef] at hv
     have hy:yielded ops a.tmps j=some b:=by
      unfold yielded
      rw[hj]
      simp[hget]
     by_cases hbw:b=want
     ·rw[if_pos hbw] at hst
      rw[if_pos (by simp[Region.wanted,hgd,hy,hbw])]
      exact .inl (go _ hst)
     ·rw[if_neg hbw] at hst
      rw[if_neg (by simp[Region.wanted,hgd,hy,hbw])]
      exact off _ hst
    | skip=>
     simp only at hst
     have hv:a.tmps.getD g undef=undef:=hv.2
     have hy:yielded ops a.tmps j=none:=by
      unfold yielded
      rw[hj]
      simp only[bS]
      by_cases hlt:g<a.tmps.size
      ·have hv:a.tmps[g]=undef:=by simpa [Array.getD,hlt] using hv
       simp[hlt,hv,undef]
      ·simp[hlt]
     rw[if_neg (by simp[Region.wanted,hgd,hy])]
     exact off _ hst
    | _=>simp at hst
   | agg l=>rw[hsl] at hst;simp at hst
   | tup l=>rw[hsl] at hst;simp at hst
end
end Go.Rf
namespace Go.Rf
def Sim (B:Base) (f:Nat) (s:St) (a:Act) (w:World):Prop:=∃W,Rel B (fun i=>i<f) s a w W
section
variable {P:Program} {T:Tab} {E:Env} {B:Base} {s s':St} {a:Act} {w w':World} {W W':Wit} {f:Nat} {ops:Array Oper}
 {u:Upd} {Q:Exit→Act→World→Prop}
theorem Rel.drew {Al:Nat→Prop} (h:Rel B Al s a w W) (n:Nat):Rel B Al s a { w with drawn:=n } W:=by
 have turn:Turn Al W W s.ob s.ob w { w with drawn:=n }:=
  {I:=fun _ h=>h,J:=fun _ h=>h,hJ:=fun _ _=>rfl,rows:=fun _ _ t xs' hx=>⟨t,xs',hx,rfl,rfl,rfl,rfl,rfl,fun _=>⟨fun _=>rfl,rfl⟩⟩,hol:=rfl,ns:=rfl,sj:=rfl,vars:=fun _ _ l hx=>⟨l,hx,rfl⟩ }
 have:=h.turn (C:=fun _=>False) (Al':=Al) (d:=none) (r:=.one .undef) (v:=undef)
  {turn:=turn,sub:=fun _ h=>h,kept:=fun _ _=>⟨rfl,rfl,rfl,rfl,rfl⟩,hol:=rfl,ns:=rfl,hdK:=fun _ _=>rfl,hdN:=fun _ _ k=>k.elim,keptH:=fun i _ hS b hb=>⟨rfl,h.imm i hS b hb⟩,
   newO:=fun _ h=>h.elim,newN:=fun _ h=>h.elim,newI:=fun _ h=>h.elim,newD:=fun _ _ h=>h.elim,newD2:=fun _ _ h=>h.elim,newT:=fun _ h=>h.elim,newF:=fun _ h=>h.elim,
   bnd:=h.bnd,os:=h.os,tape:=h.tape,output:=h.output,grown:=h.grown,old:=h.old,from0:=h.from0 } (fun _ k=>by simp at k) ⟨fun k=>by simp[φL] at k,trivial⟩ (fun _ k=>k.elim)
 exact this
theorem φ6k:∀(l:List Oper) (i:Nat),(num i l).map (·.1)=κE i l.length
 | [],_=>rfl
 | o::l,i=>by simp only[num,κH,φ6k l (i+1),lC,List.range'_succ]
theorem φ6c:∀(l:List Oper) (i:Nat) (p:Nat×Oper),p∈num i l→∃k,p.1=i+k∧l[k]?=some p.2
 | [],_,_,h=>by simp[num] at h
 | o::l,i,p,h=>by
  simp only[num] at h
  rcases mc.1 h with k | k
  ·subst k;exact ⟨0,rfl,rfl⟩
  ·obtain ⟨k,h1,h2⟩:=φ6c l (i+1) p k;exact ⟨k+1,by omega,h2⟩
theorem φ5P [Laid] (hT:φK P T) (hE:EnvB P E B) (hds:∀(i:Nat) (o:Oper),ops[i]?=some o→φA B o.dst) {s1:St} (hend:∀D a w,SimR B f D s1 a w→(∀j∈D,j<ops.size)→Q .normal a w) :
  ∀(L:List (Nat×Oper)) (es:List Ent) (D:List Nat) (s:St) (a:Act) (w:World),RunE T E ops f L s es s1→(∀p∈L,ops[p.1]?=some p.2)→(L.map (·.1)).Nodup→(∀p∈L,p.1 ∉ D)→(∀j∈D,j<ops.size)→SimR B f D s a w →
   wpOps P ops Q (L.map (·.1)) a w
 | [],_,D,s,a,w,hr,_,_,_,hD,hs=>by cases hr;exact hend D a w hs hD
 | (i,o)::L,_,D,s,a,w,hr,hL,hn,hnD,hD,hs=>by
  cases hr with
  | cons hst hk=>
   rw[κH,wpOps_cons]
   have ho:=hL (i,o) (κ3 ..)
   rw[κH,κC] at hn
   refine φ6x hT hE hds D i o s a w _ _ _ ho (hnD (i,o) (κ3 ..)) hs hst fun a' w' hs'=>?_
   refine φ5P hT hE hds hend L _ (i::D) _ a' w' hk (fun p hp=>hL p (mC _ hp)) hn.2 (fun p hp hpD=>?_) (fun j hj=>?_) hs'
   ·rcases mc.1 hpD with k | k
    ·exact hn.1 (k ▸ mM.2 ⟨p,hp,rfl⟩)
    ·exact hnD p (mC _ hp) k
   ·rcases mc.1 hj with k | k
    ·subst k;exact (Array.getElem?_eq_some_iff.1 ho).1
    ·exact hD j k
theorem φ8B [Laid] (hT:φK P T) (hE:EnvB P E B) (hm:P.follows .mixedOrders=true) (hds:∀(i:Nat) (o:Oper),ops[i]?=some o→φA B o.dst) {ρ:Type} {r:ρ} {K:St→Nat→Option ρ} {dr:Bool} {id:Nat}
  (he:φ4v T E ops dr s f K=some r) (hs:Sim B f s a w) (hQ:∀s' f' a' w',K s' f'=some r→Sim B f' s' a' w'→Q .normal a' w'):(Code.region id ops dr).wp P Q a w:=by
 unfold φ4v at he
 rw[φ3L] at he
 cases hseq:seqE T E ops f (num 0 ops.toList) s [] with
 | none=>rw[hseq] at he;simp at he
 | some q=>
  obtain ⟨s1,bk⟩:=q
  rw[hseq] at he
  simp only[bS] at he
  obtain ⟨es,hrun,hbk⟩:=φ5j _ _ _ _ _ hseq
  rw[κ5] at hbk
  have hck:(!dr || (φ1k 0 ops.toList && φ26 (φr ops.toList []) bk))=true∧K s1 (f+ops.size * idW)=some r:=by
   cases hb:(!dr || (φ1k 0 ops.toList && φ26 (φr ops.toList []) bk)) with
   | true=>rw[hb] at he;exact ⟨rfl,he⟩
   | false=>rw[hb] at he;simp at he
  obtain ⟨hck,hK⟩:=hck
  have hend:∀D a w,SimR B f D s1 a w→(∀j∈D,j<ops.size)→Q .normal a w:=by
   rintro D a w ⟨W,hr⟩ hD
   refine hQ s1 _ a w hK ⟨W,hr.mono fun i hi=>?_⟩
   rcases hi with hi | ⟨j,hj,h1,h2⟩
   ·omega
   ·have:=hD j hj
    have:(j+1) * idW≤ops.size * idW:=Nat.mul_le_mul_right _ this
    rw[Nat.add_mul] at this
    omega
  have hs0:∀w:World,Sim B f s a w→SimR B f [] s a w:=fun w ⟨W,hr⟩=>⟨W,hr.mono fun i hi=>.inl hi⟩
  have hL:∀p∈num 0 ops.toList,ops[p.1]?=some p.2:=fun p hp=>by
   obtain ⟨k,h1,h2⟩:=φ6c _ _ _ hp
   rw[h1,Nat.zero_add,←Array.getElem?_toList];exact h2
  have hmap:(num 0 ops.toList).map (·.1)=List.range ops.size:=by rw[φ6k,List.range_eq_range',κK]
  cases dr with
  | false=>
   refine wp_region ?_
   rw[←hmap]
   exact φ5P hT hE hds hend _ es [] s a w hrun hL (by rw[hmap];exact List.nodup_range) (by simp) (by simp) (hs0 w hs)
  | true=>
   simp only[nZ,Bool.false_or,bA] at hck
   refine wp_region_any hm ?_
   obtain ⟨W,hr⟩:=hs
   refine φ7k (T:=T) (E:=E) (f0:=f) (fun D s a w=>SimR B f D s a w∧∀j∈D,j<ops.size) s1 hck.1
    (fun D i o s a w u e K ho hi hs hst hK=>φ6x hT hE hds D i o s a w u e K ho hi hs.1 hst fun a' w' h'=>hK a' w' ⟨h',fun j hj=>?_⟩)
    (fun D a w h=>hend D a w h.1 h.2) ops.size (num 0 ops.toList) es [] _ s a _ (by rw[←lM (f:=(·.1)),hmap];simp) (by simp) hrun (φ8e _ es (by rw[←hbk];exact hck.2)) ?_ hL ?_ (by simp) ?_ ⟨hs0 _ ⟨W,hr.drew _⟩,by simp⟩
   ·rcases mc.1 hj with k | k
    ·subst k;exact (Array.getElem?_eq_some_iff.1 ho).1
    ·exact hs.2 j k
   ·rw[hmap];exact List.pairwise_lt_range
   ·intro i hi
    rw[hmap]
    simp[Array.getD,hi]
   ·intro i j hi h
    simp[Array.getD,hi] at h
end
end Go.Rf
namespace Go.Rf
section
variable {P:Program} {T:Tab} {E:Env} {B:Base} {Al Al':Nat→Prop} {s s':St} {a:Act} {w w':World} {W W':Wit} {f:Nat} {ops:Array Oper}
 {u:Upd} {Q:Exit→Act→World→Prop} {I:Nat→Prop} {rs:List Key}
def ShOk (w:World) (S:Nat→Prop) (a:Act):(h:Sh)→Tys (φG h)→List Nat→List Nat→Prop
 | [],_,fp,tp=>fp=[]∧tp=[]
 | (i,.val t)::h,x,fp,tp=>∃f1 f2 t1 t2,fp=f1++f2∧tp=t1++t2∧φT w S (.val t) (φ4 t (φG h) x) (a.tmps.getD i undef) f1 t1∧ShOk w S a h (φF t (φG h) x) f2 t2
 | (i,.ptr t)::h,x,fp,tp=>∃f1 f2 t1 t2,fp=f1++f2∧tp=t1++t2∧φT w S (.ptr t) (φ4 t (φG h) x) (a.tmps.getD i undef) f1 t1∧ShOk w S a h (φF t (φG h) x) f2 t2
 | (i,.ptw t)::h,x,fp,tp=>∃g cs el f2 t2,fp=g::f2∧tp=g::t2∧a.tmps.getD i undef=pt g 0∧w.heap[g]?=some (.cells cs.toArray el (0,0))∧All2 (VN w S []) (φ25 t (φ4 t (φG h) x)) cs∧ShOk w S a h (φF t (φG h) x) f2 t2
 | (i,.dup j)::h,x,fp,tp=>a.tmps.getD i undef=a.tmps.getD j undef∧ShOk w S a h x fp tp
 | (i,.lnk off j off2)::h,x,fp,tp=>(∃g g2 cs cs2 el el2 v,a.tmps.getD i undef=pt g 0∧a.tmps.getD j undef=pt g2 0∧w.heap[g]?=some (.cells (List.toArray cs) el (0,0))∧w.heap[g2]?=some (.cells (List.toArray cs2) el2 (0,0))∧cs[off]?=some v∧cs2[off2]?=some v)∧ShOk w S a h x fp tp
theorem ShOk.mono {S S':Nat→Prop} (hS:∀b,S b→S' b):∀{h:Sh} {x:Tys (φG h)} {fp tp:List Nat},ShOk w S a h x fp tp→ShOk w S' a h x fp tp
 | [],_,_,_,h=>h
 | (_,.val _)::_,_,_,_,⟨f1,f2,t1,t2,e1,e2,h1,h2⟩=>⟨f1,f2,t1,t2,e1,e2,h1.mono hS,h2.mono hS⟩
 | (_,.ptr _)::_,_,_,_,⟨f1,f2,t1,t2,e1,e2,h1,h2⟩=>⟨f1,f2,t1,t2,e1,e2,h1.mono hS,h2.mono hS⟩
 | (_,.ptw _)::_,_,_,_,⟨g,cs,el,f2,t2,e1,e2,e3,e4,h1,h2⟩=>⟨g,cs,el,f2,t2,e1,e2,e3,e4,h1.imp fun c _ v k=>VN.mono hS (fun _ h=>h) k,h2.mono hS⟩
 | (_,.dup _)::h,_,_,_,⟨e,h2⟩=>⟨e,ShOk.mono (h:=h) hS h2⟩
 | (_,.lnk _ _ _)::h,_,_,_,⟨e,h2⟩=>⟨e,ShOk.mono (h:=h) hS h2⟩
theorem All2.at_ {α β:Type} {R:α→β→Prop}:∀{l:List α} {vs:List β},All2 R l vs→∀(n:Nat) (c:α),l[n]?=some c→∃v,vs[n]?=some v∧R c v
 | [],_,_,n,c,h=>by simp at h
 | x::l,_,⟨v,r,e,h1,h2⟩,0,c,h=>by
  simp at h;subst h;subst e
  exact ⟨v,by simp,h1⟩
 | x::l,_,⟨v,r,e,h1,h2⟩,n+1,c,h=>by
  subst e
  simp at h ⊢
  exact All2.at_ h2 n c h
theorem All2.set {α β:Type} {R:α→β→Prop}:∀{l:List α} {vs:List β},All2 R l vs→∀(n:Nat) (c:α) (v:β),vs[n]?=some v→R c v→All2 R (l.set n c) vs
 | [],vs,h,n,c,v,hv,hr=>by have h:vs=[]:=h;subst h;simp at hv
 | x::l,_,⟨u,r,e,h1,h2⟩,0,c,v,hv,hr=>by
  subst e
  simp at hv;subst hv
  exact ⟨u,r,rfl,hr,h2⟩
 | x::l,_,⟨u,r,e,h1,h2⟩,n+1,c,v,hv,hr=>by
  subst e
  simp at hv
  exact ⟨u,r,rfl,h1,All2.set h2 n c v hv hr⟩
theorem φ4n (h:Rel B Al s a w W) {α:Type} {r:α×List Key} {v:AV} {u:Value} (hp:AVr w W s.ob v u) (t:Ty) (K2:t.den→List Nat→RP α) (rs:List Key) (hs:shp t v=true)
  (he:(imp t (cells v) fun x rest i=>match rest with | []=>K2 x i | _=>.fail).exec s rs=some r) :
  ∃x i rs2 fp fr,(K2 x i).exec s rs2=some r∧Form t u∧Ow w (plus W.I fr) t x u.cells.toList fp∧(blk W i).Perm (fp++fr)∧(∀j∈i,(s.ob j).isSome=true)∧(∀b∈tops t u.cells.toList,∃j∈i,W.nl j=false∧b=W.η j):=by
 obtain ⟨hF,hl⟩:=hp.form hs (φ6z he)
 obtain ⟨x,l2,i,rs2,cs,vs2,fp,fr,q1,q2,q3,q4,q5,_,q7,q8,_⟩:=φ1j h t _ _ _ _ hl he
 split at q2<;>try (simp[RP.exec] at q2;done)
 have q3:vs2=[]:=q3
 subst q3
 rw[κ5] at q1
 rw[q1]
 exact ⟨x,i,rs2,fp,fr,q2,hF,q4,q5,q7,q8⟩
theorem φ4r (h:Rel B Al s a w W) {α:Type} {r:α×List Key} {id:Nat} {cs:List Sc} (ho:s.ob id=some (.var cs)) (t:Ty) (K2:t.den→List Nat→RP α) (rs:List Key)
  (he:(imp t cs fun x rest i=>match rest with | []=>K2 x i | _=>.fail).exec s rs=some r) :
  ∃x i rs2 fp fr vs el,(K2 x i).exec s rs2=some r∧w.heap[W.η id]?=some (.cells vs.toArray el (0,0))∧Ow w (plus W.I fr) t x vs fp∧(blk W (id::i)).Perm ((W.η id::fp)++fr)∧(∀j∈id::i,(s.ob j).isSome=true) ∧
   (∀b∈W.η id::tops t vs,∃j∈id::i,W.nl j=false∧b=W.η j):=by
 obtain ⟨hnl,hnf,vs,el,hh,hl⟩:=h.var id cs ho
 obtain ⟨x,l2,i,rs2,cs0,vs2,fp,fr,q1,q2,q3,q4,q5,_,q7,q8,_⟩:=φ1j h t _ _ _ _ hl he
 split at q2<;>try (simp[RP.exec] at q2;done)
 have q3:vs2=[]:=q3
 subst q3
 rw[κ5] at q1
 subst q1
 refine ⟨x,i,rs2,fp,fr,vs,el,q2,hh,q4,?_,?_,?_⟩
 ·show (fpOf W id++blk W i).Perm _
  simp only[fpOf,hnl,hnf,cF]
  exact List.Perm.cons _ q5
 ·intro j hj
  rcases mc.1 hj with k | k
  ·subst k;rw[ho];rfl
  ·exact q7 j k
 ·intro b hb
  rcases mc.1 hb with k | k
  ·exact ⟨id,by simp,hnl,k⟩
  ·obtain ⟨j,hj,z⟩:=q8 b k;exact ⟨j,mC _ hj,z⟩
theorem φ4o {I:Nat→Prop} {α:Type} {r:α×List Key}:∀(t:Ty) (l:List Sc) (vs:List Value) (K:t.den→List Sc→RP α) (rs:List Key),All2 (Vs w W s.ob) l vs→(impW t l K).exec s rs=some r →
  ∃x l2 cs vs2,vs=cs++vs2∧(K x l2).exec s rs=some r∧All2 (Vs w W s.ob) l2 vs2∧All2 (VN w I []) (φ25 t x) cs
 | .int k,c::l,vs,K,rs,hl,he=>by
  obtain ⟨v,vs2,e,p,hl⟩:=hl
  simp only[impW] at he
  split at he<;>try (simp[RP.exec] at he;done)
  rename_i k' n
  obtain ⟨hk,he5⟩:=φB he
  have hk:=φ1M hk
  subst hk
  exact ⟨n,l,[v],vs2,e,he5,hl,⟨v,[],rfl,p.2,rfl⟩⟩
 | .bool,c::l,vs,K,rs,hl,he=>by
  obtain ⟨v,vs2,e,p,hl⟩:=hl
  simp only[impW] at he
  split at he<;>try (simp[RP.exec] at he;done)
  exact ⟨_,l,[v],vs2,e,he,hl,⟨v,[],rfl,p.2,rfl⟩⟩
 | .str,c::l,vs,K,rs,hl,he=>by
  obtain ⟨v,vs2,e,p,hl⟩:=hl
  simp only[impW] at he
  split at he<;>try (simp[RP.exec] at he;done)
  exact ⟨_,l,[v],vs2,e,he,hl,⟨v,[],rfl,p.2,rfl⟩⟩
 | .sl m t,c::l,vs,K,rs,hl,he=>by
  obtain ⟨v,vs2,e,p,hl⟩:=hl
  simp only[impW] at he
  exact ⟨[],l,[v],vs2,e,he,hl,⟨v,[],rfl,trivial,rfl⟩⟩
 | .pair a b,l,vs,K,rs,hl,he=>by
  simp only[impW] at he
  obtain ⟨x,l2,cs,vs2,e,he2,hl2,h1⟩:=φ4o a l vs _ rs hl he
  obtain ⟨y,l3,cs2,vs3,e2,he3,hl3,h2⟩:=φ4o b l2 vs2 _ rs hl2 he2
  exact ⟨(x,y),l3,cs++cs2,vs3,by rw[e,e2,aA],he3,hl3,All2.append h1 h2⟩
 | .box _ _,c::l,vs,K,rs,hl,he=>by simp[impW,RP.exec] at he
 | .box _ _,[],vs,K,rs,hl,he=>by simp[impW,RP.exec] at he
 | .int _,[],vs,K,rs,hl,he=>by simp[impW,RP.exec] at he
 | .bool,[],vs,K,rs,hl,he=>by simp[impW,RP.exec] at he
 | .str,[],vs,K,rs,hl,he=>by simp[impW,RP.exec] at he
 | .sl _ _,[],vs,K,rs,hl,he=>by simp[impW,RP.exec] at he
theorem φ28 {fr fs:List Nat} (b:Nat) (h:plus I fr b):plus I (fr++fs) b:=h.imp id (mL _)
theorem φ2G {fr fs:List Nat} (b:Nat) (h:plus I fs b):plus I (fr++fs) b:=h.imp id (mR _)
theorem φ2Z (h:Rel B Al s a w W) {α:Type} {r:α×List Key}:∀(sh:Sh) (K:Tys (φG sh)→List Nat→RP α) (rs:List Key),(ext sh K).exec s rs=some r →
  ∃x ids rs2 fp tp fr,(K x ids).exec s rs2=some r∧ShOk w (plus W.I fr) a sh x fp tp∧(blk W ids).Perm (fp++fr)∧(∀i∈ids,(s.ob i).isSome=true)∧(∀b∈tp,∃i∈ids,W.nl i=false∧b=W.η i)
 | [],K,rs,he=>⟨(),[],rs,[],[],[],he,⟨rfl,rfl⟩,List.Perm.refl _,by simp,by simp⟩
 | (i,.val t)::sh,K,rs,he=>by
  simp only[ext,RP.exec] at he
  obtain ⟨hs,he⟩:=φo he
  obtain ⟨x,j,rs2,fp,fr,k1,k2,k3,k4,k5,k6⟩:=φ4n h (h.slots i) t _ _ (by simpa using hs) he
  obtain ⟨xs,ids,rs3,fq,tq,fs,m1,m2,m3,m4,m5⟩:=φ2Z h sh _ _ k1
  refine ⟨_,_,rs3,fp++fq,tops t (a.tmps.getD i undef).cells.toList++tq,fr++fs,m1,⟨fp,fq,_,tq,rfl,rfl,?_,?_⟩,by rw[φ10];exact φz k4 m3,?_,?_⟩
  ·rw[φ1J];exact ⟨k2,Ow.mono (w:=w) φ28 (fun _ _=>rfl) t _ _ _ (fun _ _=>rfl) k3,rfl⟩
  ·rw[φ1F];exact m2.mono φ2G
  ·intro k hk
   rcases mA.1 hk with hk | hk
   ·exact k5 k hk
   ·exact m4 k hk
  ·intro b hb
   rcases mA.1 hb with hb | hb
   ·obtain ⟨j',hj,z⟩:=k6 b hb;exact ⟨j',mL _ hj,z⟩
   ·obtain ⟨j',hj,z⟩:=m5 b hb;exact ⟨j',mR _ hj,z⟩
 | (i,.ptr t)::sh,K,rs,he=>by
  simp only[ext,RP.exec] at he
  split at he<;>try (simp[RP.exec] at he;done)
  rename_i id off hsl
  obtain ⟨hoff,he5⟩:=φB he
  clear he
  have hoff:=(φ9 _ _).1 hoff
  subst hoff
  simp only[RP.exec] at he5
  split at he5<;>try (simp[RP.exec] at he5;done)
  rename_i cs ho
  have hv:=h.slots i
  rw[hsl] at hv
  obtain ⟨b,e,k⟩:=hv.2
  have hb:=k cs ho
  subst hb
  obtain ⟨x,j,rs2,fp,fr,vs,el,k1,k2,k3,k4,k5,k6⟩:=φ4r h ho t _ _ he5
  obtain ⟨xs,ids,rs3,fq,tq,fs,m1,m2,m3,m4,m5⟩:=φ2Z h sh _ _ k1
  refine ⟨_,_,rs3,(W.η id::fp)++fq,(W.η id::tops t vs)++tq,fr++fs,m1,⟨_,fq,_,tq,rfl,rfl,?_,?_⟩,?_,?_,?_⟩
  ·rw[φ1J];exact ⟨W.η id,vs,el,fp,e,rfl,rfl,k2,Ow.mono (w:=w) φ28 (fun _ _=>rfl) t _ _ _ (fun _ _=>rfl) k3⟩
  ·rw[φ1F];exact m2.mono φ2G
  ·rw[←κG,φ10];exact φz k4 m3
  ·intro k hk
   rw[←κG] at hk
   rcases mA.1 hk with hk | hk
   ·exact k5 k hk
   ·exact m4 k hk
  ·intro b hb
   rw[←κG]
   rcases mA.1 hb with hb | hb
   ·obtain ⟨j',hj,z⟩:=k6 b hb;exact ⟨j',mL _ hj,z⟩
   ·obtain ⟨j',hj,z⟩:=m5 b hb;exact ⟨j',mR _ hj,z⟩
 | (i,.ptw t)::sh,K,rs,he=>by
  simp only[ext,RP.exec] at he
  split at he<;>try (simp[RP.exec] at he;done)
  rename_i id off hsl
  obtain ⟨hoff,he5⟩:=φB he
  clear he
  have hoff:=(φ9 _ _).1 hoff
  subst hoff
  simp only[RP.exec] at he5
  split at he5<;>try (simp[RP.exec] at he5;done)
  rename_i cs ho
  have hv:=h.slots i
  rw[hsl] at hv
  obtain ⟨b,e,k⟩:=hv.2
  have hb:=k cs ho
  subst hb
  obtain ⟨hnl,hnf,vs,el,hh,hl⟩:=h.var id cs ho
  obtain ⟨x,l2,cs0,vs2,q1,q2,q3,q4⟩:=φ4o (I:=W.I) t _ _ _ _ hl he5
  split at q2<;>try (simp[RP.exec] at q2;done)
  have q3:vs2=[]:=q3
  subst q3
  rw[κ5] at q1
  subst q1
  obtain ⟨xs,ids,rs3,fq,tq,fs,m1,m2,m3,m4,m5⟩:=φ2Z h sh _ _ q2
  refine ⟨_,_,rs3,W.η id::fq,W.η id::tq,fs,m1,⟨W.η id,vs,el,fq,tq,rfl,rfl,e,hh,?_,?_⟩,?_,?_,?_⟩
  ·rw[φ1J];exact q4.imp fun c _ v k=>VN.mono (fun _ h=>.inl h) (fun _ h=>h) k
  ·rw[φ1F];exact m2
  ·show (fpOf W id++blk W ids).Perm _
   simp only[fpOf,hnl,hnf,cF]
   exact List.Perm.cons _ m3
  ·intro k hk
   rcases mc.1 hk with hk | hk
   ·subst hk;rw[ho];rfl
   ·exact m4 k hk
  ·intro b hb
   rcases mc.1 hb with hb | hb
   ·exact ⟨id,by simp,hnl,hb⟩
   ·obtain ⟨j',hj,z⟩:=m5 b hb;exact ⟨j',mC _ hj,z⟩
 | (i,.dup j)::sh,K,rs,he=>by
  simp only[ext,RP.exec] at he
  obtain ⟨hs,he⟩:=φB he
  have key:a.tmps.getD i undef=a.tmps.getD j undef∧∃rs2,(ext sh K).exec s rs2=some r:=by
   have h1:=h.slots i
   have h2:=h.slots j
   split at he<;>try (simp[RP.exec] at he;done)
   ·rename_i id hi
    rw[hi] at hs h1
    simp only[RP.exec] at he
    split at he<;>try (simp[RP.exec] at he;done)
    rename_i t xs ho
    cases hj:s.sl j with
    | one c=>
     rw[hj] at hs h2
     cases c<;>try (simp[φ1s] at hs;done)
     have:=(φ9 _ _).1 hs
     subst this
     exact ⟨(h1.2 t xs ho).trans (h2.2 t xs ho).symm,_,he⟩
    | agg l=>rw[hj] at hs;simp[φ1s] at hs
    | tup l=>rw[hj] at hs;simp[φ1s] at hs
   ·rename_i id off hi
    rw[hi] at hs h1
    simp only[RP.exec] at he
    split at he<;>try (simp[RP.exec] at he;done)
    rename_i l ho
    cases hj:s.sl j with
    | one c=>
     rw[hj] at hs h2
     cases c<;>try (simp[φ1s] at hs;done)
     simp only[φ1s,bA] at hs
     have e1:=(φ9 _ _).1 hs.1
     have e2:=(φ9 _ _).1 hs.2
     subst e1;subst e2
     obtain ⟨b,q1,q2⟩:=h1.2
     obtain ⟨b',q3,q4⟩:=h2.2
     exact ⟨by rw[q1,q3,q2 l ho,q4 l ho],_,he⟩
    | agg l=>rw[hj] at hs;simp[φ1s] at hs
    | tup l=>rw[hj] at hs;simp[φ1s] at hs
  obtain ⟨e,rs2,he⟩:=key
  obtain ⟨xs,ids,rs3,fq,tq,fs,m1,m2,m3,m4,m5⟩:=φ2Z h sh _ _ he
  exact ⟨_,_,rs3,fq,tq,fs,m1,⟨e,m2⟩,m3,m4,m5⟩
 | (i,.lnk off j off2)::sh,K,rs,he=>by
  simp only[ext,RP.exec] at he
  split at he<;>try (simp[RP.exec] at he;done)
  rename_i id o1 hi
  simp only[RP.exec] at he
  split at he<;>try (simp[RP.exec] at he;done)
  rename_i id2 o2 hj
  obtain ⟨hoff,he5⟩:=φB he
  clear he
  simp only[bA] at hoff
  have ho1:=(φ9 _ _).1 hoff.1
  have ho2:=(φ9 _ _).1 hoff.2
  subst ho1;subst ho2
  simp only[RP.exec] at he5
  split at he5<;>try (simp[RP.exec] at he5;done)
  rename_i l hl
  simp only[RP.exec] at he5
  split at he5<;>try (simp[RP.exec] at he5;done)
  rename_i l2 hl2
  split at he5<;>try (simp[RP.exec] at he5;done)
  rename_i k k2 hk1 hk2
  obtain ⟨hkk,he6⟩:=φB he5
  clear he5
  have hkk:=(φ9 _ _).1 hkk
  subst hkk
  simp only[RP.exec] at he6
  split at he6<;>try (simp[RP.exec] at he6;done)
  rename_i t xs hrow
  have hv:=h.slots i
  rw[hi] at hv
  obtain ⟨b,e1,q1⟩:=hv.2
  have hb:=q1 l hl
  subst hb
  have hv2:=h.slots j
  rw[hj] at hv2
  obtain ⟨b2,e2,q2⟩:=hv2.2
  have hb2:=q2 l2 hl2
  subst hb2
  obtain ⟨_,_,vs,el,hh,hall⟩:=h.var id l hl
  obtain ⟨_,_,vs2,el2,hh2,hall2⟩:=h.var id2 l2 hl2
  obtain ⟨v,v1,v2⟩:=All2.at_ hall off _ hk1
  obtain ⟨u,u1,u2⟩:=All2.at_ hall2 off2 _ hk2
  have hvu:v=u:=(v2.2 t xs hrow).trans (u2.2 t xs hrow).symm
  subst hvu
  obtain ⟨ys,ids,rs3,fq,tq,fs,m1,m2,m3,m4,m5⟩:=φ2Z h sh _ _ he6
  exact ⟨_,_,rs3,fq,tq,fs,m1,⟨⟨W.η id,W.η id2,vs,vs2,el,el2,v,e1,e2,hh,hh2,v1,u1⟩,m2⟩,m3,m4,m5⟩
theorem Rel.bare (h:Rel B Al s a w W) {fr ids:List Nat} (hfr:∀b∈fr,∃i∈ids,b∈fpOf W i) (hids:∀i∈ids,(s.ob i).isSome=true):Rel B (fun i=>i<0) St.empty a w { W with I:=plus W.I fr }:=
 {slots:=fun i=>⟨fun k=>by simp[St.empty,φL] at k,trivial⟩
  mS:=fun i id k=>k.elim
  mO:=fun id l hx=>by simp[St.empty] at hx
  al:=fun id hx=>by simp[St.empty] at hx
  row:=fun id t xs hx=>by simp[St.empty] at hx
  var:=fun id l hx=>by simp[St.empty] at hx
  nod:=fun i hx=>by simp[St.empty] at hx
  dis:=fun i j _ hx=>by simp[St.empty] at hx
  imm:=fun i hx=>by simp[St.empty] at hx
  bnd:=fun b hb=>by
   rcases hb with k | k
   ·exact h.bnd b k
   ·obtain ⟨i,hi,z⟩:=hfr b k;exact h.lt (hids i hi) b z
  def0:=h.def0
  size:=h.size
  pins:=h.pins
  os:=h.os
  tape:=h.tape
  output:=h.output
  grown:=h.grown
  old:=h.old
  ownT:=fun i hx=>by simp[St.empty] at hx
  ownN:=fun i hx=>by simp[St.empty] at hx
  from0:=fun b hb=>by
   rcases hb with k | k
   ·exact h.from0 b k
   ·obtain ⟨i,hi,z⟩:=hfr b k
    obtain ⟨hn,q | q⟩:=φ2T z
    ·rw[q];exact .inr ((h.ownT i (hids i hi) hn).imp id .inr)
    ·exact .inr (h.ownN i (hids i hi) b q)
  ns:=h.ns
  hol:=h.hol
  hn:=h.hn
  cTop:=h.cTop
  cN:=h.cN
  hdr:=fun _ id t xs hx=>by simp[St.empty] at hx
  sj:=h.sj
  sjB:=h.sjB }
theorem Rel.slot (h:Rel B Al s a w W) {i:Nat} {r:AV} (hv:AVr w W s.ob r (a.tmps.getD i undef)) (hm:∀j,menA r j→Al j):Rel B Al ⟨upd s.sl i r,s.ob⟩ a w W:=
 {h with
  slots:=fun k=>by
   by_cases e:k=i
   ·subst e;show AVr w W s.ob (upd s.sl k r k) _;rw[φb];exact hv
   ·show AVr w W s.ob (upd s.sl i r k) _;rw[φV _ _ e];exact h.slots k
  mS:=fun k id=>by
   show menA (upd s.sl i r k) id→_
   by_cases e:k=i
   ·subst e;rw[φb];exact hm id
   ·rw[φV _ _ e];exact h.mS k id }
theorem Rel.adopt (h:Rel B (fun i=>i<f) s a w W) {os:List NewOb} (hids:os.map (·.id)=κE f os.length) {fp:List Nat} (hfp:fp=os.flatMap NewOb.fp) (hnd:fp.Nodup) (hI:∀b∈fp,¬W.I b)
  (hD:∀b∈fp,∀j,(s.ob j).isSome=true→b ∉ fpOf W j) (hB:∀b∈fp,B.fpT b∨B.fpN b∨B.w0.heap.size≤b) (htp:∀b∈os.flatMap NewOb.tp,B.fpT b∨B.w0.heap.size≤b) (hok:∀o∈os,NOk w W.I os o)
  {i:Nat} {p:Bool×List Sc} (hp:RVN w W.I os p (a.tmps.getD i undef)) :
  ∃W',Rel B (fun i=>i<f+os.length) (s.app [(i,φs [p])] (os.map NewOb.upd)) a w W'∧W'.I=W.I∧∀j,((s.app [(i,φs [p])] (os.map NewOb.upd)).ob j).isSome=true→∀b∈fpOf W' j,b∈fp∨((s.ob j).isSome=true∧b∈fpOf W j):=by
 have hndO:(os.map (·.id)).Nodup:=by rw[hids];exact List.nodup_range'
 have inst:Inst B (fun i=>i<f) (fun i=>i<f+os.length) s W w w [] os W.I (fun b=>b∈fp):=
  {sub:=fun i hi=>by omega
   isS:=by simp
   ndO:=hndO
   new:=fun o ho=>⟨(φ3O hids ho).2,.inl (by have:=(φ3O hids ho).1;omega)⟩
   I1:=fun _ h=>h
   I2:=fun _ h=>.inl h
   I3:=h.bnd
   I4:=fun b hb k=>hI b (hfp ▸ k) hb
   ndB:=hfp ▸ hnd
   frD:=hD
   frB:=hB
   fpB:=fun b hb=>.inr (hfp ▸ hb)
   tpB:=fun b hb=>.inr (htp b hb)
   heap:=fun _ _ _ _=>rfl
   J:=by simp
   ok:=hok
   size:=κD _
   os':=rfl
   tape:=rfl
   output:=rfl }
 obtain ⟨hvn,hR⟩:=h.install inst (fun _ o ho=>by have:=(φ3O hids ho).1;omega) (ob':=updS s.ob (os.map NewOb.upd)) (fun j=>by rw[φ3j os s.ob j hndO];cases at1 os j<;>simp)
 have h1:=hR none (.one .undef) undef (fun _ k=>by simp at k) ⟨fun k=>by simp[φL] at k,trivial⟩ (fun _ k=>k.elim)
 have hp1:All2 (RVN w W.I os) [p] [a.tmps.getD i undef]:=⟨_,_,rfl,hp,rfl⟩
 obtain ⟨z1,z2⟩:=φ6C hp1 hvn
 have h2:=Rel.slot (s:=⟨s.sl,updS s.ob (os.map NewOb.upd)⟩) h1 (i:=i) z1 z2
 refine ⟨_,h2,rfl,fun j hj b hb=>?_⟩
 have hj:(updS s.ob (os.map NewOb.upd) j).isSome=true:=hj
 rw[φ3j os s.ob j hndO] at hj
 unfold fpOf putW at hb
 simp only at hb
 cases hat:at1 os j with
 | some o=>
  rw[hat] at hb
  left
  rw[hfp]
  exact List.mem_flatMap.2 ⟨o,(φ3H hat).1,hb⟩
 | none=>
  rw[hat] at hb hj
  exact .inr ⟨hj,hb⟩
end
end Go.Rf
