import Derived.WalkKit
import Derived.ProofKit
import Derived.OpenShut
import Derived.ShutString
import Derived.ChangeOld
import Derived.SizedLaws
import Derived.Carry
import Derived.WideShapes
import Derived.Lib.ItoaNum
import Derived.Lib.LaidTab
import Derived.Lib.SplitLaws
import Derived.Handed
import Derived.Lib.AtoiAllCases
import Derived.Lib.AtoiAllMem
import Derived.Lib.ConvBytes
import Derived.Lib.AtoiErrMem
import Derived.Test.YtaijadchooalpaaGreatDoorRf4
open Option renaming bind_some→bS
open List renaming length_append→lA,append_assoc→aA,mem_cons_of_mem→mC,mem_append→mA,mem_append_right→mR,mem_append_left→mL,mem_cons→mc,drop_eq_getElem_cons→dG,length_take→lT,length_drop→lD,mem_map→mM,length_map→lM,length_cons→lC,length_nil→lN,getElem_mem→gM,map_append→mp,mem_singleton→mZ,append_nil→κ3,nodup_append→κ4,mem_cons_self→κ5,take_append_drop→κ7,take_succ_eq_append_getElem→κ8,flatMap_append→κ9,map_cons→κC,nodup_cons→κE,range'→κF,cons_append→κH,replicate→κI
open Bool renaming and_eq_true→bA,eq_false_or_eq_true→bE,not_true→nZ,not_false→nF,true_and→tA,not_not→nn,or_eq_false_iff→κ6
open Int renaming toNat_natCast→tN,ofNat_lt→oL
open Nat renaming eq_of_beq_eq_true→κ0,lt_or_ge→κ1,lt_of_lt_of_le→κ2,le_of_ble_eq_true→κA,zero_le→κB,le_refl→κD,pow_succ→κJ
open Array renaming length_toList→κG
set_option linter.unusedVariables false
set_option linter.unusedSimpArgs false
namespace Go.Rf
section
variable {P:Program} {T:Tab} {E:Env} {A:Ann} {B:Base} {s s':St} {a:Act} {w w':World} {W W':Wit} {f:Nat} {ops:Array Oper}
 {u:Upd} {Q:Exit→Act→World→Prop} {rs:List Key}
theorem φA8 {w:World} {g:Nat} {cs:Array Value} {t:TypeId} {fr:Nat×Nat} (hg:w.heap[g]?=some (.cells cs t fr)):w.setRow g cs=w:=by
 have h:(w.setRow g cs).heap=w.heap:=by
  apply Array.ext_getElem?
  intro k
  by_cases e:k=g
  ·subst e;rw[setRow_heap w k cs cs t fr hg,hg]
  ·exact setRow_other w g k cs e
 show { w with heap:=(w.setRow g cs).heap }=w
 rw[h]
theorem φ2p {ρ:Type} {K:St→Nat→Option ρ} {r:ρ}:∀(sh:Sh) (x:Tys (φF sh)) (s:St) (f:Nat) (W:Wit) (fp tp:List Nat),Rel B (fun i=>i<f) s a w W→ShOk w W.I a sh x fp tp→fp.Nodup→(∀b∈fp,¬W.I b) →
  (∀b∈fp,∀j,(s.ob j).isSome=true→b ∉ fpOf W j)→(∀b∈fp,B.fpT b∨B.fpN b∨B.w0.heap.size≤b)→(∀b∈tp,B.fpT b∨B.w0.heap.size≤b)→rest sh x s f K=some r→∃s' f',K s' f'=some r∧Sim B f' s' a w
 | [],_,s,f,W,_,_,h,_,_,_,_,_,_,he=>⟨s,f,he,W,h⟩
 | (i,.val t)::sh,x,s,f,W,fp,tp,h,⟨f1,f2,t1,t2,e1,e2,⟨hF,how,ht⟩,hsh⟩,hnd,hI,hD,hB,hTp,he=>by
  subst e1;subst e2;subst ht
  obtain ⟨os,p1,p2,p3,p4,p5,p6,p7⟩:=φ3A t _ _ f1 f how
  rw[κ4] at hnd
  obtain ⟨W',hR,hWI,hfp⟩:=h.adopt p3 p4 hnd.1 (fun b hb=>hI b (mL _ hb)) (fun b hb=>hD b (mL _ hb)) (fun b hb=>hB b (mL _ hb))
   (fun b hb=>hTp b (mL _ (by rw[p5];exact hb))) p7 (φ5p hF p6)
  have he:rest sh (φE t (φF sh) x) (s.app [(i,φ1F [(φj t,(φ4 t (φ5 t (φF sh) x) f).1)])] (φ4 t (φ5 t (φF sh) x) f).2.1) (φ4 t (φ5 t (φF sh) x) f).2.2 K=some r:=he
  rw[p1,p2] at he
  refine φ2p sh _ _ _ W' f2 t2 hR (by rw[hWI];exact hsh) hnd.2.1 (fun b hb=>by rw[hWI];exact hI b (mR _ hb)) (fun b hb j hj hbj=>?_) (fun b hb=>hB b (mR _ hb)) (fun b hb=>hTp b (mR _ hb)) he
  rcases hfp j hj b hbj with k | ⟨k1,k2⟩
  ·exact hnd.2.2 b k b hb rfl
  ·exact hD b (mR _ hb) j k1 k2
 | (i,.ptr t)::sh,x,s,f,W,fp,tp,h,⟨f1,f2,t1,t2,e1,e2,⟨g,cs,el,fi,hv,hf1,ht1,hh,how⟩,hsh⟩,hnd,hI,hD,hB,hTp,he=>by
  subst e1;subst e2
  obtain ⟨os,p1,p2,p3,p4,p5,p7,p8,_⟩:=φ3s (t:=t) f (f+1) hh how
  rw[κ4] at hnd
  have hpos:0<os.length:=by obtain ⟨o,ho,_⟩:=p8;exact List.length_pos_of_mem ho
  have hlen:(φ4 t (φ5 t (φF sh) x) (f+1)).2.2=f+os.length:=by omega
  have hids:os.map (·.id)=κF f os.length:=by
   rw[p3]
   obtain ⟨n,hn⟩:∃n,os.length=n+1:=⟨os.length - 1,by omega⟩
   rw[hn];rfl
  have hrv:RVN w W.I os (false,[.pv f 0]) (a.tmps.getD i undef):=by
   unfold RVN
   rw[if_neg (by simp)]
   obtain ⟨o,ho,k1,k2,k3⟩:=p8
   exact ⟨_,[],rfl,⟨o,ho,k1,⟨_,k2⟩,by rw[hv,k3]⟩,rfl⟩
  obtain ⟨W',hR,hWI,hfp⟩:=h.adopt hids (hf1.trans p4) hnd.1 (fun b hb=>hI b (mL _ hb)) (fun b hb=>hD b (mL _ hb)) (fun b hb=>hB b (mL _ hb))
   (fun b hb=>hTp b (mL _ (by rw[ht1,p5];exact hb))) p7 hrv
  have he:rest sh (φE t (φF sh) x) (s.app [(i,.one (.pv f 0))] ((f,some (.var (φ4 t (φ5 t (φF sh) x) (f+1)).1))::(φ4 t (φ5 t (φF sh) x) (f+1)).2.1)) (φ4 t (φ5 t (φF sh) x) (f+1)).2.2 K=some r:=he
  rw[p1,hlen] at he
  refine φ2p sh _ _ _ W' f2 t2 hR (by rw[hWI];exact hsh) hnd.2.1 (fun b hb=>by rw[hWI];exact hI b (mR _ hb)) (fun b hb j hj hbj=>?_) (fun b hb=>hB b (mR _ hb)) (fun b hb=>hTp b (mR _ hb)) he
  rcases hfp j hj b hbj with k | ⟨k1,k2⟩
  ·exact hnd.2.2 b k b hb rfl
  ·exact hD b (mR _ hb) j k1 k2
 | (i,.ptw t)::sh,x,s,f,W,fp,tp,h,⟨g,cs,el,f2,t2,e1,e2,hv,hh,hvn,hsh⟩,hnd,hI,hD,hB,hTp,he=>by
  subst e1;subst e2
  rw[κE] at hnd
  let v0:NewOb:=⟨f,.var (φ2Y t (φ5 t (φF sh) x)),g,0,[],false⟩
  have hrv:RVN w W.I [v0] (false,[.pv f 0]) (a.tmps.getD i undef):=by
   unfold RVN
   rw[if_neg (by simp)]
   exact ⟨_,[],rfl,⟨v0,by simp,rfl,⟨_,rfl⟩,hv⟩,rfl⟩
  obtain ⟨W',hR,hWI,hfp⟩:=h.adopt (os:=[v0]) (fp:=[g]) rfl rfl (by simp) (fun b hb=>hI b (by rw[mZ.1 hb];simp)) (fun b hb=>hD b (by rw[mZ.1 hb];simp)) (fun b hb=>hB b (by rw[mZ.1 hb];simp))
   (fun b hb=>hTp b (by rw[show [v0].flatMap NewOb.tp=[g] from rfl] at hb;rw[mZ.1 hb];simp)) (fun o ho=>by
    rw[mZ.1 ho]
    exact ⟨rfl,rfl,cs,el,hh,hvn.imp fun c _ v k=>VN.mono (fun _ h=>h) (fun _ h=>by simp at h) k⟩) hrv
  have he:rest sh (φE t (φF sh) x) (s.app [(i,.one (.pv f 0))] [(f,some (.var (φ2Y t (φ5 t (φF sh) x))))]) (f+1) K=some r:=he
  refine φ2p sh _ _ _ W' f2 t2 hR (by rw[hWI];exact hsh) hnd.2 (fun b hb=>by rw[hWI];exact hI b (mC _ hb)) (fun b hb j hj hbj=>?_) (fun b hb=>hB b (mC _ hb)) (fun b hb=>hTp b (mC _ hb)) he
  rcases hfp j hj b hbj with k | ⟨k1,k2⟩
  ·rw[mZ.1 k] at hb;exact hnd.1 hb
  ·exact hD b (mC _ hb) j k1 k2
 | (i,.dup j)::sh,x,s,f,W,fp,tp,h,⟨e,hsh⟩,hnd,hI,hD,hB,hTp,he=>by
  have h2:=h.slot (i:=i) (r:=s.sl j) (by rw[e];exact h.slots j) (h.mS j)
  exact φ2p sh x _ f W fp tp h2 hsh hnd hI hD hB hTp he
 | (i,.lnk off j off2)::sh,x,s,f,W,fp,tp,h,⟨⟨g,g2,cs,cs2,el,el2,v,e1,e2,h1,h2,v1,v2⟩,hsh⟩,hnd,hI,hD,hB,hTp,he=>by
  simp only[rest] at he
  split at he<;>try (simp at he;done)
  rename_i id o1 id2 o2 hi hj
  split at he<;>try (simp at he;done)
  rename_i l l2 hl hl2
  split at he<;>try (simp at he;done)
  rename_i k hk
  have hv:=h.slots i
  rw[hi] at hv
  obtain ⟨b,z1,q1⟩:=hv.2
  have hb:=q1 l hl
  subst hb
  have hv2:=h.slots j
  rw[hj] at hv2
  obtain ⟨b2,z2,q2⟩:=hv2.2
  have hb2:=q2 l2 hl2
  subst hb2
  have hg:g=W.η id:=by rw[e1] at z1;simp[pt] at z1;exact z1.1
  have hg2:g2=W.η id2:=by rw[e2] at z2;simp[pt] at z2;exact z2.1
  subst hg;subst hg2
  obtain ⟨_,_,vs,el',hh,hall⟩:=h.var id l hl
  obtain ⟨_,_,vs2,el2',hh2,hall2⟩:=h.var id2 l2 hl2
  rw[h1] at hh
  rw[h2] at hh2
  have c1:cs=vs:=by simp at hh;exact hh.1
  have c2:cs2=vs2:=by simp at hh2;exact hh2.1
  subst c1;subst c2
  obtain ⟨u,u1,u2⟩:=All2.at_ hall2 off2 _ hk
  rw[v2] at u1
  have:v=u:=Option.some.inj u1
  subst this
  have hset:=All2.set hall off (.own k) v v1 u2
  have hR:=h.setVar hl hset (fun q ⟨c,hc,hq⟩=>by
   rcases List.mem_or_eq_of_mem_set hc with hc | hc
   ·exact h.mO id l hl q ⟨c,hc,hq⟩
   ·subst hc
    have:k=q:=hq
    subst this
    exact h.mO id2 l2 hl2 k ⟨_,List.mem_of_getElem? hk,rfl⟩) (d:=none) (fun _ k=>by simp at k) undef
  have hw:w.setRow (W.η id) cs.toArray=w:=φA8 h1
  rw[hw] at hR
  have hR:Rel B (fun i=>i<f) (s.app [] [(id,some (.var (l.set off (.own k))))]) a w W:=hR
  refine φ2p sh x _ f W fp tp hR hsh hnd hI (fun b hb q hq=>?_) hB hTp he
  refine hD b hb q ?_
  by_cases e:q=id
  ·subst e;rw[hl];rfl
  ·have hq:(updS s.ob [(id,some (.var (l.set off (.own k))))] q).isSome=true:=hq
   rw[show updS s.ob [(id,some (.var (l.set off (.own k))))] q=s.ob q from φW _ _ e] at hq
   exact hq
def Good (B:Base) (h:Sh) (t:Tys (φF h)) (a:Act) (w:World):Prop:=
 ∀(ρ:Type) (K:St→Nat→Option ρ) (r:ρ),rest h t St.empty 0 K=some r→∃s' f',K s' f'=some r∧Sim B f' s' a w
theorem φ47 {h:Sh} {ρ:Type} {K:Tys (φF h)→Option ρ} {z:ρ} (he:extS h s K=some z) (hs:Sim B f s a w):∃t,K t=some z∧Good B h t a w:=by
 obtain ⟨W,hr⟩:=hs
 unfold extS at he
 rw[RP.run_eq] at he
 cases hx:(ext h fun x ids=>RP.ret (x,ids)).exec s [] with
 | none=>rw[hx] at he;simp at he
 | some q=>
  rw[hx] at he
  obtain ⟨⟨t,ids⟩,rs2⟩:=q
  simp only[bS] at he
  cases hnd:φ1I ids with
  | false=>rw[hnd] at he;simp at he
  | true=>
   rw[hnd] at he
   simp only[cT] at he
   refine ⟨t,he,?_⟩
   obtain ⟨x,ids2,rs3,fp,tp,fr,m1,m2,m3,m4,m5⟩:=φ3D hr h _ _ hx
   simp only[RP.exec,Option.some.injEq,Prod.mk.injEq] at m1
   obtain ⟨⟨rfl,rfl⟩,_⟩:=m1
   intro ρ K r hrest
   have hall:=hr.blkNodup ids2 (φ28 _ hnd) m4
   have hpn:=m3.nodup_iff.1 hall
   rw[κ4] at hpn
   have inB:∀b,b∈fp∨b∈fr→∃i∈ids2,b∈fpOf W i:=fun b hb=>φZ.1 (m3.mem_iff.2 (mA.2 hb))
   refine φ2p h x St.empty 0 _ fp tp (hr.bare (fun b hb=>inB b (.inr hb)) m4) m2 hpn.1 (fun b hb k=>?_) (fun b _ j hj=>by simp[St.empty] at hj) (fun b hb=>?_) (fun b hb=>?_) hrest
   ·rcases k with k | k
    ·obtain ⟨i,hi,hbi⟩:=inB b (.inl hb);exact hr.imm i (m4 i hi) b hbi k
    ·exact hpn.2.2 b hb b k rfl
   ·obtain ⟨i,hi,hbi⟩:=inB b (.inl hb)
    obtain ⟨hn,q | q⟩:=φ3B hbi
    ·rw[q];exact (hr.ownT i (m4 i hi) hn).imp id .inr
    ·exact hr.ownN i (m4 i hi) b q
   ·obtain ⟨i,hi,hn,e⟩:=m5 b hb
    rw[e];exact hr.ownT i (m4 i hi) hn
theorem φ7w {e e':Ex} (h:exEq e e'=true):e=e':=by
 cases e<;>cases e'<;>first | rfl | (simp[exEq] at h;done) | skip
 rw[(φ7 _ _).1 h]
theorem φ49 {e:Ex} (hs:Sim B f s a w):∀(l:List (Ex×Sh)) {ρ:Type} (K1:Outs l→Option ρ) (z:ρ),injO s e l K1=some z →
  ∃o,K1 o=some z∧∀(σ:Type) (K:Ex→St→Nat→Option σ) (r:σ),φ35 l o K=some r→∃s' f',K e s' f'=some r∧Sim B f' s' a w
 | [],ρ,K1,z,h=>by simp[injO] at h
 | [(e',h)],ρ,K1,z,he=>by
  simp only[injO] at he
  cases hx:exEq e e' with
  | false=>rw[hx] at he;simp at he
  | true=>
   rw[hx] at he
   have:=φ7w hx
   subst this
   obtain ⟨t,k1,k2⟩:=φ47 (show extS h s K1=some z from he) hs
   exact ⟨t,k1,fun σ K r hr=>k2 σ _ r hr⟩
 | (e',h)::x::l,ρ,K1,z,he=>by
  simp only[injO] at he
  cases hx:exEq e e' with
  | false=>
   rw[hx] at he
   simp only[cF] at he
   obtain ⟨o,k1,k2⟩:=φ49 hs (x::l) _ z he
   exact ⟨.inr o,k1,fun σ K r hr=>k2 σ K r hr⟩
  | true=>
   rw[hx] at he
   have:=φ7w hx
   subst this
   obtain ⟨t,k1,k2⟩:=φ47 (show extS h s (fun t=>K1 (.inl t))=some z from he) hs
   exact ⟨.inl t,k1,fun σ K r hr=>k2 σ _ r hr⟩
def exOf:Ex→Exit
 | .normal=>.normal
 | .exit n=>.exit n
 | .ret=>.ret
def φ38 (B:Base) (c:Code):Prop:=∀d∈φ1c c,d<B.nt∧B.pin d=none
theorem φ4V {id:Nat} {e:Ex} (h:Q (exOf (φ2D id e)) a w):Exit.inBlock id Q (exOf e) a w:=by
 cases e with
 | normal=>exact h
 | ret=>exact h
 | exit m=>
  show Exit.inBlock id Q (.exit m) a w
  have e1:φ2D id (.exit m)=bif nEq m id then .normal else .exit m:=rfl
  rw[e1] at h
  unfold Exit.inBlock
  by_cases hmi:m=id
  ·rw[(φ7 m id).2 hmi] at h;simp only[if_pos hmi];exact h
  ·have hne:nEq m id=false:=by cases hb:nEq m id with | false=>rfl | true=>exact absurd ((φ7 _ _).1 hb) hmi
   rw[hne] at h;simp only[if_neg hmi];exact h
def IHs (P:Program) (T:Tab) (E:Env) (A:Ann) (B:Base) (c:Code):Prop:=
 ∀(ρ:Type) (s:St) (f:Nat) (K:Ex→St→Nat→Option ρ) (r:ρ) (a:Act) (w:World) (Q:Exit→Act→World→Prop),φ38 B c →
  evC T E A c s f K=some r→Sim B f s a w→(∀e s' f' a' w',K e s' f'=some r→Sim B f' s' a' w'→Q (exOf e) a' w')→c.wp P Q a w
theorem φ9U {c:Operand} {x y:Code} (ix:IHs P T E A B x) (iy:IHs P T E A B y):IHs P T E A B (.cond c x y):=by
 intro ρ s f K r a w Q hc he hs hQ
 simp only[evC] at he
 have hx:φ38 B x:=fun d hd=>hc d (mL _ hd)
 have hy:φ38 B y:=fun d hd=>hc d (mR _ hd)
 have fin:∀b:Bool,a.eval c=.bool b→(bif b then evC T E A x s f K else evC T E A y s f K)=some r→(Code.cond c x y).wp P Q a w:=by
  intro b hb h2
  cases b with
  | true=>exact wp_cond_true hb (ix ρ s f K r a w Q hx h2 hs hQ)
  | false=>exact wp_cond_false hb (iy ρ s f K r a w Q hy h2 hs hQ)
 unfold φ7D at he
 split at he
 ·rename_i t
  obtain ⟨W,hr⟩:=hs
  have hv:=hr.slots t
  split at he<;>try (simp at he;done)
  rename_i b hsl
  rw[hsl] at hv
  exact fin b hv.2 he
 ·rename_i b;exact fin b rfl he
 ·simp at he
theorem φ96 {x y:Code} (ix:IHs P T E A B x) (iy:IHs P T E A B y):IHs P T E A B (.seq x y):=by
 intro ρ s f K r a w Q hc he hs hQ
 have hx:φ38 B x:=fun d hd=>hc d (mL _ hd)
 have hy:φ38 B y:=fun d hd=>hc d (mR _ hd)
 simp only[evC] at he
 refine wp_seq ?_
 split at he
 ·refine ix _ s f _ r a w _ hx he hs fun e s' f' a' w' hk hs'=>?_
  cases e with
  | normal=>exact iy _ s' f' K r a' w' Q hy hk hs' hQ
  | exit n=>exact hQ (.exit n) s' f' a' w' hk hs'
  | ret=>exact hQ .ret s' f' a' w' hk hs'
 ·rename_i exs _
  obtain ⟨o,h1,h2⟩:=Option.bind_eq_some_iff.1 he
  have fin:∀e s' f' a' w',injO s' e exs some=some o→Sim B f' s' a' w'→Q (exOf e) a' w':=fun e s' f' a' w' hk hs'=>by
   obtain ⟨o',k1,k2⟩:=φ49 hs' exs some o hk
   simp only[Option.some.injEq] at k1
   subst k1
   obtain ⟨s2,f2,q1,q2⟩:=k2 ρ K r h2
   exact hQ e s2 f2 a' w' q1 q2
  refine ix _ s f _ o a w _ hx h1 hs fun e s' f' a' w' hk hs'=>?_
  cases e with
  | normal=>exact iy _ s' f' _ o a' w' Q hy hk hs' fun e s2 f2 a2 w2 hk2 hs2=>fin e s2 f2 a2 w2 hk2 hs2
  | exit n=>exact fin (.exit n) s' f' a' w' hk hs'
  | ret=>exact fin .ret s' f' a' w' hk hs'
theorem φ9T {id:Nat} {bd:Code} (ib:IHs P T E A B bd):IHs P T E A B (.block id (.loop bd)):=by
 intro ρ s f K r a w Q hc he hs hQ
 simp only[evC] at he
 split at he<;>try (simp at he;done)
 rename_i h exs _
 obtain ⟨o,h1,h2⟩:=Option.bind_eq_some_iff.1 he
 obtain ⟨t0,k1,k2⟩:=φ47 h1 hs
 have fin:∀e s' f' a' w',injO s' e exs some=some o→Sim B f' s' a' w'→Q (exOf (φ2D id e)) a' w':=fun e s' f' a' w' hk hs'=>by
  obtain ⟨o',q1,q2⟩:=φ49 hs' exs some o hk
  simp only[Option.some.injEq] at q1
  subst q1
  obtain ⟨s2,f2,q3,q4⟩:=q2 ρ _ r h2
  exact hQ _ s2 f2 a' w' q3 q4
 refine wp_block (wp_loop_rounds FUEL ?_)
 unfold lp at k1
 have key:∀(n:Nat) (t:Tys (φF h)) (a:Act) (w:World),φ1Y (fun rec t=>rest h t St.empty 0 fun s1 f1=>evC T E A bd s1 f1 (fun e s2 _=>match e with
   | .normal=>extS h s2 rec
   | .exit n=>injO s2 (.exit n) exs some
   | .ret=>injO s2 .ret exs some)) n t=some o→Good B h t a w→Code.rounds P bd (Exit.inBlock id Q) n a w:=by
  intro n
  induction n with
  | zero=>intro t a w hl _;simp[φ1Y] at hl
  | succ n ih=>
   intro t a w hl hg
   simp only[φ1Y] at hl
   obtain ⟨s1,f1,q1,q2⟩:=hg _ _ _ hl
   rw[rounds_succ]
   refine ib _ s1 f1 _ o a w _ hc q1 q2 fun e s' f' a' w' hk hs'=>?_
   cases e with
   | normal=>
    obtain ⟨t',z1,z2⟩:=φ47 hk hs'
    exact ih t' a' w' z1 z2
   | exit m=>exact φ4V (fin (.exit m) s' f' a' w' hk hs')
   | ret=>exact φ4V (fin .ret s' f' a' w' hk hs')
 exact key FUEL t0 a w k1 k2
theorem φ9n {id:Nat} {bd:Code} (ib:IHs P T E A B bd) (hev:∀(ρ:Type) (s:St) (f:Nat) (K:Ex→St→Nat→Option ρ),evC T E A (.block id bd) s f K=match lkp A.blocks id with
  | none=>evC T E A bd s f (fun e s' f'=>K (φ2D id e) s' f')
  | some exs=>(evC T E A bd s f (fun e s' _=>injO s' (φ2D id e) exs some)).bind fun o=>φ35 exs o K):IHs P T E A B (.block id bd):=by
 intro ρ s f K r a w Q hc he hs hQ
 rw[hev] at he
 refine wp_block ?_
 split at he
 ·exact ib ρ s f _ r a w _ hc he hs fun e s' f' a' w' hk hs'=>φ4V (hQ _ s' f' a' w' hk hs')
 ·rename_i exs _
  obtain ⟨o,h1,h2⟩:=Option.bind_eq_some_iff.1 he
  refine ib _ s f _ o a w _ hc h1 hs fun e s' f' a' w' hk hs'=>φ4V ?_
  obtain ⟨o',k1,k2⟩:=φ49 hs' exs some o hk
  simp only[Option.some.injEq] at k1
  subst k1
  obtain ⟨s2,f2,q1,q2⟩:=k2 ρ K r h2
  exact hQ _ s2 f2 a' w' q1 q2
theorem φ9v [Laid] (hT:φM P T) (hE:EnvB P E B) (hm:P.follows .mixedOrders=true) (c:Code):IHs P T E A B c∧∀b,c=.loop b→IHs P T E A B b:=by
 induction c with
 | skip=>exact ⟨fun ρ s f K r a w Q _ he hs hQ=>wp_skip (hQ .normal s f a w (by simpa only [evC] using he) hs),by simp⟩
 | exit id=>exact ⟨fun ρ s f K r a w Q _ he hs hQ=>wp_exit (hQ (.exit id) s f a w (by simpa only [evC] using he) hs),by simp⟩
 | ret=>exact ⟨fun ρ s f K r a w Q _ he hs hQ=>wp_ret (hQ .ret s f a w (by simpa only [evC] using he) hs),by simp⟩
 | region id ops dr=>
  refine ⟨fun ρ s f K r a w Q hc he hs hQ=>?_,by simp⟩
  simp only[evC] at he
  exact φ9K hT hE hm (fun i o ho d hd=>hc d (List.mem_filterMap.2 ⟨o,Array.mem_toList_iff.2 (Array.mem_of_getElem? ho),hd⟩)) he hs fun s' f' a' w' hk hs'=>hQ .normal s' f' a' w' hk hs'
 | cond c x y ix iy=>exact ⟨φ9U ix.1 iy.1,by simp⟩
 | seq x y ix iy=>exact ⟨φ96 ix.1 iy.1,by simp⟩
 | loop b ib=>exact ⟨fun ρ s f K r a w Q _ he=>by simp[evC] at he,fun b' e=>by simp only[Code.loop.injEq] at e;subst e;exact ib.1⟩
 | block id bd ib=>
  refine ⟨?_,by simp⟩
  cases bd with
  | loop b=>exact φ9T (ib.2 b rfl)
  | _=>exact φ9n ib.1 fun ρ s f K=>by simp only[evC];cases lkp A.blocks id<;>rfl
 | _=>exact ⟨fun ρ s f K r a w Q _ he=>by simp[evC] at he,by simp⟩
end
end Go.Rf
namespace Go.Rf
section
variable {P:Program} {T:Tab} {E:Env} {A:Ann} {B:Base} {Al:Nat→Prop} {s s':St} {a:Act} {w w':World} {W W':Wit} {f:Nat}
 {u:Upd} {Q:Exit→Act→World→Prop} {rs:List Key}
theorem φ8A {ρ:Type} {K:St→Nat→Option ρ} {r:ρ}:∀(ps:List PK) (vs:List Value) (x:Tys (ps.map PK.ty)) (i:Nat) (s:St) (f:Nat) (W:Wit) (fp tp:List Nat),Rel B (fun i=>i<f) s a w W→φd w W.I ps vs x fp tp →
  (∀j v,vs[j]?=some v→a.tmps.getD (i+j) undef=v)→fp.Nodup→(∀b∈fp,¬W.I b) →
  (∀b∈fp,∀j,(s.ob j).isSome=true→b ∉ fpOf W j)→(∀b∈fp,B.fpT b∨B.fpN b∨B.w0.heap.size≤b)→(∀b∈tp,B.fpT b∨B.w0.heap.size≤b)→φ2g ps x i s f K=some r→∃s' f',K s' f'=some r∧Sim B f' s' a w
 | [],_,_,_,s,f,W,_,_,h,_,_,_,_,_,_,_,he=>⟨s,f,he,W,h⟩
 | p::ps,vs,x,i,s,f,W,fp,tp,h,⟨v,vs',f1,f2,t1,t2,e0,e1,e2,harg,hrest⟩,hsl,hnd,hI,hD,hB,hTp,he=>by
  subst e0;subst e1;subst e2
  rw[κ4] at hnd
  have hv:a.tmps.getD i undef=v:=hsl 0 v rfl
  have hsl':∀j u,vs'[j]?=some u→a.tmps.getD (i+1+j) undef=u:=fun j u hu=>by
   have:=hsl (j+1) u (by simpa using hu)
   rw[show i+1+j=i+(j+1) by omega];exact this
  -- a value's cells
  have val:∀(t:Ty) (y:t.den),Form t v→Ow w W.I t y v.cells.toList f1→t1=tops t v.cells.toList→∃W',Rel B (fun i=>i<(φ4 t y f).2.2) (s.app [(i,φ1F [(φj t,(φ4 t y f).1)])] (φ4 t y f).2.1) a w W'∧W'.I=W.I ∧
    ∀j,((s.app [(i,φ1F [(φj t,(φ4 t y f).1)])] (φ4 t y f).2.1).ob j).isSome=true→∀b∈fpOf W' j,b∈f1∨((s.ob j).isSome=true∧b∈fpOf W j):=by
   intro t y hF how ht
   obtain ⟨os,p1,p2,p3,p4,p5,p6,p7⟩:=φ3A t y _ f1 f how
   rw[p1,p2]
   exact h.adopt p3 p4 hnd.1 (fun b hb=>hI b (mL _ hb)) (fun b hb=>hD b (mL _ hb)) (fun b hb=>hB b (mL _ hb))
    (fun b hb=>hTp b (mL _ (by rw[ht,p5];exact hb))) p7 (by rw[hv];exact φ5p hF p6)
  have next:∀(s2:St) (fn:Nat) (W':Wit),Rel B (fun i=>i<fn) s2 a w W'→W'.I=W.I→(∀j,(s2.ob j).isSome=true→∀b∈fpOf W' j,b∈f1∨((s.ob j).isSome=true∧b∈fpOf W j)) →
    φ2g ps (φE p.ty (ps.map PK.ty) x) (i+1) s2 fn K=some r→∃s' f',K s' f'=some r∧Sim B f' s' a w:=by
   intro s2 fn W' hR hWI hfp he
   refine φ8A ps vs' _ (i+1) s2 fn W' f2 t2 hR (by rw[hWI];exact hrest) hsl' hnd.2.1 (fun b hb=>by rw[hWI];exact hI b (mR _ hb)) (fun b hb j hj hbj=>?_) (fun b hb=>hB b (mR _ hb)) (fun b hb=>hTp b (mR _ hb)) he
   rcases hfp j hj b hbj with k | ⟨k1,k2⟩
   ·exact hnd.2.2 b k b hb rfl
   ·exact hD b (mR _ hb) j k1 k2
  cases p with
  | val t=>
   obtain ⟨hF,how,ht⟩:=harg
   obtain ⟨W',hR,hWI,hfp⟩:=val t _ hF how ht
   exact next _ _ W' hR hWI hfp he
  | io t=>
   obtain ⟨hF,how,ht⟩:=harg
   obtain ⟨W',hR,hWI,hfp⟩:=val t _ hF how ht
   exact next _ _ W' hR hWI hfp he
  | ptr t=>
   obtain ⟨g,cs,el,fi,hpv,hf1,ht1,hh,how⟩:=harg
   obtain ⟨os,p1,p2,p3,p4,p5,p7,p8,_⟩:=φ3s (t:=t) f (f+1) hh how
   have hpos:0<os.length:=by obtain ⟨o,ho,_⟩:=p8;exact List.length_pos_of_mem ho
   have hlen:(φ4 t (φ5 t (ps.map PK.ty) x) (f+1)).2.2=f+os.length:=by have:f+1+os.length=(φ4 t (φ5 t (ps.map PK.ty) x) (f+1)).2.2+1:=p2;omega
   have hids:os.map (·.id)=κF f os.length:=by
    rw[p3]
    obtain ⟨n,hn⟩:∃n,os.length=n+1:=⟨os.length - 1,by omega⟩
    rw[hn];rfl
   have hrv:RVN w W.I os (false,[.pv f 0]) (a.tmps.getD i undef):=by
    unfold RVN
    rw[if_neg (by simp)]
    obtain ⟨o,ho,k1,k2,k3⟩:=p8
    exact ⟨_,[],rfl,⟨o,ho,k1,⟨_,k2⟩,by rw[hv,hpv,k3]⟩,rfl⟩
   obtain ⟨W',hR,hWI,hfp⟩:=h.adopt hids (hf1.trans p4) hnd.1 (fun b hb=>hI b (mL _ hb)) (fun b hb=>hD b (mL _ hb)) (fun b hb=>hB b (mL _ hb))
    (fun b hb=>hTp b (mL _ (by rw[ht1,p5];exact hb))) p7 hrv
   have he:φ2g ps (φE t (ps.map PK.ty) x) (i+1) (s.app [(i,.one (.pv f 0))] ((f,some (.var (φ4 t (φ5 t (ps.map PK.ty) x) (f+1)).1))::(φ4 t (φ5 t (ps.map PK.ty) x) (f+1)).2.1)) (φ4 t (φ5 t (ps.map PK.ty) x) (f+1)).2.2 K=some r:=he
   have p1:(f,some (Obj.var (φ4 t (φ5 t (ps.map PK.ty) x) (f+1)).1))::(φ4 t (φ5 t (ps.map PK.ty) x) (f+1)).2.1=os.map NewOb.upd:=p1
   rw[p1,hlen] at he
   exact next _ _ W' hR hWI hfp he
def φ1g (P:Program) (a:Act) (rv:ResultVar):Sem Value:=
 match rv with
 | .tmp t=>pure (a.tmps.getD t undef)
 | .cell c t=>do loadVar t (←asAddr (a.tmps.getD c undef))
theorem φ6m (g:ResultVar→Sem Value):∀(l:List ResultVar) (us:List Value),All2 (fun rv u=>(g rv).run P w=.ok u w) l us→(l.mapM g).run P w=.ok us w
 | [],us,h=>by rw[show us=[] from h];simp
 | rv::l,us,⟨u,us',e,p,h⟩=>by
  rw[e,List.mapM_cons]
  simp only[Sem.run_bind,p,Result.andThen_ok,φ6m g l us' h,Sem.run_pure]
theorem φ5V (hT:φM P T) (h:Rel B Al s a w W) {α:Type} {r:α×List Key}:∀(rs:List RK) (rv:List ResultVar) (K:Tys (rs.map RK.ty)→List Nat→RP α) (ks:List Key),(φ14 T rs rv K).exec s ks=some r →
  ∃x ids ks2 us fp tp fr,(K x ids).exec s ks2=some r∧φX w (plus W.I fr) rs us x fp tp∧(blk W ids).Perm (fp++fr)∧(∀i∈ids,(s.ob i).isSome=true)∧(∀b∈tp,∃i∈ids,W.nl i=false∧b=W.η i) ∧
   All2 (fun v u=>(φ1g P a v).run P w=.ok u w) rv us
 | [],rv,K,ks,he=>by
  cases rv with
  | nil=>exact ⟨(),[],ks,[],[],[],[],he,⟨rfl,rfl,rfl⟩,List.Perm.refl _,by simp,by simp,rfl⟩
  | cons=>simp[φ14,RP.exec] at he
 | .val t::rs,rv,K,ks,he=>by
  cases rv with
  | nil=>simp[φ14,RP.exec] at he
  | cons v rv=>
   have fin:∀(x:t.den) (u:Value) (j:List Nat) (ks2:List Key) (fp fr:List Nat),(φ14 T rs rv fun xs ids=>K (φR t (rs.map RK.ty) x xs) (j++ids)).exec s ks2=some r→Form t u→Ow w (plus W.I fr) t x u.cells.toList fp→(blk W j).Perm (fp++fr)→(∀i∈j,(s.ob i).isSome=true) →
     (∀b∈tops t u.cells.toList,∃i∈j,W.nl i=false∧b=W.η i)→(φ1g P a v).run P w=.ok u w →
     ∃x ids ks2 us fp tp fr,(K x ids).exec s ks2=some r∧φX w (plus W.I fr) (.val t::rs) us x fp tp∧(blk W ids).Perm (fp++fr)∧(∀i∈ids,(s.ob i).isSome=true)∧(∀b∈tp,∃i∈ids,W.nl i=false∧b=W.η i) ∧
      All2 (fun v u=>(φ1g P a v).run P w=.ok u w) (v::rv) us:=by
    intro x u j ks2 fp fr k1 k2 k3 k4 k5 k6 k7
    obtain ⟨xs,ids,ks3,us,fq,tq,fs,m1,m2,m3,m4,m5,m6⟩:=φ5V hT h rs rv _ _ k1
    refine ⟨_,_,ks3,u::us,fp++fq,tops t u.cells.toList++tq,fr++fs,m1,⟨u,us,fp,fq,_,tq,rfl,rfl,rfl,?_,?_⟩,by rw[φ11];exact φz k4 m3,?_,?_,⟨u,us,rfl,k7,m6⟩⟩
    ·rw[φ1Q];exact ⟨k2,Ow.mono (w:=w) φ2k (fun _ _=>rfl) t _ _ _ (fun _ _=>rfl) k3,rfl⟩
    ·rw[φ1V];exact m2.mono φ2V
    ·intro k hk
     rcases mA.1 hk with hk | hk
     ·exact k5 k hk
     ·exact m4 k hk
    ·intro b hb
     rcases mA.1 hb with hb | hb
     ·obtain ⟨j',hj,z⟩:=k6 b hb;exact ⟨j',mL _ hj,z⟩
     ·obtain ⟨j',hj,z⟩:=m5 b hb;exact ⟨j',mR _ hj,z⟩
   cases v with
   | tmp c=>
    simp only[φ14,RP.exec] at he
    obtain ⟨hs,he⟩:=φv he
    obtain ⟨x,j,ks2,fp,fr,k1,k2,k3,k4,k5,k6⟩:=φ5A h (h.slots c) t _ _ (by simpa using hs) he
    exact fin x _ j ks2 fp fr k1 k2 k3 k4 k5 k6 (by simp[φ1g])
   | cell c ty=>
    simp only[φ14] at he
    cases htd:lkp T ty with
    | none=>rw[htd] at he;simp[RP.exec] at he
    | some td=>
     rw[htd] at he
     simp only at he
     obtain ⟨hck,he⟩:=φv he
     simp only[Bool.not_eq_false',bA] at hck
     have hsz:=(φ7 _ _).1 hck.1
     have hag:td.agg=φj t:=by simpa using hck.2
     have hty:=hT ty td htd
     simp only[RP.exec] at he
     have hv:=h.slots c
     split at he<;>try (simp[RP.exec] at he;done)
     rename_i id off hsl
     rw[hsl] at hv
     simp only[RP.exec] at he
     split at he<;>try (simp[RP.exec] at he;done)
     rename_i l ho
     obtain ⟨b,e,k⟩:=hv.2
     have hb:=k l ho
     subst hb
     obtain ⟨_,_,vs,el,hh,hl⟩:=h.var id l ho
     obtain ⟨x,l2,j,ks2,cs,vs2,fp,fr,q1,q2,q3,q4,q5,_,q7,q8,_⟩:=φ2J h t _ _ _ _ ((hl.drop off).take t.size) he
     split at q2<;>try (simp[RP.exec] at q2;done)
     have q3:vs2=[]:=q3
     subst q3
     rw[κ3] at q1
     have hcl:=Ow.size t _ _ _ q4
     have hat:At w (W.η id) 0 vs:=⟨_,el,_,[],[],hh,by simp,rfl⟩
     have hpos:=t.pos
     have hat2:=hat.part off t.size (by rw[←q1] at hcl;simp only[lT,lD] at hcl;omega)
     rw[Nat.zero_add,q1] at hat2
     have hrun:=φ5Q (P:=P) w (vs:=cs) (n:=t.size) (g:=td.agg) (by rw[←hsz];exact hty.tag.1) hty.aggD hcl (fun hg=>by rw[←hsz];exact hty.one hg) hat2
     have h1c:∀v∈cs,v.oneCell'=true:=φ3Y (I:=fun _=>True) t x cs (Ow.rd (fun _ _=>trivial) t x cs fp (fun _ _=>trivial) q4)
     have hu:Form t (mkV td.agg cs)∧(mkV td.agg cs).cells.toList=cs:=by
      unfold Form mkV
      cases hg:td.agg with
      | true=>rw[hg] at hag;rw[←hag];exact ⟨⟨_,rfl⟩,rfl⟩
      | false=>
       rw[hg] at hag
       have h1:=hty.one hg
       rw[hsz] at h1
       obtain ⟨v,rfl⟩:∃v,cs=[v]:=by
        match cs,hcl with
        | [v],_=>exact ⟨v,rfl⟩
        | [],hn=>simp at hn;omega
        | _::_::_,hn=>simp at hn;omega
       have hv1:=h1c v (by simp)
       rw[←hag]
       refine ⟨by simpa using hv1,?_⟩
       have:((fun g (vs:List Value)=>if g=true then Value.agg vs.toArray else vs.getD 0 undef) false [v])=v:=rfl
       simp[cells_one hv1]
     refine fin x (mkV td.agg cs) j ks2 fp fr q2 hu.1 (by rw[hu.2];exact q4) q5 q7 (by rw[hu.2];exact q8) ?_
     simp only[φ1g,e,pt,asAddr,Sem.run_bind,Sem.run_pure,Result.andThen_ok,hrun]
 | .ptr t::rs,rv,K,ks,he=>by
  cases rv with
  | nil=>simp[φ14,RP.exec] at he
  | cons v rv=>
   cases v with
   | cell c ty=>simp[φ14,RP.exec] at he
   | tmp c=>
    simp only[φ14,RP.exec] at he
    have hv:=h.slots c
    split at he<;>try (simp[RP.exec] at he;done)
    rename_i id off hsl
    rw[hsl] at hv
    obtain ⟨hoff,he5⟩:=φ9 he
    clear he
    have hoff:=(φ7 _ _).1 hoff
    subst hoff
    simp only[RP.exec] at he5
    split at he5<;>try (simp[RP.exec] at he5;done)
    rename_i cs ho
    obtain ⟨b,e,k⟩:=hv.2
    have hb:=k cs ho
    subst hb
    obtain ⟨x,j,rs2,fp,fr,vs,el,k1,k2,k3,k4,k5,k6⟩:=φ5C h ho t _ _ he5
    obtain ⟨xs,ids,ks3,us,fq,tq,fs,m1,m2,m3,m4,m5,m6⟩:=φ5V hT h rs rv _ _ k1
    refine ⟨_,_,ks3,a.tmps.getD c undef::us,(W.η id::fp)++fq,(W.η id::tops t vs)++tq,fr++fs,m1,⟨_,us,_,fq,_,tq,rfl,rfl,rfl,?_,?_⟩,?_,?_,?_,⟨_,us,rfl,by simp only[φ1g,Sem.run_pure],m6⟩⟩
    ·rw[φ1Q];exact ⟨W.η id,vs,el,fp,e,rfl,rfl,k2,Ow.mono (w:=w) φ2k (fun _ _=>rfl) t _ _ _ (fun _ _=>rfl) k3⟩
    ·rw[φ1V];exact m2.mono φ2V
    ·rw[←κH,φ11];exact φz k4 m3
    ·intro k hk
     rw[←κH] at hk
     rcases mA.1 hk with hk | hk
     ·exact k5 k hk
     ·exact m4 k hk
    ·intro b hb
     rw[←κH]
     rcases mA.1 hb with hb | hb
     ·obtain ⟨j',hj,z⟩:=k6 b hb;exact ⟨j',mL _ hj,z⟩
     ·obtain ⟨j',hj,z⟩:=m5 b hb;exact ⟨j',mR _ hj,z⟩
def φ4S:PK→Bool
 | .val _=>false
 | _=>true
theorem φ3t (h:Rel B Al s a w W) {α:Type} {r:α×List Key}:∀(ps:List PK) (vs:List Value) (n:Nat) (K:Tys (ioOf ps)→List Nat→RP α) (ks:List Key),vs.length=ps.length →
  (∀(j:Nat) (v:Value) (p:PK),vs[j]?=some v→ps[j]?=some p→φ4S p=true→a.tmps.getD (n+j) undef=v)→(φ1x ps n K).exec s ks=some r →
  ∃x ids ks2 fp tp fr,(K x ids).exec s ks2=some r∧φe w (plus W.I fr) ps vs x fp tp∧(blk W ids).Perm (fp++fr)∧(∀i∈ids,(s.ob i).isSome=true)∧(∀b∈tp,∃i∈ids,W.nl i=false∧b=W.η i)
 | [],vs,n,K,ks,hl,_,he=>⟨(),[],ks,[],[],[],he,⟨List.eq_nil_of_length_eq_zero hl,rfl,rfl⟩,List.Perm.refl _,by simp,by simp⟩
 | p::ps,[],n,K,ks,hl,_,he=>by simp at hl
 | p::ps,v::vs,n,K,ks,hl,hp,he=>by
  have hl':vs.length=ps.length:=by simpa using hl
  have hp':∀(j:Nat) (u:Value) (p:PK),vs[j]?=some u→ps[j]?=some p→φ4S p=true→a.tmps.getD (n+1+j) undef=u:=fun j u q hu hq hn=>by
   have:=hp (j+1) u q (by simpa using hu) (by simpa using hq) hn
   rw[show n+1+j=n+(j+1) by omega];exact this
  cases p with
  | val t=>
   obtain ⟨x,ids,ks2,fp,tp,fr,m1,m2,m3,m4,m5⟩:=φ3t h ps vs (n+1) K ks hl' hp' he
   exact ⟨x,ids,ks2,fp,tp,fr,m1,⟨v,vs,rfl,m2⟩,m3,m4,m5⟩
  | io t=>
   have hv:a.tmps.getD n undef=v:=hp 0 v (.io t) rfl rfl rfl
   simp only[φ1x,RP.exec] at he
   obtain ⟨hs,he⟩:=φv he
   obtain ⟨x,j,rs2,fp,fr,k1,k2,k3,k4,k5,k6⟩:=φ5A h (h.slots n) t _ _ (by simpa using hs) he
   rw[hv] at k2 k3 k6
   obtain ⟨xs,ids,ks3,fq,tq,fs,m1,m2,m3,m4,m5⟩:=φ3t h ps vs (n+1) _ _ hl' hp' k1
   refine ⟨_,_,ks3,fp++fq,tops t v.cells.toList++tq,fr++fs,m1,⟨v,vs,fp,fq,_,tq,rfl,rfl,rfl,?_,?_⟩,by rw[φ11];exact φz k4 m3,?_,?_⟩
   ·rw[φ1Q];exact ⟨k2,Ow.mono (w:=w) φ2k (fun _ _=>rfl) t _ _ _ (fun _ _=>rfl) k3,rfl⟩
   ·rw[φ1V];exact m2.mono φ2V
   ·intro k hk
    rcases mA.1 hk with hk | hk
    ·exact k5 k hk
    ·exact m4 k hk
   ·intro b hb
    rcases mA.1 hb with hb | hb
    ·obtain ⟨j',hj,z⟩:=k6 b hb;exact ⟨j',mL _ hj,z⟩
    ·obtain ⟨j',hj,z⟩:=m5 b hb;exact ⟨j',mR _ hj,z⟩
  | ptr t=>
   have hvv:a.tmps.getD n undef=v:=hp 0 v (.ptr t) rfl rfl rfl
   simp only[φ1x,RP.exec] at he
   have hv:=h.slots n
   split at he<;>try (simp[RP.exec] at he;done)
   rename_i id off hsl
   rw[hsl] at hv
   obtain ⟨hoff,he5⟩:=φ9 he
   clear he
   have hoff:=(φ7 _ _).1 hoff
   subst hoff
   simp only[RP.exec] at he5
   split at he5<;>try (simp[RP.exec] at he5;done)
   rename_i cs ho
   obtain ⟨b,e,k⟩:=hv.2
   have hb:=k cs ho
   subst hb
   rw[hvv] at e
   obtain ⟨x,j,rs2,fp,fr,us,el,k1,k2,k3,k4,k5,k6⟩:=φ5C h ho t _ _ he5
   obtain ⟨xs,ids,ks3,fq,tq,fs,m1,m2,m3,m4,m5⟩:=φ3t h ps vs (n+1) _ _ hl' hp' k1
   refine ⟨_,_,ks3,(W.η id::fp)++fq,(W.η id::tops t us)++tq,fr++fs,m1,⟨v,vs,_,fq,_,tq,rfl,rfl,rfl,?_,?_⟩,?_,?_,?_⟩
   ·rw[φ1Q];exact ⟨W.η id,us,el,fp,e,rfl,rfl,k2,Ow.mono (w:=w) φ2k (fun _ _=>rfl) t _ _ _ (fun _ _=>rfl) k3⟩
   ·rw[φ1V];exact m2.mono φ2V
   ·rw[←κH,φ11];exact φz k4 m3
   ·intro k hk
    rw[←κH] at hk
    rcases mA.1 hk with hk | hk
    ·exact k5 k hk
    ·exact m4 k hk
   ·intro b hb
    rw[←κH]
    rcases mA.1 hb with hb | hb
    ·obtain ⟨j',hj,z⟩:=k6 b hb;exact ⟨j',mL _ hj,z⟩
    ·obtain ⟨j',hj,z⟩:=m5 b hb;exact ⟨j',mR _ hj,z⟩
def φ1j:List PK→List Value→Nat→Option Value
 | p::_,v::_,0=>if φ4S p then some v else none
 | _::ps,_::vs,n+1=>φ1j ps vs n
 | _,_,_=>none
theorem φ7b:∀(ps:List PK) (vs:List Value) (n:Nat) (v:Value),φ1j ps vs n=some v→vs[n]?=some v
 | p::_,u::_,0,v,h=>by
  simp only[φ1j] at h
  split at h
  ·simpa using h
  ·simp at h
 | _::ps,_::vs,n+1,v,h=>by simpa using φ7b ps vs n v h
 | [],_,_,_,h=>by simp[φ1j] at h
 | _::_,[],0,_,h=>by simp[φ1j] at h
 | _::_,[],_+1,_,h=>by simp[φ1j] at h
theorem φ7h:∀(ps:List PK) (vs:List Value) (n:Nat) (v:Value) (p:PK),vs[n]?=some v→ps[n]?=some p→φ4S p=true→φ1j ps vs n=some v
 | p::_,u::_,0,v,q,h,h2,h3=>by
  simp only[List.getElem?_cons_zero,Option.some.injEq] at h h2
  subst h;subst h2
  simp[φ1j,h3]
 | _::ps,_::vs,n+1,v,q,h,h2,h3=>φ7h ps vs n v q (by simpa using h) (by simpa using h2) h3
 | [],_,_,_,_,_,h,_=>by simp at h
 | _::_,[],_,_,_,h,_,_=>by simp at h
theorem φ6o (ws:List Nat):∀(ps:List PK) (n:Nat),φ1h ws ps n=true→∀(vs:List Value) (j:Nat),j+n∈ws→φ1j ps vs j=none
 | [],_,_,vs,j,_=>by cases vs<;>cases j<;>rfl
 | p::ps,n,h,[],j,_=>by cases j<;>rfl
 | p::ps,n,h,v::vs,0,hj=>by
  cases p with
  | val t=>rfl
  | io t=>simp only[φ1h,bA,Bool.not_eq_true'] at h;rw[Nat.zero_add] at hj;rw[(φ2l n ws).2 hj] at h;simp at h
  | ptr t=>simp only[φ1h,bA,Bool.not_eq_true'] at h;rw[Nat.zero_add] at hj;rw[(φ2l n ws).2 hj] at h;simp at h
 | p::ps,n,h,v::vs,j+1,hj=>by
  have h2:φ1h ws ps (n+1)=true:=by
   cases p with
   | val t=>exact h
   | io t=>simp only[φ1h,bA] at h;exact h.2
   | ptr t=>simp only[φ1h,bA] at h;exact h.2
  exact φ6o ws ps (n+1) h2 vs j (by rw[show j+(n+1)=j+1+n by omega];exact hj)
theorem φ7e (n:Nat):∀l,φ3S n l=true→∀d∈l,d<n
 | [],_,d,hd=>by simp at hd
 | m::l,h,d,hd=>by
  simp only[φ3S,bA] at h
  rcases mc.1 hd with k | k
  ·subst k;exact κA h.1
  ·exact φ7e n l h.2 d k
theorem φ7I {S:Nat→Prop}:∀(ps:List PK) (vs:List Value) (x:Tys (ps.map PK.ty)) (fp tp:List Nat),φd w S ps vs x fp tp→vs.length=ps.length
 | [],_,_,_,_,⟨h,_⟩=>by rw[h];rfl
 | _::ps,_,_,_,_,⟨v,vs',f1,f2,t1,t2,e,_,_,_,h⟩=>by rw[e,lC,lC,φ7I ps vs' _ _ _ h]
theorem φ65:∀(a b:List Ty) (x:Tys a) (y:Tys b),φ1M a b (φ31 a b x y)=(x,y)
 | [],_,_,_=>rfl
 | [_],[],_,_=>rfl
 | [_],_::_,_,_=>rfl
 | _::u::r,b,x,y=>by
  show (match φ1M (u::r) b (φ31 (u::r) b x.2 y) with | (p,q)=>((x.1,p),q))=_
  rw[φ65 (u::r) b]
  rfl
theorem φ3i {S:Nat→Prop}:∀(t:Ty) (x:t.den) cs fp,Ow w S t x cs fp→∀b∈tops t cs,b∈fp
 | .int _,_,_,_,_,b,hb=>by simp[tops] at hb
 | .bool,_,_,_,_,b,hb=>by simp[tops] at hb
 | .str,_,_,_,_,b,hb=>by simp[tops] at hb
 | .sl false _,_,_,_,_,b,hb=>by simp[tops] at hb
 | .box _ _,_,_,_,_,b,hb=>by simp[tops] at hb
 | .sl true t,_,_,_,h,b,hb=>by
  rcases h with ⟨_,e,_⟩ | ⟨g,c,f,e1,e2,_⟩
  ·rw[e] at hb;simp[tops] at hb
  ·rw[e1] at hb;rw[e2];simp[tops] at hb;subst hb;simp
 | .pair a c,x,_,_,⟨c1,c2,f1,f2,e,e',h,h'⟩,b,hb=>by
  rw[e,φ3j (Ow.size a _ _ _ h)] at hb
  rw[e']
  rcases mA.1 hb with k | k
  ·exact mL _ (φ3i a _ _ _ h b k)
  ·exact mR _ (φ3i c _ _ _ h' b k)
theorem φ6B {S:Nat→Prop}:∀(ps:List PK) (vs:List Value) (x:Tys (ps.map PK.ty)) (fp tp:List Nat),φd w S ps vs x fp tp→∀b∈tp,b∈fp
 | [],_,_,_,_,⟨_,_,h⟩,b,hb=>by rw[h] at hb;simp at hb
 | p::ps,_,_,_,_,⟨v,vs',f1,f2,t1,t2,_,e2,e3,h1,h⟩,b,hb=>by
  rw[e3] at hb;rw[e2]
  rcases mA.1 hb with k | k
  ·refine mL _ ?_
   cases p with
   | val t=>obtain ⟨_,q,e⟩:=h1;rw[e] at k;exact φ3i t _ _ _ q b k
   | io t=>obtain ⟨_,q,e⟩:=h1;rw[e] at k;exact φ3i t _ _ _ q b k
   | ptr t=>
    obtain ⟨g,cs,e,f,q1,q2,q3,q4,q5⟩:=h1
    rw[q3] at k;rw[q2]
    rcases mc.1 k with k | k
    ·subst k;simp
    ·exact mC _ (φ3i t _ _ _ q5 b k)
  ·exact mR _ (φ6B ps vs' _ _ _ h b k)
theorem φBU {fn:Func} {us:List Value} (h:All2 (fun v u=>(φ1g P a v).run P w=.ok u w) fn.results.toList us):(results fn a.tmps).run P w=.ok (resV us) w:=by
 have h1:=φ6m (P:=P) (w:=w) (φ1g P a) fn.results.toList us h
 have h2:(fn.results.mapM fun x=>φ1g P a x).run P w=.ok us.toArray w:=by
  rw[Array.mapM_eq_mapM_toList]
  simp[h1]
 unfold results
 rw[Sem.run_bind]
 show ((Sem.run P (Array.mapM (fun x=>φ1g P a x) fn.results) w).andThen _)=_
 rw[h2,Result.andThen_ok,Sem.run_pure]
 match us with
 | []=>rfl
 | [u]=>rfl
 | u::v::l=>rfl
theorem φBR [Laid] (hT:φM P T) (hE:φ1 P E) (hm:P.follows .mixedOrders=true) {g:Nat} {fn:Func} {body:Code} {ctr:Ctr} (hf:P.funcs[g]?=some fn) (hn:(fn.name == "runtime.NumGoroutine")=false) (hb:fn.body=some body)
  (hev:∀x,evF T E A ctr.g fn.ntmps fn.results.toList body x=ctr.fn x):φ0 P g ctr:=by
 intro w args x S fp tp y hS hargs hnd himm hLw hLf hy o a K Q hK
 have hx:=(hev x).trans hy
 have hcall:(callFunc g args.toArray).run P w=.ok (.enter g args.toArray) w:=by
  have hne:¬fn.name = "runtime.NumGoroutine" := by simpa using hn
  unfold callFunc
  simp[run_program,hf,hne,hb]
 rw[hcall,Oper.upon_enter]
 refine calls_of_wp hf hb ?_
 unfold evF at hx
 cases hck:(φ1h (φ1c body) ctr.g.ps 0 && φ3S fn.ntmps (φ1c body) && Nat.ble ctr.g.ps.length fn.ntmps && dwOk E ctr.g) with
 | false=>rw[hck] at hx;simp at hx
 | true=>
  rw[hck] at hx
  simp only[nZ,cF] at hx
  simp only[bA] at hck
  obtain ⟨⟨⟨c1,c2⟩,c3⟩,c4⟩:=hck
  have d1:holE E=true→nsE E=true:=fun q=>by
   unfold dwOk at c4
   rw[q] at c4
   simp only[nZ,Bool.false_or,bA] at c4
   exact c4.1
  have d2:nsE E=true→ctr.g.dw=false→φ2e (ctr.g.ps.map PK.ty)=false:=fun q q2=>by
   unfold dwOk at c4
   rw[q,q2] at c4
   simpa using c4
  have c3:ctr.g.ps.length≤fn.ntmps:=κA c3
  have hlen:=φ7I _ _ _ _ _ hargs
  let B:Base:={ w0:=w,S0:=S,fpT:=fun b=>b∈tp,fpN:=fun b=>b∈fp,pin:=φ1j ctr.g.ps args,nt:=fn.ntmps,ns:=nsE E,hol:=holE E,fpC:=fun b=>b∈tp∨(ctr.g.dw=true∧b∈fp) }
  let a0:Act:={ tmps:=args.toArray++Array.replicate (fn.ntmps - args.toArray.size) undef,defers:=[] }
  have hget:∀(j:Nat) (v:Value),args[j]?=some v→a0.tmps.getD j undef=v:=fun j v hv=>by
   have hlt:j<args.length:=by
    rcases κ1 j args.length with h | h
    ·exact h
    ·rw[List.getElem?_eq_none h] at hv;simp at hv
   have hv2:args[j]=v:=by rw[List.getElem?_eq_getElem hlt] at hv;simpa using hv
   show (args.toArray++Array.replicate (fn.ntmps - args.toArray.size) undef).getD j undef=v
   have hl2:j<(args.toArray++Array.replicate (fn.ntmps - args.toArray.size) undef).size:=by simp;omega
   simp[Array.getD,hl2,hlt,hv2]
   omega
  have hbase:Rel B (fun i=>i<0) St.empty a0 w ⟨S,fun _=>0,fun _=>[],fun _=>0,fun _=>false,nsE E,holE E,fun _ _=>undef⟩:=
   {slots:=fun i=>⟨fun k=>by simp[St.empty,φK] at k,trivial⟩
    mS:=fun i id k=>k.elim
    mO:=fun id l hx=>by simp[St.empty] at hx
    al:=fun id hx=>by simp[St.empty] at hx
    row:=fun id t xs hx=>by simp[St.empty] at hx
    var:=fun id l hx=>by simp[St.empty] at hx
    nod:=fun i hx=>by simp[St.empty] at hx
    dis:=fun i j _ hx=>by simp[St.empty] at hx
    imm:=fun i hx=>by simp[St.empty] at hx
    bnd:=hS
    def0:=rfl
    size:=by show (args.toArray++Array.replicate (fn.ntmps - args.toArray.size) undef).size=fn.ntmps;simp;omega
    pins:=fun n v hv=>hget n v (φ7b _ _ _ _ hv)
    os:=rfl
    tape:=rfl
    output:=rfl
    grown:=κD _
    old:=fun _ _ _=>rfl
    ownT:=fun i hx=>by simp[St.empty] at hx
    ownN:=fun i hx=>by simp[St.empty] at hx
    from0:=fun b hb=>.inl hb
    ns:=rfl
    hol:=rfl
    hn:=d1
    cTop:=fun b hb=>.inl hb
    cN:=fun q b hb=>by
     cases hdw:ctr.g.dw with
     | true=>exact .inr ⟨hdw,hb⟩
     | false=>exact .inl (φ5r _ (d2 q hdw) _ _ _ _ hargs b hb)
    hdr:=fun _ id t xs hx=>by simp[St.empty] at hx }
  obtain ⟨s1,f1,k1,k2⟩:=φ8A ctr.g.ps args x 0 St.empty 0 _ fp tp hbase hargs (fun j v hv=>by rw[Nat.zero_add];exact hget j v hv) hnd himm (fun b _ j hj=>by simp[St.empty] at hj) (fun b hb=>.inr (.inl hb)) (fun b hb=>.inl hb) hx
  have hcode:φ38 B body:=fun d hd=>⟨φ7e _ _ c2 d hd,φ6o _ _ 0 c1 args d hd⟩
  have hEB:EnvB P E B:=⟨hE,hLw,fun b hb=>hb.elim (fun k=>hLf b (φ6B _ _ _ _ _ hargs b k)) (fun k=>hLf b k),fun b hb=>hb.imp id (·.2),rfl,rfl⟩
  refine (φ9v hT hEB hm body).1 _ s1 f1 _ y a0 w _ hcode k1 k2 fun e s2 f2 a2 w2 hk hs2=>?_
  have fin:((φ14 T ctr.g.rs fn.results.toList fun a i=>φ1x ctr.g.ps 0 fun b j=>.ret (φ31 (ctr.g.rs.map RK.ty) (ioOf ctr.g.ps) a b,i++j)).run s2 (fun p _=>bif φ1I p.2 then some p.1 else none) [])=some y →
    a2.defers=[]∧∃v,(results fn a2.tmps).run P w2=.ok v w2∧K (a.put o.dst v) w2:=by
   intro hk
   obtain ⟨W,hr⟩:=hs2
   rw[RP.run_eq] at hk
   cases hex:(φ14 T ctr.g.rs fn.results.toList fun a i=>φ1x ctr.g.ps 0 fun b j=>.ret (φ31 (ctr.g.rs.map RK.ty) (ioOf ctr.g.ps) a b,i++j)).exec s2 [] with
   | none=>rw[hex] at hk;simp at hk
   | some q=>
    obtain ⟨⟨z,ids⟩,ks⟩:=q
    rw[hex] at hk
    simp only[bS] at hk
    cases hnb:φ1I ids with
    | false=>rw[hnb] at hk;simp at hk
    | true=>
     rw[hnb] at hk
     have hk:z=y:=Option.some.inj hk
     subst hk
     obtain ⟨xa,ia,ks2,us,fa,ta,ra,m1,m2,m3,m4,m5,m6⟩:=φ5V hT hr _ _ _ _ hex
     obtain ⟨xb,ib,ks3,fb,tb,rb,n1,n2,n3,n4,n5⟩:=φ3t hr ctr.g.ps args 0 _ _ hlen (fun j v p hv hp hq=>by rw[Nat.zero_add];exact hr.pins j v (φ7h _ _ _ _ _ hv hp hq)) m1
     simp only[RP.exec,Option.some.injEq,Prod.mk.injEq] at n1
     obtain ⟨⟨rfl,rfl⟩,_⟩:=n1
     have hids:∀i∈ia++ib,(s2.ob i).isSome=true:=fun i hi=>(mA.1 hi).elim (m4 i) (n4 i)
     have hall:=hr.blkNodup _ (φ28 _ hnb) hids
     have hperm:(blk W (ia++ib)).Perm ((fa++fb)++(ra++rb)):=by rw[φ11];exact φz m3 n3
     have hpn:=hperm.nodup_iff.1 hall
     rw[κ4] at hpn
     have inB:∀b,b∈fa++fb∨b∈ra++rb→∃i∈ia++ib,b∈fpOf W i:=fun b hb=>φZ.1 (hperm.mem_iff.2 (mA.2 hb))
     have org:∀b,b∈fa++fb∨b∈ra++rb→b∈tp∨b∈fp∨w.heap.size≤b:=fun b hb=>by
      obtain ⟨i,hi,hbi⟩:=inB b hb
      obtain ⟨hn2,q | q⟩:=φ3B hbi
      ·rw[q];exact (hr.ownT i (hids i hi) hn2).imp id .inr
      ·exact hr.ownN i (hids i hi) b q
     refine ⟨hr.def0,resV us,φBU m6,?_⟩
     have tpfp:=φ6B _ _ _ _ _ hargs
     have org2:∀b,b∈fa++fb∨b∈ra++rb→b∈fp∨w.heap.size≤b:=fun b hb=>by
      rcases org b hb with k | k | k
      ·exact .inl (tpfp b k)
      ·exact .inl k
      ·exact .inr k
     refine hK us w2 (plus W.I (ra++rb)) fa fb ta tb ?_ ?_ ?_
     ·rw[φ65];exact m2.mono φ2k
     ·rw[φ65];exact n2.mono φ2V
     ·exact {
       nd:=hpn.1
       imm:=fun b hb k=>by
        rcases k with k | k
        ·obtain ⟨i,hi,hbi⟩:=inB b (.inl hb);exact hr.imm i (hids i hi) b hbi k
        ·exact hpn.2.2 b hb b k rfl
       top:=fun b hb=>by
        have:∃i∈ia++ib,W.nl i=false∧b=W.η i:=by
         rcases mA.1 hb with k | k
         ·obtain ⟨i,hi,q⟩:=m5 b k;exact ⟨i,mL _ hi,q⟩
         ·obtain ⟨i,hi,q⟩:=n5 b k;exact ⟨i,mR _ hi,q⟩
        obtain ⟨i,hi,hn2,e⟩:=this
        rw[e];exact hr.ownT i (hids i hi) hn2
       all:=fun b hb=>org2 b (.inl hb)
       sub:=fun b hb=>by
        rcases hb with k | k
        ·rcases hr.from0 b k with q | q | q | q
         ·exact .inl q
         ·exact .inr (.inl (tpfp b q))
         ·exact .inr (.inl q)
         ·exact .inr (.inr q)
        ·exact .inr (org2 b (.inr k))
       bnd:=fun b hb=>by
        rcases hb with k | k
        ·exact hr.bnd b k
        ·obtain ⟨i,hi,hbi⟩:=inB b (.inr k);exact hr.lt (hids i hi) b hbi
       old:=fun b hb hn2 hn3=>hr.old b hb fun q=>q.elim hn2 fun k=>hn3 k.1 k.2
       size:=hr.grown
       os:=hr.os
       tape:=hr.tape
       output:=hr.output }
  cases e with
  | exit n=>simp at hk
  | normal=>exact fin hk
  | ret=>exact fin hk
end
end Go.Rf
namespace Go.Rf
def eqV:Value→Value→Bool
 | .int k n,.int k' m=>kEq k k' && decide (n=m)
 | .bool a,.bool b=>a==b
 | .string a,.string b=>decide (a.data.toList=b.data.toList)
 | .slice none n c,.slice none m d=>Nat.beq n m && Nat.beq c d
 | .nilIface,.nilIface=>true
 | _,_=>false
theorem φAd {a b:Value} (h:eqV a b=true):a=b:=by
 unfold eqV at h
 split at h
 ·simp only[bA,decide_eq_true_eq] at h
  rw[φ1e h.1,h.2]
 ·simp only[beq_iff_eq] at h;rw[h]
 ·simp only[decide_eq_true_eq] at h
  congr 1
  apply ByteArray.ext
  apply Array.ext'
  exact h
 ·simp only[bA] at h
  rw[κ0 h.1,κ0 h.2]
 ·rfl
 ·simp at h
def eqVs:List Value→List Value→Bool
 | [],[]=>true
 | a::r,b::r'=>eqV a b && eqVs r r'
 | _,_=>false
theorem φ7V:∀{l m:List Value},eqVs l m=true→l=m
 | [],[],_=>rfl
 | a::r,b::r',h=>by
  simp only[eqVs,bA] at h
  rw[φAd h.1,φ7V h.2]
 | [],_::_,h=>by simp[eqVs] at h
 | _::_,[],h=>by simp[eqVs] at h
def φ4k (P:Program) (t n b:Nat) (zs:List Value):Bool:=
 match P.info? t with
 | some i=>Nat.beq i.size n && Nat.beq i.bytes b && match i.zero with
  | some z=>eqVs z.cells.toList zs
  | none=>false
 | none=>false
theorem φ8G {P:Program} {t n b:Nat} {zs:List Value} (h:φ4k P t n b zs=true):φ2G P t n b zs:=by
 unfold φ4k at h
 unfold φ2G
 cases hi:P.info? t with
 | none=>rw[hi] at h;simp at h
 | some i=>
  rw[hi] at h
  simp only[bA] at h
  cases hz:i.zero with
  | none=>rw[hz] at h;simp at h
  | some z=>
   rw[hz] at h
   exact ⟨by simp[κ0 h.1.1],by simp[κ0 h.1.2],z,by simp[hz],φ7V h.2⟩
def φ34 (P:Program):List Field→List (Nat×Nat×Bool)→Bool
 | [],[]=>true
 | fd::fs,(o,n,g)::l=>Nat.beq fd.offset o && (match P.info? fd.type with | some i=>Nat.beq i.size n | none=>false) && !Nat.beq n 0 && (match P.underlying fd.type with | some d=>aggD d==g | none=>false) && φ34 P fs l
 | _,_=>false
theorem φ6t {P:Program}:∀{fs:List Field} {l:List (Nat×Nat×Bool)},φ34 P fs l=true→fs.length=l.length ∧
  ∀(j o n:Nat) (g:Bool),l[j]?=some (o,n,g)→∃fd:Field,fs[j]?=some fd∧fd.offset=o∧(P.info? fd.type).map (·.size)=some n∧n≠0∧(P.underlying fd.type).map aggD=some g
 | [],[],_=>⟨rfl,by simp⟩
 | fd::fs,(o,n,g)::l,h=>by
  simp only[φ34,bA] at h
  obtain ⟨⟨⟨⟨h1,h2⟩,h3⟩,h4⟩,h5⟩:=h
  obtain ⟨k1,k2⟩:=φ6t h5
  refine ⟨by simp[k1],fun j o' n' g' hj=>?_⟩
  cases j with
  | zero=>
   simp only[List.getElem?_cons_zero,Option.some.injEq,Prod.mk.injEq] at hj
   obtain ⟨rfl,rfl,rfl⟩:=hj
   refine ⟨fd,rfl,κ0 h1,?_,?_,?_⟩
   ·cases hi:P.info? fd.type with
    | none=>rw[hi] at h2;simp at h2
    | some i=>rw[hi] at h2;simp[κ0 h2]
   ·intro e;subst e;simp at h3
   ·cases hi:P.underlying fd.type with
    | none=>rw[hi] at h4;simp at h4
    | some d=>rw[hi] at h4;simpa using h4
  | succ j=>exact k2 j o' n' g' (by simpa using hj)
 | [],_::_,h=>by simp[φ34] at h
 | _::_,[],h=>by simp[φ34] at h
def φ59 (P:Program) (T:Tab) (t:Nat) (td:TD):Bool:=
 match td.ty,P.underlying t with
 | .int k,some (.int k')=>kEq k k'
 | .bool,some .bool=>true
 | .str,some .string=>true
 | .sl _ e,some (.slice el)=>(match td.elem with | some el'=>Nat.beq el el' | none=>false) && φ4k P el e.size (φ1T T t) (φc e)
 | .pair _ _,_=>td.agg
 | .box _ _,some (.interface _)=>true
 | _,_=>false
theorem φAo {P:Program} {T:Tab} {t:Nat} {td:TD} (h:φ59 P T t td=true):match td.ty with
  | .int k=>P.underlying t=some (.int k)
  | .bool=>P.underlying t=some .bool
  | .str=>P.underlying t=some .string
  | .sl _ e=>∃el,td.elem=some el∧P.underlying t=some (.slice el)∧φ2G P el e.size (φ1T T t) (φc e)
  | .pair _ _=>td.agg=true
  | .box _ _=>∃ms,P.underlying t=some (.interface ms):=by
 unfold φ59 at h
 split at h
 ·rename_i k k' h1 h2;rw[h1];simp only;rw[h2,φ1e h]
 ·rename_i h1 h2;rw[h1];exact h2
 ·rename_i h1 h2;rw[h1];exact h2
 ·rename_i m e el h1 h2
  rw[h1]
  simp only[bA] at h
  cases he:td.elem with
  | none=>rw[he] at h;simp at h
  | some el'=>
   rw[he] at h
   have:=κ0 h.1
   subst this
   exact ⟨el,rfl,h2,φ8G h.2⟩
 ·rename_i a b h1;rw[h1];exact h
 ·rename_i g t ms h1 h2;rw[h1];exact ⟨ms,h2⟩
 ·simp at h
end Go.Rf
namespace Go.Rf
theorem φ7O {a c:Sc} {r r':List Sc} {z:Bool} (h:φI (a::r) (c::r')=some z):∃x y,φI.eqSc a c=some x∧φI r r'=some y∧z=(x && y):=by
 cases r with
 | nil=>
  cases r' with
  | nil=>exact ⟨z,true,by simpa [φI] using h,rfl,by simp⟩
  | cons=>simp only[φI] at h;split at h<;>simp_all [φI]
 | cons p q=>
  simp only[φI] at h
  split at h
  ·rename_i x y h1 h2
   simp only[Option.some.injEq] at h
   exact ⟨x,y,h1,h2,h.symm⟩
  ·simp at h
theorem φ6J:∀(l1 m1:List Sc) {l2 m2:List Sc} {z:Bool},l1.length=m1.length→φI (l1++l2) (m1++m2)=some z→∃x y,φI l1 m1=some x∧φI l2 m2=some y∧z=(x && y)
 | [],[],_,_,z,_,h=>⟨true,z,rfl,h,by simp⟩
 | a::l1,c::m1,l2,m2,z,hl,h=>by
  obtain ⟨x,y,h1,h2,h3⟩:=φ7O h
  obtain ⟨x2,y2,k1,k2,k3⟩:=φ6J l1 m1 (by simpa using hl) h2
  refine ⟨x && x2,y2,?_,k2,by rw[h3,k3,Bool.and_assoc]⟩
  cases l1 with
  | nil=>
   cases m1 with
   | nil=>simp only[φI,Option.some.injEq] at k1 ⊢;rw[h1,←k1];simp
   | cons=>simp at hl
  | cons p q=>
   cases m1 with
   | nil=>simp at hl
   | cons p' q'=>simp only[φI];rw[h1,k1]
 | [],_::_,_,_,_,h,_=>by simp at h
 | _::_,[],_,_,_,h,_=>by simp at h
theorem φ5i:∀{a b:List Nat},φ2A a b=true→a=b
 | [],[],_=>rfl
 | a::r,b::r',h=>by
  simp only[φ2A,bA] at h
  rw[κ0 h.1,φ5i h.2]
 | [],_::_,h=>by simp[φ2A] at h
 | _::_,[],h=>by simp[φ2A] at h
theorem φ36:∀(l:List Sc),φ1W l=l.map φ3G
 | []=>rfl
 | c::r=>by simp[φ1W,φ36 r]
theorem φ43:∀{l m:List Sc} {b:Bool},φI l m=some b→l.length=m.length
 | [],[],_,_=>rfl
 | a::r,c::r',b,h=>by
  obtain ⟨x,y,_,h2,_⟩:=φ7O h
  simp[φ43 h2]
 | [],_::_,_,h=>by simp[φI] at h
 | _::_,[],_,h=>by simp[φI] at h
def eqFs (P:Program) (g:TypeId→Option (List Nat)):List Field→Nat→Option (List Nat)
 | [],_=>some []
 | f::fs,n=>match g f.type,P.info? f.type with
  | some ks,some i=>bif (f.name == "_") || !Nat.beq f.offset n || !Nat.beq i.size ks.length then none else
   match eqFs P g fs (n+ks.length) with
   | some r=>some (ks++r)
   | none=>none
  | _,_=>none
def eqT (P:Program):Nat→TypeId→Option (List Nat)
 | 0,_=>none
 | d+1,t=>match P.underlying t with
  | some (.int _)=>some [0]
  | some .bool=>some [1]
  | some .string=>some [2]
  | some (.struct fs)=>bif P.stoodInHeld t then none else eqFs P (eqT P d) fs.toList 0
  | _=>none
def EqOk (P:Program) (d:Nat) (t:TypeId) (ks:List Nat):Prop:=
 ∃g,(P.underlying t).map aggD=some g∧(g=false→ks.length=1)∧∀(d':Nat),d≤d'→∀(w:World) (l m:List Sc) (b:Bool) (vs us:List Value),φ1W l=ks→φI l m=some b→All2 φ16 l vs→All2 φ16 m us →
  (Op.equalIn d' t (mkV g vs) (mkV g us)).run P w=.ok b w
theorem φ7E {P:Program} {t n:Nat} {g:Bool} {w:World} (hs:(P.info? t).map (·.size)=some n) (hg:(P.underlying t).map aggD=some g) (h1:g=false→n=1) {pre cs post:List Value} (hc:cs.length=n) :
  (part t (pre++(cs++post)).toArray pre.length).run P w=.ok (mkV g cs) w:=by
 unfold part
 rw[Sem.run_bind,φ5W w hg,Result.andThen_ok]
 cases g with
 | true=>
  simp only[if_true,Sem.run_bind,φ2Q w hs,Result.andThen_ok,Sem.run_pure,mkV]
  congr 2
  apply Array.ext'
  simp[←hc,List.take_append,List.drop_append]
 | false=>
  have h1:=h1 rfl
  subst h1
  obtain ⟨v,rfl⟩:∃v,cs=[v]:=by
   match cs,hc with
   | [v],_=>exact ⟨v,rfl⟩
  simp[mkV]
theorem φ7U {P:Program} {d:Nat} {g:TypeId→Option (List Nat)} (hg:∀t n,g t=some n→EqOk P d t n):∀(fs:List Field) (n:Nat) (N:List Nat),eqFs P g fs n=some N →
  ∀(d':Nat),d≤d'→∀(w:World) (l m:List Sc) (b:Bool) (pre vs pre' us:List Value),pre.length=n→pre'.length=n→φ1W l=N→φI l m=some b→All2 φ16 l vs→All2 φ16 m us →
   (Op.eqFields d' (pre++vs).toArray (pre'++us).toArray fs).run P w=.ok b w
 | [],n,N,h=>by
  simp only[eqFs,Option.some.injEq] at h
  subst h
  intro d' _ w l m b pre vs pre' us _ _ hl he _ _
  have hl:l=[]:=by cases l with
   | nil=>rfl
   | cons=>simp[φ1W] at hl
  subst hl
  have hm:m=[]:=by have:=φ43 he;cases m with
   | nil=>rfl
   | cons=>simp at this
  subst hm
  simp only[φI,Option.some.injEq] at he
  subst he
  simp[Op.eqFields]
 | f::fs,n,N,h=>by
  simp only[eqFs] at h
  split at h<;>try (simp at h;done)
  rename_i ks i hk hi
  cases hb:((f.name == "_") || !Nat.beq f.offset n || !Nat.beq i.size ks.length) with
  | true=>rw[hb] at h;simp at h
  | false=>
   rw[hb] at h
   simp only[cF] at h
   split at h<;>try (simp at h;done)
   rename_i r hr
   simp only[Option.some.injEq] at h
   subst h
   simp only[κ6,Bool.not_eq_false'] at hb
   obtain ⟨⟨hname,hoff⟩,hsz⟩:=hb
   have hoff:=κ0 hoff
   have hsz:=κ0 hsz
   obtain ⟨gg,e1,e2,e3⟩:=hg _ _ hk
   have ih:=φ7U hg fs (n+ks.length) r hr
   intro d' hd w l m b pre vs pre' us hp hp' hl he hv hu
   have hvl:=hv.length
   have hul:=hu.length
   have hlm:=φ43 he
   have hll:l.length=ks.length+r.length:=by have:=congrArg List.length hl;rw[φ36] at this;simpa using this
   have hl1:φ1W (l.take ks.length)=ks:=by rw[φ36,List.map_take,←φ36,hl];simp
   have hl2:φ1W (l.drop ks.length)=r:=by rw[φ36,List.map_drop,←φ36,hl];simp
   have el:l=l.take ks.length++l.drop ks.length:=(κ7 ks.length l).symm
   have em:m=m.take ks.length++m.drop ks.length:=(κ7 ks.length m).symm
   have ev:vs=vs.take ks.length++vs.drop ks.length:=(κ7 ks.length vs).symm
   have eu:us=us.take ks.length++us.drop ks.length:=(κ7 ks.length us).symm
   rw[el,em] at he
   obtain ⟨x,y,h1,h2,h3⟩:=φ6J (l.take ks.length) (m.take ks.length) (by simp;omega) he
   have hsize:(P.info? f.type).map (·.size)=some ks.length:=by rw[hi];simp[hsz]
   have r1:=φ7E (P:=P) (w:=w) hsize e1 e2 (pre:=pre) (cs:=vs.take ks.length) (post:=vs.drop ks.length) (by simp;omega)
   have r2:=φ7E (P:=P) (w:=w) hsize e1 e2 (pre:=pre') (cs:=us.take ks.length) (post:=us.drop ks.length) (by simp;omega)
   have r3:=e3 d' hd w (l.take ks.length) (m.take ks.length) x (vs.take ks.length) (us.take ks.length) hl1 h1 (hv.take ks.length) (hu.take ks.length)
   rw[←ev,hp] at r1
   rw[←eu,hp'] at r2
   have r4:=ih d' hd w (l.drop ks.length) (m.drop ks.length) y (pre++vs.take ks.length) (vs.drop ks.length) (pre'++us.take ks.length) (us.drop ks.length) (by simp;omega) (by simp;omega) hl2 h2 (hv.drop ks.length) (hu.drop ks.length)
   rw[aA,aA,←ev,←eu] at r4
   have hne:f.name ≠ "_" := by simpa using hname
   simp only[Op.eqFields,if_pos hne,Sem.run_bind,hoff,r1,r2,r3,Result.andThen_ok]
   cases x with
   | false=>simp[h3]
   | true=>simp[h3,r4]
theorem φ6X {P:Program}:∀(d:Nat) (t:TypeId) (n:List Nat),eqT P d t=some n→EqOk P d t n
 | 0,_,_,h=>by simp[eqT] at h
 | d+1,t,n,h=>by
  simp only[eqT] at h
  have one:∀(q:Nat) (l m:List Sc) (b:Bool) (vs us:List Value),φ1W l=[q]→φI l m=some b→All2 φ16 l vs→All2 φ16 m us→∃a c v u,φ3G a=q∧φI.eqSc a c=some b∧vs=[v]∧us=[u]∧φ16 a v∧φ16 c u:=by
   intro q l m b vs us hl he hv hu
   have hm:=φ43 he
   match l,m,hl,hm,hv,hu with
   | [a],[c],hl,_,⟨v,vs',e1,p1,q1⟩,⟨u,us',e2,p2,q2⟩=>
    have q1:vs'=[]:=q1
    have q2:us'=[]:=q2
    subst q1;subst q2
    exact ⟨a,c,v,u,by simpa [φ1W] using hl,by simpa [φI] using he,e1,e2,p1,p2⟩
  split at h<;>try (simp at h;done)
  ·rename_i k hu
   simp only[Option.some.injEq] at h
   subst h
   refine ⟨false,by rw[hu];rfl,fun _=>rfl,fun d' hd w l m b vs us hl he hv hu2=>?_⟩
   obtain ⟨d'',rfl⟩:∃d'',d'=d''+1:=⟨d' - 1,by omega⟩
   obtain ⟨a,c,v,u,h0,h1,rfl,rfl,p1,p2⟩:=one 0 l m b vs us hl he hv hu2
   show (Op.equalIn (d''+1) t v u).run P w=_
   cases a<;>simp[φ3G] at h0
   cases c<;>simp only[φI.eqSc,reduceCtorEq] at h1
   rename_i k1 n1 k2 n2
   cases hk:kEq k1 k2 with
   | false=>rw[hk] at h1;simp at h1
   | true=>
    rw[hk] at h1
    simp only[cT,Option.some.injEq] at h1
    rw[show v=.int k1 n1 from p1,show u=.int k2 n2 from p2,←φ1e hk,run_equalIn_int w d'' t k1 k n1 n2 hu,h1]
  ·rename_i hu
   simp only[Option.some.injEq] at h
   subst h
   refine ⟨false,by rw[hu];rfl,fun _=>rfl,fun d' hd w l m b vs us hl he hv hu2=>?_⟩
   obtain ⟨d'',rfl⟩:∃d'',d'=d''+1:=⟨d' - 1,by omega⟩
   obtain ⟨a,c,v,u,h0,h1,rfl,rfl,p1,p2⟩:=one 1 l m b vs us hl he hv hu2
   show (Op.equalIn (d''+1) t v u).run P w=_
   cases a<;>simp[φ3G] at h0
   cases c<;>simp only[φI.eqSc,reduceCtorEq,Option.some.injEq] at h1
   rename_i n1 n2
   rw[show v=.bool n1 from p1,show u=.bool n2 from p2,run_equalIn_bool' w d'' t n1 n2 hu,h1]
  ·rename_i hu
   simp only[Option.some.injEq] at h
   subst h
   refine ⟨false,by rw[hu];rfl,fun _=>rfl,fun d' hd w l m b vs us hl he hv hu2=>?_⟩
   obtain ⟨d'',rfl⟩:∃d'',d'=d''+1:=⟨d' - 1,by omega⟩
   obtain ⟨a,c,v,u,h0,h1,rfl,rfl,p1,p2⟩:=one 2 l m b vs us hl he hv hu2
   show (Op.equalIn (d''+1) t v u).run P w=_
   cases a<;>simp[φ3G] at h0
   cases c<;>simp only[φI.eqSc,reduceCtorEq,Option.some.injEq] at h1
   rename_i n1 n2
   rw[show v=.string ⟨n1.toArray⟩ from p1,show u=.string ⟨n2.toArray⟩ from p2,run_equalIn_string w d'' t _ _ hu,ByteArray.toList_eq,ByteArray.toList_eq,←h1]
  ·rename_i fs hu
   cases hs:P.stoodInHeld t with
   | true=>rw[hs] at h;simp at h
   | false=>
    rw[hs] at h
    simp only[cF] at h
    refine ⟨true,by rw[hu];rfl,fun h=>by simp at h,fun d' hd w l m b vs us hl he hv hu2=>?_⟩
    obtain ⟨d'',rfl⟩:∃d'',d'=d''+1:=⟨d' - 1,by omega⟩
    have:=φ7U (P:=P) (d:=d) (fun t n h=>φ6X d t n h) fs.toList 0 n h d'' (by omega) w l m b [] vs [] us rfl rfl hl he hv hu2
    have hf:P.fieldsOf t=fs:=by unfold Program.fieldsOf;rw[hu]
    show (Op.equalIn (d''+1) t (.agg vs.toArray) (.agg us.toArray)).run P w=_
    rw[run_equalIn_agg w d'' t _ _ (by rw[hf];exact hu) hs,hf]
    exact this
def φ4v (P:Program) (T:Tab) (t:Nat) (td:TD):Bool:=
 φ4k P t td.ty.size td.bytes (φc td.ty) && (φ59 P T t td && (td.ty.plain || (match td.ty with | .box _ _=>true | _=>false))) &&
 (match P.underlying t with
  | some (.struct fs)=>td.agg && Nat.beq fs.size td.flds.length && φ34 P fs.toList td.flds
  | some d=>!td.agg && !aggD d && (match td.flds with | []=>true | _=>false)
  | none=>false) &&
 (!td.eq || (td.agg && !P.eqGuardType P.depth t && (match eqT P 20 t with | some ks=>φ2A ks (φ3N td.ty) | none=>false)))
def φ4f (P:Program) (T:Tab):Tab→Bool
 | []=>true
 | (t,td)::r=>φ4v P T t td && φ4f P T r
theorem φA7 {P:Program} {T:Tab} {t:Nat} {td:TD} (h:φ4v P T t td=true):TypeOk P T t td:=by
 unfold φ4v at h
 simp only[bA] at h
 obtain ⟨⟨⟨h1,h2⟩,h3⟩,h4⟩:=h
 have hpl:td.ty.plain=true∨∃g t,td.ty=.box g t:=by
  have h22:=h2.2
  simp only[Bool.or_eq_true] at h22
  rcases h22 with k | k
  ·exact .inl k
  ·split at k
   ·rename_i g t e;exact .inr ⟨g,t,e⟩
   ·simp at k
 refine ⟨φ8G h1,?_,hpl,?_,φAo h2.1,?_⟩
 ·intro ha
  split at h3
  ·rename_i fs hu
   simp only[bA] at h3
   have hs:=κ0 h3.1.2
   obtain ⟨k1,k2⟩:=φ6t h3.2
   refine ⟨fs,hu,hs,fun j o n g hj=>?_⟩
   obtain ⟨fd,e1,e2⟩:=k2 j o n g hj
   exact ⟨fd,by rw[←Array.getElem?_toList];exact e1,e2⟩
  ·rw[ha] at h3;simp at h3
  ·simp at h3
 ·intro ha
  split at h3
  ·rw[ha] at h3;simp at h3
  ·rename_i d hn hu
   simp only[bA,Bool.not_eq_true'] at h3
   refine ⟨by rw[hu];simp[h3.1.2],?_⟩
   have h5:=h3.2
   split at h5
   ·assumption
   ·simp at h5
  ·simp at h3
 ·intro he
  rw[he] at h4
  simp only[nZ,Bool.false_or,bA,Bool.not_eq_true'] at h4
  refine ⟨h4.1.2,?_⟩
  have ha:=h4.1.1
  have h5:=h4.2
  split at h5
  ·rename_i ks hk
   have:=φ5i h5
   subst this
   obtain ⟨g,e1,e2,e3⟩:=φ6X 20 t _ hk
   intro w xs ys l m b hl hc hx hy
   have hl:=φ5i hl
   have r:=e3 10000 (by decide) w l m b xs.toList ys.toList hl hc hx hy
   have hg:g=true:=by
    split at h3
    ·rename_i fs hu;rw[hu] at e1;simpa [aggD] using e1.symm
    ·rw[ha] at h3;simp at h3
    ·simp at h3
   subst hg
   simpa [mkV] using r
  ·simp at h5
theorem φ7l {P:Program} {T:Tab}:∀{R:Tab},φ4f P T R=true→∀t td,lkp R t=some td→TypeOk P T t td
 | [],_,_,_,h=>by simp[lkp] at h
 | (t,td)::r,hc,t',td',h=>by
  simp only[φ4f,bA] at hc
  unfold lkp at h
  cases he:nEq t t' with
  | true=>
   rw[he] at h
   simp only[cT,Option.some.injEq] at h
   rw[←κ0 he,←h]
   exact φA7 hc.1
  | false=>
   rw[he] at h
   exact φ7l hc.2 t' td' h
theorem tabOk {P:Program} {T:Tab} (h:φ4f P T T=true):φM P T:=φ7l h
end Go.Rf
namespace Go.Rf
open Go.RowKit
def wfD:(t:Ty)→t.den→Prop
 | .int k,n=>k.min≤(show Int from n)∧(show Int from n)≤k.max
 | .bool,_=>True
 | .str,s=>List.length (α:=UInt8) s≤reachBytes
 | .sl _ t,xs=>List.length (α:=t.den) xs≤reachBytes∧∀x,List.Mem (α:=t.den) x xs→wfD t x
 | .pair a b,x=>wfD a x.1∧wfD b x.2
 | .box _ t,x=>wfD t x
def chkF (P:Program) (g:Ty→TypeId→Bool):List Field→Ty→Nat→Bool
 | [],_,_=>false
 | [f],T,o=>g T f.type && Nat.beq f.offset o && Nat.beq (P.cellsOf f.type) T.size
 | f::h::r,T,o=>match T with
  | .pair a b=>g a f.type && Nat.beq f.offset o && Nat.beq (P.cellsOf f.type) a.size && chkF P g (h::r) b (o+a.size)
  | _=>false
def φ1s (P:Program):Nat→Ty→TypeId→Bool
 | 0,_,_=>false
 | n+1,T,t=>match T,P.underlying t with
  | .int k,some (.int k')=>kEq k k'
  | .bool,some .bool=>true
  | .str,some .string=>true
  | .sl _ e,some (.slice el)=>Nat.beq (P.cellsOf el) e.size && Nat.ble 1 (P.bytesOf el) && φ1s P n e el
  | .pair a b,some (.struct fs)=>chkF P (φ1s P n) fs.toList (.pair a b) 0 && Nat.beq (P.cellsOf t) (Ty.pair a b).size
  | _,_=>false
section
variable {H:Type} {enc:TypeId×Value→H} {P:Program} {w:World}
theorem φ73 {α:Type} {R:Nat→α→Prop}:∀(n:Nat),(∀i,i<n→∃d,R i d)→∃xs:List α,xs.length=n∧∀(i:Nat) (d:α),xs[i]?=some d→R i d
 | 0,_=>⟨[],rfl,by simp⟩
 | n+1,h=>by
  obtain ⟨xs,h1,h2⟩:=φ73 n fun i hi=>h i (by omega)
  obtain ⟨d,hd⟩:=h n (by omega)
  refine ⟨xs++[d],by simp[h1],fun i e he=>?_⟩
  rcases κ1 i xs.length with k | k
  ·rw[List.getElem?_append_left k] at he;exact h2 i e he
  ·rw[List.getElem?_append_right k] at he
   have:i=n:=by
    rcases Nat.eq_zero_or_pos (i - xs.length) with z | z
    ·omega
    ·rw[List.getElem?_eq_none (by simp;omega)] at he;simp at he
   subst this
   rw[h1,Nat.sub_self] at he
   simp only[List.getElem?_cons_zero,Option.some.injEq] at he
   rw[←he];exact hd
theorem φ8M {α:Type} {R:α→List Value→Prop} (L:List Value) (c:Nat):∀(xs:List α) (off:Nat),(∀(i:Nat) (x:α),xs[i]?=some x→R x ((L.drop (off+i * c)).take c))→Ch R xs ((L.drop off).take (xs.length * c))
 | [],off,_=>by show _=_;simp
 | x::xs,off,h=>by
  have h0:=h 0 x rfl
  have ih:=φ8M L c xs (off+c) fun i y hy=>by
   have:=h (i+1) y (by simpa using hy)
   rw[show off+c+i * c=off+(i+1) * c by rw[Nat.add_mul];omega];exact this
  refine ⟨(L.drop off).take c,(L.drop (off+c)).take (xs.length * c),?_,by simpa using h0,ih⟩
  rw[lC,Nat.add_mul,Nat.one_mul,Nat.add_comm (xs.length * c) c,List.take_add,List.drop_drop]
theorem φ7T {a:Addr} {n:Nat} {cs:List Value} (h:w.cells? 0 a n=some cs):cs.length=n∧∀j,j<n→w.cell? (a.add j)=cs[j]?:=by
 unfold World.cells? at h
 rw[if_pos (κB _)] at h
 exact ⟨by simpa using mapM_some_length h,fun j hj=>mapM_some_get h j j (by simp[hj])⟩
theorem φ6G (a:Addr) (i j:Nat):(a.add i).add j=a.add (i+j):=by
 unfold Addr.add
 by_cases hi:i=0
 ·subst hi;simp
 ·by_cases hj:j=0
  ·subst hj;simp
  ·simp[hi,hj,Nat.add_assoc]
theorem φB8 {a:Addr} {n:Nat} {v:Nat→Option Value} (hn:0<n) (h:∀j,j<n→w.cell? (a.add j)=v j) (hv:∀j,j<n→(v j).isSome=true) :
  a.spot=none∧a.block<w.heap.size∧∃C e fr,w.heap[a.block]?=some (.cells C e fr)∧a.off+n≤C.size∧∀j,j<n→C[a.off+j]?=v j:=by
 have h0:=h 0 hn
 have hv0:=hv 0 hn
 have a0:a.add 0=a:=by simp[Addr.add]
 rw[a0] at h0
 unfold World.cell? at h0
 split at h0
 ·rename_i C e fr hh
  have hs:a.spot=none:=by
   cases hsp:a.spot with
   | none=>rfl
   | some x=>rw[hsp] at h0;simp at h0;rw[←h0] at hv0;simp at hv0
  have hall:∀j,j<n→C[a.off+j]?=v j:=fun j hj=>by
   have:=h j hj
   have e1:a.add j=⟨a.block,a.off+j,none⟩:=by
    obtain ⟨b,o,sp⟩:=a
    simp only at hs
    subst hs
    exact φ24 b o j
   rw[e1] at this
   unfold World.cell? at this
   rw[hh] at this
   simpa using this
  refine ⟨hs,?_,C,e,fr,hh,?_,hall⟩
  ·rcases κ1 a.block w.heap.size with k | k
   ·exact k
   ·rw[Array.getElem?_eq_none k] at hh;simp at hh
  ·have:=hall (n - 1) (by omega)
   have hz:=hv (n - 1) (by omega)
   rw[←this] at hz
   have hlt:a.off+(n - 1)<C.size:=by
    rcases κ1 (a.off+(n - 1)) C.size with k | k
    ·exact k
    ·rw[Array.getElem?_eq_none k] at hz;simp at hz
   omega
 ·rw[←h0] at hv0;simp at hv0
def φ61 (P:Program) (t:TypeId) (d:DataW H):Prop:=∀n∈d.weights P t,n≤reachBytes
theorem φ6a {e:TypeId}:∀{ds:List (DataW H)} {d:DataW H} {n:Nat},d∈ds→n∈d.weights P e→n∈DataW.weightsAll P e ds
 | x::ds,d,n,hd,hn=>by
  simp only[DataW.weightsAll,mA]
  rcases mc.1 hd with k | k
  ·subst k;exact .inl hn
  ·exact .inr (φ6a k hn)
def φ6S (P:Program) (w:World) (enc:TypeId×Value→H) (T:Ty) (t:TypeId):Prop:=
 ∀(fuel:Nat) (cs:List Value) (x:DataW H×List MemPlace),DataW.trod enc P w 0 (fun _=>true) true fuel t cs=some x→φ61 P t x.1→∃d,Rd w (fun b=>b<w.heap.size) T d cs∧wfD T d
theorem φ6z {g:Ty→TypeId→Bool} (hg:∀T t,g T t=true→φ6S P w enc T t) {m:Nat} {cs:List Value}:∀(fs:List Field) (T:Ty) (o:Nat) (xs:List (DataW H×List MemPlace)),chkF P g fs T o=true →
  (∀(i:Nat) (f:Field),fs[i]?=some f→DataW.trod enc P w 0 (fun _=>true) true m f.type ((cs.drop f.offset).take (P.cellsOf f.type))=xs[i]?)→xs.length=fs.length →
  (∀n∈DataW.weightsEach P (fs.map (·.type)) (xs.map (·.1)),n≤reachBytes)→∃d,Rd w (fun b=>b<w.heap.size) T d ((cs.drop o).take T.size)∧wfD T d
 | [],_,_,_,h,_,_,_=>by simp[chkF] at h
 | [f],T,o,xs,h,hx,hl,hw=>by
  simp only[chkF,bA] at h
  obtain ⟨⟨h1,h2⟩,h3⟩:=h
  have h2:=κ0 h2
  have h3:=κ0 h3
  obtain ⟨x,rfl⟩:∃x,xs=[x]:=by
   match xs,hl with
   | [x],_=>exact ⟨x,rfl⟩
  have:=hx 0 f rfl
  rw[h2,h3] at this
  exact hg T f.type h1 m _ x this fun n hn=>hw n (by simpa [DataW.weightsEach] using hn)
 | f::f2::r,T,o,xs,h,hx,hl,hw=>by
  simp only[chkF] at h
  split at h<;>try (simp at h;done)
  rename_i a b
  simp only[bA] at h
  obtain ⟨⟨⟨h1,h2⟩,h3⟩,h4⟩:=h
  have h2:=κ0 h2
  have h3:=κ0 h3
  obtain ⟨x,xs,rfl⟩:∃x xs',xs=x::xs':=by
   match xs,hl with
   | x::xs,_=>exact ⟨x,xs,rfl⟩
  have:=hx 0 f rfl
  rw[h2,h3] at this
  obtain ⟨d1,r1,w1⟩:=hg a f.type h1 m _ x this fun n hn=>hw n (by simp only[κC,DataW.weightsEach,mA];exact .inl hn)
  obtain ⟨d2,r2,w2⟩:=φ6z hg (f2::r) b (o+a.size) xs h4 (fun i f' hf=>by have:=hx (i+1) f' (by simpa using hf);simpa using this) (by simpa using hl)
   (fun n hn=>hw n (by simp only[κC,DataW.weightsEach,mA] at hn ⊢;exact .inr hn))
  exact ⟨(d1,d2),⟨_,_,by show List.take (a.size+b.size) _=_;rw[List.take_add,List.drop_drop],r1,r2⟩,w1,w2⟩
theorem φ52:∀(n:Nat) (T:Ty) (t:TypeId),φ1s P n T t=true→φ6S P w enc T t
 | 0,_,_,h=>by simp[φ1s] at h
 | n+1,T,t,h=>by
  intro fuel cs x hx hl
  unfold φ1s at h
  split at h
  ·rename_i k k' hu
   have:=φ1e h
   subst this
   obtain ⟨z,e,e2,hw⟩:=DataW.trod_int hu hx
   simp only[Lit.wf,bA,decide_eq_true_eq] at hw
   exact ⟨z,e,hw⟩
  ·rename_i hu
   obtain ⟨z,e,_⟩:=DataW.trod_bool hu hx
   exact ⟨z,e,trivial⟩
  ·rename_i hu
   obtain ⟨z,e,e2,_⟩:=DataW.trod_string hu hx
   refine ⟨z.data.toList,e,?_⟩
   rw[e2] at hl
   exact hl _ (by simp[DataW.weights])
  ·rename_i m el elT hu
   simp only[bA] at h
   obtain ⟨⟨h1,h2⟩,h3⟩:=h
   have h1:=κ0 h1
   have h2:=κA h2
   have ih:=φ52 n el elT h3
   rcases DataW.trod_slice hu hx with ⟨e,_⟩ | ⟨a,len,cap,φ1b,rest,fu,_,e,e2,_,hlc,hcm,hel,hread,_⟩
   ·exact ⟨([]:List el.den),⟨none,0,e,κD _,.inl rfl⟩,κB _,fun _ hd=>by cases hd⟩
   ·rw[e2] at hl
    have hwl:(φ1b.length+rest.length) * P.bytesOf elT≤reachBytes:=hl _ (by simp[DataW.weights,hu])
    have hlen:φ1b.length≤reachBytes:=by
     have:φ1b.length+rest.length≤(φ1b.length+rest.length) * P.bytesOf elT:=Nat.le_mul_of_pos_right _ h2
     omega
    have hpos:=el.pos
    have each:∀i,i<len→∃(cs':List Value) (y:DataW H×List MemPlace),w.cells? 0 (a.add (i * el.size)) el.size=some cs'∧DataW.trod enc P w 0 (fun _=>true) true fu elT cs'=some y∧φ1b[i]?=some y:=fun i hi=>by
     have:=hread i hi
     rw[h1] at this
     have hlt:i<φ1b.length:=by omega
     rw[List.getElem?_eq_getElem hlt] at this
     obtain ⟨cs',q1,q2⟩:=Option.bind_eq_some_iff.1 this
     exact ⟨cs',_,q1,q2,List.getElem?_eq_getElem hlt⟩
    rcases Nat.eq_zero_or_pos len with hz | hz
    ·subst hz
     exact ⟨([]:List el.den),⟨some a,cap,e,κB _,.inl rfl⟩,κB _,fun _ hd=>by cases hd⟩
    ·let v:Nat→Option Value:=fun j=>w.cell? (a.add j)
     have hv:∀j,j<len * el.size→(v j).isSome=true:=fun j hj=>by
      have hi:j / el.size<len:=Nat.div_lt_of_lt_mul (by rw[Nat.mul_comm];exact hj)
      obtain ⟨cs',y,q1,_⟩:=each _ hi
      obtain ⟨l1,l2⟩:=φ7T q1
      have hm:j % el.size<el.size:=Nat.mod_lt _ hpos
      have:=l2 _ hm
      rw[φ6G,Nat.mul_comm,Nat.div_add_mod] at this
      show (w.cell? (a.add j)).isSome=true
      rw[this,List.getElem?_eq_getElem (by omega)];rfl
     obtain ⟨k1,k2,C,ec,fr,k3,k4,k5⟩:=φB8 (n:=len * el.size) (v:=v) (Nat.mul_pos hz hpos) (fun j _=>rfl) hv
     have chunk:∀i,i<len→∃d,Rd w (fun b=>b<w.heap.size) el d ((C.toList.drop (a.off+i * el.size)).take el.size)∧wfD el d:=fun i hi=>by
      obtain ⟨cs',y,q1,q2,q3⟩:=each i hi
      obtain ⟨l1,l2⟩:=φ7T q1
      have hcs:cs'=(C.toList.drop (a.off+i * el.size)).take el.size:=by
       have hb:i * el.size+el.size≤len * el.size:=by rw[←Nat.succ_mul];exact Nat.mul_le_mul_right _ hi
       apply List.ext_getElem?
       intro j
       by_cases hj:j<el.size
       ·rw[←l2 j hj,φ6G,List.getElem?_take_of_lt hj,List.getElem?_drop,Array.getElem?_toList,Nat.add_assoc,k5 _ (by omega)]
       ·rw[List.getElem?_eq_none (by omega),List.getElem?_eq_none (by simp;omega)]
      rw[←hcs]
      refine ih fu cs' y q2 fun n hn=>hl n ?_
      simp only[DataW.weights,hu,mc,mA]
      exact .inr (.inl (φ6a (mM.2 ⟨y,List.mem_of_getElem? q3,rfl⟩) hn))
     obtain ⟨xs,x1,x2⟩:=φ73 len chunk
     refine ⟨xs,⟨some a,cap,by rw[e,x1],by rw[x1];exact hlc,.inr ⟨a,C,ec,fr,C.toList.take a.off,(C.toList.drop a.off).take (xs.length * el.size),C.toList.drop (a.off+xs.length * el.size),rfl,k1,k2,k3,?_,?_,?_⟩⟩,by rw[x1];omega,?_⟩
     ·rw[←List.drop_drop,κ7,κ7]
     ·rw[lT,κG];omega
     ·exact φ8M _ _ xs a.off fun i d hd=>(x2 i d hd).1
     ·intro d hd
      obtain ⟨i,hi⟩:=List.getElem?_of_mem hd
      exact (x2 i d hi).2
  ·rename_i a b fs hu
   simp only[bA] at h
   obtain ⟨h1,h2⟩:=h
   have h2:=κ0 h2
   obtain ⟨xs,m,_,e,hlen,hxl,hf⟩:=DataW.trod_struct hu hx
   rw[e] at hl
   obtain ⟨d,hd,hw⟩:=φ6z (fun T t h=>φ52 n T t h) (m:=m) (cs:=cs) fs.toList (.pair a b) 0 xs h1 (fun i f hf2=>hf i f (by simpa using hf2)) (by simpa using hxl)
    (fun k hk=>hl k (by simpa [DataW.weights,hu] using hk))
   refine ⟨d,?_,hw⟩
   rw[List.drop_zero,←h2,←hlen,List.take_length] at hd
   exact hd
  ·simp at h
end
section
variable {P:Program}
def φ30:List PK→Bool
 | []=>true
 | .val t::r=>!t.owns && φ30 r
 | _=>false
theorem φC9 {w:World} {S:Nat→Prop}:∀(ps:List PK),φ30 ps=true→∀(vs:List Value) (x:Tys (ps.map PK.ty)) fp tp,φd w S ps vs x fp tp→fp=[]∧tp=[]
 | [],_,_,_,_,_,⟨_,h1,h2⟩=>⟨h1,h2⟩
 | p::ps,h,_,x,_,_,⟨v,vs',f1,f2,t1,t2,e1,e2,e3,h1,h2⟩=>by
  cases p with
  | val t=>
   simp only[φ30,bA,Bool.not_eq_true'] at h
   obtain ⟨_,q,ht⟩:=h1
   obtain ⟨rfl,rfl⟩:=φC9 ps h.2 vs' _ _ _ h2
   have:=φ3O t h.1 _ _ _ q
   subst this
   rw[φ3J t h.1] at ht
   subst ht
   exact ⟨e2,e3⟩
  | io t=>simp[φ30] at h
  | ptr t=>simp[φ30] at h
theorem φ90 [Laid] {g:Nat} {fn:Func} {body:Code} {c:Ctr} (hc:φ0 P g c) (hf:P.funcs[g]?=some fn) (hn:(fn.name == "runtime.NumGoroutine")=false) (hb:fn.body=some body)
  (ps:List PK) (hs:c.g=⟨ps,[.val .bool],false⟩) (hl:φ30 ps=true) (w:World) (args:List Value) (x:Tys c.g.ins) (y:Tys c.g.outs) (hargs:φd w (fun b=>b<w.heap.size) c.g.ps args x [] []) (hL:Laid.L w) (hy:c.fn x=some y)
  (htrue:∀(w':World) (S':Nat→Prop) us f1 t1,φX w' S' c.g.rs us (φ1M (c.g.rs.map RK.ty) (ioOf c.g.ps) y).1 f1 t1→us=[.bool true]) :
  Calls P g args.toArray w fun e w'=>e=.returned (.bool true)∧Below w.heap.size w w':=by
 have h:=hc w args x (fun b=>b<w.heap.size) [] [] y (fun _ h=>h) hargs List.nodup_nil (by simp) hL (by simp) hy
  {dst:=some 0,op:=.move (.const .nilIface),type:=0,pos := "",after:=#[],guard:=none } ⟨#[undef],[]⟩ (fun a' w'=>a'.tmps.getD 0 undef=.bool true∧Below w.heap.size w w') (fun _ _ _=>False)
  (fun us w' S' f1 f2 t1 t2 hr _ post=>?_)
 ·have hcall:(callFunc g args.toArray).run P w=.ok (.enter g args.toArray) w:=by
   have hne:¬fn.name = "runtime.NumGoroutine" := by simpa using hn
   unfold callFunc
   simp[run_program,hf,hne,hb]
  rw[hcall,Oper.upon_enter] at h
  refine h.mono fun e w' he=>?_
  cases e with
  | returned v=>
   have he:((⟨#[undef],[]⟩:Act).put (some 0) v).tmps.getD 0 undef=.bool true∧Below w.heap.size w w':=he
   obtain ⟨h1,h2⟩:=he
   refine ⟨?_,h2⟩
   have:v=.bool true:=by simpa [Act.put] using h1
   rw[this]
  | panicked ch=>exact he.elim
  | outgrown=>exact absurd he (by simp[LetsOut])
 ·have:=htrue w' S' us f1 t1 hr
  subst this
  exact ⟨by simp[Act.put,resV],post.os,post.tape,post.output,post.size,fun k hk=>post.old k hk (by simp) (fun _=>by simp)⟩
end
end Go.Rf
namespace Go.Rf
open Go.RowKit Go.WideShapes
section
variable {P:Program}
theorem φ1.nil [Laid]:φ1 P []:=fun g cs h=>by simp[lkp] at h
theorem φ1.cons [Laid] {g:Nat} {cs:List Ctr} {E:Env} (h:∀c∈cs,φ0 P g c) (hE:φ1 P E):φ1 P ((g,cs)::E):=fun g' cs' hl=>by
 unfold lkp at hl
 cases he:nEq g g' with
 | true=>
  rw[he] at hl
  simp only[cT,Option.some.injEq] at hl
  rw[←(φ7 _ _).1 he,←hl]
  exact h
 | false=>
  rw[he] at hl
  exact hE g' cs' hl
theorem φ3Q [Laid] {g:Nat}:∀c∈([]:List Ctr),φ0 P g c:=by simp
theorem φ8f [Laid] {g:Nat} {c:Ctr} {cs:List Ctr} (h:φ0 P g c) (hs:∀c∈cs,φ0 P g c):∀d∈c::cs,φ0 P g d:=fun d hd=>by
 rcases mc.1 hd with k | k
 ·rw[k];exact h
 ·exact hs d k
variable {H:Type} {enc:TypeId×Value→H} {W:World}
theorem φAi {n:Nat} {T:Ty} {t:TypeId} {r:Reach} {base:Nat} {v:Value} (h:φ1s P n T t=true) (hv:Value.okWide P W r base t v):Form T v:=by
 unfold Form
 cases n with
 | zero=>simp[φ1s] at h
 | succ n=>
  unfold φ1s at h
  split at h
  ·rename_i hu;obtain ⟨z,rfl⟩:=okWide_int hu hv;rfl
  ·rename_i hu;obtain ⟨z,rfl⟩:=okWide_bool hu hv;rfl
  ·rename_i hu;obtain ⟨z,rfl⟩:=okWide_string hu hv;rfl
  ·rename_i hu;obtain ⟨a,l,c,rfl⟩:=okWide_slice hu hv;rfl
  ·rename_i hu;obtain ⟨cs,rfl,_⟩:=okWide_struct hu hv;exact ⟨cs,rfl⟩
  ·simp at h
theorem φ8Z {n:Nat} {T:Ty} {t:TypeId} {r:Reach} {base:Nat} {v:Value} {d:DataW H} {p:List MemPlace} (h:φ1s P n T t=true) (ho:T.owns=false) (hv:Value.okWide P W r base t v)
  (hd:DataW.Trod enc P W 0 (fun _=>true) true t v d p) (hl:φ61 P t d):∃x,φV W (fun b=>b<W.heap.size) (.val T) x v [] []∧wfD T x:=by
 obtain ⟨fuel,hf⟩:=hd
 obtain ⟨x,h1,h2⟩:=φ52 n T t h fuel _ _ hf hl
 exact ⟨x,⟨φAi h hv,φ3b T ho x _ h1,(φ3J T ho _).symm⟩,h2⟩
theorem φA0 {ts:List TypeId} {ds:List (DataW H)} (h:(DataW.weightsEach P ts ds).all (·≤reachBytes)=true) {j:Nat} {t:TypeId} {d:DataW H} (ht:ts[j]?=some t) (hd:ds[j]?=some d):φ61 P t d:=fun n hn=>by
 have:=List.all_eq_true.1 h n (DataW.weights_mem_each ht hd n hn)
 simpa using this
theorem φAn {S:Nat→Prop}:φd W S [] [] () [] []:=⟨rfl,rfl,rfl⟩
theorem φBL {S:Nat→Prop} {T:Ty} {ps:List PK} {v:Value} {vs:List Value} {x:T.den} {xs:Tys (ps.map PK.ty)} (h:φV W S (.val T) x v [] []) (hs:φd W S ps vs xs [] []) :
  φd W S (.val T::ps) (v::vs) (φR T (ps.map PK.ty) x xs) [] []:=by
 refine ⟨v,vs,[],[],[],[],rfl,rfl,rfl,?_,?_⟩
 ·show φV W S (.val T) (φ5 T (ps.map PK.ty) (φR T (ps.map PK.ty) x xs)) v [] []
  rw[φ1Q];exact h
 ·show φd W S ps vs (φE T (ps.map PK.ty) (φR T (ps.map PK.ty) x xs)) [] []
  rw[φ1V];exact hs
theorem φAl {S:Nat→Prop} {us:List Value} {x:Bool} {f1 t1:List Nat} (h:φX W S [.val .bool] us x f1 t1):us=[.bool x]:=by
 obtain ⟨v,vs',f1,f2,t1,t2,e1,e2,e3,⟨hF,⟨h1,_⟩,_⟩,h2,_⟩:=h
 subst e1;subst h2
 have hF:v.oneCell'=true:=hF
 have h1:v.cells.toList=[.bool x]:=h1
 rw[cells_one hF] at h1
 simp at h1
 rw[h1]
theorem φBv {t:TypeId} {v:Value} {d:DataW H} {p:List MemPlace} (hd:DataW.Trod enc P W 0 (fun _=>true) true t v d p):∀x∈p,x.block<W.heap.size:=by
 obtain ⟨m,hm⟩:=hd;exact DataW.trod_lt m _ _ _ hm
theorem φ9c {spare:Nat→Bool} {held:Bool} {base t:Nat} (hu:P.underlying t=some .bool) (b:Bool):DataW.Trod enc P W base spare held t (.bool b) (.lit (.bool b)) []:=
 ⟨1,by simp[DataW.trod,Value.cells,hu]⟩
end
end Go.Rf
namespace Go.Rf
open Go.RowKit
theorem φ5K [Laid] {P:Program} {g:Nat} {c:Ctr} {fn:Func} (hf:P.funcs[g]?=some fn) (hn:(fn.name == "runtime.NumGoroutine")=false) (hb:fn.body.isSome=true)
  (h:∀(w:World) (args:List Value) (x:Tys c.g.ins) (S:Nat→Prop) (fp tp:List Nat) (y:Tys c.g.outs),(∀b,S b→b<w.heap.size)→φd w S c.g.ps args x fp tp→Laid.L w→c.fn x=some y →
   Calls P g args.toArray w fun e w'=>∃us S' f1 f2 t1 t2,e=.returned (resV us)∧φX w' S' c.g.rs us (φ1M (c.g.rs.map RK.ty) (ioOf c.g.ps) y).1 f1 t1∧φe w' S' c.g.ps args (φ1M (c.g.rs.map RK.ty) (ioOf c.g.ps) y).2 f2 t2 ∧
    Post w S fp tp c.g.dw w' S' (f1++f2) (t1++t2)):φ0 P g c:=by
 intro w args x S fp tp y hS hargs _ _ hLw _ hy o a K Q hK
 have hcall:(callFunc g args.toArray).run P w=.ok (.enter g args.toArray) w:=by
  have hne:¬fn.name = "runtime.NumGoroutine" := by simpa using hn
  obtain ⟨body,hb⟩:=Option.isSome_iff_exists.1 hb
  unfold callFunc
  simp[run_program,hf,hne,hb]
 rw[hcall,Oper.upon_enter]
 refine (h w args x S fp tp y hS hargs hLw hy).mono fun e w' he=>?_
 obtain ⟨us,S',f1,f2,t1,t2,rfl,q1,q2,q3⟩:=he
 exact hK us w' S' f1 f2 t1 t2 q1 q2 q3
theorem φ87 {w w':World} {S:Nat→Prop} (hS:∀b,S b→b<w.heap.size) (h:Below w.heap.size w w'):Post w S [] [] false w' S [] []:=
 {nd:=List.nodup_nil
  imm:=by simp
  top:=by simp
  all:=by simp
  sub:=fun b hb=>.inl hb
  bnd:=fun b hb=>κ2 (hS b hb) h.size
  old:=fun b hb _ _=>h.block b hb
  size:=h.size
  os:=h.os
  tape:=h.tape
  output:=h.output }
abbrev φCI:Laid:=⟨fun _=>True,fun _=>False,fun _ _ _ h=>h,fun _ _ _ h=>h.elim⟩
abbrev φ95 (P:Program) (name:String) (k:IntKind) (zs:List Int):Laid where
 L w:=Lib.TabIs P w name k zs
 lb b:=P.globalNamed name=some b
 keep w w' h hL:=by
  unfold Lib.TabIs World.var? at *
  cases hg:P.globalNamed name with
  | none=>rw[hg] at hL;simp at hL
  | some g=>rw[hg] at hL;simp only[bS] at hL ⊢;rw[h g hg];exact hL
 bnd w b hL hb:=by
  unfold Lib.TabIs World.var? at hL
  rw[hb] at hL
  simp only[bS] at hL
  rcases κ1 b w.heap.size with h | h
  ·exact h
  ·rw[Array.getElem?_eq_none h] at hL;simp at hL
namespace G
noncomputable def strconv_Itoa.f (n:Int):Option (List UInt8):=bif decide (-9223372036854775808≤n) && decide (n≤9223372036854775807) then some (Lib.itoa n) else none
end G
def φC8:Sig:=⟨[.val (.int .i64)],[.val .str],false⟩
noncomputable def φ7m:Ctr:=⟨φC8,fun x=>G.strconv_Itoa.f x⟩
theorem φC4 [Laid] {P:Program} {g:Nat} {fn:Func} (hf:P.funcs[g]?=some fn) (hn:(fn.name == "runtime.NumGoroutine")=false) (hb:fn.body.isSome=true)
  (h:∀n:Int,-9223372036854775808≤n→n≤9223372036854775807→∀w,Laid.L w→Calls P g #[.int .i64 n] w fun e w'=>e=.returned (.string ⟨(Lib.itoa n).toArray⟩)∧Below w.heap.size w w'):φ0 P g φ7m:=by
 refine φ5K hf hn hb fun w args x0 S fp tp y hS hargs hL hy=>?_
 obtain ⟨x,hx⟩:∃x:Int,x=x0:=⟨x0,rfl⟩
 obtain ⟨v,vs',f1,f2,t1,t2,rfl,rfl,rfl,⟨hF,⟨hv,rfl⟩,rfl⟩,rfl,rfl,rfl⟩:=hargs
 have hF:v.oneCell'=true:=hF
 have hc:=Go.Rf.cells_one hF
 have hv:v.cells.toList=[.int .i64 x]:=by rw[hx];exact hv
 rw[hc] at hv
 have hv:v=.int .i64 x:=by simpa using hv
 subst hv
 have hy:G.strconv_Itoa.f x=some y:=by rw[hx];exact hy
 unfold G.strconv_Itoa.f at hy
 cases hr:(decide (-9223372036854775808≤x) && decide (x≤9223372036854775807)) with
 | false=>rw[hr] at hy;simp at hy
 | true=>
  rw[hr] at hy
  rw[cT] at hy
  cases hy
  simp only[bA,decide_eq_true_eq] at hr
  refine (h x hr.1 hr.2 w hL).mono fun e w' ⟨he,hB⟩=>?_
  refine ⟨[.string ⟨(Lib.itoa x).toArray⟩],S,[],[],[],[],he,?_,?_,φ87 hS hB⟩
  ·exact ⟨_,[],[],[],[],[],rfl,rfl,rfl,⟨rfl,⟨rfl,rfl⟩,rfl⟩,rfl,rfl,rfl⟩
  ·exact ⟨_,[],rfl,rfl,rfl,rfl⟩
end Go.Rf
namespace Go.Rf
open Go.RowKit
abbrev φCU (g:Nat):Laid where
 L w:=∃m,w.cell? ⟨g,0,none⟩=some (.int .i64 m)
 lb b:=b=g
 keep w w' h hL:=by
  obtain ⟨m,hm⟩:=hL
  refine ⟨m,?_⟩
  unfold World.cell? at hm ⊢
  rw[h g rfl]
  exact hm
 bnd w b hL hb:=by
  obtain ⟨m,hm⟩:=hL
  subst hb
  exact World.block_lt_of_cell? _ _ hm
namespace G
noncomputable def strings_Split.f (s sep:List UInt8):Option (List (List UInt8)):=
 bif decide (1≤sep.length) && decide (s.length<4294967281) then some ((Lib.splitB ⟨sep.toArray⟩ 0 (Lib.countB ⟨s.toArray⟩ ⟨sep.toArray⟩) ⟨s.toArray⟩).map fun b=>b.data.toList) else none
end G
def φAS:Sig:=⟨[.val .str,.val .str],[.val (.sl true .str)],false⟩
noncomputable def φAq:Ctr:=⟨φAS,fun x=>G.strings_Split.f x.1 x.2⟩
theorem φ3P (b:ByteArray):(⟨b.data.toList.toArray⟩:ByteArray)=b:=by
 cases b;simp
theorem φ7u {w:World} {I:Nat→Prop}:∀l:List ByteArray,ChO (Ow w I .str) (l.map fun b=>b.data.toList) (l.map Value.string) []
 | []=>⟨rfl,rfl⟩
 | b::l=>⟨[.string b],l.map Value.string,[],[],rfl,rfl,⟨by show [Value.string b]=[Value.string ⟨b.data.toList.toArray⟩];rw[φ3P],rfl⟩,φ7u l⟩
theorem φCS [Laid] {P:Program} {g:Nat} {fn:Func} {t9:TypeId} (hf:P.funcs[g]?=some fn) (hn:(fn.name == "runtime.NumGoroutine")=false) (hb:fn.body.isSome=true)
  (h:∀s sep:ByteArray,s.size<4294967281→1≤sep.size→∀w,Laid.L w→Calls P g #[.string s,.string sep] w fun e w'=>
   e=.returned (.slice (some ⟨w.heap.size,0,none⟩) (Lib.countB s sep+1) (Lib.countB s sep+1))∧w'=w.alloc (.cells ((Lib.splitB sep 0 (Lib.countB s sep) s).map Value.string).toArray t9)):φ0 P g φAq:=by
 refine φ5K hf hn hb fun w args x0 S fp tp y hS hargs hL hy=>?_
 obtain ⟨s,sep,hx⟩:∃s sep:List UInt8,x0=(s,sep):=⟨x0.1,x0.2,rfl⟩
 subst hx
 obtain ⟨v,vs',f1,f2,t1,t2,rfl,rfl,rfl,⟨hF,⟨hv,rfl⟩,rfl⟩,v',vs2,g1,g2,u1,u2,rfl,rfl,rfl,⟨hF',⟨hv',rfl⟩,rfl⟩,rfl,rfl,rfl⟩:=hargs
 have hF:v.oneCell'=true:=hF
 have hF':v'.oneCell'=true:=hF'
 have hv:v.cells.toList=[.string ⟨s.toArray⟩]:=hv
 have hv':v'.cells.toList=[.string ⟨sep.toArray⟩]:=hv'
 rw[Go.Rf.cells_one hF] at hv
 rw[Go.Rf.cells_one hF'] at hv'
 have hv:v=.string ⟨s.toArray⟩:=by simpa using hv
 have hv':v'=.string ⟨sep.toArray⟩:=by simpa using hv'
 subst hv;subst hv'
 have hy:G.strings_Split.f s sep=some y:=hy
 unfold G.strings_Split.f at hy
 cases hr:(decide (1≤sep.length) && decide (s.length<4294967281)) with
 | false=>rw[hr] at hy;simp at hy
 | true=>
  rw[hr] at hy
  rw[cT] at hy
  simp only[bA,decide_eq_true_eq] at hr
  have h1:1≤(⟨sep.toArray⟩:ByteArray).size:=by show 1≤sep.toArray.size;simpa using hr.1
  have h2:(⟨s.toArray⟩:ByteArray).size<4294967281:=by show s.toArray.size<_;simpa using hr.2
  have hlen:=Lib.splitB_all ⟨sep.toArray⟩ h1 0 _ ⟨s.toArray⟩ rfl
  refine (h ⟨s.toArray⟩ ⟨sep.toArray⟩ h2 h1 w hL).mono fun e w' ⟨he,hw⟩=>?_
  generalize Lib.splitB ⟨sep.toArray⟩ 0 (Lib.countB ⟨s.toArray⟩ ⟨sep.toArray⟩) ⟨s.toArray⟩=L at *
  have hy:y=L.map fun b=>b.data.toList:=(Option.some.inj hy).symm
  subst hy
  subst hw
  have hheap:(w.alloc (.cells (L.map Value.string).toArray t9)).heap[w.heap.size]?=some (.cells (L.map Value.string).toArray t9 (0,0)):=by show (w.heap.push _)[w.heap.size]?=_;simp
  have hold:∀b,b<w.heap.size→(w.alloc (.cells (L.map Value.string).toArray t9)).heap[b]?=w.heap[b]?:=fun b hb=>by show (w.heap.push _)[b]?=_;rw[Array.getElem?_push,if_neg (Nat.ne_of_lt hb)]
  have hsz:(w.alloc (.cells (L.map Value.string).toArray t9)).heap.size=w.heap.size+1:=by show (w.heap.push _).size=_;simp
  have hl2:(L.map fun b=>b.data.toList).length=Lib.countB ⟨s.toArray⟩ ⟨sep.toArray⟩+1:=by rw[lM,hlen]
  refine ⟨[.slice (some ⟨w.heap.size,0,none⟩) (Lib.countB ⟨s.toArray⟩ ⟨sep.toArray⟩+1) (Lib.countB ⟨s.toArray⟩ ⟨sep.toArray⟩+1)],S,[w.heap.size],[],[w.heap.size],[],he,?_,?_,?_⟩
  ·refine ⟨_,[],[w.heap.size],[],[w.heap.size],[],rfl,rfl,rfl,⟨rfl,?_,rfl⟩,rfl,rfl,rfl⟩
   refine .inr ⟨w.heap.size,Lib.countB ⟨s.toArray⟩ ⟨sep.toArray⟩+1,[],?_,rfl,L.map Value.string,[],t9,by rw[κ3];exact hheap,?_,?_,φ7u L⟩
   ·show [Value.slice _ _ _]=[Value.slice _ (L.map fun b=>b.data.toList).length _]
    rw[hl2]
   ·rw[κ3,lM,hlen];show _=_ * 1;omega
   ·show (L.map fun b=>b.data.toList).length≤_
    rw[hl2];exact κD _
  ·exact ⟨_,_,rfl,_,_,rfl,rfl,rfl,rfl⟩
  ·exact
   {nd:=by simp
    imm:=fun b hb k=>by
     have:b=w.heap.size:=by simpa using hb
     have:=hS b k;omega
    top:=fun b hb=>.inr (by have:b=w.heap.size:=(by simpa using hb);omega)
    all:=fun b hb=>.inr (by have:b=w.heap.size:=(by simpa using hb);omega)
    sub:=fun b hb=>.inl hb
    bnd:=fun b hb=>by rw[hsz];have:=hS b hb;omega
    old:=fun b hb _ _=>hold b hb
    size:=by rw[hsz];omega
    os:=rfl
    tape:=rfl
    output:=rfl }
section
variable {H:Type} {enc:TypeId×Value→H}
theorem φCK {a:Assume} {C:Checked} {os:Os} {f:FuncId} {fn:Func} {s:ChangeSpec} {conds:List PathCond} {φy fresh handsOn again:Bool} {X:World→Array Value→Prop}
  (hX:∀(w w':World) (args:Array Value),w.heap=w'.heap→X w args→X w' args)
  (own:ownKnob C.prog.godebug=none) (started:os.Started) (noInit:C.prog.inits.idxOf? f=none) (hfn:C.prog.funcs[f]?=some fn)
  (witness:∃(w:World) (tape:Tape) (i:Input),w.os=os∧(w.forCall tape i).Shaped C.prog∧i.vars=[]∧Input.okWide C.prog (w.forCall tape i) .any w.heap.size f i ∧
   ((s.pre enc C.prog fn conds φy (w.forCall tape i).memory i.args∧X (w.forCall tape i).memory i.args)∧sizedMet enc C.prog fn (OpenSpec.ofChange s) φy (w.forCall tape i).memory i.args)∧a.holds C.prog (lone (Frame.enter C.prog f i.args .normal) [] (w.forCall tape i)))
  (contract:∀(W:World) (base:Nat) (args:Array Value) (ds gs:List (DataW H)) (φ1m:List MemPlace),W.ShapedOpen C.prog →
   (∀(j:Nat) t v,fn.params[j]?=some t→args[j]?=some v→Value.okWide C.prog W .any base t v) →
   DataW.Whole enc C.prog fn.params.toList s.vars φy W args.toList ds gs φ1m →
   conds.all (PathCond.test C.prog ⟨fn.params.toList,ds,s.plain.varTypes C.prog,gs⟩)=true →
   (DataW.weightsEach C.prog (fn.params.toList++s.plain.varTypes C.prog) (ds++gs)).all (·≤reachBytes)=true→X W args →
   a.holds C.prog (lone (Frame.enter C.prog f args .normal) [] W) →
   Calls C.prog f args W fun e W'=>∃v,e=.returned v∧s.post enc C.prog fn φy fresh handsOn again W args v W') :
  ReturnsInHanded a C os f .any (fun w args=>(s.pre enc C.prog fn conds φy w args∧X w args)∧sizedMet enc C.prog fn (OpenSpec.ofChange s) φy w args) (s.post enc C.prog fn φy fresh handsOn again):=by
 refine returnsInHanded_of_calls own started noInit witness ?_
 intro w tape i _ hsh _ hok hpre hholds
 obtain ⟨_,_,_,fn',hfn',_,_,_,_,hval⟩:=hok
 have e:fn'=fn:=Option.some.inj (hfn'.symm.trans hfn)
 subst e
 obtain ⟨⟨⟨ds,gs,φ1m,hw,hc⟩,hx⟩,hz⟩:=hpre
 have hw':=DataW.Whole.of_heap (w':=w.forCall tape i) (by rfl) hw
 refine (contract (w.forCall tape i) w.heap.size i.args ds gs φ1m hsh hval hw' hc (hz.weights hw) (hX _ _ _ (by rfl) hx) hholds).mono fun e W' ⟨v,he,hp⟩=>?_
 subst he
 exact ChangeSpec.post_blind hp
end
end Go.Rf
namespace Go.Rf
open Go.RowKit
abbrev φCM (g h:Nat):Laid where
 L w:=(∃ev,w.cell? ⟨g,0,none⟩=some ev∧(ev=.nilIface∨∃te pe,ev=.iface te pe))∧∃ev,w.cell? ⟨h,0,none⟩=some ev∧(ev=.nilIface∨∃te pe,ev=.iface te pe)
 lb b:=b=g∨b=h
 keep w w' hk hL:=by
  obtain ⟨⟨e1,h1,k1⟩,e2,h2,k2⟩:=hL
  unfold World.cell? at *
  refine ⟨⟨e1,?_,k1⟩,e2,?_,k2⟩
  ·rw[hk g (.inl rfl)];exact h1
  ·rw[hk h (.inr rfl)];exact h2
 bnd w b hL hb:=by
  obtain ⟨⟨e1,h1,k1⟩,e2,h2,k2⟩:=hL
  rcases hb with hb | hb
  ·subst hb;exact World.block_lt_of_cell? _ _ h1
  ·subst hb;exact World.block_lt_of_cell? _ _ h2
abbrev φCT (a b:Laid):Laid where
 L w:=a.L w∧b.L w
 lb x:=a.lb x∨b.lb x
 keep w w' hk hL:=⟨a.keep w w' (fun x hx=>hk x (.inl hx)) hL.1,b.keep w w' (fun x hx=>hk x (.inr hx)) hL.2⟩
 bnd w x hL hx:=hx.elim (a.bnd w x hL.1) (b.bnd w x hL.2)
namespace G
noncomputable def strconv_Atoi.f (s:List UInt8):Option (Int×Bool):=
 bif decide (s.length≤281474976710656) then
  match Lib.atoiAll s with
  | .ok v=>some (v,false)
  | Lib.NumEnd.syntax=>some (0,true)
  | .range=>some (Lib.atoiSat s,true)
 else none
end G
def φBm:Sig:=⟨[.val .str],[.val (.int .i64),.err],false⟩
noncomputable def φ2j:Ctr:=⟨φBm,fun x=>G.strconv_Atoi.f x⟩
theorem num3 {α:Type} (r:Lib.NumEnd α):(∃v,r=.ok v)∨r=Lib.NumEnd.syntax∨r=.range:=by
 cases r
 ·exact .inl ⟨_,rfl⟩
 ·exact .inr (.inl rfl)
 ·exact .inr (.inr rfl)
theorem φCJ [Laid] {P:Program} {g:Nat} {fn:Func} {t5 tE:TypeId} (hf:P.funcs[g]?=some fn) (hn:(fn.name == "runtime.NumGoroutine")=false) (hb:fn.body.isSome=true)
  (h1:∀s:ByteArray,s.size≤9223372036854775806→∀v:Int,Lib.atoiAll s.data.toList=.ok v→∀w,Laid.L w→Calls P g #[.string s] w fun e w'=>e=.returned (.tuple #[.int .i64 v,.nilIface])∧(w'=w∨∃t,w'=Lib.bytesWorld w t5 t))
  (h2:∀s:ByteArray,s.size≤281474976710656→Lib.atoiAll s.data.toList=Lib.NumEnd.syntax→∀w,Laid.L w→Calls P g #[.string s] w fun e w'=>∃N,e=.returned (.tuple #[.int .i64 (0),.iface tE (.pointer (some ⟨N,0,none⟩))])∧Below w.heap.size w w')
  (h3:∀s:ByteArray,s.size≤281474976710656→Lib.atoiAll s.data.toList=.range→∀w,Laid.L w→Calls P g #[.string s] w fun e w'=>∃N,e=.returned (.tuple #[.int .i64 (Lib.atoiSat s.data.toList),.iface tE (.pointer (some ⟨N,0,none⟩))])∧Below w.heap.size w w'):φ0 P g φ2j:=by
 refine φ5K hf hn hb fun w args x0 S fp tp y hS hargs hL hy=>?_
 obtain ⟨x,hx⟩:∃x:List UInt8,x=x0:=⟨x0,rfl⟩
 obtain ⟨v,vs',f1,f2,t1,t2,rfl,rfl,rfl,⟨hF,⟨hv,rfl⟩,rfl⟩,rfl,rfl,rfl⟩:=hargs
 have hF:v.oneCell'=true:=hF
 have hc:=Go.Rf.cells_one hF
 have hv:v.cells.toList=[.string ⟨x.toArray⟩]:=by rw[hx];exact hv
 rw[hc] at hv
 have hv:v=.string ⟨x.toArray⟩:=by simpa using hv
 subst hv
 have hy:G.strconv_Atoi.f x=some y:=by rw[hx];exact hy
 have hd:(⟨x.toArray⟩:ByteArray).data.toList=x:=by simp
 have fin:∀(n:Int) (b:Bool) (ev:Value) (w':World),y=(n,b)→φ5L b ev→Below w.heap.size w w' →
   ∃us S' f1 f2 t1 t2,Ending.returned (.tuple #[.int .i64 n,ev])=.returned (resV us)∧φX w' S' φ2j.g.rs us (φ1M (φ2j.g.rs.map RK.ty) (ioOf φ2j.g.ps) y).1 f1 t1∧φe w' S' φ2j.g.ps [.string ⟨x.toArray⟩] (φ1M (φ2j.g.rs.map RK.ty) (ioOf φ2j.g.ps) y).2 f2 t2 ∧
    Post w S [] [] false w' S' (f1++f2) (t1++t2):=fun n b ev w' hyn he hB=>by
  subst hyn
  refine ⟨[.int .i64 n,ev],S,[],[],[],[],rfl,?_,?_,φ87 hS hB⟩
  ·exact ⟨_,_,[],[],[],[],rfl,rfl,rfl,⟨rfl,⟨rfl,rfl⟩,rfl⟩,ev,[],rfl,he,rfl,rfl,rfl⟩
  ·exact ⟨_,[],rfl,rfl,rfl,rfl⟩
 unfold G.strconv_Atoi.f at hy
 cases hr:decide (x.length≤281474976710656) with
 | false=>rw[hr] at hy;simp at hy
 | true=>
  rw[hr,cT] at hy
  have hlen:x.length≤281474976710656:=of_decide_eq_true hr
  have hsz:(⟨x.toArray⟩:ByteArray).size=x.length:=by show x.toArray.size=_;simp
  rcases num3 (Lib.atoiAll x) with ⟨n,ha⟩ | ha | ha
  ·
   rw[ha] at hy
   refine (h1 ⟨x.toArray⟩ (by rw[hsz];omega) n (by rw[hd];exact ha) w hL).mono fun e w' ⟨he,hw⟩=>?_
   subst he
   refine fin n false .nilIface w' (Option.some.inj hy).symm rfl ?_
   rcases hw with rfl | ⟨t,rfl⟩
   ·exact Below.refl _ _
   ·exact Lib.bytesWorld_below _ _ _
  ·
   rw[ha] at hy
   refine (h2 ⟨x.toArray⟩ (by rw[hsz];omega) (by rw[hd];exact ha) w hL).mono fun e w' ⟨N,he,hB⟩=>?_
   subst he
   exact fin 0 true _ w' (Option.some.inj hy).symm ⟨_,_,rfl⟩ hB
  ·
   rw[ha] at hy
   refine (h3 ⟨x.toArray⟩ (by rw[hsz];omega) (by rw[hd];exact ha) w hL).mono fun e w' ⟨N,he,hB⟩=>?_
   subst he
   rw[hd]
   exact fin _ true _ w' (Option.some.inj hy).symm ⟨_,_,rfl⟩ hB
end Go.Rf
