import Derived.WalkKit
import Derived.ProofKit
import Derived.OpenShut
import Derived.ShutString
import Derived.ChangeOld
import Derived.SizedLaws
import Derived.Carry
import Derived.WideShapes
import Derived.Lib.ItoaNum
import Derived.Lib.LaidTab
import Derived.Lib.SplitLaws
import Derived.Handed
import Derived.Lib.AtoiAllCases
import Derived.Lib.AtoiAllMem
import Derived.Lib.ConvBytes
import Derived.Lib.AtoiErrMem
import Derived.Test.YtaijadchooalpaaRf4
open Option renaming bind_some→bS
open List renaming length_append→lA,append_assoc→aA,mem_cons_of_mem→mC,mem_append→mA,mem_append_right→mR,mem_append_left→mL,mem_cons→mc,drop_eq_getElem_cons→dG,length_take→lT,length_drop→lD,mem_map→mM,length_map→lM,length_cons→lC,length_nil→lN,getElem_mem→gM,map_append→mp,mem_singleton→mZ,take_succ_eq_append_getElem→κ0,nodup_append→κ2,mem_cons_self→κ3,append_nil→κ5,flatMap_append→κ8,replicate→κA,take_length→κB,nodup_cons→κC,range'→κE,cons_append→κG,map_cons→κH,take_append_drop→κJ
open Bool renaming and_eq_true→bA,eq_false_or_eq_true→bE,not_true→nZ,not_false→nF,true_and→tA,not_not→nn,or_eq_false_iff→κ6,not_eq_true'→κF,false_eq_true→κI
open Int renaming toNat_natCast→tN,ofNat_lt→oL
open Nat renaming eq_of_beq_eq_true→κ1,lt_or_ge→κ4,lt_of_lt_of_le→κ7,le_of_ble_eq_true→κ9,le_refl→κD,zero_le→κL
open Array renaming length_toList→κK
set_option linter.unusedVariables false
set_option linter.unusedSimpArgs false
namespace Go.Rf
section
variable {P:Program} {T:Tab} {E:Env} {A:Ann} {B:Base} {s s':St} {a:Act} {w w':World} {W W':Wit} {f:Nat} {ops:Array Oper}
 {u:Upd} {Q:Exit→Act→World→Prop} {rs:List Key}
theorem φ9c {w:World} {g:Nat} {cs:Array Value} {t:TypeId} {fr:Nat×Nat} (hg:w.heap[g]?=some (.cells cs t fr)):w.setRow g cs=w:=by
 have h:(w.setRow g cs).heap=w.heap:=by
  apply Array.ext_getElem?
  intro k
  by_cases e:k=g
  ·subst e;rw[setRow_heap w k cs cs t fr hg,hg]
  ·exact setRow_other w g k cs e
 show { w with heap:=(w.setRow g cs).heap }=w
 rw[h]
theorem φ2m {ρ:Type} {K:St→Nat→Option ρ} {r:ρ}:∀(sh:Sh) (x:Tys (φG sh)) (s:St) (f:Nat) (W:Wit) (fp tp:List Nat),Rel B (fun i=>i<f) s a w W→ShOk w W.I a sh x fp tp→fp.Nodup→(∀b∈fp,¬W.I b) →
  (∀b∈fp,∀j,(s.ob j).isSome=true→b ∉ fpOf W j)→(∀b∈fp,B.fpT b∨B.fpN b∨B.w0.heap.size≤b)→(∀b∈tp,B.fpT b∨B.w0.heap.size≤b)→rest sh x s f K=some r→∃s' f',K s' f'=some r∧Sim B f' s' a w
 | [],_,s,f,W,_,_,h,_,_,_,_,_,_,he=>⟨s,f,he,W,h⟩
 | (i,.val t)::sh,x,s,f,W,fp,tp,h,⟨f1,f2,t1,t2,e1,e2,⟨hF,how,ht⟩,hsh⟩,hnd,hI,hD,hB,hTp,he=>by
  subst e1;subst e2;subst ht
  obtain ⟨os,p1,p2,p3,p4,p5,p6,p7⟩:=φ2c t _ _ f1 f how
  rw[κ2] at hnd
  obtain ⟨W',hR,hWI,hfp⟩:=h.adopt p3 p4 hnd.1 (fun b hb=>hI b (mL _ hb)) (fun b hb=>hD b (mL _ hb)) (fun b hb=>hB b (mL _ hb))
   (fun b hb=>hTp b (mL _ (by rw[p5];exact hb))) p7 (φ4F hF p6)
  have he:rest sh (φF t (φG sh) x) (s.app [(i,φs [(φU t,(φ5 t (φ4 t (φG sh) x) f).1)])] (φ5 t (φ4 t (φG sh) x) f).2.1) (φ5 t (φ4 t (φG sh) x) f).2.2 K=some r:=he
  rw[p1,p2] at he
  refine φ2m sh _ _ _ W' f2 t2 hR (by rw[hWI];exact hsh) hnd.2.1 (fun b hb=>by rw[hWI];exact hI b (mR _ hb)) (fun b hb j hj hbj=>?_) (fun b hb=>hB b (mR _ hb)) (fun b hb=>hTp b (mR _ hb)) he
  rcases hfp j hj b hbj with k | ⟨k1,k2⟩
  ·exact hnd.2.2 b k b hb rfl
  ·exact hD b (mR _ hb) j k1 k2
 | (i,.ptr t)::sh,x,s,f,W,fp,tp,h,⟨f1,f2,t1,t2,e1,e2,⟨g,cs,el,fi,hv,hf1,ht1,hh,how⟩,hsh⟩,hnd,hI,hD,hB,hTp,he=>by
  subst e1;subst e2
  obtain ⟨os,p1,p2,p3,p4,p5,p7,p8,_⟩:=φ3K (t:=t) f (f+1) hh how
  rw[κ2] at hnd
  have hpos:0<os.length:=by obtain ⟨o,ho,_⟩:=p8;exact List.length_pos_of_mem ho
  have hlen:(φ5 t (φ4 t (φG sh) x) (f+1)).2.2=f+os.length:=by omega
  have hids:os.map (·.id)=κE f os.length:=by
   rw[p3]
   obtain ⟨n,hn⟩:∃n,os.length=n+1:=⟨os.length - 1,by omega⟩
   rw[hn];rfl
  have hrv:RVN w W.I os (false,[.pv f 0]) (a.tmps.getD i undef):=by
   unfold RVN
   rw[if_neg (by simp)]
   obtain ⟨o,ho,k1,k2,k3⟩:=p8
   exact ⟨_,[],rfl,⟨o,ho,k1,⟨_,k2⟩,by rw[hv,k3]⟩,rfl⟩
  obtain ⟨W',hR,hWI,hfp⟩:=h.adopt hids (hf1.trans p4) hnd.1 (fun b hb=>hI b (mL _ hb)) (fun b hb=>hD b (mL _ hb)) (fun b hb=>hB b (mL _ hb))
   (fun b hb=>hTp b (mL _ (by rw[ht1,p5];exact hb))) p7 hrv
  have he:rest sh (φF t (φG sh) x) (s.app [(i,.one (.pv f 0))] ((f,some (.var (φ5 t (φ4 t (φG sh) x) (f+1)).1))::(φ5 t (φ4 t (φG sh) x) (f+1)).2.1)) (φ5 t (φ4 t (φG sh) x) (f+1)).2.2 K=some r:=he
  rw[p1,hlen] at he
  refine φ2m sh _ _ _ W' f2 t2 hR (by rw[hWI];exact hsh) hnd.2.1 (fun b hb=>by rw[hWI];exact hI b (mR _ hb)) (fun b hb j hj hbj=>?_) (fun b hb=>hB b (mR _ hb)) (fun b hb=>hTp b (mR _ hb)) he
  rcases hfp j hj b hbj with k | ⟨k1,k2⟩
  ·exact hnd.2.2 b k b hb rfl
  ·exact hD b (mR _ hb) j k1 k2
 | (i,.ptw t)::sh,x,s,f,W,fp,tp,h,⟨g,cs,el,f2,t2,e1,e2,hv,hh,hvn,hsh⟩,hnd,hI,hD,hB,hTp,he=>by
  subst e1;subst e2
  rw[κC] at hnd
  let v0:NewOb:=⟨f,.var (φ25 t (φ4 t (φG sh) x)),g,0,[],false⟩
  have hrv:RVN w W.I [v0] (false,[.pv f 0]) (a.tmps.getD i undef):=by
   unfold RVN
   rw[if_neg (by simp)]
   exact ⟨_,[],rfl,⟨v0,by simp,rfl,⟨_,rfl⟩,hv⟩,rfl⟩
  obtain ⟨W',hR,hWI,hfp⟩:=h.adopt (os:=[v0]) (fp:=[g]) rfl rfl (by simp) (fun b hb=>hI b (by rw[mZ.1 hb];simp)) (fun b hb=>hD b (by rw[mZ.1 hb];simp)) (fun b hb=>hB b (by rw[mZ.1 hb];simp))
   (fun b hb=>hTp b (by rw[show [v0].flatMap NewOb.tp=[g] from rfl] at hb;rw[mZ.1 hb];simp)) (fun o ho=>by
    rw[mZ.1 ho]
    exact ⟨rfl,rfl,cs,el,hh,hvn.imp fun c _ v k=>VN.mono (fun _ h=>h) (fun _ h=>by simp at h) k⟩) hrv
  have he:rest sh (φF t (φG sh) x) (s.app [(i,.one (.pv f 0))] [(f,some (.var (φ25 t (φ4 t (φG sh) x))))]) (f+1) K=some r:=he
  refine φ2m sh _ _ _ W' f2 t2 hR (by rw[hWI];exact hsh) hnd.2 (fun b hb=>by rw[hWI];exact hI b (mC _ hb)) (fun b hb j hj hbj=>?_) (fun b hb=>hB b (mC _ hb)) (fun b hb=>hTp b (mC _ hb)) he
  rcases hfp j hj b hbj with k | ⟨k1,k2⟩
  ·rw[mZ.1 k] at hb;exact hnd.1 hb
  ·exact hD b (mC _ hb) j k1 k2
 | (i,.dup j)::sh,x,s,f,W,fp,tp,h,⟨e,hsh⟩,hnd,hI,hD,hB,hTp,he=>by
  have h2:=h.slot (i:=i) (r:=s.sl j) (by rw[e];exact h.slots j) (h.mS j)
  exact φ2m sh x _ f W fp tp h2 hsh hnd hI hD hB hTp he
 | (i,.lnk off j off2)::sh,x,s,f,W,fp,tp,h,⟨⟨g,g2,cs,cs2,el,el2,v,e1,e2,h1,h2,v1,v2⟩,hsh⟩,hnd,hI,hD,hB,hTp,he=>by
  simp only[rest] at he
  split at he<;>try (simp at he;done)
  rename_i id o1 id2 o2 hi hj
  split at he<;>try (simp at he;done)
  rename_i l l2 hl hl2
  split at he<;>try (simp at he;done)
  rename_i k hk
  have hv:=h.slots i
  rw[hi] at hv
  obtain ⟨b,z1,q1⟩:=hv.2
  have hb:=q1 l hl
  subst hb
  have hv2:=h.slots j
  rw[hj] at hv2
  obtain ⟨b2,z2,q2⟩:=hv2.2
  have hb2:=q2 l2 hl2
  subst hb2
  have hg:g=W.η id:=by rw[e1] at z1;simp[pt] at z1;exact z1.1
  have hg2:g2=W.η id2:=by rw[e2] at z2;simp[pt] at z2;exact z2.1
  subst hg;subst hg2
  obtain ⟨_,_,vs,el',hh,hall⟩:=h.var id l hl
  obtain ⟨_,_,vs2,el2',hh2,hall2⟩:=h.var id2 l2 hl2
  rw[h1] at hh
  rw[h2] at hh2
  have c1:cs=vs:=by simp at hh;exact hh.1
  have c2:cs2=vs2:=by simp at hh2;exact hh2.1
  subst c1;subst c2
  obtain ⟨u,u1,u2⟩:=All2.at_ hall2 off2 _ hk
  rw[v2] at u1
  have:v=u:=Option.some.inj u1
  subst this
  have hset:=All2.set hall off (.own k) v v1 u2
  have hR:=h.setVar hl hset (fun q ⟨c,hc,hq⟩=>by
   rcases List.mem_or_eq_of_mem_set hc with hc | hc
   ·exact h.mO id l hl q ⟨c,hc,hq⟩
   ·subst hc
    have:k=q:=hq
    subst this
    exact h.mO id2 l2 hl2 k ⟨_,List.mem_of_getElem? hk,rfl⟩) (d:=none) (fun _ k=>by simp at k) undef
  have hw:w.setRow (W.η id) cs.toArray=w:=φ9c h1
  rw[hw] at hR
  have hR:Rel B (fun i=>i<f) (s.app [] [(id,some (.var (l.set off (.own k))))]) a w W:=hR
  refine φ2m sh x _ f W fp tp hR hsh hnd hI (fun b hb q hq=>?_) hB hTp he
  refine hD b hb q ?_
  by_cases e:q=id
  ·subst e;rw[hl];rfl
  ·have hq:(updS s.ob [(id,some (.var (l.set off (.own k))))] q).isSome=true:=hq
   rw[show updS s.ob [(id,some (.var (l.set off (.own k))))] q=s.ob q from φV _ _ e] at hq
   exact hq
def Good (B:Base) (h:Sh) (t:Tys (φG h)) (a:Act) (w:World):Prop:=
 ∀(ρ:Type) (K:St→Nat→Option ρ) (r:ρ),rest h t St.empty 0 K=some r→∃s' f',K s' f'=some r∧Sim B f' s' a w
theorem φ3b {h:Sh} {ρ:Type} {K:Tys (φG h)→Option ρ} {z:ρ} (he:extS h s K=some z) (hs:Sim B f s a w):∃t,K t=some z∧Good B h t a w:=by
 obtain ⟨W,hr⟩:=hs
 unfold extS at he
 rw[RP.run_eq] at he
 cases hx:(ext h fun x ids=>RP.ret (x,ids)).exec s [] with
 | none=>rw[hx] at he;simp at he
 | some q=>
  rw[hx] at he
  obtain ⟨⟨t,ids⟩,rs2⟩:=q
  simp only[bS] at he
  cases hnd:φ18 ids with
  | false=>rw[hnd] at he;simp at he
  | true=>
   rw[hnd] at he
   simp only[cT] at he
   refine ⟨t,he,?_⟩
   obtain ⟨x,ids2,rs3,fp,tp,fr,m1,m2,m3,m4,m5⟩:=φ2Z hr h _ _ hx
   simp only[RP.exec,Option.some.injEq,Prod.mk.injEq] at m1
   obtain ⟨⟨rfl,rfl⟩,_⟩:=m1
   intro ρ K r hrest
   have hall:=hr.blkNodup ids2 (φ1t _ hnd) m4
   have hpn:=m3.nodup_iff.1 hall
   rw[κ2] at hpn
   have inB:∀b,b∈fp∨b∈fr→∃i∈ids2,b∈fpOf W i:=fun b hb=>φa.1 (m3.mem_iff.2 (mA.2 hb))
   refine φ2m h x St.empty 0 _ fp tp (hr.bare (fun b hb=>inB b (.inr hb)) m4) m2 hpn.1 (fun b hb k=>?_) (fun b _ j hj=>by simp[St.empty] at hj) (fun b hb=>?_) (fun b hb=>?_) hrest
   ·rcases k with k | k
    ·obtain ⟨i,hi,hbi⟩:=inB b (.inl hb);exact hr.imm i (m4 i hi) b hbi k
    ·exact hpn.2.2 b hb b k rfl
   ·obtain ⟨i,hi,hbi⟩:=inB b (.inl hb)
    obtain ⟨hn,q | q⟩:=φ2T hbi
    ·rw[q];exact (hr.ownT i (m4 i hi) hn).imp id .inr
    ·exact hr.ownN i (m4 i hi) b q
   ·obtain ⟨i,hi,hn,e⟩:=m5 b hb
    rw[e];exact hr.ownT i (m4 i hi) hn
theorem φ59 {e e':Ex} (h:exEq e e'=true):e=e':=by
 cases e<;>cases e'<;>first | rfl | (simp[exEq] at h;done) | skip
 rw[(φ9 _ _).1 h]
theorem φ3r {e:Ex} (hs:Sim B f s a w):∀(l:List (Ex×Sh)) {ρ:Type} (K1:Outs l→Option ρ) (z:ρ),injO s e l K1=some z →
  ∃o,K1 o=some z∧∀(σ:Type) (K:Ex→St→Nat→Option σ) (r:σ),φ2Q l o K=some r→∃s' f',K e s' f'=some r∧Sim B f' s' a w
 | [],ρ,K1,z,h=>by simp[injO] at h
 | [(e',h)],ρ,K1,z,he=>by
  simp only[injO] at he
  cases hx:exEq e e' with
  | false=>rw[hx] at he;simp at he
  | true=>
   rw[hx] at he
   have:=φ59 hx
   subst this
   obtain ⟨t,k1,k2⟩:=φ3b (show extS h s K1=some z from he) hs
   exact ⟨t,k1,fun σ K r hr=>k2 σ _ r hr⟩
 | (e',h)::x::l,ρ,K1,z,he=>by
  simp only[injO] at he
  cases hx:exEq e e' with
  | false=>
   rw[hx] at he
   simp only[cF] at he
   obtain ⟨o,k1,k2⟩:=φ3r hs (x::l) _ z he
   exact ⟨.inr o,k1,fun σ K r hr=>k2 σ K r hr⟩
  | true=>
   rw[hx] at he
   have:=φ59 hx
   subst this
   obtain ⟨t,k1,k2⟩:=φ3b (show extS h s (fun t=>K1 (.inl t))=some z from he) hs
   exact ⟨.inl t,k1,fun σ K r hr=>k2 σ _ r hr⟩
def exOf:Ex→Exit
 | .normal=>.normal
 | .exit n=>.exit n
 | .ret=>.ret
def φ2d (B:Base) (c:Code):Prop:=∀d∈writes c,d<B.nt∧B.pin d=none
theorem φ3g {id:Nat} {e:Ex} (h:Q (exOf (φ1h id e)) a w):Exit.inBlock id Q (exOf e) a w:=by
 cases e with
 | normal=>exact h
 | ret=>exact h
 | exit m=>
  show Exit.inBlock id Q (.exit m) a w
  have e1:φ1h id (.exit m)=bif nEq m id then .normal else .exit m:=rfl
  rw[e1] at h
  unfold Exit.inBlock
  by_cases hmi:m=id
  ·rw[(φ9 m id).2 hmi] at h;simp only[if_pos hmi];exact h
  ·have hne:nEq m id=false:=by cases hb:nEq m id with | false=>rfl | true=>exact absurd ((φ9 _ _).1 hb) hmi
   rw[hne] at h;simp only[if_neg hmi];exact h
def IHs (P:Program) (T:Tab) (E:Env) (A:Ann) (B:Base) (c:Code):Prop:=
 ∀(ρ:Type) (s:St) (f:Nat) (K:Ex→St→Nat→Option ρ) (r:ρ) (a:Act) (w:World) (Q:Exit→Act→World→Prop),φ2d B c →
  evC T E A c s f K=some r→Sim B f s a w→(∀e s' f' a' w',K e s' f'=some r→Sim B f' s' a' w'→Q (exOf e) a' w')→c.wp P Q a w
theorem φ9M {c:Operand} {x y:Code} (ix:IHs P T E A B x) (iy:IHs P T E A B y):IHs P T E A B (.cond c x y):=by
 intro ρ s f K r a w Q hc he hs hQ
 simp only[evC] at he
 have hx:φ2d B x:=fun d hd=>hc d (mL _ hd)
 have hy:φ2d B y:=fun d hd=>hc d (mR _ hd)
 have fin:∀b:Bool,a.eval c=.bool b→(bif b then evC T E A x s f K else evC T E A y s f K)=some r→(Code.cond c x y).wp P Q a w:=by
  intro b hb h2
  cases b with
  | true=>exact wp_cond_true hb (ix ρ s f K r a w Q hx h2 hs hQ)
  | false=>exact wp_cond_false hb (iy ρ s f K r a w Q hy h2 hs hQ)
 unfold φ66 at he
 split at he
 ·rename_i t
  obtain ⟨W,hr⟩:=hs
  have hv:=hr.slots t
  split at he<;>try (simp at he;done)
  rename_i b hsl
  rw[hsl] at hv
  exact fin b hv.2 he
 ·rename_i b;exact fin b rfl he
 ·simp at he
theorem φ8S {x y:Code} (ix:IHs P T E A B x) (iy:IHs P T E A B y):IHs P T E A B (.seq x y):=by
 intro ρ s f K r a w Q hc he hs hQ
 have hx:φ2d B x:=fun d hd=>hc d (mL _ hd)
 have hy:φ2d B y:=fun d hd=>hc d (mR _ hd)
 simp only[evC] at he
 refine wp_seq ?_
 split at he
 ·refine ix _ s f _ r a w _ hx he hs fun e s' f' a' w' hk hs'=>?_
  cases e with
  | normal=>exact iy _ s' f' K r a' w' Q hy hk hs' hQ
  | exit n=>exact hQ (.exit n) s' f' a' w' hk hs'
  | ret=>exact hQ .ret s' f' a' w' hk hs'
 ·rename_i exs _
  obtain ⟨o,h1,h2⟩:=Option.bind_eq_some_iff.1 he
  have fin:∀e s' f' a' w',injO s' e exs some=some o→Sim B f' s' a' w'→Q (exOf e) a' w':=fun e s' f' a' w' hk hs'=>by
   obtain ⟨o',k1,k2⟩:=φ3r hs' exs some o hk
   simp only[Option.some.injEq] at k1
   subst k1
   obtain ⟨s2,f2,q1,q2⟩:=k2 ρ K r h2
   exact hQ e s2 f2 a' w' q1 q2
  refine ix _ s f _ o a w _ hx h1 hs fun e s' f' a' w' hk hs'=>?_
  cases e with
  | normal=>exact iy _ s' f' _ o a' w' Q hy hk hs' fun e s2 f2 a2 w2 hk2 hs2=>fin e s2 f2 a2 w2 hk2 hs2
  | exit n=>exact fin (.exit n) s' f' a' w' hk hs'
  | ret=>exact fin .ret s' f' a' w' hk hs'
theorem φ8w {id:Nat} {bd:Code} (ib:IHs P T E A B bd):IHs P T E A B (.block id (.loop bd)):=by
 intro ρ s f K r a w Q hc he hs hQ
 simp only[evC] at he
 split at he<;>try (simp at he;done)
 rename_i h exs _
 obtain ⟨o,h1,h2⟩:=Option.bind_eq_some_iff.1 he
 obtain ⟨t0,k1,k2⟩:=φ3b h1 hs
 have fin:∀e s' f' a' w',injO s' e exs some=some o→Sim B f' s' a' w'→Q (exOf (φ1h id e)) a' w':=fun e s' f' a' w' hk hs'=>by
  obtain ⟨o',q1,q2⟩:=φ3r hs' exs some o hk
  simp only[Option.some.injEq] at q1
  subst q1
  obtain ⟨s2,f2,q3,q4⟩:=q2 ρ _ r h2
  exact hQ _ s2 f2 a' w' q3 q4
 refine wp_block (wp_loop_rounds FUEL ?_)
 unfold lp at k1
 have key:∀(n:Nat) (t:Tys (φG h)) (a:Act) (w:World),φ19 (fun rec t=>rest h t St.empty 0 fun s1 f1=>evC T E A bd s1 f1 (fun e s2 _=>match e with
   | .normal=>extS h s2 rec
   | .exit n=>injO s2 (.exit n) exs some
   | .ret=>injO s2 .ret exs some)) n t=some o→Good B h t a w→Code.rounds P bd (Exit.inBlock id Q) n a w:=by
  intro n
  induction n with
  | zero=>intro t a w hl _;simp[φ19] at hl
  | succ n ih=>
   intro t a w hl hg
   simp only[φ19] at hl
   obtain ⟨s1,f1,q1,q2⟩:=hg _ _ _ hl
   rw[rounds_succ]
   refine ib _ s1 f1 _ o a w _ hc q1 q2 fun e s' f' a' w' hk hs'=>?_
   cases e with
   | normal=>
    obtain ⟨t',z1,z2⟩:=φ3b hk hs'
    exact ih t' a' w' z1 z2
   | exit m=>exact φ3g (fin (.exit m) s' f' a' w' hk hs')
   | ret=>exact φ3g (fin .ret s' f' a' w' hk hs')
 exact key FUEL t0 a w k1 k2
theorem φ9u {id:Nat} {bd:Code} (ib:IHs P T E A B bd) (hev:∀(ρ:Type) (s:St) (f:Nat) (K:Ex→St→Nat→Option ρ),evC T E A (.block id bd) s f K=match lkp A.blocks id with
  | none=>evC T E A bd s f (fun e s' f'=>K (φ1h id e) s' f')
  | some exs=>(evC T E A bd s f (fun e s' _=>injO s' (φ1h id e) exs some)).bind fun o=>φ2Q exs o K):IHs P T E A B (.block id bd):=by
 intro ρ s f K r a w Q hc he hs hQ
 rw[hev] at he
 refine wp_block ?_
 split at he
 ·exact ib ρ s f _ r a w _ hc he hs fun e s' f' a' w' hk hs'=>φ3g (hQ _ s' f' a' w' hk hs')
 ·rename_i exs _
  obtain ⟨o,h1,h2⟩:=Option.bind_eq_some_iff.1 he
  refine ib _ s f _ o a w _ hc h1 hs fun e s' f' a' w' hk hs'=>φ3g ?_
  obtain ⟨o',k1,k2⟩:=φ3r hs' exs some o hk
  simp only[Option.some.injEq] at k1
  subst k1
  obtain ⟨s2,f2,q1,q2⟩:=k2 ρ K r h2
  exact hQ _ s2 f2 a' w' q1 q2
theorem φ9X [Laid] (hT:φK P T) (hE:EnvB P E B) (hm:P.follows .mixedOrders=true) (c:Code):IHs P T E A B c∧∀b,c=.loop b→IHs P T E A B b:=by
 induction c with
 | skip=>exact ⟨fun ρ s f K r a w Q _ he hs hQ=>wp_skip (hQ .normal s f a w (by simpa only [evC] using he) hs),by simp⟩
 | exit id=>exact ⟨fun ρ s f K r a w Q _ he hs hQ=>wp_exit (hQ (.exit id) s f a w (by simpa only [evC] using he) hs),by simp⟩
 | ret=>exact ⟨fun ρ s f K r a w Q _ he hs hQ=>wp_ret (hQ .ret s f a w (by simpa only [evC] using he) hs),by simp⟩
 | region id ops dr=>
  refine ⟨fun ρ s f K r a w Q hc he hs hQ=>?_,by simp⟩
  simp only[evC] at he
  exact φ8B hT hE hm (fun i o ho d hd=>hc d (List.mem_filterMap.2 ⟨o,Array.mem_toList_iff.2 (Array.mem_of_getElem? ho),hd⟩)) he hs fun s' f' a' w' hk hs'=>hQ .normal s' f' a' w' hk hs'
 | cond c x y ix iy=>exact ⟨φ9M ix.1 iy.1,by simp⟩
 | seq x y ix iy=>exact ⟨φ8S ix.1 iy.1,by simp⟩
 | loop b ib=>exact ⟨fun ρ s f K r a w Q _ he=>by simp[evC] at he,fun b' e=>by simp only[Code.loop.injEq] at e;subst e;exact ib.1⟩
 | block id bd ib=>
  refine ⟨?_,by simp⟩
  cases bd with
  | loop b=>exact φ8w (ib.2 b rfl)
  | _=>exact φ9u ib.1 fun ρ s f K=>by simp only[evC];cases lkp A.blocks id<;>rfl
 | _=>exact ⟨fun ρ s f K r a w Q _ he=>by simp[evC] at he,by simp⟩
end
end Go.Rf
namespace Go.Rf
section
variable {P:Program} {T:Tab} {E:Env} {A:Ann} {B:Base} {Al:Nat→Prop} {s s':St} {a:Act} {w w':World} {W W':Wit} {f:Nat}
 {u:Upd} {Q:Exit→Act→World→Prop} {rs:List Key}
theorem φ51 {ρ:Type} {K:St→Nat→Option ρ} {r:ρ} {sv:Bool} {S:Nat→Prop} (hS1:sv=true→∀b,S b→B.sj b):∀(ps:List PK) (vs:List Value) (x:Tys (ps.map PK.ty)) (i:Nat) (s:St) (f:Nat) (W:Wit) (fp tp:List Nat),(sv=false→∀b,S b→W.I b)→(sv=true→φ1P ps=true)→Rel B (fun i=>i<f) s a w W→φe w S ps vs x fp tp →
  (∀j v,vs[j]?=some v→a.tmps.getD (i+j) undef=v)→fp.Nodup→(∀b∈fp,¬W.I b) →
  (∀b∈fp,∀j,(s.ob j).isSome=true→b ∉ fpOf W j)→(∀b∈fp,B.fpT b∨B.fpN b∨B.w0.heap.size≤b)→(∀b∈tp,B.fpT b∨B.w0.heap.size≤b)→φ1r sv ps x i s f K=some r→∃s' f',K s' f'=some r∧Sim B f' s' a w
 | [],_,_,_,s,f,W,_,_,_,_,h,_,_,_,_,_,_,_,he=>⟨s,f,he,W,h⟩
 | p::ps,vs,x,i,s,f,W,fp,tp,hS0,hok,h,⟨v,vs',f1,f2,t1,t2,e0,e1,e2,harg,hrest⟩,hsl,hnd,hI,hD,hB,hTp,he=>by
  subst e0;subst e1;subst e2
  rw[κ2] at hnd
  have hv:a.tmps.getD i undef=v:=hsl 0 v rfl
  have hok':sv=true→φ1P ps=true:=fun k=>by
   have:=hok k
   cases p<;>simp only[φ1P,bA] at this<;>exact this.2
  have hsl':∀j u,vs'[j]?=some u→a.tmps.getD (i+1+j) undef=u:=fun j u hu=>by
   have:=hsl (j+1) u (by simpa using hu)
   rw[show i+1+j=i+(j+1) by omega];exact this
  -- a value's cells
  have val:∀(t:Ty) (y:t.den),Form t v→Ow w W.I t y v.cells.toList f1→t1=tops t v.cells.toList→∃W',Rel B (fun i=>i<(φ5 t y f).2.2) (s.app [(i,φs [(φU t,(φ5 t y f).1)])] (φ5 t y f).2.1) a w W'∧W'.I=W.I ∧
    ∀j,((s.app [(i,φs [(φU t,(φ5 t y f).1)])] (φ5 t y f).2.1).ob j).isSome=true→∀b∈fpOf W' j,b∈f1∨((s.ob j).isSome=true∧b∈fpOf W j):=by
   intro t y hF how ht
   obtain ⟨os,p1,p2,p3,p4,p5,p6,p7⟩:=φ2c t y _ f1 f how
   rw[p1,p2]
   exact h.adopt p3 p4 hnd.1 (fun b hb=>hI b (mL _ hb)) (fun b hb=>hD b (mL _ hb)) (fun b hb=>hB b (mL _ hb))
    (fun b hb=>hTp b (mL _ (by rw[ht,p5];exact hb))) p7 (by rw[hv];exact φ4F hF p6)
  have next:∀(s2:St) (fn:Nat) (W':Wit),Rel B (fun i=>i<fn) s2 a w W'→W'.I=W.I→(∀j,(s2.ob j).isSome=true→∀b∈fpOf W' j,b∈f1∨((s.ob j).isSome=true∧b∈fpOf W j)) →
    φ1r sv ps (φF p.ty (ps.map PK.ty) x) (i+1) s2 fn K=some r→∃s' f',K s' f'=some r∧Sim B f' s' a w:=by
   intro s2 fn W' hR hWI hfp he
   refine φ51 hS1 ps vs' _ (i+1) s2 fn W' f2 t2 (fun k b hb=>by rw[hWI];exact hS0 k b hb) hok' hR hrest hsl' hnd.2.1 (fun b hb=>by rw[hWI];exact hI b (mR _ hb)) (fun b hb j hj hbj=>?_) (fun b hb=>hB b (mR _ hb)) (fun b hb=>hTp b (mR _ hb)) he
   rcases hfp j hj b hbj with k | ⟨k1,k2⟩
   ·exact hnd.2.2 b k b hb rfl
   ·exact hD b (mR _ hb) j k1 k2
  have hard:(sv=true→φX p.ty=false)→φT w W.I p (φ4 p.ty (ps.map PK.ty) x) v f1 t1:=fun k=>by
   cases hsv:sv with
   | true=>exact harg.noR (k hsv)
   | false=>exact harg.mono (hS0 hsv)
  cases p with
  | val t=>
   have he:(match entO sv t (φ4 t (ps.map PK.ty) x) f with
    | (cs,o,f1)=>φ1r sv ps (φF t (ps.map PK.ty) x) (i+1) (s.app [(i,φs [(φU t,cs)])] o) f1 K)=some r:=he
   unfold entO at he
   cases hq:(sv && !t.owns) with
   | true=>
    rw[hq] at he
    simp only[bA,κF] at hq
    obtain ⟨hsv,hno⟩:=hq
    obtain ⟨hF,how,ht⟩:=harg
    have hf1:=φ2j t hno _ _ _ how
    have hrd:Rd w (W.J s.ob) t (φ4 t (ps.map PK.ty) x) v.cells.toList:=Ow.rd (fun b hb=>.inr (.inl (by rw[h.sj];exact hS1 hsv b hb))) t _ _ f1 (fun b hb=>by rw[hf1] at hb;simp at hb) how
    have hl:=φ2R (W:=W) (ob:=s.ob) true t _ _ hrd
    have hm:=φ1z false true t (φ4 t (ps.map PK.ty) x)
    have hav:AVr w W s.ob (φs [(φU t,φY false true t (φ4 t (ps.map PK.ty) x))]) (a.tmps.getD i undef)∧∀j,menA (φs [(φU t,φY false true t (φ4 t (ps.map PK.ty) x))]) j→j<f:=by
     rw[hv]
     unfold Form at hF
     cases hp:φU t with
     | true=>
      rw[hp] at hF
      simp only[if_true] at hF
      obtain ⟨us,e⟩:=hF
      subst e
      exact ⟨⟨us.toList,rfl,hl⟩,fun j hj=>(hm j hj).elim⟩
     | false=>
      rw[hp] at hF
      simp only[κI,if_false] at hF
      rw[cells_one hF] at hl
      cases hx:φY false true t (φ4 t (ps.map PK.ty) x) with
      | nil=>rw[hx] at hl;simp[All2] at hl
      | cons c r=>
       rw[hx] at hl hm
       obtain ⟨v2,r2,e,k,k'⟩:=hl
       simp only[List.cons.injEq] at e
       obtain ⟨e,e'⟩:=e
       subst e;subst e'
       cases r with
       | nil=>exact ⟨k,fun j hj=>(hm j ⟨c,by simp,hj⟩).elim⟩
       | cons c2 r=>obtain ⟨_,_,e2,_⟩:=k';simp at e2
    have h2:=Rel.slot h hav.1 hav.2
    exact next _ f W h2 rfl (fun j hj b hb=>.inr ⟨hj,hb⟩) he
   | false=>
    rw[hq] at he
    have hn:sv=true→φX t=false:=fun k=>by
     rw[k] at hq
     have h1:=hok k
     simp only[φ1P,bA] at h1
     have h2:t.owns=true:=by simpa using hq
     rw[h2] at h1
     simpa using h1.1
    obtain ⟨hF,how,ht⟩:=hard hn
    obtain ⟨W',hR,hWI,hfp⟩:=val t _ hF how ht
    exact next _ _ W' hR hWI hfp he
  | io t=>
   have hn:sv=true→φX t=false:=fun k=>by
    have h1:=hok k
    simp only[φ1P,bA] at h1
    simpa using h1.1
   obtain ⟨hF,how,ht⟩:=hard hn
   obtain ⟨W',hR,hWI,hfp⟩:=val t _ hF how ht
   exact next _ _ W' hR hWI hfp he
  | ptr t=>
   have hn:sv=true→φX t=false:=fun k=>by
    have h1:=hok k
    simp only[φ1P,bA] at h1
    simpa using h1.1
   obtain ⟨g,cs,el,fi,hpv,hf1,ht1,hh,how⟩:=hard hn
   obtain ⟨os,p1,p2,p3,p4,p5,p7,p8,_⟩:=φ3K (t:=t) f (f+1) hh how
   have hpos:0<os.length:=by obtain ⟨o,ho,_⟩:=p8;exact List.length_pos_of_mem ho
   have hlen:(φ5 t (φ4 t (ps.map PK.ty) x) (f+1)).2.2=f+os.length:=by have:f+1+os.length=(φ5 t (φ4 t (ps.map PK.ty) x) (f+1)).2.2+1:=p2;omega
   have hids:os.map (·.id)=κE f os.length:=by
    rw[p3]
    obtain ⟨n,hn⟩:∃n,os.length=n+1:=⟨os.length - 1,by omega⟩
    rw[hn];rfl
   have hrv:RVN w W.I os (false,[.pv f 0]) (a.tmps.getD i undef):=by
    unfold RVN
    rw[if_neg (by simp)]
    obtain ⟨o,ho,k1,k2,k3⟩:=p8
    exact ⟨_,[],rfl,⟨o,ho,k1,⟨_,k2⟩,by rw[hv,hpv,k3]⟩,rfl⟩
   obtain ⟨W',hR,hWI,hfp⟩:=h.adopt hids (hf1.trans p4) hnd.1 (fun b hb=>hI b (mL _ hb)) (fun b hb=>hD b (mL _ hb)) (fun b hb=>hB b (mL _ hb))
    (fun b hb=>hTp b (mL _ (by rw[ht1,p5];exact hb))) p7 hrv
   have he:φ1r sv ps (φF t (ps.map PK.ty) x) (i+1) (s.app [(i,.one (.pv f 0))] ((f,some (.var (φ5 t (φ4 t (ps.map PK.ty) x) (f+1)).1))::(φ5 t (φ4 t (ps.map PK.ty) x) (f+1)).2.1)) (φ5 t (φ4 t (ps.map PK.ty) x) (f+1)).2.2 K=some r:=he
   have p1:(f,some (Obj.var (φ5 t (φ4 t (ps.map PK.ty) x) (f+1)).1))::(φ5 t (φ4 t (ps.map PK.ty) x) (f+1)).2.1=os.map NewOb.upd:=p1
   rw[p1,hlen] at he
   exact next _ _ W' hR hWI hfp he
def φ1R (P:Program) (a:Act) (rv:ResultVar):Sem Value:=
 match rv with
 | .tmp t=>pure (a.tmps.getD t undef)
 | .cell c t=>do loadVar t (←asAddr (a.tmps.getD c undef))
theorem φ73 (g:ResultVar→Sem Value):∀(l:List ResultVar) (us:List Value),All2 (fun rv u=>(g rv).run P w=.ok u w) l us→(l.mapM g).run P w=.ok us w
 | [],us,h=>by rw[show us=[] from h];simp
 | rv::l,us,⟨u,us',e,p,h⟩=>by
  rw[e,List.mapM_cons]
  simp only[Sem.run_bind,p,Result.andThen_ok,φ73 g l us' h,Sem.run_pure]
theorem φ4B (hT:φK P T) (h:Rel B Al s a w W) {α:Type} {r:α×List Key}:∀(rs:List RK) (rv:List ResultVar) (K:Tys (rs.map RK.ty)→List Nat→RP α) (ks:List Key),(φy T rs rv K).exec s ks=some r →
  ∃x ids ks2 us fp tp fr,(K x ids).exec s ks2=some r∧φW w (plus W.I fr) rs us x fp tp∧(blk W ids).Perm (fp++fr)∧(∀i∈ids,(s.ob i).isSome=true)∧(∀b∈tp,∃i∈ids,W.nl i=false∧b=W.η i) ∧
   All2 (fun v u=>(φ1R P a v).run P w=.ok u w) rv us
 | [],rv,K,ks,he=>by
  cases rv with
  | nil=>exact ⟨(),[],ks,[],[],[],[],he,⟨rfl,rfl,rfl⟩,List.Perm.refl _,by simp,by simp,rfl⟩
  | cons=>simp[φy,RP.exec] at he
 | .val t::rs,rv,K,ks,he=>by
  cases rv with
  | nil=>simp[φy,RP.exec] at he
  | cons v rv=>
   have fin:∀(x:t.den) (u:Value) (j:List Nat) (ks2:List Key) (fp fr:List Nat),(φy T rs rv fun xs ids=>K (φS t (rs.map RK.ty) x xs) (j++ids)).exec s ks2=some r→Form t u→Ow w (plus W.I fr) t x u.cells.toList fp→(blk W j).Perm (fp++fr)→(∀i∈j,(s.ob i).isSome=true) →
     (∀b∈tops t u.cells.toList,∃i∈j,W.nl i=false∧b=W.η i)→(φ1R P a v).run P w=.ok u w →
     ∃x ids ks2 us fp tp fr,(K x ids).exec s ks2=some r∧φW w (plus W.I fr) (.val t::rs) us x fp tp∧(blk W ids).Perm (fp++fr)∧(∀i∈ids,(s.ob i).isSome=true)∧(∀b∈tp,∃i∈ids,W.nl i=false∧b=W.η i) ∧
      All2 (fun v u=>(φ1R P a v).run P w=.ok u w) (v::rv) us:=by
    intro x u j ks2 fp fr k1 k2 k3 k4 k5 k6 k7
    obtain ⟨xs,ids,ks3,us,fq,tq,fs,m1,m2,m3,m4,m5,m6⟩:=φ4B hT h rs rv _ _ k1
    refine ⟨_,_,ks3,u::us,fp++fq,tops t u.cells.toList++tq,fr++fs,m1,⟨u,us,fp,fq,_,tq,rfl,rfl,rfl,?_,?_⟩,by rw[φ10];exact φz k4 m3,?_,?_,⟨u,us,rfl,k7,m6⟩⟩
    ·rw[φ1J];exact ⟨k2,Ow.mono (w:=w) φ28 (fun _ _=>rfl) t _ _ _ (fun _ _=>rfl) k3,rfl⟩
    ·rw[φ1F];exact m2.mono φ2G
    ·intro k hk
     rcases mA.1 hk with hk | hk
     ·exact k5 k hk
     ·exact m4 k hk
    ·intro b hb
     rcases mA.1 hb with hb | hb
     ·obtain ⟨j',hj,z⟩:=k6 b hb;exact ⟨j',mL _ hj,z⟩
     ·obtain ⟨j',hj,z⟩:=m5 b hb;exact ⟨j',mR _ hj,z⟩
   cases v with
   | tmp c=>
    simp only[φy,RP.exec] at he
    obtain ⟨hs,he⟩:=φo he
    obtain ⟨x,j,ks2,fp,fr,k1,k2,k3,k4,k5,k6⟩:=φ4n h (h.slots c) t _ _ (by simpa using hs) he
    exact fin x _ j ks2 fp fr k1 k2 k3 k4 k5 k6 (by simp[φ1R])
   | cell c ty=>
    simp only[φy] at he
    cases htd:lkp T ty with
    | none=>rw[htd] at he;simp[RP.exec] at he
    | some td=>
     rw[htd] at he
     simp only at he
     obtain ⟨hck,he⟩:=φo he
     simp only[Bool.not_eq_false',bA] at hck
     have hsz:=(φ9 _ _).1 hck.1
     have hag:td.agg=φU t:=by simpa using hck.2
     have hty:=hT ty td htd
     simp only[RP.exec] at he
     have hv:=h.slots c
     split at he<;>try (simp[RP.exec] at he;done)
     rename_i id off hsl
     rw[hsl] at hv
     simp only[RP.exec] at he
     split at he<;>try (simp[RP.exec] at he;done)
     rename_i l ho
     obtain ⟨b,e,k⟩:=hv.2
     have hb:=k l ho
     subst hb
     obtain ⟨_,_,vs,el,hh,hl⟩:=h.var id l ho
     obtain ⟨x,l2,j,ks2,cs,vs2,fp,fr,q1,q2,q3,q4,q5,_,q7,q8,_⟩:=φ1j h t _ _ _ _ ((hl.drop off).take t.size) he
     split at q2<;>try (simp[RP.exec] at q2;done)
     have q3:vs2=[]:=q3
     subst q3
     rw[κ5] at q1
     have hcl:=Ow.size t _ _ _ q4
     have hat:At w (W.η id) 0 vs:=⟨_,el,_,[],[],hh,by simp,rfl⟩
     have hpos:=t.pos
     have hat2:=hat.part off t.size (by rw[←q1] at hcl;simp only[lT,lD] at hcl;omega)
     rw[Nat.zero_add,q1] at hat2
     have hrun:=φ4k (P:=P) w (vs:=cs) (n:=t.size) (g:=td.agg) (by rw[←hsz];exact hty.tag.1) hty.aggD hcl (fun hg=>by rw[←hsz];exact hty.one hg) hat2
     have h1c:∀v∈cs,v.oneCell'=true:=φ2r (I:=fun _=>True) t x cs (Ow.rd (fun _ _=>trivial) t x cs fp (fun _ _=>trivial) q4)
     have hu:Form t (mkV td.agg cs)∧(mkV td.agg cs).cells.toList=cs:=by
      unfold Form mkV
      cases hg:td.agg with
      | true=>rw[hg] at hag;rw[←hag];exact ⟨⟨_,rfl⟩,rfl⟩
      | false=>
       rw[hg] at hag
       have h1:=hty.one hg
       rw[hsz] at h1
       obtain ⟨v,rfl⟩:∃v,cs=[v]:=by
        match cs,hcl with
        | [v],_=>exact ⟨v,rfl⟩
        | [],hn=>simp at hn;omega
        | _::_::_,hn=>simp at hn;omega
       have hv1:=h1c v (by simp)
       rw[←hag]
       refine ⟨by simpa using hv1,?_⟩
       have:((fun g (vs:List Value)=>if g=true then Value.agg vs.toArray else vs.getD 0 undef) false [v])=v:=rfl
       simp[cells_one hv1]
     refine fin x (mkV td.agg cs) j ks2 fp fr q2 hu.1 (by rw[hu.2];exact q4) q5 q7 (by rw[hu.2];exact q8) ?_
     simp only[φ1R,e,pt,asAddr,Sem.run_bind,Sem.run_pure,Result.andThen_ok,hrun]
 | .ptr t::rs,rv,K,ks,he=>by
  cases rv with
  | nil=>simp[φy,RP.exec] at he
  | cons v rv=>
   cases v with
   | cell c ty=>simp[φy,RP.exec] at he
   | tmp c=>
    simp only[φy,RP.exec] at he
    have hv:=h.slots c
    split at he<;>try (simp[RP.exec] at he;done)
    rename_i id off hsl
    rw[hsl] at hv
    obtain ⟨hoff,he5⟩:=φB he
    clear he
    have hoff:=(φ9 _ _).1 hoff
    subst hoff
    simp only[RP.exec] at he5
    split at he5<;>try (simp[RP.exec] at he5;done)
    rename_i cs ho
    obtain ⟨b,e,k⟩:=hv.2
    have hb:=k cs ho
    subst hb
    obtain ⟨x,j,rs2,fp,fr,vs,el,k1,k2,k3,k4,k5,k6⟩:=φ4r h ho t _ _ he5
    obtain ⟨xs,ids,ks3,us,fq,tq,fs,m1,m2,m3,m4,m5,m6⟩:=φ4B hT h rs rv _ _ k1
    refine ⟨_,_,ks3,a.tmps.getD c undef::us,(W.η id::fp)++fq,(W.η id::tops t vs)++tq,fr++fs,m1,⟨_,us,_,fq,_,tq,rfl,rfl,rfl,?_,?_⟩,?_,?_,?_,⟨_,us,rfl,by simp only[φ1R,Sem.run_pure],m6⟩⟩
    ·rw[φ1J];exact ⟨W.η id,vs,el,fp,e,rfl,rfl,k2,Ow.mono (w:=w) φ28 (fun _ _=>rfl) t _ _ _ (fun _ _=>rfl) k3⟩
    ·rw[φ1F];exact m2.mono φ2G
    ·rw[←κG,φ10];exact φz k4 m3
    ·intro k hk
     rw[←κG] at hk
     rcases mA.1 hk with hk | hk
     ·exact k5 k hk
     ·exact m4 k hk
    ·intro b hb
     rw[←κG]
     rcases mA.1 hb with hb | hb
     ·obtain ⟨j',hj,z⟩:=k6 b hb;exact ⟨j',mL _ hj,z⟩
     ·obtain ⟨j',hj,z⟩:=m5 b hb;exact ⟨j',mR _ hj,z⟩
def φ40:PK→Bool
 | .val _=>false
 | _=>true
theorem φ3p (h:Rel B Al s a w W) {α:Type} {r:α×List Key}:∀(ps:List PK) (vs:List Value) (n:Nat) (K:Tys (ioOf ps)→List Nat→RP α) (ks:List Key),vs.length=ps.length →
  (∀(j:Nat) (v:Value) (p:PK),vs[j]?=some v→ps[j]?=some p→φ40 p=true→a.tmps.getD (n+j) undef=v)→(φ1V ps n K).exec s ks=some r →
  ∃x ids ks2 fp tp fr,(K x ids).exec s ks2=some r∧φg w (plus W.I fr) ps vs x fp tp∧(blk W ids).Perm (fp++fr)∧(∀i∈ids,(s.ob i).isSome=true)∧(∀b∈tp,∃i∈ids,W.nl i=false∧b=W.η i)
 | [],vs,n,K,ks,hl,_,he=>⟨(),[],ks,[],[],[],he,⟨List.eq_nil_of_length_eq_zero hl,rfl,rfl⟩,List.Perm.refl _,by simp,by simp⟩
 | p::ps,[],n,K,ks,hl,_,he=>by simp at hl
 | p::ps,v::vs,n,K,ks,hl,hp,he=>by
  have hl':vs.length=ps.length:=by simpa using hl
  have hp':∀(j:Nat) (u:Value) (p:PK),vs[j]?=some u→ps[j]?=some p→φ40 p=true→a.tmps.getD (n+1+j) undef=u:=fun j u q hu hq hn=>by
   have:=hp (j+1) u q (by simpa using hu) (by simpa using hq) hn
   rw[show n+1+j=n+(j+1) by omega];exact this
  cases p with
  | val t=>
   obtain ⟨x,ids,ks2,fp,tp,fr,m1,m2,m3,m4,m5⟩:=φ3p h ps vs (n+1) K ks hl' hp' he
   exact ⟨x,ids,ks2,fp,tp,fr,m1,⟨v,vs,rfl,m2⟩,m3,m4,m5⟩
  | io t=>
   have hv:a.tmps.getD n undef=v:=hp 0 v (.io t) rfl rfl rfl
   simp only[φ1V,RP.exec] at he
   obtain ⟨hs,he⟩:=φo he
   obtain ⟨x,j,rs2,fp,fr,k1,k2,k3,k4,k5,k6⟩:=φ4n h (h.slots n) t _ _ (by simpa using hs) he
   rw[hv] at k2 k3 k6
   obtain ⟨xs,ids,ks3,fq,tq,fs,m1,m2,m3,m4,m5⟩:=φ3p h ps vs (n+1) _ _ hl' hp' k1
   refine ⟨_,_,ks3,fp++fq,tops t v.cells.toList++tq,fr++fs,m1,⟨v,vs,fp,fq,_,tq,rfl,rfl,rfl,?_,?_⟩,by rw[φ10];exact φz k4 m3,?_,?_⟩
   ·rw[φ1J];exact ⟨k2,Ow.mono (w:=w) φ28 (fun _ _=>rfl) t _ _ _ (fun _ _=>rfl) k3,rfl⟩
   ·rw[φ1F];exact m2.mono φ2G
   ·intro k hk
    rcases mA.1 hk with hk | hk
    ·exact k5 k hk
    ·exact m4 k hk
   ·intro b hb
    rcases mA.1 hb with hb | hb
    ·obtain ⟨j',hj,z⟩:=k6 b hb;exact ⟨j',mL _ hj,z⟩
    ·obtain ⟨j',hj,z⟩:=m5 b hb;exact ⟨j',mR _ hj,z⟩
  | ptr t=>
   have hvv:a.tmps.getD n undef=v:=hp 0 v (.ptr t) rfl rfl rfl
   simp only[φ1V,RP.exec] at he
   have hv:=h.slots n
   split at he<;>try (simp[RP.exec] at he;done)
   rename_i id off hsl
   rw[hsl] at hv
   obtain ⟨hoff,he5⟩:=φB he
   clear he
   have hoff:=(φ9 _ _).1 hoff
   subst hoff
   simp only[RP.exec] at he5
   split at he5<;>try (simp[RP.exec] at he5;done)
   rename_i cs ho
   obtain ⟨b,e,k⟩:=hv.2
   have hb:=k cs ho
   subst hb
   rw[hvv] at e
   obtain ⟨x,j,rs2,fp,fr,us,el,k1,k2,k3,k4,k5,k6⟩:=φ4r h ho t _ _ he5
   obtain ⟨xs,ids,ks3,fq,tq,fs,m1,m2,m3,m4,m5⟩:=φ3p h ps vs (n+1) _ _ hl' hp' k1
   refine ⟨_,_,ks3,(W.η id::fp)++fq,(W.η id::tops t us)++tq,fr++fs,m1,⟨v,vs,_,fq,_,tq,rfl,rfl,rfl,?_,?_⟩,?_,?_,?_⟩
   ·rw[φ1J];exact ⟨W.η id,us,el,fp,e,rfl,rfl,k2,Ow.mono (w:=w) φ28 (fun _ _=>rfl) t _ _ _ (fun _ _=>rfl) k3⟩
   ·rw[φ1F];exact m2.mono φ2G
   ·rw[←κG,φ10];exact φz k4 m3
   ·intro k hk
    rw[←κG] at hk
    rcases mA.1 hk with hk | hk
    ·exact k5 k hk
    ·exact m4 k hk
   ·intro b hb
    rw[←κG]
    rcases mA.1 hb with hb | hb
    ·obtain ⟨j',hj,z⟩:=k6 b hb;exact ⟨j',mL _ hj,z⟩
    ·obtain ⟨j',hj,z⟩:=m5 b hb;exact ⟨j',mR _ hj,z⟩
def φ1T:List PK→List Value→Nat→Option Value
 | p::_,v::_,0=>if φ40 p then some v else none
 | _::ps,_::vs,n+1=>φ1T ps vs n
 | _,_,_=>none
theorem φ5Z:∀(ps:List PK) (vs:List Value) (n:Nat) (v:Value),φ1T ps vs n=some v→vs[n]?=some v
 | p::_,u::_,0,v,h=>by
  simp only[φ1T] at h
  split at h
  ·simpa using h
  ·simp at h
 | _::ps,_::vs,n+1,v,h=>by simpa using φ5Z ps vs n v h
 | [],_,_,_,h=>by simp[φ1T] at h
 | _::_,[],0,_,h=>by simp[φ1T] at h
 | _::_,[],_+1,_,h=>by simp[φ1T] at h
theorem φ5K:∀(ps:List PK) (vs:List Value) (n:Nat) (v:Value) (p:PK),vs[n]?=some v→ps[n]?=some p→φ40 p=true→φ1T ps vs n=some v
 | p::_,u::_,0,v,q,h,h2,h3=>by
  simp only[List.getElem?_cons_zero,Option.some.injEq] at h h2
  subst h;subst h2
  simp[φ1T,h3]
 | _::ps,_::vs,n+1,v,q,h,h2,h3=>φ5K ps vs n v q (by simpa using h) (by simpa using h2) h3
 | [],_,_,_,_,_,h,_=>by simp at h
 | _::_,[],_,_,_,h,_,_=>by simp at h
theorem φ63 (ws:List Nat):∀(ps:List PK) (n:Nat),φ1U ws ps n=true→∀(vs:List Value) (j:Nat),j+n∈ws→φ1T ps vs j=none
 | [],_,_,vs,j,_=>by cases vs<;>cases j<;>rfl
 | p::ps,n,h,[],j,_=>by cases j<;>rfl
 | p::ps,n,h,v::vs,0,hj=>by
  cases p with
  | val t=>rfl
  | io t=>simp only[φ1U,bA,κF] at h;rw[Nat.zero_add] at hj;rw[(φ2J n ws).2 hj] at h;simp at h
  | ptr t=>simp only[φ1U,bA,κF] at h;rw[Nat.zero_add] at hj;rw[(φ2J n ws).2 hj] at h;simp at h
 | p::ps,n,h,v::vs,j+1,hj=>by
  have h2:φ1U ws ps (n+1)=true:=by
   cases p with
   | val t=>exact h
   | io t=>simp only[φ1U,bA] at h;exact h.2
   | ptr t=>simp only[φ1U,bA] at h;exact h.2
  exact φ63 ws ps (n+1) h2 vs j (by rw[show j+(n+1)=j+1+n by omega];exact hj)
theorem φ6w (n:Nat):∀l,φ35 n l=true→∀d∈l,d<n
 | [],_,d,hd=>by simp at hd
 | m::l,h,d,hd=>by
  simp only[φ35,bA] at h
  rcases mc.1 hd with k | k
  ·subst k;exact κ9 h.1
  ·exact φ6w n l h.2 d k
theorem φ5A {S:Nat→Prop}:∀(ps:List PK) (vs:List Value) (x:Tys (ps.map PK.ty)) (fp tp:List Nat),φe w S ps vs x fp tp→vs.length=ps.length
 | [],_,_,_,_,⟨h,_⟩=>by rw[h];rfl
 | _::ps,_,_,_,_,⟨v,vs',f1,f2,t1,t2,e,_,_,_,h⟩=>by rw[e,lC,lC,φ5A ps vs' _ _ _ h]
theorem φ4z:∀(a b:List Ty) (x:Tys a) (y:Tys b),φ1C a b (φ2g a b x y)=(x,y)
 | [],_,_,_=>rfl
 | [_],[],_,_=>rfl
 | [_],_::_,_,_=>rfl
 | _::u::r,b,x,y=>by
  show (match φ1C (u::r) b (φ2g (u::r) b x.2 y) with | (p,q)=>((x.1,p),q))=_
  rw[φ4z (u::r) b]
  rfl
theorem φ8a {fn:Func} {us:List Value} (h:All2 (fun v u=>(φ1R P a v).run P w=.ok u w) fn.results.toList us):(results fn a.tmps).run P w=.ok (resV us) w:=by
 have h1:=φ73 (P:=P) (w:=w) (φ1R P a) fn.results.toList us h
 have h2:(fn.results.mapM fun x=>φ1R P a x).run P w=.ok us.toArray w:=by
  rw[Array.mapM_eq_mapM_toList]
  simp[h1]
 unfold results
 rw[Sem.run_bind]
 show ((Sem.run P (Array.mapM (fun x=>φ1R P a x) fn.results) w).andThen _)=_
 rw[h2,Result.andThen_ok,Sem.run_pure]
 match us with
 | []=>rfl
 | [u]=>rfl
 | u::v::l=>rfl
theorem φ5e [Laid] (hT:φK P T) (hE:φ0 P E) (hm:P.follows .mixedOrders=true) {g:Nat} {fn:Func} {body:Code} {ctr:Ctr} (hf:P.funcs[g]?=some fn) (hn:(fn.name == "runtime.NumGoroutine")=false) (hb:fn.body=some body)
  (hev:∀x,evF T E A ctr.g fn.ntmps fn.results.toList body x=ctr.fn x):φ1 P g ctr:=by
 intro w args x S fp tp y hS hargs hnd himm hLw hLf hy o a K Q hK
 have hx:=(hev x).trans hy
 have hcall:(callFunc g args.toArray).run P w=.ok (.enter g args.toArray) w:=by
  have hne:¬fn.name = "runtime.NumGoroutine" := by simpa using hn
  unfold callFunc
  simp[run_program,hf,hne,hb]
 rw[hcall,Oper.upon_enter]
 refine calls_of_wp hf hb ?_
 unfold evF at hx
 cases hck:(φ1U (writes body) ctr.g.ps 0 && φ35 fn.ntmps (writes body) && Nat.ble ctr.g.ps.length fn.ntmps && dwOk E ctr.g && svOk E ctr.g) with
 | false=>rw[hck] at hx;simp at hx
 | true=>
  rw[hck] at hx
  simp only[nZ,cF] at hx
  simp only[bA] at hck
  obtain ⟨⟨⟨⟨c1,c2⟩,c3⟩,c4⟩,c5⟩:=hck
  have d3:ctr.g.sv=true→nsE E=false∧φ1P ctr.g.ps=true:=fun q=>by
   unfold svOk at c5
   rw[q] at c5
   simp only[nZ,Bool.false_or,bA,κF] at c5
   exact ⟨c5.1,c5.2.2⟩
  have d1:holE E=true→nsE E=true:=fun q=>by
   unfold dwOk at c4
   rw[q] at c4
   simp only[nZ,Bool.false_or,bA] at c4
   exact c4.1
  have d2:nsE E=true→ctr.g.dw=false→φ1w (ctr.g.ps.map PK.ty)=false:=fun q q2=>by
   unfold dwOk at c4
   rw[q,q2] at c4
   simpa using c4
  have c3:ctr.g.ps.length≤fn.ntmps:=κ9 c3
  have hlen:=φ5A _ _ _ _ _ hargs
  let B:Base:={ w0:=w,S0:=fun b=>ctr.g.sv=false∧S b,sj:=fun b=>ctr.g.sv=true∧S b,fpT:=fun b=>b∈tp,fpN:=fun b=>b∈fp,pin:=φ1T ctr.g.ps args,nt:=fn.ntmps,ns:=nsE E,hol:=holE E,fpC:=fun b=>b∈tp∨(ctr.g.dw=true∧b∈fp) }
  let a0:Act:={ tmps:=args.toArray++Array.replicate (fn.ntmps - args.toArray.size) undef,defers:=[] }
  have hget:∀(j:Nat) (v:Value),args[j]?=some v→a0.tmps.getD j undef=v:=fun j v hv=>by
   have hlt:j<args.length:=by
    rcases κ4 j args.length with h | h
    ·exact h
    ·rw[List.getElem?_eq_none h] at hv;simp at hv
   have hv2:args[j]=v:=by rw[List.getElem?_eq_getElem hlt] at hv;simpa using hv
   show (args.toArray++Array.replicate (fn.ntmps - args.toArray.size) undef).getD j undef=v
   have hl2:j<(args.toArray++Array.replicate (fn.ntmps - args.toArray.size) undef).size:=by simp;omega
   simp[Array.getD,hl2,hlt,hv2]
   omega
  have hbase:Rel B (fun i=>i<0) St.empty a0 w ⟨fun b=>ctr.g.sv=false∧S b,fun _=>0,fun _=>[],fun _=>0,fun _=>false,nsE E,holE E,fun _ _=>undef,fun b=>ctr.g.sv=true∧S b⟩:=
   {slots:=fun i=>⟨fun k=>by simp[St.empty,φL] at k,trivial⟩
    mS:=fun i id k=>k.elim
    mO:=fun id l hx=>by simp[St.empty] at hx
    al:=fun id hx=>by simp[St.empty] at hx
    row:=fun id t xs hx=>by simp[St.empty] at hx
    var:=fun id l hx=>by simp[St.empty] at hx
    nod:=fun i hx=>by simp[St.empty] at hx
    dis:=fun i j _ hx=>by simp[St.empty] at hx
    imm:=fun i hx=>by simp[St.empty] at hx
    bnd:=fun b hb=>hS b hb.2
    def0:=rfl
    size:=by show (args.toArray++Array.replicate (fn.ntmps - args.toArray.size) undef).size=fn.ntmps;simp;omega
    pins:=fun n v hv=>hget n v (φ5Z _ _ _ _ hv)
    os:=rfl
    tape:=rfl
    output:=rfl
    grown:=κD _
    old:=fun _ _ _=>rfl
    ownT:=fun i hx=>by simp[St.empty] at hx
    ownN:=fun i hx=>by simp[St.empty] at hx
    from0:=fun b hb=>.inl hb
    ns:=rfl
    hol:=rfl
    hn:=d1
    cTop:=fun b hb=>.inl hb
    cN:=fun q b hb=>by
     cases hdw:ctr.g.dw with
     | true=>exact .inr ⟨hdw,hb⟩
     | false=>exact .inl (φ4i _ (d2 q hdw) _ _ _ _ hargs b hb)
    hdr:=fun _ id t xs hx=>by simp[St.empty] at hx
    sj:=rfl
    sjB:=fun b hb=>by
     have hb1:ctr.g.sv=true:=hb.1
     refine ⟨hS b hb.2,fun k=>?_,(d3 hb1).1⟩
     refine himm b ?_ hb.2
     rw[hb1];exact k }
  obtain ⟨s1,f1,k1,k2⟩:=φ51 (B:=B) (sv:=ctr.g.sv) (S:=S) (fun k b hb=>(⟨k,hb⟩:ctr.g.sv=true∧S b)) ctr.g.ps args x 0 St.empty 0 _ fp tp (fun k b hb=>(⟨k,hb⟩:ctr.g.sv=false∧S b)) (fun k=>(d3 k).2) hbase hargs (fun j v hv=>by rw[Nat.zero_add];exact hget j v hv) hnd (fun b hb k=>himm b (by rw[k.1];exact hb) k.2) (fun b _ j hj=>by simp[St.empty] at hj) (fun b hb=>.inr (.inl hb)) (fun b hb=>.inl hb) hx
  have hcode:φ2d B body:=fun d hd=>⟨φ6w _ _ c2 d hd,φ63 _ _ 0 c1 args d hd⟩
  have hEB:EnvB P E B:=⟨hE,hLw,fun b hb=>hb.elim (fun k=>hLf b (φ3f _ _ _ _ _ hargs b k)) (fun k=>hLf b k),fun b hb=>hb.imp id (·.2),rfl,rfl⟩
  refine (φ9X hT hEB hm body).1 _ s1 f1 _ y a0 w _ hcode k1 k2 fun e s2 f2 a2 w2 hk hs2=>?_
  have fin:((φy T ctr.g.rs fn.results.toList fun a i=>φ1V ctr.g.ps 0 fun b j=>.ret (φ2g (ctr.g.rs.map RK.ty) (ioOf ctr.g.ps) a b,i++j)).run s2 (fun p _=>bif φ18 p.2 then some p.1 else none) [])=some y →
    a2.defers=[]∧∃v,(results fn a2.tmps).run P w2=.ok v w2∧K (a.put o.dst v) w2:=by
   intro hk
   obtain ⟨W,hr⟩:=hs2
   rw[RP.run_eq] at hk
   cases hex:(φy T ctr.g.rs fn.results.toList fun a i=>φ1V ctr.g.ps 0 fun b j=>.ret (φ2g (ctr.g.rs.map RK.ty) (ioOf ctr.g.ps) a b,i++j)).exec s2 [] with
   | none=>rw[hex] at hk;simp at hk
   | some q=>
    obtain ⟨⟨z,ids⟩,ks⟩:=q
    rw[hex] at hk
    simp only[bS] at hk
    cases hnb:φ18 ids with
    | false=>rw[hnb] at hk;simp at hk
    | true=>
     rw[hnb] at hk
     have hk:z=y:=Option.some.inj hk
     subst hk
     obtain ⟨xa,ia,ks2,us,fa,ta,ra,m1,m2,m3,m4,m5,m6⟩:=φ4B hT hr _ _ _ _ hex
     obtain ⟨xb,ib,ks3,fb,tb,rb,n1,n2,n3,n4,n5⟩:=φ3p hr ctr.g.ps args 0 _ _ hlen (fun j v p hv hp hq=>by rw[Nat.zero_add];exact hr.pins j v (φ5K _ _ _ _ _ hv hp hq)) m1
     simp only[RP.exec,Option.some.injEq,Prod.mk.injEq] at n1
     obtain ⟨⟨rfl,rfl⟩,_⟩:=n1
     have hids:∀i∈ia++ib,(s2.ob i).isSome=true:=fun i hi=>(mA.1 hi).elim (m4 i) (n4 i)
     have hall:=hr.blkNodup _ (φ1t _ hnb) hids
     have hperm:(blk W (ia++ib)).Perm ((fa++fb)++(ra++rb)):=by rw[φ10];exact φz m3 n3
     have hpn:=hperm.nodup_iff.1 hall
     rw[κ2] at hpn
     have inB:∀b,b∈fa++fb∨b∈ra++rb→∃i∈ia++ib,b∈fpOf W i:=fun b hb=>φa.1 (hperm.mem_iff.2 (mA.2 hb))
     have org:∀b,b∈fa++fb∨b∈ra++rb→b∈tp∨b∈fp∨w.heap.size≤b:=fun b hb=>by
      obtain ⟨i,hi,hbi⟩:=inB b hb
      obtain ⟨hn2,q | q⟩:=φ2T hbi
      ·rw[q];exact (hr.ownT i (hids i hi) hn2).imp id .inr
      ·exact hr.ownN i (hids i hi) b q
     refine ⟨hr.def0,resV us,φ8a m6,?_⟩
     have tpfp:=φ3f _ _ _ _ _ hargs
     have org2:∀b,b∈fa++fb∨b∈ra++rb→b∈fp∨w.heap.size≤b:=fun b hb=>by
      rcases org b hb with k | k | k
      ·exact .inl (tpfp b k)
      ·exact .inl k
      ·exact .inr k
     refine hK us w2 (plus W.I (ra++rb)) fa fb ta tb ?_ ?_ ?_
     ·rw[φ4z];exact m2.mono φ28
     ·rw[φ4z];exact n2.mono φ2G
     ·exact {
       nd:=hpn.1
       imm:=fun b hb k=>by
        rcases k with k | k
        ·obtain ⟨i,hi,hbi⟩:=inB b (.inl hb);exact hr.imm i (hids i hi) b hbi k
        ·exact hpn.2.2 b hb b k rfl
       top:=fun b hb=>by
        have:∃i∈ia++ib,W.nl i=false∧b=W.η i:=by
         rcases mA.1 hb with k | k
         ·obtain ⟨i,hi,q⟩:=m5 b k;exact ⟨i,mL _ hi,q⟩
         ·obtain ⟨i,hi,q⟩:=n5 b k;exact ⟨i,mR _ hi,q⟩
        obtain ⟨i,hi,hn2,e⟩:=this
        rw[e];exact hr.ownT i (hids i hi) hn2
       all:=fun b hb=>org2 b (.inl hb)
       sub:=fun b hb=>by
        rcases hb with k | k
        ·rcases hr.from0 b k with q | q | q | q
         ·exact .inl q.2
         ·exact .inr (.inl (tpfp b q))
         ·exact .inr (.inl q)
         ·exact .inr (.inr q)
        ·exact .inr (org2 b (.inr k))
       bnd:=fun b hb=>by
        rcases hb with k | k
        ·exact hr.bnd b k
        ·obtain ⟨i,hi,hbi⟩:=inB b (.inr k);exact hr.lt (hids i hi) b hbi
       old:=fun b hb hn2 hn3=>hr.old b hb fun q=>q.elim hn2 fun k=>hn3 k.1 k.2
       size:=hr.grown
       os:=hr.os
       tape:=hr.tape
       output:=hr.output }
  cases e with
  | exit n=>simp at hk
  | normal=>exact fin hk
  | ret=>exact fin hk
end
end Go.Rf
namespace Go.Rf
def eqV:Value→Value→Bool
 | .int k n,.int k' m=>kEq k k' && decide (n=m)
 | .bool a,.bool b=>a==b
 | .string a,.string b=>decide (a.data.toList=b.data.toList)
 | .slice none n c,.slice none m d=>Nat.beq n m && Nat.beq c d
 | .nilIface,.nilIface=>true
 | _,_=>false
theorem φ9b {a b:Value} (h:eqV a b=true):a=b:=by
 unfold eqV at h
 split at h
 ·simp only[bA,decide_eq_true_eq] at h
  rw[φ1M h.1,h.2]
 ·simp only[beq_iff_eq] at h;rw[h]
 ·simp only[decide_eq_true_eq] at h
  congr 1
  apply ByteArray.ext
  apply Array.ext'
  exact h
 ·simp only[bA] at h
  rw[κ1 h.1,κ1 h.2]
 ·rfl
 ·simp at h
def eqVs:List Value→List Value→Bool
 | [],[]=>true
 | a::r,b::r'=>eqV a b && eqVs r r'
 | _,_=>false
theorem φ6y:∀{l m:List Value},eqVs l m=true→l=m
 | [],[],_=>rfl
 | a::r,b::r',h=>by
  simp only[eqVs,bA] at h
  rw[φ9b h.1,φ6y h.2]
 | [],_::_,h=>by simp[eqVs] at h
 | _::_,[],h=>by simp[eqVs] at h
def φ3F (P:Program) (t n b:Nat) (zs:List Value):Bool:=
 match P.info? t with
 | some i=>Nat.beq i.size n && Nat.beq i.bytes b && match i.zero with
  | some z=>eqVs z.cells.toList zs
  | none=>false
 | none=>false
theorem φ68 {P:Program} {t n b:Nat} {zs:List Value} (h:φ3F P t n b zs=true):φ1v P t n b zs:=by
 unfold φ3F at h
 unfold φ1v
 cases hi:P.info? t with
 | none=>rw[hi] at h;simp at h
 | some i=>
  rw[hi] at h
  simp only[bA] at h
  cases hz:i.zero with
  | none=>rw[hz] at h;simp at h
  | some z=>
   rw[hz] at h
   exact ⟨by simp[κ1 h.1.1],by simp[κ1 h.1.2],z,by simp[hz],φ6y h.2⟩
def φ2U (P:Program):List Field→List (Nat×Nat×Bool)→Bool
 | [],[]=>true
 | fd::fs,(o,n,g)::l=>Nat.beq fd.offset o && (match P.info? fd.type with | some i=>Nat.beq i.size n | none=>false) && !Nat.beq n 0 && (match P.underlying fd.type with | some d=>aggD d==g | none=>false) && φ2U P fs l
 | _,_=>false
theorem φ62 {P:Program}:∀{fs:List Field} {l:List (Nat×Nat×Bool)},φ2U P fs l=true→fs.length=l.length ∧
  ∀(j o n:Nat) (g:Bool),l[j]?=some (o,n,g)→∃fd:Field,fs[j]?=some fd∧fd.offset=o∧(P.info? fd.type).map (·.size)=some n∧n≠0∧(P.underlying fd.type).map aggD=some g
 | [],[],_=>⟨rfl,by simp⟩
 | fd::fs,(o,n,g)::l,h=>by
  simp only[φ2U,bA] at h
  obtain ⟨⟨⟨⟨h1,h2⟩,h3⟩,h4⟩,h5⟩:=h
  obtain ⟨k1,k2⟩:=φ62 h5
  refine ⟨by simp[k1],fun j o' n' g' hj=>?_⟩
  cases j with
  | zero=>
   simp only[List.getElem?_cons_zero,Option.some.injEq,Prod.mk.injEq] at hj
   obtain ⟨rfl,rfl,rfl⟩:=hj
   refine ⟨fd,rfl,κ1 h1,?_,?_,?_⟩
   ·cases hi:P.info? fd.type with
    | none=>rw[hi] at h2;simp at h2
    | some i=>rw[hi] at h2;simp[κ1 h2]
   ·intro e;subst e;simp at h3
   ·cases hi:P.underlying fd.type with
    | none=>rw[hi] at h4;simp at h4
    | some d=>rw[hi] at h4;simpa using h4
  | succ j=>exact k2 j o' n' g' (by simpa using hj)
 | [],_::_,h=>by simp[φ2U] at h
 | _::_,[],h=>by simp[φ2U] at h
def φ4e (P:Program) (T:Tab) (t:Nat) (td:TD):Bool:=
 match td.ty,P.underlying t with
 | .int k,some (.int k')=>kEq k k'
 | .bool,some .bool=>true
 | .str,some .string=>true
 | .sl _ e,some (.slice el)=>(match td.elem with | some el'=>Nat.beq el el' | none=>false) && φ3F P el e.size (φ1E T t) (φd e)
 | .pair _ _,_=>td.agg
 | .box _ _,some (.interface _)=>true
 | _,_=>false
theorem φ8h {P:Program} {T:Tab} {t:Nat} {td:TD} (h:φ4e P T t td=true):match td.ty with
  | .int k=>P.underlying t=some (.int k)
  | .bool=>P.underlying t=some .bool
  | .str=>P.underlying t=some .string
  | .sl _ e=>∃el,td.elem=some el∧P.underlying t=some (.slice el)∧φ1v P el e.size (φ1E T t) (φd e)
  | .pair _ _=>td.agg=true
  | .box _ _=>∃ms,P.underlying t=some (.interface ms):=by
 unfold φ4e at h
 split at h
 ·rename_i k k' h1 h2;rw[h1];simp only;rw[h2,φ1M h]
 ·rename_i h1 h2;rw[h1];exact h2
 ·rename_i h1 h2;rw[h1];exact h2
 ·rename_i m e el h1 h2
  rw[h1]
  simp only[bA] at h
  cases he:td.elem with
  | none=>rw[he] at h;simp at h
  | some el'=>
   rw[he] at h
   have:=κ1 h.1
   subst this
   exact ⟨el,rfl,h2,φ68 h.2⟩
 ·rename_i a b h1;rw[h1];exact h
 ·rename_i g t ms h1 h2;rw[h1];exact ⟨ms,h2⟩
 ·simp at h
end Go.Rf
namespace Go.Rf
theorem φ5W {a c:Sc} {r r':List Sc} {z:Bool} (h:φI (a::r) (c::r')=some z):∃x y,φI.eqSc a c=some x∧φI r r'=some y∧z=(x && y):=by
 cases r with
 | nil=>
  cases r' with
  | nil=>exact ⟨z,true,by simpa [φI] using h,rfl,by simp⟩
  | cons=>simp only[φI] at h;split at h<;>simp_all [φI]
 | cons p q=>
  simp only[φI] at h
  split at h
  ·rename_i x y h1 h2
   simp only[Option.some.injEq] at h
   exact ⟨x,y,h1,h2,h.symm⟩
  ·simp at h
theorem φ6X:∀(l1 m1:List Sc) {l2 m2:List Sc} {z:Bool},l1.length=m1.length→φI (l1++l2) (m1++m2)=some z→∃x y,φI l1 m1=some x∧φI l2 m2=some y∧z=(x && y)
 | [],[],_,_,z,_,h=>⟨true,z,rfl,h,by simp⟩
 | a::l1,c::m1,l2,m2,z,hl,h=>by
  obtain ⟨x,y,h1,h2,h3⟩:=φ5W h
  obtain ⟨x2,y2,k1,k2,k3⟩:=φ6X l1 m1 (by simpa using hl) h2
  refine ⟨x && x2,y2,?_,k2,by rw[h3,k3,Bool.and_assoc]⟩
  cases l1 with
  | nil=>
   cases m1 with
   | nil=>simp only[φI,Option.some.injEq] at k1 ⊢;rw[h1,←k1];simp
   | cons=>simp at hl
  | cons p q=>
   cases m1 with
   | nil=>simp at hl
   | cons p' q'=>simp only[φI];rw[h1,k1]
 | [],_::_,_,_,_,h,_=>by simp at h
 | _::_,[],_,_,_,h,_=>by simp at h
theorem φ4w:∀{a b:List Nat},φ1q a b=true→a=b
 | [],[],_=>rfl
 | a::r,b::r',h=>by
  simp only[φ1q,bA] at h
  rw[κ1 h.1,φ4w h.2]
 | [],_::_,h=>by simp[φ1q] at h
 | _::_,[],h=>by simp[φ1q] at h
theorem φ2P:∀(l:List Sc),φ1A l=l.map φ2i
 | []=>rfl
 | c::r=>by simp[φ1A,φ2P r]
theorem φ3X:∀{l m:List Sc} {b:Bool},φI l m=some b→l.length=m.length
 | [],[],_,_=>rfl
 | a::r,c::r',b,h=>by
  obtain ⟨x,y,_,h2,_⟩:=φ5W h
  simp[φ3X h2]
 | [],_::_,_,h=>by simp[φI] at h
 | _::_,[],_,h=>by simp[φI] at h
def eqFs (P:Program) (g:TypeId→Option (List Nat)):List Field→Nat→Option (List Nat)
 | [],_=>some []
 | f::fs,n=>match g f.type,P.info? f.type with
  | some ks,some i=>bif (f.name == "_") || !Nat.beq f.offset n || !Nat.beq i.size ks.length then none else
   match eqFs P g fs (n+ks.length) with
   | some r=>some (ks++r)
   | none=>none
  | _,_=>none
def eqT (P:Program):Nat→TypeId→Option (List Nat)
 | 0,_=>none
 | d+1,t=>match P.underlying t with
  | some (.int _)=>some [0]
  | some .bool=>some [1]
  | some .string=>some [2]
  | some (.struct fs)=>bif P.stoodInHeld t then none else eqFs P (eqT P d) fs.toList 0
  | _=>none
def EqOk (P:Program) (d:Nat) (t:TypeId) (ks:List Nat):Prop:=
 ∃g,(P.underlying t).map aggD=some g∧(g=false→ks.length=1)∧∀(d':Nat),d≤d'→∀(w:World) (l m:List Sc) (b:Bool) (vs us:List Value),φ1A l=ks→φI l m=some b→All2 φ11 l vs→All2 φ11 m us →
  (Op.equalIn d' t (mkV g vs) (mkV g us)).run P w=.ok b w
theorem φ5s {P:Program} {t n:Nat} {g:Bool} {w:World} (hs:(P.info? t).map (·.size)=some n) (hg:(P.underlying t).map aggD=some g) (h1:g=false→n=1) {pre cs post:List Value} (hc:cs.length=n) :
  (part t (pre++(cs++post)).toArray pre.length).run P w=.ok (mkV g cs) w:=by
 unfold part
 rw[Sem.run_bind,φ44 w hg,Result.andThen_ok]
 cases g with
 | true=>
  simp only[if_true,Sem.run_bind,φ1x w hs,Result.andThen_ok,Sem.run_pure,mkV]
  congr 2
  apply Array.ext'
  simp[←hc,List.take_append,List.drop_append]
 | false=>
  have h1:=h1 rfl
  subst h1
  obtain ⟨v,rfl⟩:∃v,cs=[v]:=by
   match cs,hc with
   | [v],_=>exact ⟨v,rfl⟩
  simp[mkV]
theorem φ6v {P:Program} {d:Nat} {g:TypeId→Option (List Nat)} (hg:∀t n,g t=some n→EqOk P d t n):∀(fs:List Field) (n:Nat) (N:List Nat),eqFs P g fs n=some N →
  ∀(d':Nat),d≤d'→∀(w:World) (l m:List Sc) (b:Bool) (pre vs pre' us:List Value),pre.length=n→pre'.length=n→φ1A l=N→φI l m=some b→All2 φ11 l vs→All2 φ11 m us →
   (Op.eqFields d' (pre++vs).toArray (pre'++us).toArray fs).run P w=.ok b w
 | [],n,N,h=>by
  simp only[eqFs,Option.some.injEq] at h
  subst h
  intro d' _ w l m b pre vs pre' us _ _ hl he _ _
  have hl:l=[]:=by cases l with
   | nil=>rfl
   | cons=>simp[φ1A] at hl
  subst hl
  have hm:m=[]:=by have:=φ3X he;cases m with
   | nil=>rfl
   | cons=>simp at this
  subst hm
  simp only[φI,Option.some.injEq] at he
  subst he
  simp[Op.eqFields]
 | f::fs,n,N,h=>by
  simp only[eqFs] at h
  split at h<;>try (simp at h;done)
  rename_i ks i hk hi
  cases hb:((f.name == "_") || !Nat.beq f.offset n || !Nat.beq i.size ks.length) with
  | true=>rw[hb] at h;simp at h
  | false=>
   rw[hb] at h
   simp only[cF] at h
   split at h<;>try (simp at h;done)
   rename_i r hr
   simp only[Option.some.injEq] at h
   subst h
   simp only[κ6,Bool.not_eq_false'] at hb
   obtain ⟨⟨hname,hoff⟩,hsz⟩:=hb
   have hoff:=κ1 hoff
   have hsz:=κ1 hsz
   obtain ⟨gg,e1,e2,e3⟩:=hg _ _ hk
   have ih:=φ6v hg fs (n+ks.length) r hr
   intro d' hd w l m b pre vs pre' us hp hp' hl he hv hu
   have hvl:=hv.length
   have hul:=hu.length
   have hlm:=φ3X he
   have hll:l.length=ks.length+r.length:=by have:=congrArg List.length hl;rw[φ2P] at this;simpa using this
   have hl1:φ1A (l.take ks.length)=ks:=by rw[φ2P,List.map_take,←φ2P,hl];simp
   have hl2:φ1A (l.drop ks.length)=r:=by rw[φ2P,List.map_drop,←φ2P,hl];simp
   have el:l=l.take ks.length++l.drop ks.length:=(κJ ks.length l).symm
   have em:m=m.take ks.length++m.drop ks.length:=(κJ ks.length m).symm
   have ev:vs=vs.take ks.length++vs.drop ks.length:=(κJ ks.length vs).symm
   have eu:us=us.take ks.length++us.drop ks.length:=(κJ ks.length us).symm
   rw[el,em] at he
   obtain ⟨x,y,h1,h2,h3⟩:=φ6X (l.take ks.length) (m.take ks.length) (by simp;omega) he
   have hsize:(P.info? f.type).map (·.size)=some ks.length:=by rw[hi];simp[hsz]
   have r1:=φ5s (P:=P) (w:=w) hsize e1 e2 (pre:=pre) (cs:=vs.take ks.length) (post:=vs.drop ks.length) (by simp;omega)
   have r2:=φ5s (P:=P) (w:=w) hsize e1 e2 (pre:=pre') (cs:=us.take ks.length) (post:=us.drop ks.length) (by simp;omega)
   have r3:=e3 d' hd w (l.take ks.length) (m.take ks.length) x (vs.take ks.length) (us.take ks.length) hl1 h1 (hv.take ks.length) (hu.take ks.length)
   rw[←ev,hp] at r1
   rw[←eu,hp'] at r2
   have r4:=ih d' hd w (l.drop ks.length) (m.drop ks.length) y (pre++vs.take ks.length) (vs.drop ks.length) (pre'++us.take ks.length) (us.drop ks.length) (by simp;omega) (by simp;omega) hl2 h2 (hv.drop ks.length) (hu.drop ks.length)
   rw[aA,aA,←ev,←eu] at r4
   have hne:f.name ≠ "_" := by simpa using hname
   simp only[Op.eqFields,if_pos hne,Sem.run_bind,hoff,r1,r2,r3,Result.andThen_ok]
   cases x with
   | false=>simp[h3]
   | true=>simp[h3,r4]
theorem φ5V {P:Program}:∀(d:Nat) (t:TypeId) (n:List Nat),eqT P d t=some n→EqOk P d t n
 | 0,_,_,h=>by simp[eqT] at h
 | d+1,t,n,h=>by
  simp only[eqT] at h
  have one:∀(q:Nat) (l m:List Sc) (b:Bool) (vs us:List Value),φ1A l=[q]→φI l m=some b→All2 φ11 l vs→All2 φ11 m us→∃a c v u,φ2i a=q∧φI.eqSc a c=some b∧vs=[v]∧us=[u]∧φ11 a v∧φ11 c u:=by
   intro q l m b vs us hl he hv hu
   have hm:=φ3X he
   match l,m,hl,hm,hv,hu with
   | [a],[c],hl,_,⟨v,vs',e1,p1,q1⟩,⟨u,us',e2,p2,q2⟩=>
    have q1:vs'=[]:=q1
    have q2:us'=[]:=q2
    subst q1;subst q2
    exact ⟨a,c,v,u,by simpa [φ1A] using hl,by simpa [φI] using he,e1,e2,p1,p2⟩
  split at h<;>try (simp at h;done)
  ·rename_i k hu
   simp only[Option.some.injEq] at h
   subst h
   refine ⟨false,by rw[hu];rfl,fun _=>rfl,fun d' hd w l m b vs us hl he hv hu2=>?_⟩
   obtain ⟨d'',rfl⟩:∃d'',d'=d''+1:=⟨d' - 1,by omega⟩
   obtain ⟨a,c,v,u,h0,h1,rfl,rfl,p1,p2⟩:=one 0 l m b vs us hl he hv hu2
   show (Op.equalIn (d''+1) t v u).run P w=_
   cases a<;>simp[φ2i] at h0
   cases c<;>simp only[φI.eqSc,reduceCtorEq] at h1
   rename_i k1 n1 k2 n2
   cases hk:kEq k1 k2 with
   | false=>rw[hk] at h1;simp at h1
   | true=>
    rw[hk] at h1
    simp only[cT,Option.some.injEq] at h1
    rw[show v=.int k1 n1 from p1,show u=.int k2 n2 from p2,←φ1M hk,run_equalIn_int w d'' t k1 k n1 n2 hu,h1]
  ·rename_i hu
   simp only[Option.some.injEq] at h
   subst h
   refine ⟨false,by rw[hu];rfl,fun _=>rfl,fun d' hd w l m b vs us hl he hv hu2=>?_⟩
   obtain ⟨d'',rfl⟩:∃d'',d'=d''+1:=⟨d' - 1,by omega⟩
   obtain ⟨a,c,v,u,h0,h1,rfl,rfl,p1,p2⟩:=one 1 l m b vs us hl he hv hu2
   show (Op.equalIn (d''+1) t v u).run P w=_
   cases a<;>simp[φ2i] at h0
   cases c<;>simp only[φI.eqSc,reduceCtorEq,Option.some.injEq] at h1
   rename_i n1 n2
   rw[show v=.bool n1 from p1,show u=.bool n2 from p2,run_equalIn_bool' w d'' t n1 n2 hu,h1]
  ·rename_i hu
   simp only[Option.some.injEq] at h
   subst h
   refine ⟨false,by rw[hu];rfl,fun _=>rfl,fun d' hd w l m b vs us hl he hv hu2=>?_⟩
   obtain ⟨d'',rfl⟩:∃d'',d'=d''+1:=⟨d' - 1,by omega⟩
   obtain ⟨a,c,v,u,h0,h1,rfl,rfl,p1,p2⟩:=one 2 l m b vs us hl he hv hu2
   show (Op.equalIn (d''+1) t v u).run P w=_
   cases a<;>simp[φ2i] at h0
   cases c<;>simp only[φI.eqSc,reduceCtorEq,Option.some.injEq] at h1
   rename_i n1 n2
   rw[show v=.string ⟨n1.toArray⟩ from p1,show u=.string ⟨n2.toArray⟩ from p2,run_equalIn_string w d'' t _ _ hu,ByteArray.toList_eq,ByteArray.toList_eq,←h1]
  ·rename_i fs hu
   cases hs:P.stoodInHeld t with
   | true=>rw[hs] at h;simp at h
   | false=>
    rw[hs] at h
    simp only[cF] at h
    refine ⟨true,by rw[hu];rfl,fun h=>by simp at h,fun d' hd w l m b vs us hl he hv hu2=>?_⟩
    obtain ⟨d'',rfl⟩:∃d'',d'=d''+1:=⟨d' - 1,by omega⟩
    have:=φ6v (P:=P) (d:=d) (fun t n h=>φ5V d t n h) fs.toList 0 n h d'' (by omega) w l m b [] vs [] us rfl rfl hl he hv hu2
    have hf:P.fieldsOf t=fs:=by unfold Program.fieldsOf;rw[hu]
    show (Op.equalIn (d''+1) t (.agg vs.toArray) (.agg us.toArray)).run P w=_
    rw[run_equalIn_agg w d'' t _ _ (by rw[hf];exact hu) hs,hf]
    exact this
def φ4j (P:Program) (T:Tab) (t:Nat) (td:TD):Bool:=
 φ3F P t td.ty.size td.bytes (φd td.ty) && (φ4e P T t td && (td.ty.plain || (match td.ty with | .box _ _=>true | _=>false))) &&
 (match P.underlying t with
  | some (.struct fs)=>td.agg && Nat.beq fs.size td.flds.length && φ2U P fs.toList td.flds
  | some d=>!td.agg && !aggD d && (match td.flds with | []=>true | _=>false)
  | none=>false) &&
 (!td.eq || (td.agg && !P.eqGuardType P.depth t && (match eqT P 20 t with | some ks=>φ1q ks (φ2y td.ty) | none=>false)))
def φ3M (P:Program) (T:Tab):Tab→Bool
 | []=>true
 | (t,td)::r=>φ4j P T t td && φ3M P T r
theorem φ7P {P:Program} {T:Tab} {t:Nat} {td:TD} (h:φ4j P T t td=true):TypeOk P T t td:=by
 unfold φ4j at h
 simp only[bA] at h
 obtain ⟨⟨⟨h1,h2⟩,h3⟩,h4⟩:=h
 have hpl:td.ty.plain=true∨∃g t,td.ty=.box g t:=by
  have h22:=h2.2
  simp only[Bool.or_eq_true] at h22
  rcases h22 with k | k
  ·exact .inl k
  ·split at k
   ·rename_i g t e;exact .inr ⟨g,t,e⟩
   ·simp at k
 refine ⟨φ68 h1,?_,hpl,?_,φ8h h2.1,?_⟩
 ·intro ha
  split at h3
  ·rename_i fs hu
   simp only[bA] at h3
   have hs:=κ1 h3.1.2
   obtain ⟨k1,k2⟩:=φ62 h3.2
   refine ⟨fs,hu,hs,fun j o n g hj=>?_⟩
   obtain ⟨fd,e1,e2⟩:=k2 j o n g hj
   exact ⟨fd,by rw[←Array.getElem?_toList];exact e1,e2⟩
  ·rw[ha] at h3;simp at h3
  ·simp at h3
 ·intro ha
  split at h3
  ·rw[ha] at h3;simp at h3
  ·rename_i d hn hu
   simp only[bA,κF] at h3
   refine ⟨by rw[hu];simp[h3.1.2],?_⟩
   have h5:=h3.2
   split at h5
   ·assumption
   ·simp at h5
  ·simp at h3
 ·intro he
  rw[he] at h4
  simp only[nZ,Bool.false_or,bA,κF] at h4
  refine ⟨h4.1.2,?_⟩
  have ha:=h4.1.1
  have h5:=h4.2
  split at h5
  ·rename_i ks hk
   have:=φ4w h5
   subst this
   obtain ⟨g,e1,e2,e3⟩:=φ5V 20 t _ hk
   intro w xs ys l m b hl hc hx hy
   have hl:=φ4w hl
   have r:=e3 10000 (by decide) w l m b xs.toList ys.toList hl hc hx hy
   have hg:g=true:=by
    split at h3
    ·rename_i fs hu;rw[hu] at e1;simpa [aggD] using e1.symm
    ·rw[ha] at h3;simp at h3
    ·simp at h3
   subst hg
   simpa [mkV] using r
  ·simp at h5
theorem φ5t {P:Program} {T:Tab}:∀{R:Tab},φ3M P T R=true→∀t td,lkp R t=some td→TypeOk P T t td
 | [],_,_,_,h=>by simp[lkp] at h
 | (t,td)::r,hc,t',td',h=>by
  simp only[φ3M,bA] at hc
  unfold lkp at h
  cases he:nEq t t' with
  | true=>
   rw[he] at h
   simp only[cT,Option.some.injEq] at h
   rw[←κ1 he,←h]
   exact φ7P hc.1
  | false=>
   rw[he] at h
   exact φ5t hc.2 t' td' h
theorem tabOk {P:Program} {T:Tab} (h:φ3M P T T=true):φK P T:=φ5t h
end Go.Rf
namespace Go.Rf
open Go.RowKit
def wfD:(t:Ty)→t.den→Prop
 | .int k,n=>k.min≤(show Int from n)∧(show Int from n)≤k.max
 | .bool,_=>True
 | .str,s=>List.length (α:=UInt8) s≤reachBytes
 | .sl _ t,xs=>List.length (α:=t.den) xs≤reachBytes∧∀x,List.Mem (α:=t.den) x xs→wfD t x
 | .pair a b,x=>wfD a x.1∧wfD b x.2
 | .box _ t,x=>wfD t x
def chkF (P:Program) (g:Ty→TypeId→Bool):List Field→Ty→Nat→Bool
 | [],_,_=>false
 | [f],T,o=>g T f.type && Nat.beq f.offset o && Nat.beq (P.cellsOf f.type) T.size
 | f::h::r,T,o=>match T with
  | .pair a b=>g a f.type && Nat.beq f.offset o && Nat.beq (P.cellsOf f.type) a.size && chkF P g (h::r) b (o+a.size)
  | _=>false
def φ1c (P:Program):Nat→Ty→TypeId→Bool
 | 0,_,_=>false
 | n+1,T,t=>match T,P.underlying t with
  | .int k,some (.int k')=>kEq k k'
  | .bool,some .bool=>true
  | .str,some .string=>true
  | .sl _ e,some (.slice el)=>Nat.beq (P.cellsOf el) e.size && Nat.ble 1 (P.bytesOf el) && φ1c P n e el
  | .pair a b,some (.struct fs)=>chkF P (φ1c P n) fs.toList (.pair a b) 0 && Nat.beq (P.cellsOf t) (Ty.pair a b).size
  | _,_=>false
section
variable {H:Type} {enc:TypeId×Value→H} {P:Program} {w:World}
theorem φ6d {α:Type} {R:Nat→α→Prop}:∀(n:Nat),(∀i,i<n→∃d,R i d)→∃xs:List α,xs.length=n∧∀(i:Nat) (d:α),xs[i]?=some d→R i d
 | 0,_=>⟨[],rfl,by simp⟩
 | n+1,h=>by
  obtain ⟨xs,h1,h2⟩:=φ6d n fun i hi=>h i (by omega)
  obtain ⟨d,hd⟩:=h n (by omega)
  refine ⟨xs++[d],by simp[h1],fun i e he=>?_⟩
  rcases κ4 i xs.length with k | k
  ·rw[List.getElem?_append_left k] at he;exact h2 i e he
  ·rw[List.getElem?_append_right k] at he
   have:i=n:=by
    rcases Nat.eq_zero_or_pos (i - xs.length) with z | z
    ·omega
    ·rw[List.getElem?_eq_none (by simp;omega)] at he;simp at he
   subst this
   rw[h1,Nat.sub_self] at he
   simp only[List.getElem?_cons_zero,Option.some.injEq] at he
   rw[←he];exact hd
theorem φ5B {α:Type} {R:α→List Value→Prop} (L:List Value) (c:Nat):∀(xs:List α) (off:Nat),(∀(i:Nat) (x:α),xs[i]?=some x→R x ((L.drop (off+i * c)).take c))→Ch R xs ((L.drop off).take (xs.length * c))
 | [],off,_=>by show _=_;simp
 | x::xs,off,h=>by
  have h0:=h 0 x rfl
  have ih:=φ5B L c xs (off+c) fun i y hy=>by
   have:=h (i+1) y (by simpa using hy)
   rw[show off+c+i * c=off+(i+1) * c by rw[Nat.add_mul];omega];exact this
  refine ⟨(L.drop off).take c,(L.drop (off+c)).take (xs.length * c),?_,by simpa using h0,ih⟩
  rw[lC,Nat.add_mul,Nat.one_mul,Nat.add_comm (xs.length * c) c,List.take_add,List.drop_drop]
theorem φ52 {a:Addr} {n:Nat} {cs:List Value} (h:w.cells? 0 a n=some cs):cs.length=n∧∀j,j<n→w.cell? (a.add j)=cs[j]?:=by
 unfold World.cells? at h
 rw[if_pos (κL _)] at h
 exact ⟨by simpa using mapM_some_length h,fun j hj=>mapM_some_get h j j (by simp[hj])⟩
theorem φ5w (a:Addr) (i j:Nat):(a.add i).add j=a.add (i+j):=by
 unfold Addr.add
 by_cases hi:i=0
 ·subst hi;simp
 ·by_cases hj:j=0
  ·subst hj;simp
  ·simp[hi,hj,Nat.add_assoc]
theorem φ83 {a:Addr} {n:Nat} {v:Nat→Option Value} (hn:0<n) (h:∀j,j<n→w.cell? (a.add j)=v j) (hv:∀j,j<n→(v j).isSome=true) :
  a.spot=none∧a.block<w.heap.size∧∃C e fr,w.heap[a.block]?=some (.cells C e fr)∧a.off+n≤C.size∧∀j,j<n→C[a.off+j]?=v j:=by
 have h0:=h 0 hn
 have hv0:=hv 0 hn
 have a0:a.add 0=a:=by simp[Addr.add]
 rw[a0] at h0
 unfold World.cell? at h0
 split at h0
 ·rename_i C e fr hh
  have hs:a.spot=none:=by
   cases hsp:a.spot with
   | none=>rfl
   | some x=>rw[hsp] at h0;simp at h0;rw[←h0] at hv0;simp at hv0
  have hall:∀j,j<n→C[a.off+j]?=v j:=fun j hj=>by
   have:=h j hj
   have e1:a.add j=⟨a.block,a.off+j,none⟩:=by
    obtain ⟨b,o,sp⟩:=a
    simp only at hs
    subst hs
    exact φ1d b o j
   rw[e1] at this
   unfold World.cell? at this
   rw[hh] at this
   simpa using this
  refine ⟨hs,?_,C,e,fr,hh,?_,hall⟩
  ·rcases κ4 a.block w.heap.size with k | k
   ·exact k
   ·rw[Array.getElem?_eq_none k] at hh;simp at hh
  ·have:=hall (n - 1) (by omega)
   have hz:=hv (n - 1) (by omega)
   rw[←this] at hz
   have hlt:a.off+(n - 1)<C.size:=by
    rcases κ4 (a.off+(n - 1)) C.size with k | k
    ·exact k
    ·rw[Array.getElem?_eq_none k] at hz;simp at hz
   omega
 ·rw[←h0] at hv0;simp at hv0
def φ4J (P:Program) (t:TypeId) (d:DataW H):Prop:=∀n∈d.weights P t,n≤reachBytes
theorem φ6a {e:TypeId}:∀{ds:List (DataW H)} {d:DataW H} {n:Nat},d∈ds→n∈d.weights P e→n∈DataW.weightsAll P e ds
 | x::ds,d,n,hd,hn=>by
  simp only[DataW.weightsAll,mA]
  rcases mc.1 hd with k | k
  ·subst k;exact .inl hn
  ·exact .inr (φ6a k hn)
def φ6M (P:Program) (w:World) (enc:TypeId×Value→H) (T:Ty) (t:TypeId):Prop:=
 ∀(fuel:Nat) (cs:List Value) (x:DataW H×List MemPlace),DataW.trod enc P w 0 (fun _=>true) true fuel t cs=some x→φ4J P t x.1→∃d,Rd w (fun b=>b<w.heap.size) T d cs∧wfD T d
theorem φ5D {g:Ty→TypeId→Bool} (hg:∀T t,g T t=true→φ6M P w enc T t) {m:Nat} {cs:List Value}:∀(fs:List Field) (T:Ty) (o:Nat) (xs:List (DataW H×List MemPlace)),chkF P g fs T o=true →
  (∀(i:Nat) (f:Field),fs[i]?=some f→DataW.trod enc P w 0 (fun _=>true) true m f.type ((cs.drop f.offset).take (P.cellsOf f.type))=xs[i]?)→xs.length=fs.length →
  (∀n∈DataW.weightsEach P (fs.map (·.type)) (xs.map (·.1)),n≤reachBytes)→∃d,Rd w (fun b=>b<w.heap.size) T d ((cs.drop o).take T.size)∧wfD T d
 | [],_,_,_,h,_,_,_=>by simp[chkF] at h
 | [f],T,o,xs,h,hx,hl,hw=>by
  simp only[chkF,bA] at h
  obtain ⟨⟨h1,h2⟩,h3⟩:=h
  have h2:=κ1 h2
  have h3:=κ1 h3
  obtain ⟨x,rfl⟩:∃x,xs=[x]:=by
   match xs,hl with
   | [x],_=>exact ⟨x,rfl⟩
  have:=hx 0 f rfl
  rw[h2,h3] at this
  exact hg T f.type h1 m _ x this fun n hn=>hw n (by simpa [DataW.weightsEach] using hn)
 | f::f2::r,T,o,xs,h,hx,hl,hw=>by
  simp only[chkF] at h
  split at h<;>try (simp at h;done)
  rename_i a b
  simp only[bA] at h
  obtain ⟨⟨⟨h1,h2⟩,h3⟩,h4⟩:=h
  have h2:=κ1 h2
  have h3:=κ1 h3
  obtain ⟨x,xs,rfl⟩:∃x xs',xs=x::xs':=by
   match xs,hl with
   | x::xs,_=>exact ⟨x,xs,rfl⟩
  have:=hx 0 f rfl
  rw[h2,h3] at this
  obtain ⟨d1,r1,w1⟩:=hg a f.type h1 m _ x this fun n hn=>hw n (by simp only[κH,DataW.weightsEach,mA];exact .inl hn)
  obtain ⟨d2,r2,w2⟩:=φ5D hg (f2::r) b (o+a.size) xs h4 (fun i f' hf=>by have:=hx (i+1) f' (by simpa using hf);simpa using this) (by simpa using hl)
   (fun n hn=>hw n (by simp only[κH,DataW.weightsEach,mA] at hn ⊢;exact .inr hn))
  exact ⟨(d1,d2),⟨_,_,by show List.take (a.size+b.size) _=_;rw[List.take_add,List.drop_drop],r1,r2⟩,w1,w2⟩
theorem φ4L:∀(n:Nat) (T:Ty) (t:TypeId),φ1c P n T t=true→φ6M P w enc T t
 | 0,_,_,h=>by simp[φ1c] at h
 | n+1,T,t,h=>by
  intro fuel cs x hx hl
  unfold φ1c at h
  split at h
  ·rename_i k k' hu
   have:=φ1M h
   subst this
   obtain ⟨z,e,e2,hw⟩:=DataW.trod_int hu hx
   simp only[Lit.wf,bA,decide_eq_true_eq] at hw
   exact ⟨z,e,hw⟩
  ·rename_i hu
   obtain ⟨z,e,_⟩:=DataW.trod_bool hu hx
   exact ⟨z,e,trivial⟩
  ·rename_i hu
   obtain ⟨z,e,e2,_⟩:=DataW.trod_string hu hx
   refine ⟨z.data.toList,e,?_⟩
   rw[e2] at hl
   exact hl _ (by simp[DataW.weights])
  ·rename_i m el elT hu
   simp only[bA] at h
   obtain ⟨⟨h1,h2⟩,h3⟩:=h
   have h1:=κ1 h1
   have h2:=κ9 h2
   have ih:=φ4L n el elT h3
   rcases DataW.trod_slice hu hx with ⟨e,_⟩ | ⟨a,len,cap,φ1K,rest,fu,_,e,e2,_,hlc,hcm,hel,hread,_⟩
   ·exact ⟨([]:List el.den),⟨none,0,e,κD _,.inl rfl⟩,κL _,fun _ hd=>by cases hd⟩
   ·rw[e2] at hl
    have hwl:(φ1K.length+rest.length) * P.bytesOf elT≤reachBytes:=hl _ (by simp[DataW.weights,hu])
    have hlen:φ1K.length≤reachBytes:=by
     have:φ1K.length+rest.length≤(φ1K.length+rest.length) * P.bytesOf elT:=Nat.le_mul_of_pos_right _ h2
     omega
    have hpos:=el.pos
    have each:∀i,i<len→∃(cs':List Value) (y:DataW H×List MemPlace),w.cells? 0 (a.add (i * el.size)) el.size=some cs'∧DataW.trod enc P w 0 (fun _=>true) true fu elT cs'=some y∧φ1K[i]?=some y:=fun i hi=>by
     have:=hread i hi
     rw[h1] at this
     have hlt:i<φ1K.length:=by omega
     rw[List.getElem?_eq_getElem hlt] at this
     obtain ⟨cs',q1,q2⟩:=Option.bind_eq_some_iff.1 this
     exact ⟨cs',_,q1,q2,List.getElem?_eq_getElem hlt⟩
    rcases Nat.eq_zero_or_pos len with hz | hz
    ·subst hz
     exact ⟨([]:List el.den),⟨some a,cap,e,κL _,.inl rfl⟩,κL _,fun _ hd=>by cases hd⟩
    ·let v:Nat→Option Value:=fun j=>w.cell? (a.add j)
     have hv:∀j,j<len * el.size→(v j).isSome=true:=fun j hj=>by
      have hi:j / el.size<len:=Nat.div_lt_of_lt_mul (by rw[Nat.mul_comm];exact hj)
      obtain ⟨cs',y,q1,_⟩:=each _ hi
      obtain ⟨l1,l2⟩:=φ52 q1
      have hm:j % el.size<el.size:=Nat.mod_lt _ hpos
      have:=l2 _ hm
      rw[φ5w,Nat.mul_comm,Nat.div_add_mod] at this
      show (w.cell? (a.add j)).isSome=true
      rw[this,List.getElem?_eq_getElem (by omega)];rfl
     obtain ⟨k1,k2,C,ec,fr,k3,k4,k5⟩:=φ83 (n:=len * el.size) (v:=v) (Nat.mul_pos hz hpos) (fun j _=>rfl) hv
     have chunk:∀i,i<len→∃d,Rd w (fun b=>b<w.heap.size) el d ((C.toList.drop (a.off+i * el.size)).take el.size)∧wfD el d:=fun i hi=>by
      obtain ⟨cs',y,q1,q2,q3⟩:=each i hi
      obtain ⟨l1,l2⟩:=φ52 q1
      have hcs:cs'=(C.toList.drop (a.off+i * el.size)).take el.size:=by
       have hb:i * el.size+el.size≤len * el.size:=by rw[←Nat.succ_mul];exact Nat.mul_le_mul_right _ hi
       apply List.ext_getElem?
       intro j
       by_cases hj:j<el.size
       ·rw[←l2 j hj,φ5w,List.getElem?_take_of_lt hj,List.getElem?_drop,Array.getElem?_toList,Nat.add_assoc,k5 _ (by omega)]
       ·rw[List.getElem?_eq_none (by omega),List.getElem?_eq_none (by simp;omega)]
      rw[←hcs]
      refine ih fu cs' y q2 fun n hn=>hl n ?_
      simp only[DataW.weights,hu,mc,mA]
      exact .inr (.inl (φ6a (mM.2 ⟨y,List.mem_of_getElem? q3,rfl⟩) hn))
     obtain ⟨xs,x1,x2⟩:=φ6d len chunk
     refine ⟨xs,⟨some a,cap,by rw[e,x1],by rw[x1];exact hlc,.inr ⟨a,C,ec,fr,C.toList.take a.off,(C.toList.drop a.off).take (xs.length * el.size),C.toList.drop (a.off+xs.length * el.size),rfl,k1,k2,k3,?_,?_,?_⟩⟩,by rw[x1];omega,?_⟩
     ·rw[←List.drop_drop,κJ,κJ]
     ·rw[lT,κK];omega
     ·exact φ5B _ _ xs a.off fun i d hd=>(x2 i d hd).1
     ·intro d hd
      obtain ⟨i,hi⟩:=List.getElem?_of_mem hd
      exact (x2 i d hi).2
  ·rename_i a b fs hu
   simp only[bA] at h
   obtain ⟨h1,h2⟩:=h
   have h2:=κ1 h2
   obtain ⟨xs,m,_,e,hlen,hxl,hf⟩:=DataW.trod_struct hu hx
   rw[e] at hl
   obtain ⟨d,hd,hw⟩:=φ5D (fun T t h=>φ4L n T t h) (m:=m) (cs:=cs) fs.toList (.pair a b) 0 xs h1 (fun i f hf2=>hf i f (by simpa using hf2)) (by simpa using hxl)
    (fun k hk=>hl k (by simpa [DataW.weights,hu] using hk))
   refine ⟨d,?_,hw⟩
   rw[List.drop_zero,←h2,←hlen,κB] at hd
   exact hd
  ·simp at h
end
section
variable {P:Program}
def φ2K:List PK→Bool
 | []=>true
 | .val t::r=>!t.owns && φ2K r
 | _=>false
theorem φ99 {w:World} {S:Nat→Prop}:∀(ps:List PK),φ2K ps=true→∀(vs:List Value) (x:Tys (ps.map PK.ty)) fp tp,φe w S ps vs x fp tp→fp=[]∧tp=[]
 | [],_,_,_,_,_,⟨_,h1,h2⟩=>⟨h1,h2⟩
 | p::ps,h,_,x,_,_,⟨v,vs',f1,f2,t1,t2,e1,e2,e3,h1,h2⟩=>by
  cases p with
  | val t=>
   simp only[φ2K,bA,κF] at h
   obtain ⟨_,q,ht⟩:=h1
   obtain ⟨rfl,rfl⟩:=φ99 ps h.2 vs' _ _ _ h2
   have:=φ2j t h.1 _ _ _ q
   subst this
   rw[φ34 t h.1] at ht
   subst ht
   exact ⟨e2,e3⟩
  | io t=>simp[φ2K] at h
  | ptr t=>simp[φ2K] at h
theorem φ86 [Laid] {g:Nat} {fn:Func} {body:Code} {c:Ctr} (hc:φ1 P g c) (hf:P.funcs[g]?=some fn) (hn:(fn.name == "runtime.NumGoroutine")=false) (hb:fn.body=some body)
  (ps:List PK) (hs:c.g=⟨ps,[.val .bool],false,false⟩) (hl:φ2K ps=true) (w:World) (args:List Value) (x:Tys c.g.ins) (y:Tys c.g.outs) (hargs:φe w (fun b=>b<w.heap.size) c.g.ps args x [] []) (hL:Laid.L w) (hy:c.fn x=some y)
  (htrue:∀(w':World) (S':Nat→Prop) us f1 t1,φW w' S' c.g.rs us (φ1C (c.g.rs.map RK.ty) (ioOf c.g.ps) y).1 f1 t1→us=[.bool true]) :
  Calls P g args.toArray w fun e w'=>e=.returned (.bool true)∧Below w.heap.size w w':=by
 have h:=hc w args x (fun b=>b<w.heap.size) [] [] y (fun _ h=>h) hargs List.nodup_nil (by simp) hL (by simp) hy
  {dst:=some 0,op:=.move (.const .nilIface),type:=0,pos := "",after:=#[],guard:=none } ⟨#[undef],[]⟩ (fun a' w'=>a'.tmps.getD 0 undef=.bool true∧Below w.heap.size w w') (fun _ _ _=>False)
  (fun us w' S' f1 f2 t1 t2 hr _ post=>?_)
 ·have hcall:(callFunc g args.toArray).run P w=.ok (.enter g args.toArray) w:=by
   have hne:¬fn.name = "runtime.NumGoroutine" := by simpa using hn
   unfold callFunc
   simp[run_program,hf,hne,hb]
  rw[hcall,Oper.upon_enter] at h
  refine h.mono fun e w' he=>?_
  cases e with
  | returned v=>
   have he:((⟨#[undef],[]⟩:Act).put (some 0) v).tmps.getD 0 undef=.bool true∧Below w.heap.size w w':=he
   obtain ⟨h1,h2⟩:=he
   refine ⟨?_,h2⟩
   have:v=.bool true:=by simpa [Act.put] using h1
   rw[this]
  | panicked ch=>exact he.elim
  | outgrown=>exact absurd he (by simp[LetsOut])
 ·have:=htrue w' S' us f1 t1 hr
  subst this
  exact ⟨by simp[Act.put,resV],post.os,post.tape,post.output,post.size,fun k hk=>post.old k hk (by simp) (fun _=>by simp)⟩
end
end Go.Rf
namespace Go.Rf
open Go.RowKit Go.WideShapes
section
variable {P:Program}
theorem φ0.nil [Laid]:φ0 P []:=fun g cs h=>by simp[lkp] at h
theorem φ0.cons [Laid] {g:Nat} {cs:List Ctr} {E:Env} (h:∀c∈cs,φ1 P g c) (hE:φ0 P E):φ0 P ((g,cs)::E):=fun g' cs' hl=>by
 unfold lkp at hl
 cases he:nEq g g' with
 | true=>
  rw[he] at hl
  simp only[cT,Option.some.injEq] at hl
  rw[←(φ9 _ _).1 he,←hl]
  exact h
 | false=>
  rw[he] at hl
  exact hE g' cs' hl
theorem φ2D [Laid] {g:Nat}:∀c∈([]:List Ctr),φ1 P g c:=by simp
theorem φ7u [Laid] {g:Nat} {c:Ctr} {cs:List Ctr} (h:φ1 P g c) (hs:∀c∈cs,φ1 P g c):∀d∈c::cs,φ1 P g d:=fun d hd=>by
 rcases mc.1 hd with k | k
 ·rw[k];exact h
 ·exact hs d k
variable {H:Type} {enc:TypeId×Value→H} {W:World}
theorem φ7t {n:Nat} {T:Ty} {t:TypeId} {r:Reach} {base:Nat} {v:Value} (h:φ1c P n T t=true) (hv:Value.okWide P W r base t v):Form T v:=by
 unfold Form
 cases n with
 | zero=>simp[φ1c] at h
 | succ n=>
  unfold φ1c at h
  split at h
  ·rename_i hu;obtain ⟨z,rfl⟩:=okWide_int hu hv;rfl
  ·rename_i hu;obtain ⟨z,rfl⟩:=okWide_bool hu hv;rfl
  ·rename_i hu;obtain ⟨z,rfl⟩:=okWide_string hu hv;rfl
  ·rename_i hu;obtain ⟨a,l,c,rfl⟩:=okWide_slice hu hv;rfl
  ·rename_i hu;obtain ⟨cs,rfl,_⟩:=okWide_struct hu hv;exact ⟨cs,rfl⟩
  ·simp at h
theorem φ8G {n:Nat} {T:Ty} {t:TypeId} {r:Reach} {base:Nat} {v:Value} {d:DataW H} {p:List MemPlace} (h:φ1c P n T t=true) (ho:T.owns=false) (hv:Value.okWide P W r base t v)
  (hd:DataW.Trod enc P W 0 (fun _=>true) true t v d p) (hl:φ4J P t d):∃x,φT W (fun b=>b<W.heap.size) (.val T) x v [] []∧wfD T x:=by
 obtain ⟨fuel,hf⟩:=hd
 obtain ⟨x,h1,h2⟩:=φ4L n T t h fuel _ _ hf hl
 exact ⟨x,⟨φ7t h hv,φ3A T ho x _ h1,(φ34 T ho _).symm⟩,h2⟩
theorem φ9W {ts:List TypeId} {ds:List (DataW H)} (h:(DataW.weightsEach P ts ds).all (·≤reachBytes)=true) {j:Nat} {t:TypeId} {d:DataW H} (ht:ts[j]?=some t) (hd:ds[j]?=some d):φ4J P t d:=fun n hn=>by
 have:=List.all_eq_true.1 h n (DataW.weights_mem_each ht hd n hn)
 simpa using this
theorem φA0 {S:Nat→Prop}:φe W S [] [] () [] []:=⟨rfl,rfl,rfl⟩
theorem φ7m {S:Nat→Prop} {T:Ty} {ps:List PK} {v:Value} {vs:List Value} {x:T.den} {xs:Tys (ps.map PK.ty)} (h:φT W S (.val T) x v [] []) (hs:φe W S ps vs xs [] []) :
  φe W S (.val T::ps) (v::vs) (φS T (ps.map PK.ty) x xs) [] []:=by
 refine ⟨v,vs,[],[],[],[],rfl,rfl,rfl,?_,?_⟩
 ·show φT W S (.val T) (φ4 T (ps.map PK.ty) (φS T (ps.map PK.ty) x xs)) v [] []
  rw[φ1J];exact h
 ·show φe W S ps vs (φF T (ps.map PK.ty) (φS T (ps.map PK.ty) x xs)) [] []
  rw[φ1F];exact hs
theorem φ9S {S:Nat→Prop} {us:List Value} {x:Bool} {f1 t1:List Nat} (h:φW W S [.val .bool] us x f1 t1):us=[.bool x]:=by
 obtain ⟨v,vs',f1,f2,t1,t2,e1,e2,e3,⟨hF,⟨h1,_⟩,_⟩,h2,_⟩:=h
 subst e1;subst h2
 have hF:v.oneCell'=true:=hF
 have h1:v.cells.toList=[.bool x]:=h1
 rw[cells_one hF] at h1
 simp at h1
 rw[h1]
theorem φ8l {t:TypeId} {v:Value} {d:DataW H} {p:List MemPlace} (hd:DataW.Trod enc P W 0 (fun _=>true) true t v d p):∀x∈p,x.block<W.heap.size:=by
 obtain ⟨m,hm⟩:=hd;exact DataW.trod_lt m _ _ _ hm
theorem φ7l {spare:Nat→Bool} {held:Bool} {base t:Nat} (hu:P.underlying t=some .bool) (b:Bool):DataW.Trod enc P W base spare held t (.bool b) (.lit (.bool b)) []:=
 ⟨1,by simp[DataW.trod,Value.cells,hu]⟩
end
end Go.Rf
namespace Go.Rf
open Go.RowKit
theorem φ43 [Laid] {P:Program} {g:Nat} {c:Ctr} {fn:Func} (hf:P.funcs[g]?=some fn) (hn:(fn.name == "runtime.NumGoroutine")=false) (hb:fn.body.isSome=true)
  (h:∀(w:World) (args:List Value) (x:Tys c.g.ins) (S:Nat→Prop) (fp tp:List Nat) (y:Tys c.g.outs),(∀b,S b→b<w.heap.size)→φe w S c.g.ps args x fp tp→Laid.L w→c.fn x=some y →
   Calls P g args.toArray w fun e w'=>∃us S' f1 f2 t1 t2,e=.returned (resV us)∧φW w' S' c.g.rs us (φ1C (c.g.rs.map RK.ty) (ioOf c.g.ps) y).1 f1 t1∧φg w' S' c.g.ps args (φ1C (c.g.rs.map RK.ty) (ioOf c.g.ps) y).2 f2 t2 ∧
    Post w S fp tp c.g.dw w' S' (f1++f2) (t1++t2)):φ1 P g c:=by
 intro w args x S fp tp y hS hargs _ _ hLw _ hy o a K Q hK
 have hcall:(callFunc g args.toArray).run P w=.ok (.enter g args.toArray) w:=by
  have hne:¬fn.name = "runtime.NumGoroutine" := by simpa using hn
  obtain ⟨body,hb⟩:=Option.isSome_iff_exists.1 hb
  unfold callFunc
  simp[run_program,hf,hne,hb]
 rw[hcall,Oper.upon_enter]
 refine (h w args x S fp tp y hS hargs hLw hy).mono fun e w' he=>?_
 obtain ⟨us,S',f1,f2,t1,t2,rfl,q1,q2,q3⟩:=he
 exact hK us w' S' f1 f2 t1 t2 q1 q2 q3
theorem φ5G {w w':World} {S:Nat→Prop} (hS:∀b,S b→b<w.heap.size) (h:Below w.heap.size w w'):Post w S [] [] false w' S [] []:=
 {nd:=List.nodup_nil
  imm:=by simp
  top:=by simp
  all:=by simp
  sub:=fun b hb=>.inl hb
  bnd:=fun b hb=>κ7 (hS b hb) h.size
  old:=fun b hb _ _=>h.block b hb
  size:=h.size
  os:=h.os
  tape:=h.tape
  output:=h.output }
abbrev φ7g:Laid:=⟨fun _=>True,fun _=>False,fun _ _ _ h=>h,fun _ _ _ h=>h.elim⟩
abbrev φAB (P:Program) (name:String) (k:IntKind) (zs:List Int):Laid where
 L w:=Lib.TabIs P w name k zs
 lb b:=P.globalNamed name=some b
 keep w w' h hL:=by
  unfold Lib.TabIs World.var? at *
  cases hg:P.globalNamed name with
  | none=>rw[hg] at hL;simp at hL
  | some g=>rw[hg] at hL;simp only[bS] at hL ⊢;rw[h g hg];exact hL
 bnd w b hL hb:=by
  unfold Lib.TabIs World.var? at hL
  rw[hb] at hL
  simp only[bS] at hL
  rcases κ4 b w.heap.size with h | h
  ·exact h
  ·rw[Array.getElem?_eq_none h] at hL;simp at hL
namespace G
noncomputable def strconv_Itoa.f (n:Int):Option (List UInt8):=bif decide (-9223372036854775808≤n) && decide (n≤9223372036854775807) then some (Lib.itoa n) else none
end G
def φ9V:Sig:=⟨[.val (.int .i64)],[.val .str],false,false⟩
noncomputable def φ8k:Ctr:=⟨φ9V,fun x=>G.strconv_Itoa.f x⟩
theorem φA4 [Laid] {P:Program} {g:Nat} {fn:Func} (hf:P.funcs[g]?=some fn) (hn:(fn.name == "runtime.NumGoroutine")=false) (hb:fn.body.isSome=true)
  (h:∀n:Int,-9223372036854775808≤n→n≤9223372036854775807→∀w,Laid.L w→Calls P g #[.int .i64 n] w fun e w'=>e=.returned (.string ⟨(Lib.itoa n).toArray⟩)∧Below w.heap.size w w'):φ1 P g φ8k:=by
 refine φ43 hf hn hb fun w args x0 S fp tp y hS hargs hL hy=>?_
 obtain ⟨x,hx⟩:∃x:Int,x=x0:=⟨x0,rfl⟩
 obtain ⟨v,vs',f1,f2,t1,t2,rfl,rfl,rfl,⟨hF,⟨hv,rfl⟩,rfl⟩,rfl,rfl,rfl⟩:=hargs
 have hF:v.oneCell'=true:=hF
 have hc:=Go.Rf.cells_one hF
 have hv:v.cells.toList=[.int .i64 x]:=by rw[hx];exact hv
 rw[hc] at hv
 have hv:v=.int .i64 x:=by simpa using hv
 subst hv
 have hy:G.strconv_Itoa.f x=some y:=by rw[hx];exact hy
 unfold G.strconv_Itoa.f at hy
 cases hr:(decide (-9223372036854775808≤x) && decide (x≤9223372036854775807)) with
 | false=>rw[hr] at hy;simp at hy
 | true=>
  rw[hr] at hy
  rw[cT] at hy
  cases hy
  simp only[bA,decide_eq_true_eq] at hr
  refine (h x hr.1 hr.2 w hL).mono fun e w' ⟨he,hB⟩=>?_
  refine ⟨[.string ⟨(Lib.itoa x).toArray⟩],S,[],[],[],[],he,?_,?_,φ5G hS hB⟩
  ·exact ⟨_,[],[],[],[],[],rfl,rfl,rfl,⟨rfl,⟨rfl,rfl⟩,rfl⟩,rfl,rfl,rfl⟩
  ·exact ⟨_,[],rfl,rfl,rfl,rfl⟩
end Go.Rf
namespace Go.Rf
open Go.RowKit
abbrev φAC (g:Nat):Laid where
 L w:=∃m,w.cell? ⟨g,0,none⟩=some (.int .i64 m)
 lb b:=b=g
 keep w w' h hL:=by
  obtain ⟨m,hm⟩:=hL
  refine ⟨m,?_⟩
  unfold World.cell? at hm ⊢
  rw[h g rfl]
  exact hm
 bnd w b hL hb:=by
  obtain ⟨m,hm⟩:=hL
  subst hb
  exact World.block_lt_of_cell? _ _ hm
namespace G
noncomputable def strings_Split.f (s sep:List UInt8):Option (List (List UInt8)):=
 bif decide (1≤sep.length) && decide (s.length<4294967281) then some ((Lib.splitB ⟨sep.toArray⟩ 0 (Lib.countB ⟨s.toArray⟩ ⟨sep.toArray⟩) ⟨s.toArray⟩).map fun b=>b.data.toList) else none
end G
def φ9F:Sig:=⟨[.val .str,.val .str],[.val (.sl true .str)],false,false⟩
noncomputable def φ80:Ctr:=⟨φ9F,fun x=>G.strings_Split.f x.1 x.2⟩
theorem φ9o (b:ByteArray):(⟨b.data.toList.toArray⟩:ByteArray)=b:=by
 cases b;simp
theorem φ5L {w:World} {I:Nat→Prop}:∀l:List ByteArray,ChO (Ow w I .str) (l.map fun b=>b.data.toList) (l.map Value.string) []
 | []=>⟨rfl,rfl⟩
 | b::l=>⟨[.string b],l.map Value.string,[],[],rfl,rfl,⟨by show [Value.string b]=[Value.string ⟨b.data.toList.toArray⟩];rw[φ9o],rfl⟩,φ5L l⟩
theorem φA7 [Laid] {P:Program} {g:Nat} {fn:Func} {t9:TypeId} (hf:P.funcs[g]?=some fn) (hn:(fn.name == "runtime.NumGoroutine")=false) (hb:fn.body.isSome=true)
  (h:∀s sep:ByteArray,s.size<4294967281→1≤sep.size→∀w,Laid.L w→Calls P g #[.string s,.string sep] w fun e w'=>
   e=.returned (.slice (some ⟨w.heap.size,0,none⟩) (Lib.countB s sep+1) (Lib.countB s sep+1))∧w'=w.alloc (.cells ((Lib.splitB sep 0 (Lib.countB s sep) s).map Value.string).toArray t9)):φ1 P g φ80:=by
 refine φ43 hf hn hb fun w args x0 S fp tp y hS hargs hL hy=>?_
 obtain ⟨s,sep,hx⟩:∃s sep:List UInt8,x0=(s,sep):=⟨x0.1,x0.2,rfl⟩
 subst hx
 obtain ⟨v,vs',f1,f2,t1,t2,rfl,rfl,rfl,⟨hF,⟨hv,rfl⟩,rfl⟩,v',vs2,g1,g2,u1,u2,rfl,rfl,rfl,⟨hF',⟨hv',rfl⟩,rfl⟩,rfl,rfl,rfl⟩:=hargs
 have hF:v.oneCell'=true:=hF
 have hF':v'.oneCell'=true:=hF'
 have hv:v.cells.toList=[.string ⟨s.toArray⟩]:=hv
 have hv':v'.cells.toList=[.string ⟨sep.toArray⟩]:=hv'
 rw[Go.Rf.cells_one hF] at hv
 rw[Go.Rf.cells_one hF'] at hv'
 have hv:v=.string ⟨s.toArray⟩:=by simpa using hv
 have hv':v'=.string ⟨sep.toArray⟩:=by simpa using hv'
 subst hv;subst hv'
 have hy:G.strings_Split.f s sep=some y:=hy
 unfold G.strings_Split.f at hy
 cases hr:(decide (1≤sep.length) && decide (s.length<4294967281)) with
 | false=>rw[hr] at hy;simp at hy
 | true=>
  rw[hr] at hy
  rw[cT] at hy
  simp only[bA,decide_eq_true_eq] at hr
  have h1:1≤(⟨sep.toArray⟩:ByteArray).size:=by show 1≤sep.toArray.size;simpa using hr.1
  have h2:(⟨s.toArray⟩:ByteArray).size<4294967281:=by show s.toArray.size<_;simpa using hr.2
  have hlen:=Lib.splitB_all ⟨sep.toArray⟩ h1 0 _ ⟨s.toArray⟩ rfl
  refine (h ⟨s.toArray⟩ ⟨sep.toArray⟩ h2 h1 w hL).mono fun e w' ⟨he,hw⟩=>?_
  generalize Lib.splitB ⟨sep.toArray⟩ 0 (Lib.countB ⟨s.toArray⟩ ⟨sep.toArray⟩) ⟨s.toArray⟩=L at *
  have hy:y=L.map fun b=>b.data.toList:=(Option.some.inj hy).symm
  subst hy
  subst hw
  have hheap:(w.alloc (.cells (L.map Value.string).toArray t9)).heap[w.heap.size]?=some (.cells (L.map Value.string).toArray t9 (0,0)):=by show (w.heap.push _)[w.heap.size]?=_;simp
  have hold:∀b,b<w.heap.size→(w.alloc (.cells (L.map Value.string).toArray t9)).heap[b]?=w.heap[b]?:=fun b hb=>by show (w.heap.push _)[b]?=_;rw[Array.getElem?_push,if_neg (Nat.ne_of_lt hb)]
  have hsz:(w.alloc (.cells (L.map Value.string).toArray t9)).heap.size=w.heap.size+1:=by show (w.heap.push _).size=_;simp
  have hl2:(L.map fun b=>b.data.toList).length=Lib.countB ⟨s.toArray⟩ ⟨sep.toArray⟩+1:=by rw[lM,hlen]
  refine ⟨[.slice (some ⟨w.heap.size,0,none⟩) (Lib.countB ⟨s.toArray⟩ ⟨sep.toArray⟩+1) (Lib.countB ⟨s.toArray⟩ ⟨sep.toArray⟩+1)],S,[w.heap.size],[],[w.heap.size],[],he,?_,?_,?_⟩
  ·refine ⟨_,[],[w.heap.size],[],[w.heap.size],[],rfl,rfl,rfl,⟨rfl,?_,rfl⟩,rfl,rfl,rfl⟩
   refine .inr ⟨w.heap.size,Lib.countB ⟨s.toArray⟩ ⟨sep.toArray⟩+1,[],?_,rfl,L.map Value.string,[],t9,by rw[κ5];exact hheap,?_,?_,φ5L L⟩
   ·show [Value.slice _ _ _]=[Value.slice _ (L.map fun b=>b.data.toList).length _]
    rw[hl2]
   ·rw[κ5,lM,hlen];show _=_ * 1;omega
   ·show (L.map fun b=>b.data.toList).length≤_
    rw[hl2];exact κD _
  ·exact ⟨_,_,rfl,_,_,rfl,rfl,rfl,rfl⟩
  ·exact
   {nd:=by simp
    imm:=fun b hb k=>by
     have:b=w.heap.size:=by simpa using hb
     have:=hS b k;omega
    top:=fun b hb=>.inr (by have:b=w.heap.size:=(by simpa using hb);omega)
    all:=fun b hb=>.inr (by have:b=w.heap.size:=(by simpa using hb);omega)
    sub:=fun b hb=>.inl hb
    bnd:=fun b hb=>by rw[hsz];have:=hS b hb;omega
    old:=fun b hb _ _=>hold b hb
    size:=by rw[hsz];omega
    os:=rfl
    tape:=rfl
    output:=rfl }
section
variable {H:Type} {enc:TypeId×Value→H}
theorem φA8 {a:Assume} {C:Checked} {os:Os} {f:FuncId} {fn:Func} {s:ChangeSpec} {conds:List PathCond} {φw fresh handsOn again:Bool} {X:World→Array Value→Prop}
  (hX:∀(w w':World) (args:Array Value),w.heap=w'.heap→X w args→X w' args)
  (own:ownKnob C.prog.godebug=none) (started:os.Started) (noInit:C.prog.inits.idxOf? f=none) (hfn:C.prog.funcs[f]?=some fn)
  (witness:∃(w:World) (tape:Tape) (i:Input),w.os=os∧(w.forCall tape i).Shaped C.prog∧i.vars=[]∧Input.okWide C.prog (w.forCall tape i) .any w.heap.size f i ∧
   ((s.pre enc C.prog fn conds φw (w.forCall tape i).memory i.args∧X (w.forCall tape i).memory i.args)∧sizedMet enc C.prog fn (OpenSpec.ofChange s) φw (w.forCall tape i).memory i.args)∧a.holds C.prog (lone (Frame.enter C.prog f i.args .normal) [] (w.forCall tape i)))
  (contract:∀(W:World) (base:Nat) (args:Array Value) (ds gs:List (DataW H)) (before:List MemPlace),W.ShapedOpen C.prog →
   (∀(j:Nat) t v,fn.params[j]?=some t→args[j]?=some v→Value.okWide C.prog W .any base t v) →
   DataW.Whole enc C.prog fn.params.toList s.vars φw W args.toList ds gs before →
   conds.all (PathCond.test C.prog ⟨fn.params.toList,ds,s.plain.varTypes C.prog,gs⟩)=true →
   (DataW.weightsEach C.prog (fn.params.toList++s.plain.varTypes C.prog) (ds++gs)).all (·≤reachBytes)=true→X W args →
   a.holds C.prog (lone (Frame.enter C.prog f args .normal) [] W) →
   Calls C.prog f args W fun e W'=>∃v,e=.returned v∧s.post enc C.prog fn φw fresh handsOn again W args v W') :
  ReturnsInHanded a C os f .any (fun w args=>(s.pre enc C.prog fn conds φw w args∧X w args)∧sizedMet enc C.prog fn (OpenSpec.ofChange s) φw w args) (s.post enc C.prog fn φw fresh handsOn again):=by
 refine returnsInHanded_of_calls own started noInit witness ?_
 intro w tape i _ hsh _ hok hpre hholds
 obtain ⟨_,_,_,fn',hfn',_,_,_,_,hval⟩:=hok
 have e:fn'=fn:=Option.some.inj (hfn'.symm.trans hfn)
 subst e
 obtain ⟨⟨⟨ds,gs,before,hw,hc⟩,hx⟩,hz⟩:=hpre
 have hw':=DataW.Whole.of_heap (w':=w.forCall tape i) (by rfl) hw
 refine (contract (w.forCall tape i) w.heap.size i.args ds gs before hsh hval hw' hc (hz.weights hw) (hX _ _ _ (by rfl) hx) hholds).mono fun e W' ⟨v,he,hp⟩=>?_
 subst he
 exact ChangeSpec.post_blind hp
end
end Go.Rf
namespace Go.Rf
open Go.RowKit
abbrev φA9 (g h:Nat):Laid where
 L w:=(∃ev,w.cell? ⟨g,0,none⟩=some ev∧(ev=.nilIface∨∃te pe,ev=.iface te pe))∧∃ev,w.cell? ⟨h,0,none⟩=some ev∧(ev=.nilIface∨∃te pe,ev=.iface te pe)
 lb b:=b=g∨b=h
 keep w w' hk hL:=by
  obtain ⟨⟨e1,h1,k1⟩,e2,h2,k2⟩:=hL
  unfold World.cell? at *
  refine ⟨⟨e1,?_,k1⟩,e2,?_,k2⟩
  ·rw[hk g (.inl rfl)];exact h1
  ·rw[hk h (.inr rfl)];exact h2
 bnd w b hL hb:=by
  obtain ⟨⟨e1,h1,k1⟩,e2,h2,k2⟩:=hL
  rcases hb with hb | hb
  ·subst hb;exact World.block_lt_of_cell? _ _ h1
  ·subst hb;exact World.block_lt_of_cell? _ _ h2
abbrev φA1 (a b:Laid):Laid where
 L w:=a.L w∧b.L w
 lb x:=a.lb x∨b.lb x
 keep w w' hk hL:=⟨a.keep w w' (fun x hx=>hk x (.inl hx)) hL.1,b.keep w w' (fun x hx=>hk x (.inr hx)) hL.2⟩
 bnd w x hL hx:=hx.elim (a.bnd w x hL.1) (b.bnd w x hL.2)
namespace G
noncomputable def strconv_Atoi.f (s:List UInt8):Option (Int×Bool):=
 bif decide (s.length≤281474976710656) then
  match Lib.atoiAll s with
  | .ok v=>some (v,false)
  | Lib.NumEnd.syntax=>some (0,true)
  | .range=>some (Lib.atoiSat s,true)
 else none
end G
def φ8v:Sig:=⟨[.val .str],[.val (.int .i64),.err],false,false⟩
noncomputable def φ23:Ctr:=⟨φ8v,fun x=>G.strconv_Atoi.f x⟩
theorem num3 {α:Type} (r:Lib.NumEnd α):(∃v,r=.ok v)∨r=Lib.NumEnd.syntax∨r=.range:=by
 cases r
 ·exact .inl ⟨_,rfl⟩
 ·exact .inr (.inl rfl)
 ·exact .inr (.inr rfl)
theorem φAA [Laid] {P:Program} {g:Nat} {fn:Func} {t5 tE:TypeId} (hf:P.funcs[g]?=some fn) (hn:(fn.name == "runtime.NumGoroutine")=false) (hb:fn.body.isSome=true)
  (h1:∀s:ByteArray,s.size≤9223372036854775806→∀v:Int,Lib.atoiAll s.data.toList=.ok v→∀w,Laid.L w→Calls P g #[.string s] w fun e w'=>e=.returned (.tuple #[.int .i64 v,.nilIface])∧(w'=w∨∃t,w'=Lib.bytesWorld w t5 t))
  (h2:∀s:ByteArray,s.size≤281474976710656→Lib.atoiAll s.data.toList=Lib.NumEnd.syntax→∀w,Laid.L w→Calls P g #[.string s] w fun e w'=>∃N,e=.returned (.tuple #[.int .i64 (0),.iface tE (.pointer (some ⟨N,0,none⟩))])∧Below w.heap.size w w')
  (h3:∀s:ByteArray,s.size≤281474976710656→Lib.atoiAll s.data.toList=.range→∀w,Laid.L w→Calls P g #[.string s] w fun e w'=>∃N,e=.returned (.tuple #[.int .i64 (Lib.atoiSat s.data.toList),.iface tE (.pointer (some ⟨N,0,none⟩))])∧Below w.heap.size w w'):φ1 P g φ23:=by
 refine φ43 hf hn hb fun w args x0 S fp tp y hS hargs hL hy=>?_
 obtain ⟨x,hx⟩:∃x:List UInt8,x=x0:=⟨x0,rfl⟩
 obtain ⟨v,vs',f1,f2,t1,t2,rfl,rfl,rfl,⟨hF,⟨hv,rfl⟩,rfl⟩,rfl,rfl,rfl⟩:=hargs
 have hF:v.oneCell'=true:=hF
 have hc:=Go.Rf.cells_one hF
 have hv:v.cells.toList=[.string ⟨x.toArray⟩]:=by rw[hx];exact hv
 rw[hc] at hv
 have hv:v=.string ⟨x.toArray⟩:=by simpa using hv
 subst hv
 have hy:G.strconv_Atoi.f x=some y:=by rw[hx];exact hy
 have hd:(⟨x.toArray⟩:ByteArray).data.toList=x:=by simp
 have fin:∀(n:Int) (b:Bool) (ev:Value) (w':World),y=(n,b)→φ4u b ev→Below w.heap.size w w' →
   ∃us S' f1 f2 t1 t2,Ending.returned (.tuple #[.int .i64 n,ev])=.returned (resV us)∧φW w' S' φ23.g.rs us (φ1C (φ23.g.rs.map RK.ty) (ioOf φ23.g.ps) y).1 f1 t1∧φg w' S' φ23.g.ps [.string ⟨x.toArray⟩] (φ1C (φ23.g.rs.map RK.ty) (ioOf φ23.g.ps) y).2 f2 t2 ∧
    Post w S [] [] false w' S' (f1++f2) (t1++t2):=fun n b ev w' hyn he hB=>by
  subst hyn
  refine ⟨[.int .i64 n,ev],S,[],[],[],[],rfl,?_,?_,φ5G hS hB⟩
  ·exact ⟨_,_,[],[],[],[],rfl,rfl,rfl,⟨rfl,⟨rfl,rfl⟩,rfl⟩,ev,[],rfl,he,rfl,rfl,rfl⟩
  ·exact ⟨_,[],rfl,rfl,rfl,rfl⟩
 unfold G.strconv_Atoi.f at hy
 cases hr:decide (x.length≤281474976710656) with
 | false=>rw[hr] at hy;simp at hy
 | true=>
  rw[hr,cT] at hy
  have hlen:x.length≤281474976710656:=of_decide_eq_true hr
  have hsz:(⟨x.toArray⟩:ByteArray).size=x.length:=by show x.toArray.size=_;simp
  rcases num3 (Lib.atoiAll x) with ⟨n,ha⟩ | ha | ha
  ·
   rw[ha] at hy
   refine (h1 ⟨x.toArray⟩ (by rw[hsz];omega) n (by rw[hd];exact ha) w hL).mono fun e w' ⟨he,hw⟩=>?_
   subst he
   refine fin n false .nilIface w' (Option.some.inj hy).symm rfl ?_
   rcases hw with rfl | ⟨t,rfl⟩
   ·exact Below.refl _ _
   ·exact Lib.bytesWorld_below _ _ _
  ·
   rw[ha] at hy
   refine (h2 ⟨x.toArray⟩ (by rw[hsz];omega) (by rw[hd];exact ha) w hL).mono fun e w' ⟨N,he,hB⟩=>?_
   subst he
   exact fin 0 true _ w' (Option.some.inj hy).symm ⟨_,_,rfl⟩ hB
  ·
   rw[ha] at hy
   refine (h3 ⟨x.toArray⟩ (by rw[hsz];omega) (by rw[hd];exact ha) w hL).mono fun e w' ⟨N,he,hB⟩=>?_
   subst he
   rw[hd]
   exact fin _ true _ w' (Option.some.inj hy).symm ⟨_,_,rfl⟩ hB
end Go.Rf
