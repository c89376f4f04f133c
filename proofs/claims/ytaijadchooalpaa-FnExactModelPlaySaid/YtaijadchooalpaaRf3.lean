import Derived.Great.BuildSlice
import Derived.Test.YtaijadchooalpaaRf2
open Option renaming bind_some→bS
open List renaming length_append→lA,append_assoc→aA,mem_cons_of_mem→mC,mem_append→mA,mem_append_right→mR,mem_append_left→mL,mem_cons→mc,drop_eq_getElem_cons→dG,length_take→lT,length_drop→lD,mem_map→mM,length_map→lM,length_cons→lC,length_nil→lN,getElem_mem→gM,map_append→mp,mem_singleton→mZ,take_succ_eq_append_getElem→κ0,nodup_append→κ2,mem_cons_self→κ3,append_nil→κ5,flatMap_append→κ8,replicate→κA,take_length→κB,nodup_cons→κC,range'→κE,cons_append→κG,map_cons→κH,take_append_drop→κJ
open Bool renaming and_eq_true→bA,eq_false_or_eq_true→bE,not_true→nZ,not_false→nF,true_and→tA,not_not→nn,or_eq_false_iff→κ6,not_eq_true'→κF,false_eq_true→κI
open Int renaming toNat_natCast→tN,ofNat_lt→oL
open Nat renaming eq_of_beq_eq_true→κ1,lt_or_ge→κ4,lt_of_lt_of_le→κ7,le_of_ble_eq_true→κ9,le_refl→κD,zero_le→κL
open Array renaming length_toList→κK
set_option linter.unusedVariables false
set_option linter.unusedSimpArgs false
namespace Go.Rf
section
variable {P:Program} {T:Tab} {E:Env} {B:Base} {Al Al':Nat→Prop} {s s':St} {a:Act} {w w':World} {W W':Wit} {o:Oper} {f:Nat}
 {ob ob':Nat→Option Obj} {rs rs':List Key} {u:Upd}
def fresh (Al:Nat→Prop) (f:Nat):Prop:=∀i,f≤i→i<f+idW→¬Al i
theorem fresh.one (h:fresh Al f):¬Al f:=h f (κD _) (by simp[idW])
theorem Nu.new:Nu Al f f:=.inr ⟨κD _,by simp[idW]⟩
theorem φ2v {t:Nat} {n b:Nat} {zs:List Value} (h:φ1v P t n b zs):∃i z,P.info? t=some i∧i.size=n∧i.bytes=b∧i.zero=some z∧z.cells.toList=zs:=by
 obtain ⟨h1,h2,z,h3,h4⟩:=h
 cases hi:P.info? t with
 | none=>rw[hi] at h1;simp at h1
 | some i=>
  rw[hi] at h1 h2 h3
  simp only[Option.map_some,Option.some.injEq,bS] at h1 h2 h3
  exact ⟨i,z,rfl,h1,h2,h3,h4⟩
theorem φ3P {ob:Nat→Option Obj}:∀t:Ty,All2 (Vs w W ob) (zeroCells t) (φd t)
 | .int _=>⟨_,_,rfl,⟨fun _=>rfl,rfl⟩,rfl⟩
 | .bool=>⟨_,_,rfl,⟨fun _=>rfl,rfl⟩,rfl⟩
 | .str=>⟨_,_,rfl,⟨fun _=>rfl,rfl⟩,rfl⟩
 | .sl _ _=>⟨_,_,rfl,⟨fun _=>rfl,rfl⟩,rfl⟩
 | .box _ _=>⟨_,_,rfl,⟨fun _=>rfl,rfl⟩,rfl⟩
 | .pair a b=>All2.append (φ3P a) (φ3P b)
theorem φ3Q:∀(t:Ty) id,¬menL (zeroCells t) id
 | .int _,_,⟨s,h,k⟩=>by simp[zeroCells] at h;subst h;exact k
 | .bool,_,⟨s,h,k⟩=>by simp[zeroCells] at h;subst h;exact k
 | .str,_,⟨s,h,k⟩=>by simp[zeroCells] at h;subst h;exact k
 | .sl _ _,_,⟨s,h,k⟩=>by simp[zeroCells] at h;subst h;exact k
 | .box _ _,_,⟨s,h,k⟩=>by simp[zeroCells] at h;subst h;exact k
 | .pair a b,id,⟨s,h,k⟩=>by
  rcases mA.1 h with h | h
  ·exact φ3Q a id ⟨s,h,k⟩
  ·exact φ3Q b id ⟨s,h,k⟩
theorem φ4f {I:Nat→Prop}:∀t:Ty,t.plain=true→Ow w I t t.zero (φd t) []
 | .int _,_=>⟨rfl,rfl⟩
 | .bool,_=>⟨rfl,rfl⟩
 | .str,_=>⟨rfl,rfl⟩
 | .sl false _,_=>⟨⟨none,0,rfl,κD _,.inl rfl⟩,rfl⟩
 | .sl true _,_=>.inl ⟨rfl,rfl,rfl⟩
 | .pair a b,h=>by
  simp only[Ty.plain,bA] at h
  exact ⟨_,_,[],[],rfl,rfl,φ4f a h.1,φ4f b h.2⟩
 | .box _ _,h=>by simp[Ty.plain] at h
theorem φ2h:∀t:Ty,(φd t).length=t.size
 | .int _ | .bool | .str | .sl _ _ | .box _ _=>rfl
 | .pair a b=>by show (φd a++φd b).length=_;rw[lA,φ2h a,φ2h b];rfl
theorem φ7K {t:Nat} (hT:φK P T) (h:Rel B Al s a w W) (hd:φA B o.dst) (hf:fresh Al f) (hop:o.op=.alloc t) (he:(φ2 T E o f).exec s rs=some (u,rs')):Done P B (Nu Al f) (s.up u) o a w:=by
 simp only[φ2,hop] at he
 cases ht:lkp T t with
 | none=>rw[ht] at he;simp[RP.exec] at he
 | some td=>
  rw[ht] at he
  simp only at he
  rw[φ1G he]
  obtain ⟨i,z,q1,q2,q3,q4,q5⟩:=φ2v (hT t td ht).tag
  obtain ⟨W',hR⟩:=h.newVar (Al':=Nu Al f) hf.one (fun i hi=>.inl hi) Nu.new hd (e:=t) (φ3P td.ty) (fun id hid=>(φ3Q _ _ hid).elim)
  intro K Q hK
  have hz:z.cells=(φd td.ty).toArray:=by apply Array.ext';rw[q5]
  have:(Instr.alloc t true (.tuple #[])).run P w=.ok (pt w.heap.size 0) (w.alloc (.cells (φd td.ty).toArray t)):=by
   unfold Instr.alloc
   rw[Sem.run_bind,φ8H w (z:=z) (by rw[q1];simpa using q4),Result.andThen_ok]
   simp[Go.newVar,Go.newRow,hz,pt]
  unfold Oper.wp
  simp only[execOp,hop,Sem.run_bind,this,Result.andThen_ok,Sem.run_pure]
  exact hK _ _ ⟨W',hR⟩
theorem AVr.cells {v:AV} {x:Value} (h:AVr w W s.ob v x) (hdf:φ1Q (cells v)=true) (hne:0<(cells v).length):All2 (Vs w W s.ob) (cells v) x.cells.toList:=by
 cases v with
 | one c=>
  have h1:x.oneCell'=true:=h.1 (by cases c<;>first | rfl | (simp[Go.Rf.cells,φ1Q] at hdf))
  have:x.cells=#[x]:=by cases x<;>first | rfl | (simp[Value.oneCell'] at h1)
  rw[this]
  exact ⟨x,[],rfl,h,rfl⟩
 | agg l=>
  obtain ⟨vs,e,p⟩:=h
  subst e
  exact p
 | tup l=>simp[Go.Rf.cells] at hne
theorem φ4g {v:AV} {id:Nat} (h:menL (cells v) id):menA v id:=by
 cases v with
 | one c=>obtain ⟨s,h1,h2⟩:=h;simp[Go.Rf.cells] at h1;subst h1;exact h2
 | agg l=>exact h
 | tup l=>obtain ⟨s,h1,h2⟩:=h;simp[Go.Rf.cells] at h1
theorem φ7v {t:Nat} {x:Operand} (hT:φK P T) (h:Rel B Al s a w W) (hd:φA B o.dst) (hf:fresh Al f) (hop:o.op=.box t x) (he:(φ2 T E o f).exec s rs=some (u,rs')):Done P B (Nu Al f) (s.up u) o a w:=by
 simp only[φ2,hop] at he
 cases ht:lkp T t with
 | none=>rw[ht] at he;simp[RP.exec] at he
 | some td=>
  rw[ht] at he
  simp only at he
  obtain ⟨v,rs2,h1,k1,km⟩:=φQ h he
  obtain ⟨hc,h1⟩:=φB h1
  rw[φ1G h1]
  simp only[bA] at hc
  have hn:=(φ9 _ _).1 hc.1
  have hl:=k1.cells hc.2 (by rw[hn];exact td.ty.pos)
  obtain ⟨W',hR⟩:=h.newVar (Al':=Nu Al f) hf.one (fun i hi=>.inl hi) Nu.new hd (e:=t) hl (fun id hid=>km _ (φ4g hid))
  intro K Q hK
  unfold Oper.wp
  simp only[execOp,hop,Sem.run_bind,Instr.box,Go.newVar,Go.newRow,run_newObj_alloc,Sem.run_pure,Result.andThen_ok]
  exact hK _ _ ⟨W',by simpa [pt] using hR⟩
theorem φ8u (zs:List Value) (hz:0<zs.length):∀n:Nat,((List.range (n * zs.length)).map fun i=>zs.toArray[i % zs.toArray.size]!)=(κA n zs).flatten:=by
 intro n
 induction n with
 | zero=>simp
 | succ n ih=>
  rw[Nat.succ_mul,List.range_add,mp,ih,List.replicate_succ',List.flatten_append]
  congr 1
  simp only[List.flatten_cons,List.flatten_nil,κ5,List.map_map]
  apply List.ext_getElem?
  intro j
  by_cases hj:j<zs.length
  ·have:(n * zs.length+j) % zs.length=j:=by rw[Nat.mul_add_mod_self_right];exact Nat.mod_eq_of_lt hj
   simp[hj,this]
  ·simp[hj]
theorem φ5v {I:Nat→Prop} (t:Ty) (hp:t.plain=true):∀n:Nat,ChO (Ow w I t) (κA n t.zero) (κA n (φd t)).flatten []
 | 0=>⟨rfl,rfl⟩
 | n+1=>by
  rw[List.replicate_succ,List.replicate_succ]
  exact ⟨φd t,_,[],[],rfl,rfl,φ4f t hp,φ5v t hp n⟩
theorem φ9P {t:Nat} {x y:Operand} (hT:φK P T) (h:Rel B Al s a w W) (hd:φA B o.dst) (hf:fresh Al f) (hop:o.op=.makeSlice t x y) (he:(φ2 T E o f).exec s rs=some (u,rs')):Done P B (Nu Al f) (s.up u) o a w:=by
 simp only[φ2,hop] at he
 cases hel:φk T t with
 | none=>rw[hel] at he;simp[RP.exec] at he
 | some e=>
  rw[hel] at he
  simp only at he
  obtain ⟨hby,he⟩:=φo he
  obtain ⟨v1,rs1,h1,k1,-⟩:=φQ h he
  obtain ⟨v2,rs2,h2,k2,-⟩:=φQ h h1
  clear he h1
  split at h2<;>try (simp[RP.exec] at h2;done)
  rename_i ka n kb m
  obtain ⟨c1,h2⟩:=φh h2
  obtain ⟨c2,h2⟩:=φh h2
  rw[φ1G h2]
  have e1:a.eval x=.int ka n:=k1.2
  have e2:a.eval y=.int kb m:=k2.2
  have c1:n=m:=by simpa using c1
  subst c1
  simp only[bA,decide_eq_true_eq] at c2
  obtain ⟨el,hu,ht⟩:=φ2b hT hel
  have hpl:=φ78 hT hel
  obtain ⟨i,z,q1,q2,q3,q4,q5⟩:=φ2v ht
  have hz:z.cells=(φd e).toArray:=by apply Array.ext';rw[q5]
  have hpos:0<φ1E T t:=Nat.pos_of_ne_zero fun h0=>by simp[h0] at hby
  have hb:(φ1E T t:Int) * n≤140737488355328:=c2.2
  have hn:n≤140737488355328:=by
   have:(1:Int) * n≤(φ1E T t:Int) * n:=Int.mul_le_mul_of_nonneg_right (by omega) c2.1
   omega
  have hrun:=run_make (P:=P) w t el i z hu q1 q4 ka kb n n c2.1 (Int.le_refl _) (by rw[q3];omega) (by omega)
  have hcells:madeCells z.cells (n.toNat * i.size)=(κA n.toNat (φd e)).flatten.toArray:=by
   apply Array.ext'
   have:=φ8u (φd e) (by rw[φ2h];exact e.pos) n.toNat
   rw[φ2h] at this
   rw[q2,←this,hz]
   simp[madeCells]
  rw[hcells] at hrun
  obtain ⟨W',hR⟩:=h.newRow (Al':=Nu Al f) (ids:=[]) (g:=w.heap.size) (c:=n.toNat) (fp:=[]) (fr:=[]) (t:=e) (xs:=κA n.toNat e.zero)
   (w':=w.alloc (.cells (κA n.toNat (φd e)).flatten.toArray el)) hf.one (fun i hi=>.inl hi) Nu.new hd (by simp) (by simp) (by simp) (by simp) (by simp) (.inl rfl)
   (fun b hb _=>heap_alloc_old w _ b hb) (by simp) ⟨(κA n.toNat (φd e)).flatten,[],el,by rw[κ5];exact heap_alloc_new w _,by simp[φ2h],by simp,φ5v e hpl _⟩ rfl rfl rfl
  intro K Q hK
  unfold Oper.wp
  simp only[execOp,hop,e1,e2,Sem.run_bind,hrun,Result.andThen_ok,Sem.run_pure]
  exact hK _ _ ⟨W',by simpa [gone] using hR⟩
theorem φ5Q {α:Type} {r:α×List Key}:∀(t:Ty) (K:t.den→List Sc→List Nat→RP α) (rs:List Key),(imp t [] K).exec s rs=some r→False
 | .pair a _,_,_,h=>φ5Q a _ _ h
 | .int _,_,_,h=>by simp[imp,RP.exec] at h
 | .bool,_,_,h=>by simp[imp,RP.exec] at h
 | .str,_,_,h=>by simp[imp,RP.exec] at h
 | .sl _ _,_,_,h=>by simp[imp,RP.exec] at h
 | .box _ _,_,_,h=>by simp[imp,RP.exec] at h
theorem φ4a {α:Type} {r:α×List Key} {c:Sc} (hc:φL c=true):∀(t:Ty) (l:List Sc) (K:t.den→List Sc→List Nat→RP α) (rs:List Key),(imp t (c::l) K).exec s rs=some r→False
 | .pair a _,l,_,_,h=>φ4a hc a l _ _ h
 | .int _,_,_,_,h=>by cases c<;>first | (simp[φL] at hc;done) | simp[imp,RP.exec] at h
 | .bool,_,_,_,h=>by cases c<;>first | (simp[φL] at hc;done) | simp[imp,RP.exec] at h
 | .str,_,_,_,h=>by cases c<;>first | (simp[φL] at hc;done) | simp[imp,RP.exec] at h
 | .sl _ _,_,_,_,h=>by cases c<;>first | (simp[φL] at hc;done) | simp[imp,RP.exec] at h
 | .box _ _,_,_,_,h=>by cases c<;>first | (simp[φL] at hc;done) | simp[imp,RP.exec] at h
theorem AVr.impCells {v:AV} {x:Value} (h:AVr w W s.ob v x) {α:Type} {r:α×List Key} {t:Ty} {K:t.den→List Sc→List Nat→RP α} {rs:List Key} (he:(imp t (Go.Rf.cells v) K).exec s rs=some r) :
  All2 (Vs w W s.ob) (Go.Rf.cells v) x.cells.toList:=by
 cases v with
 | one c=>
  have hc:φL c=false:=by
   cases hc:φL c with
   | false=>rfl
   | true=>exact (φ4a hc t [] K rs he).elim
  have h1:x.oneCell'=true:=h.1 hc
  have:x.cells=#[x]:=by cases x<;>first | rfl | (simp[Value.oneCell'] at h1)
  rw[this]
  exact ⟨x,[],rfl,h,rfl⟩
 | agg l=>
  obtain ⟨vs,e,p⟩:=h
  subst e
  exact p
 | tup l=>exact (φ5Q t K rs he).elim
theorem φ6N (h:Rel B Al s a w W) {α:Type} {r:α×List Key} (t:Ty):∀(vs:List AV) (us:List Value) (K:List t.den→List Nat→RP α) (rs:List Key),φ1B w W s.ob Al vs us →
  (φ1K t vs K).exec s rs=some r →
  ∃xs ids rs2 fp fr,(K xs ids).exec s rs2=some r∧ChO (Ow w (plus W.I fr) t) xs (us.flatMap fun u=>u.cells.toList) fp∧(blk W ids).Perm (fp++fr)∧(∀i∈ids,(s.ob i).isSome=true)∧xs.length=us.length∧∀u∈us,u.cells.size=t.size
 | [],us,K,rs,hv,he=>by
  have hv:us=[]:=hv
  subst hv
  exact ⟨[],[],rs,[],[],he,⟨rfl,rfl⟩,List.Perm.refl _,by simp,rfl,by simp⟩
 | v::vs,us,K,rs,⟨u,us',e,p,hv⟩,he=>by
  subst e
  simp only[φ1K] at he
  have hl:=AVr.impCells p.1 he
  obtain ⟨x,l2,i,rs2,cs,vs2,fp,fr,q1,q2,q3,q4,q5,_,q7⟩:=φ3i h t _ _ _ _ hl he
  split at q2<;>try (simp[RP.exec] at q2;done)
  have q3:vs2=[]:=q3
  subst q3
  rw[κ5] at q1
  obtain ⟨xs,j,rs3,fq,fs,r1,r2,r3,r4,r5,r6⟩:=φ6N h t vs us' _ rs2 hv q2
  refine ⟨x::xs,i++j,rs3,fp++fq,fr++fs,r1,⟨u.cells.toList,_,fp,fq,rfl,rfl,?_,?_⟩,by rw[φ10];exact φz q5 r3,?_,by simp[r5],?_⟩
  ·rw[q1];exact Ow.mono (w:=w) (fun b hb=>hb.imp id fun h=>mL _ h) (fun _ _=>rfl) t _ _ _ (fun _ _=>rfl) q4
  ·exact ChO.mono _ _ _ (fun y ds f' _ k=>Ow.mono (w:=w) (fun b hb=>hb.imp id fun h=>mR _ h) (fun _ _=>rfl) t _ _ _ (fun _ _=>rfl) k) r2
  ·intro k hk
   rcases mA.1 hk with hk | hk
   ·exact q7 k hk
   ·exact r4 k hk
  ·intro u' hu'
   rcases mc.1 hu' with k | k
   ·subst k
    have:=Ow.size t _ _ _ q4
    rw[←q1] at this
    simpa using this
   ·exact r6 u' k
theorem φ6U:∀(l:List (Nat×Operand)) (i:Nat),φ3T i l=true→(l.map fun p=>(p.1,a.eval p.2))=((l.map fun p=>a.eval p.2).zipIdx i).map fun x=>(x.2,x.1)
 | [],_,_=>rfl
 | (j,x)::l,i,h=>by
  simp only[φ3T,bA] at h
  have hj:=(φ9 _ _).1 h.1
  subst hj
  simp only[κH,List.zipIdx_cons]
  rw[φ6U l (i+1) h.2]
theorem φ75 (n:Nat) (hn:0<n):∀(us:List Value) (k:Nat),(∀u∈us,u.cells.size=n)→(us.flatMap fun u=>u.cells.toList)[k]?=(us[k / n]?).bind fun u=>u.cells[k % n]?
 | [],k,_=>by simp
 | u::us,k,h=>by
  have hu:u.cells.toList.length=n:=by rw[κK];exact h u (κ3 ..)
  simp only[List.flatMap_cons]
  rcases κ4 k n with hk | hk
  ·rw[List.getElem?_append_left (by rw[hu];exact hk),Nat.div_eq_of_lt hk,Nat.mod_eq_of_lt hk]
   simp
  ·rw[List.getElem?_append_right (by rw[hu];exact hk),hu,φ75 n hn us (k - n) (fun u hu=>h u (mC _ hu))]
   have e1:k / n=(k - n) / n+1:=by rw[←Nat.sub_add_cancel hk,Nat.add_div_right _ hn,Nat.sub_add_cancel hk]
   have e2:k % n=(k - n) % n:=Nat.mod_eq_sub_mod hk
   rw[e1,e2,List.getElem?_cons_succ]
theorem φ1t:∀l,φ18 l=true→l.Nodup
 | [],_=>List.nodup_nil
 | m::r,h=>by
  simp only[φ18,bA,κF] at h
  refine κC.2 ⟨fun k=>?_,φ1t r h.2⟩
  rw[(φ2J m r).2 k] at h
  simp at h
theorem Rel.blkNodup (h:Rel B Al s a w W):∀ids:List Nat,ids.Nodup→(∀i∈ids,(s.ob i).isSome=true)→(blk W ids).Nodup
 | [],_,_=>List.nodup_nil
 | i::ids,hn,hi=>by
  rw[κC] at hn
  show (fpOf W i++blk W ids).Nodup
  rw[κ2]
  refine ⟨h.nod i (hi i (κ3 ..)),Rel.blkNodup h ids hn.2 (fun j hj=>hi j (mC _ hj)),fun b hb c hc e=>?_⟩
  subst e
  obtain ⟨j,hj,hbj⟩:=φa.1 hc
  exact h.dis i j (fun e=>hn.1 (e ▸ hj)) (hi i (κ3 ..)) (hi j (mC _ hj)) b hb hbj
theorem Rel.freshRow (h:Rel B Al s a w W) (hf:¬Al f) (hA:∀i,Al i→Al' i) (hf':Al' f) {d:Option Nat} (hd:φA B d) {ids:List Nat} (hids:∀i∈ids,(s.ob i).isSome=true) (hnd:ids.Nodup)
  {t:Ty} {xs:List t.den} {c:Nat} {fp fr:List Nat} (hp:(blk W ids).Perm (fp++fr)) {ces rest:List Value} {e:TypeId} {w1:World} (hw1:w1.heap=w.heap) (ho:w1.os=w.os) (htp:w1.tape=w.tape) (hou:w1.output=w.output)
  (hc:(ces++rest).length=c * t.size) (hx:xs.length≤c) (hr:ChO (Ow w (plus W.I fr) t) xs ces fp) :
  ∃W',Rel B Al' (s.up ⟨dl d (.one (.own f)),gone ids++[(f,some (.row t xs))]⟩) (a.put d (.slice (some ⟨w.heap.size,0,none⟩) xs.length c)) (w1.alloc (.cells (ces++rest).toArray e)) W':=by
 have hall:=h.blkNodup ids hnd hids
 have hpn:(fp++fr).Nodup:=hp.nodup_iff.1 hall
 rw[κ2] at hpn
 have hlt:∀b,b∈fp∨b∈fr→b<w.heap.size:=fun b hb=>by
  obtain ⟨i,hi,hbi⟩:=φa.1 (hp.mem_iff.2 (mA.2 hb))
  exact h.lt (hids i hi) b hbi
 have hsz:w1.heap.size=w.heap.size:=by rw[hw1]
 have hold:∀b,b<w.heap.size→(w1.alloc (.cells (ces++rest).toArray e)).heap[b]?=w.heap[b]?:=fun b hb=>by rw[heap_alloc_old w1 _ b (by rw[hsz];exact hb),hw1]
 refine h.newRow hf hA hf' hd hids (fr:=fr) (fun b hb=>φa.1 (hp.mem_iff.2 (mA.2 hb))) (fun i hi b hb=>mA.1 (hp.mem_iff.1 (φa.2 ⟨i,hi,h.nfFp (hids i hi) hb⟩))) ?_ ?_ (.inl rfl)
  (fun b hb _=>hold b hb) (by simp[hsz]) ⟨ces,rest,e,?_,hc,hx,?_⟩ ho htp hou
 ·refine κC.2 ⟨fun k=>Nat.lt_irrefl _ (hlt _ (.inl k)),hpn.1⟩
 ·intro b hb k
  rcases mc.1 k with k | k
  ·subst k;exact Nat.lt_irrefl _ (hlt _ (.inr hb))
  ·exact hpn.2.2 b k b hb rfl
 ·rw[←hsz];exact heap_alloc_new w1 _
 ·exact ChO.mono _ _ _ (fun x cs f' hf' k=>Ow.mono (fun _ hb=>hb) (fun b hb=>hold b (hb.elim (h.bnd b) fun k=>hlt b (.inr k))) t x cs f' (fun b hb=>hold b (hlt b (.inl (hf' b hb)))) k) hr
theorem φ8i {t n:Nat} {parts:Array (Nat×Operand)} (hT:φK P T) (h:Rel B Al s a w W) (hd:φA B o.dst) (hf:fresh Al f) (hop:o.op=.buildSlice t n parts) (he:(φ2 T E o f).exec s rs=some (u,rs')):Done P B (Nu Al f) (s.up u) o a w:=by
 simp only[φ2,hop] at he
 cases hel:φk T t with
 | none=>rw[hel] at he;simp[RP.exec] at he
 | some e=>
  rw[hel] at he
  simp only at he
  obtain ⟨hc,he⟩:=φB he
  simp only[bA] at hc
  obtain ⟨⟨hc1,hc2⟩,hc3⟩:=hc
  have hc2:=(φ9 _ _).1 hc2
  have hc3:n * e.size≤16777216:=κ9 hc3
  obtain ⟨vs,rs1,h1,k1⟩:=φ17 h he
  obtain ⟨xs,ids,rs2,fp,fr,h2,q1,q2,q3,q4,q5⟩:=φ6N h e vs _ _ _ k1 h1
  obtain ⟨hnd,h2⟩:=φh h2
  rw[φ1G h2]
  obtain ⟨el,hu,ht⟩:=φ2b hT hel
  obtain ⟨i,z,p1,p2,p3,p4,p5⟩:=φ2v ht
  have hus:((parts.toList.map (·.2)).map a.eval).length=n:=by simp[hc2]
  generalize hU:(parts.toList.map (·.2)).map a.eval=us at *
  have hlen:(us.flatMap fun (u:Value)=>u.cells.toList).length=n * e.size:=by
   rw[ChO.len (fun x cs f k=>Ow.size e x cs f k) _ _ _ q1,q4,hus]
  have hev:(parts.map fun (i,x)=>(i,a.eval x)).toList=(us.zipIdx 0).map fun x=>(x.2,x.1):=by
   rw[Array.toList_map]
   have:=φ6U (a:=a) parts.toList 0 hc1
   rw[←hU,List.map_map]
   exact this
  have hrun:(Instr.buildSlice t n (parts.map fun (i,x)=>(i,a.eval x))).run P w=.ok (.slice (some ⟨w.heap.size,0,none⟩) n n) (w.alloc (.cells ((us.flatMap fun (u:Value)=>u.cells.toList)++[]).toArray el)):=by
   rcases Nat.eq_zero_or_pos n with h0 | h0
   ·have hun:us=[]:=List.eq_nil_of_length_eq_zero (hus.trans h0)
    have hpn:(parts.map fun (i,x)=>(i,a.eval x))=#[]:=by
     apply Array.ext'
     rw[hev,hun]
     rfl
    rw[hpn,hun,h0]
    simp[Instr.buildSlice,run_underlying hu,sizeOf,typeInfo,p1,Instr.fill,Go.newRow]
    congr 2
    apply Array.ext'
    simp
   ·have hpos:¬n * i.size=0:=by rw[p2];have:=e.pos;exact Nat.ne_of_gt (Nat.mul_pos h0 this)
    obtain ⟨r,g1,g2,g3⟩:=Great.fill_dense (s:=e.size) e.pos us 0 ((Array.range (n * i.size)).map (z.cells[· % z.cells.size]!)) q5 (by simp[hus,p2])
    have hr:r=((us.flatMap fun (u:Value)=>u.cells.toList)++[]).toArray:=by
     apply Array.ext'
     apply List.ext_getElem?
     intro k
     rw[Array.getElem?_toList,g3 k,κ5]
     simp only[Nat.zero_mul,κL,true_and,Nat.zero_add,Nat.sub_zero]
     have hfg:=φ75 e.size e.pos us k q5
     split
     ·rw[hfg]
     ·rename_i hk
      rw[List.getElem?_eq_none (by rw[hlen,←hus];omega)]
      simp only[Array.getElem?_map]
      rw[Array.getElem?_eq_none (by simp[p2];rw[←hus];omega)]
      rfl
    rw[←hr]
    refine run_buildSlice w t el n _ r i z hu p1 p4 (by rw[p2];omega) hpos ?_
    rw[hev,←g1,p2]
  obtain ⟨W',hR⟩:=h.freshRow (Al':=Nu Al f) (c:=n) (rest:=[]) (e:=el) (w1:=w) hf.one (fun i hi=>.inl hi) Nu.new hd q3 (φ1t _ hnd) q2 rfl rfl rfl rfl (by rw[κ5];exact hlen) (by rw[q4,hus];exact κD _) q1
  intro K Q hK
  unfold Oper.wp
  simp only[execOp,hop,Sem.run_bind,hrun,Result.andThen_ok,Sem.run_pure]
  refine hK _ _ ⟨W',?_⟩
  rw[q4,hus] at hR
  exact hR
end
end Go.Rf
namespace Go.Rf
section
variable {P:Program} {T:Tab} {E:Env} {B:Base} {Al Al':Nat→Prop} {s s':St} {a:Act} {w w':World} {W W':Wit} {o:Oper} {f:Nat}
 {ob ob':Nat→Option Obj} {rs rs':List Key} {u:Upd}
theorem φ7q (off:Nat) (l:List Value) (cs:Array Value) (h:off+l.length≤cs.size) :
  ((l.zipIdx 0).foldl (fun cs (x:Value×Nat)=>cs.setIfInBounds (off+x.2) x.1) cs).toList=cs.toList.take off++l++cs.toList.drop (off+l.length):=by
 obtain ⟨g1,g2⟩:=Great.foldl_set off l 0 cs
 apply List.ext_getElem?
 intro k
 rw[Array.getElem?_toList,g2 k]
 simp only[Nat.add_zero]
 rcases κ4 k off with h1 | h1
 ·rw[if_neg (by omega),aA,List.getElem?_append_left (by simp;omega),List.getElem?_take_of_lt h1,Array.getElem?_toList]
 ·rcases κ4 k (off+l.length) with h2 | h2
  ·rw[if_pos ⟨h1,h2,by omega⟩,aA,List.getElem?_append_right (by simp;omega),List.getElem?_append_left (by simp;omega)]
   congr 1
   simp;omega
  ·rw[if_neg (by omega),List.getElem?_append_right (by simp;omega),List.getElem?_drop,Array.getElem?_toList]
   congr 1
   simp;omega
theorem φ5N {l vs:List Sc} {cs us:List Value} {off:Nat} (h:All2 (Vs w W ob) l cs) (k:All2 (Vs w W ob) vs us):All2 (Vs w W ob) (φ29 l off vs) (cs.take off++us++cs.drop (off+us.length)):=by
 unfold φ29
 rw[k.length]
 exact All2.append (All2.append (h.take off) k) (h.drop _)
theorem φ6T {l vs:List Sc} {off id:Nat} (h:menL (φ29 l off vs) id):menL l id∨menL vs id:=by
 obtain ⟨c,h1,h2⟩:=h
 unfold φ29 at h1
 rcases mA.1 h1 with h1 | h1
 ·rcases mA.1 h1 with h1 | h1
  ·exact .inl ⟨c,List.mem_of_mem_take h1,h2⟩
  ·exact .inr ⟨c,h1,h2⟩
 ·exact .inl ⟨c,List.mem_of_mem_drop h1,h2⟩
theorem φ5F {r:Upd×List Key} (flds:List (Nat×Nat×Bool)) (pl:Nat→Option (Nat×Nat))
  (hpl:∀j o n g,flds[j]?=some (o,n,g)→pl j=some (o,n)∧n≠0):∀(js:List Nat) (vs:List AV) (us:List Value) (l:List Sc) (C:Array Value) (K:List Sc→OP) (rs:List Key),
  φ1B w W s.ob Al vs us→All2 (Vs w W s.ob) l C.toList→(∀id,menL l id→Al id)→(φ2.fillC flds js vs l K).exec s rs=some r →
  ∃l' C',(K l').exec s rs=some r∧Instr.fill pl C (js.zip us)=some C'∧All2 (Vs w W s.ob) l' C'.toList∧∀id,menL l' id→Al id
 | [],[],us,l,C,K,rs,hv,hl,hm,he=>by
  have hv:us=[]:=hv
  subst hv
  exact ⟨l,C,he,rfl,hl,hm⟩
 | [],_::_,_,_,_,_,_,_,_,_,he=>by simp[φ2.fillC,RP.exec] at he
 | _::_,[],_,_,_,_,_,_,_,_,he=>by simp[φ2.fillC,RP.exec] at he
 | j::js,v::vs,us,l,C,K,rs,⟨u,us',e,p,hv⟩,hl,hm,he=>by
  subst e
  simp only[φ2.fillC] at he
  cases hj:flds[j]? with
  | none=>rw[hj] at he;simp[RP.exec] at he
  | some q=>
   obtain ⟨off,n,g⟩:=q
   rw[hj] at he
   simp only at he
   obtain ⟨hc,he⟩:=φB he
   simp only[bA] at hc
   obtain ⟨⟨h1,h2⟩,h3⟩:=hc
   have h1:=(φ9 _ _).1 h1
   have h3:off+n≤l.length:=κ9 h3
   obtain ⟨hp,hn⟩:=hpl j off n g hj
   have hcs:=p.1.cells h2 (by rw[h1];exact Nat.pos_of_ne_zero hn)
   have hus:u.cells.size=n:=by have:=hcs.length;rw[h1] at this;simpa using this
   have hC:C.size=l.length:=by have:=hl.length;simpa using this
   have hset:=φ7q off u.cells.toList C (by rw[κK,hus,hC];exact h3)
   let C2:=(u.cells.toList.zipIdx 0).foldl (fun cs (x:Value×Nat)=>cs.setIfInBounds (off+x.2) x.1) C
   have hl2:All2 (Vs w W s.ob) (φ29 l off (cells v)) C2.toList:=by
    show All2 _ _ ((u.cells.toList.zipIdx 0).foldl _ C).toList
    rw[hset];exact φ5N hl hcs
   obtain ⟨l',C',k1,k2,k3,k4⟩:=φ5F flds pl hpl js vs us' _ C2 K rs hv hl2 (fun id hid=>(φ6T hid).elim (hm id) fun k=>p.2 id (φ4g k)) he
   refine ⟨l',C',k1,?_,k3,k4⟩
   rw[←k2]
   simp only[List.zip_cons_cons]
   rw[Instr.fill,hp]
   simp only[hus]
   rw[if_neg (by simp;omega)]
   congr 1
   show Array.foldl _ _ _=_
   rw[←Array.foldl_toList,Array.toList_zipIdx]
theorem φ6L (flds:List (Nat×Nat×Bool)):∀(fs:List Field) (k:Nat),fs.length+k=flds.length →
  (∀(j o n:Nat) (g:Bool),flds[j+k]?=some (o,n,g)→∃fd:Field,fs[j]?=some fd∧fd.offset=o∧(P.info? fd.type).map (·.size)=some n) →
  fs.mapM (fun f=>(P.info? f.type).map fun i=>(f.offset,i.size))=some ((flds.drop k).map fun p=>(p.1,p.2.1))
 | [],k,hk,_=>by
  have:flds.drop k=[]:=List.drop_eq_nil_of_le (by simp at hk;omega)
  rw[this]
  simp
 | f::fs,k,hk,h=>by
  have hlt:k<flds.length:=by simp at hk;omega
  obtain ⟨off,n,g,hj⟩:∃o n g,flds[k]?=some (o,n,g):=⟨_,_,_,List.getElem?_eq_getElem hlt⟩
  obtain ⟨fd,p1,p2,p3⟩:=h 0 off n g (by rw[Nat.zero_add];exact hj)
  simp only[List.getElem?_cons_zero,Option.some.injEq] at p1
  subst p1
  have ih:=φ6L flds fs (k+1) (by simp at hk;omega) (fun j o n g hj=>by
   obtain ⟨fd,r1,r2,r3⟩:=h (j+1) o n g (by rw[←hj];congr 1;omega)
   exact ⟨fd,by simpa using r1,r2,r3⟩)
  cases hi:P.info? f.type with
  | none=>rw[hi] at p3;simp at p3
  | some i=>
   rw[hi] at p3
   simp only[Option.map_some,Option.some.injEq] at p3
   have hd:flds.drop k=(off,n,g)::flds.drop (k+1):=by
    rw[dG hlt]
    congr 1
    rw[List.getElem?_eq_getElem hlt] at hj
    simpa using hj
   simp[List.mapM_cons,hi,ih,hd,p2,p3]
theorem φ6h (a:Act):∀l:List (Nat×Operand),(l.map fun (i,x)=>(i,a.eval x))=(l.map (·.1)).zip ((l.map (·.2)).map a.eval)
 | []=>rfl
 | x::l=>by simp only[κH,List.zip_cons_cons,φ6h a l]
theorem φ7c {t:Nat} {parts:Array (Nat×Operand)} (hT:φK P T) (h:Rel B Al s a w W) (hd:φA B o.dst) (hop:o.op=.build t parts) (he:(φ2 T E o f).exec s rs=some (u,rs')):Done P B Al (s.up u) o a w:=by
 simp only[φ2,hop] at he
 cases ht:lkp T t with
 | none=>rw[ht] at he;simp[RP.exec] at he
 | some td=>
  rw[ht] at he
  simp only at he
  have hty:=hT t td ht
  obtain ⟨hag,he⟩:=φo he
  have hag:td.agg=true:=by simpa using hag
  obtain ⟨vs,rs1,h1,k1⟩:=φ17 h he
  obtain ⟨i,z,q1,q2,q3,q4,q5⟩:=φ2v hty.tag
  obtain ⟨fs,hf1,hf2,hf3⟩:=hty.agg hag
  obtain ⟨l',C',k2,k3,k4,k5⟩:=φ5F (w:=w) (W:=W) td.flds ((td.flds.map fun p=>(p.1,p.2.1)).toArray[·]?) (by
   intro j o n g hj
   obtain ⟨fd,_,_,_,hn,_⟩:=hf3 j o n g hj
   exact ⟨by simp[hj],hn⟩) _ _ _ _ z.cells _ _ k1 (by rw[q5];exact φ3P td.ty) (fun id hid=>(φ3Q _ _ hid).elim) h1
  rw[φE k2]
  have hpl:=φ6L (P:=P) td.flds fs.toList 0 (by simp[hf2]) (fun j o n g hj=>by
   obtain ⟨fd,p1,p2,p3,_⟩:=hf3 j o n g hj
   exact ⟨fd,by simpa using p1,p2,p3⟩)
  have hb:P.built t (parts.map fun (i,x)=>(i,a.eval x)).toList=some C':=by
   unfold Program.built
   rw[q1,hf1]
   simp only[q4,hpl,List.drop_zero]
   rw[←k3]
   congr 1
   rw[Array.toList_map]
   exact φ6h a parts.toList
  refine φp h hd ?_ ⟨C'.toList,rfl,k4⟩ k5
  simp only[execOp,hop,Sem.run_bind,run_build w t _ C' hb,Result.andThen_ok,Sem.run_pure,Array.toArray_toList]
end
end Go.Rf
namespace Go.Rf
section
variable {P:Program} {T:Tab} {E:Env} {B:Base} {Al Al':Nat→Prop} {s s':St} {a:Act} {w w':World} {W W':Wit} {o:Oper} {f:Nat}
 {ob ob':Nat→Option Obj} {rs rs':List Key} {u:Upd}
theorem Rel.notJ (h:Rel B Al s a w W) {i:Nat} (hi:(s.ob i).isSome=true) (hn:W.nl i=false) {b:Nat} (hb:W.J s.ob b):b≠W.η i:=by
 rintro rfl
 rcases hb with k | k | ⟨_,j,hj,k⟩
 ·exact h.imm i hi _ (η_fp hn) k
 ·rw[h.sj] at k
  obtain ⟨k1,k2,_⟩:=h.sjB _ k
  rcases h.ownT i hi hn with q | q
  ·exact k2 q
  ·omega
 ·by_cases hij:i=j
  ·subst hij
   have:=h.nod i hj
   simp only[fpOf,hn,cF,κC] at this
   exact this.1 k
  ·exact h.dis i j hij hi hj _ (η_fp hn) (h.nfFp hj k)
theorem Rel.setVar (h:Rel B Al s a w W) {id:Nat} {l l':List Sc} (ho:s.ob id=some (.var l)) {cs':List Value} (hl:All2 (Vs w W s.ob) l' cs') (hm:∀j,menL l' j→Al j) {d:Option Nat} (hd:φA B d) (v:Value) :
  Rel B Al (s.up ⟨dl d (.one .undef),[(id,some (.var l'))]⟩) (a.put d v) (w.setRow (W.η id) cs'.toArray) W:=by
 have hS:(s.ob id).isSome=true:=by rw[ho];rfl
 obtain ⟨hn,hnf,vs,e,hh,_⟩:=h.var id l ho
 have hob:∀i,i≠id→updS s.ob [(id,some (.var l'))] i=s.ob i:=fun i hi=>φV _ _ hi
 have hobf:updS s.ob [(id,some (.var l'))] id=some (.var l'):=φb _ _ _
 have hold:∀b,b≠W.η id→(w.setRow (W.η id) cs'.toArray).heap[b]?=w.heap[b]?:=fun b hb=>setRow_other w _ b _ hb
 have hIs:∀i,(updS s.ob [(id,some (.var l'))] i).isSome=true→(s.ob i).isSome=true:=fun i hi=>by
  by_cases e:i=id
  ·subst e;exact hS
  ·rw[hob i e] at hi;exact hi
 have hSi:∀i,(s.ob i).isSome=true→(updS s.ob [(id,some (.var l'))] i).isSome=true:=fun i hi=>by
  by_cases e:i=id
  ·subst e;rw[hobf];rfl
  ·rw[hob i e];exact hi
 have turn:Turn Al W W s.ob (updS s.ob [(id,some (.var l'))]) w (w.setRow (W.η id) cs'.toArray):=
  {I:=fun b hb=>hb
   J:=fun b hb=>hb.imp _root_.id fun k=>k.imp _root_.id fun ⟨hh,i,hi,hb⟩=>⟨hh,i,hSi i hi,hb⟩
   hJ:=fun b hb=>hold b (h.notJ hS hn hb)
   rows:=fun i _ t xs' hx=>by
    by_cases e:i=id
    ·subst e;rw[hobf] at hx;simp at hx
    ·rw[hob i e] at hx;exact ⟨_,xs',hx,rfl,rfl,rfl,rfl,rfl,fun _=>⟨fun _=>rfl,rfl⟩⟩
   hol:=rfl
   sj:=rfl
   ns:=rfl
   vars:=fun i _ l2 hx=>by
    by_cases e:i=id
    ·subst e;exact ⟨l,ho,rfl⟩
    ·rw[hob i e] at hx;exact ⟨l2,hx,rfl⟩ }
 refine h.turn (C:=fun i=>i=id)
  {turn:=turn
   sub:=fun _ hi=>hi
   kept:=fun i hi=>⟨hob i hi,rfl,rfl,rfl,rfl⟩
   keptH:=fun i hi hSi b hb=>⟨hold b fun k=>h.dis i id hi hSi hS b hb (k ▸ η_fp hn),h.imm i hSi b hb⟩
   newO:=fun i hi x hx=>by
    subst hi
    rw[hobf] at hx
    simp only[Option.some.injEq] at hx
    subst hx
    refine ⟨⟨hn,hnf,cs',e,setRow_heap w _ _ _ e _ hh,turn.all hm hl⟩,h.al i hS,fun l2 hl2 j hj=>?_⟩
    simp only[Obj.var.injEq] at hl2
    subst hl2
    exact hm j hj
   newN:=fun i hi _=>by subst hi;exact h.nod i hS
   newI:=fun i hi _ b hb=>by subst hi;exact h.imm i hS b hb
   newD:=fun i j hi _ hj hSj b hb=>by subst hi;exact h.dis i j (fun e=>hj e.symm) hS hSj b hb
   newD2:=fun i j hi hj hij=>absurd (hi.trans hj.symm) hij
   newT:=fun i hi _ hn=>by subst hi;exact h.ownT i hS hn
   newF:=fun i hi _ b hb=>by subst hi;exact h.ownN i hS b hb
   bnd:=fun b hb=>by rw[setRow_size];exact h.bnd b hb
   os:=h.os
   tape:=h.tape
   output:=h.output
   grown:=by rw[setRow_size];exact h.grown
   old:=fun b hb hnb=>by
    rw[hold b ?_]
    ·exact h.old b hb hnb
    ·rintro rfl
     rcases h.ownT id hS hn with k | k
     ·exact hnb (h.cTop _ k)
     ·omega
   from0:=h.from0
   hol:=rfl
   ns:=rfl
   hdK:=fun _ _=>rfl
   hdN:=fun _ i hi t xs hx=>by subst hi;rw[hobf] at hx;simp at hx } hd ⟨fun k=>by simp[φL] at k,trivial⟩ (fun _ k=>k.elim)
theorem φ2X (a b c:List Nat):(a++(b++c)).Perm (b++(a++c)):=by
 rw[←aA,←aA]
 exact List.Perm.append_right c List.perm_append_comm
theorem φ9y (h:Rel B Al s a w W) {α:Type} {r:α×List Key}:∀(t:Ty) (x:t.den) (off:Nat) (l:List Sc) (vs:List Value) (K:t.den→List Nat→RP α) (rs:List Key) (cs:List Value) (fp:List Nat),
  All2 (Vs w W s.ob) l vs→Ow w W.I t x cs fp→(wr t x off l K).exec s rs=some r →
  ∃y ids rs2 fp' fr,(K y ids).exec s rs2=some r∧Ow w (plus W.I fr) t y (cs.take off++vs++cs.drop (off+vs.length)) fp'∧(fp++blk W ids).Perm (fp'++fr)∧(∀i∈ids,(s.ob i).isSome=true)∧off+vs.length≤cs.length:=by
 have whole:∀(t:Ty) (x:t.den) (off:Nat) (l:List Sc) (vs:List Value) (K:t.den→List Nat→RP α) (rs:List Key) (cs:List Value) (fp:List Nat),
   All2 (Vs w W s.ob) l vs→Ow w W.I t x cs fp→off=0→l.length=t.size→(imp t l fun y _ i=>K y i).exec s rs=some r →
   ∃y ids rs2 fp' fr,(K y ids).exec s rs2=some r∧Ow w (plus W.I fr) t y (cs.take off++vs++cs.drop (off+vs.length)) fp'∧(fp++blk W ids).Perm (fp'++fr)∧(∀i∈ids,(s.ob i).isSome=true)∧off+vs.length≤cs.length:=by
  intro t x off l vs K rs cs fp hl how hoff hlen he
  subst hoff
  obtain ⟨y,l2,ids,rs2,ds,vs2,fp',fr,e,k1,k2,k3,k4,k5,k6⟩:=φ3i h t l vs _ rs hl he
  have h1:=Ow.size t _ _ _ k3
  have h2:=hl.length
  have h3:vs2=[]:=by
   rw[e,lA,h1] at h2
   exact List.eq_nil_of_length_eq_zero (by omega)
  subst h3
  rw[κ5] at e
  subst e
  have h4:=Ow.size t _ _ _ how
  refine ⟨y,ids,rs2,fp',fp++fr,k1,?_,?_,k6,by omega⟩
  ·rw[List.take_zero,List.nil_append,List.drop_eq_nil_of_le (by omega),κ5]
   exact Ow.mono (w:=w) (fun b hb=>hb.imp id fun h=>mR _ h) (fun _ _=>rfl) t _ _ _ (fun _ _=>rfl) k3
  ·exact (List.Perm.append_left fp k4).trans (φ2X fp fp' fr)
 intro t
 induction t with
 | pair t1 t2 ih1 ih2=>
  intro x off l vs K rs cs fp hl how he
  simp only[wr] at he
  cases hb1:(nEq off 0 && nEq l.length (t1.size+t2.size)) with
  | true=>
   rw[hb1] at he
   simp only[bA] at hb1
   exact whole (.pair t1 t2) x off l vs K rs cs fp hl how ((φ9 _ _).1 hb1.1) ((φ9 _ _).1 hb1.2) he
  | false=>
   rw[hb1] at he
   simp only[cF] at he
   obtain ⟨c1,c2,f1,f2,e1,e2,r1,r2⟩:=how
   have hc1:=Ow.size t1 _ _ _ r1
   cases hb2:Nat.ble (off+l.length) t1.size with
   | true=>
    rw[hb2] at he
    simp only[cT] at he
    obtain ⟨y,ids,rs2,fp',fr,k1,k2,k3,k4,k5⟩:=ih1 x.1 off l vs _ rs c1 f1 hl r1 he
    refine ⟨(y,x.2),ids,rs2,fp'++f2,fr,k1,⟨_,c2,fp',f2,?_,rfl,k2,?_⟩,?_,k4,by rw[e1,lA];omega⟩
    ·rw[e1,List.take_append_of_le_length (by omega),List.drop_append_of_le_length (by omega)]
     simp[aA]
    ·exact Ow.mono (w:=w) (fun b hb=>.inl hb) (fun _ _=>rfl) t2 _ _ _ (fun _ _=>rfl) r2
    ·rw[e2]
     refine (?_:(f1++f2++blk W ids).Perm (f2++(f1++blk W ids))).trans ?_
     ·rw[aA];exact φ2X f1 f2 _
     ·refine (List.Perm.append_left f2 k3).trans ?_
      rw[aA];exact φ2X f2 fp' fr
   | false=>
    rw[hb2] at he
    simp only[cF] at he
    obtain ⟨hle,he⟩:=φB he
    have hle:t1.size≤off:=κ9 hle
    obtain ⟨y,ids,rs2,fp',fr,k1,k2,k3,k4,k5⟩:=ih2 x.2 (off - t1.size) l vs _ rs c2 f2 hl r2 he
    refine ⟨(x.1,y),ids,rs2,f1++fp',fr,k1,⟨c1,_,f1,fp',?_,rfl,?_,k2⟩,?_,k4,by rw[e1,lA];omega⟩
    ·rw[e1,List.take_append,List.take_of_length_le (by omega),List.drop_append,List.drop_eq_nil_of_le (by omega)]
     simp only[aA,List.nil_append,hc1]
     congr 4
     omega
    ·exact Ow.mono (w:=w) (fun b hb=>.inl hb) (fun _ _=>rfl) t1 _ _ _ (fun _ _=>rfl) r1
    ·rw[e2,aA,aA]
     exact List.Perm.append_left f1 k3
 | int k=>
  intro x off l vs K rs cs fp hl how he
  simp only[wr] at he
  obtain ⟨hb,he⟩:=φB he
  simp only[bA] at hb
  exact whole _ x off l vs K rs cs fp hl how ((φ9 _ _).1 hb.1) ((φ9 _ _).1 hb.2) he
 | bool=>
  intro x off l vs K rs cs fp hl how he
  simp only[wr] at he
  obtain ⟨hb,he⟩:=φB he
  simp only[bA] at hb
  exact whole _ x off l vs K rs cs fp hl how ((φ9 _ _).1 hb.1) ((φ9 _ _).1 hb.2) he
 | str=>
  intro x off l vs K rs cs fp hl how he
  simp only[wr] at he
  obtain ⟨hb,he⟩:=φB he
  simp only[bA] at hb
  exact whole _ x off l vs K rs cs fp hl how ((φ9 _ _).1 hb.1) ((φ9 _ _).1 hb.2) he
 | box g t _=>
  intro x off l vs K rs cs fp hl how he
  simp only[wr] at he
  obtain ⟨hb,he⟩:=φB he
  simp only[bA] at hb
  exact whole _ x off l vs K rs cs fp hl how ((φ9 _ _).1 hb.1) ((φ9 _ _).1 hb.2) he
 | sl m t _=>
  intro x off l vs K rs cs fp hl how he
  simp only[wr] at he
  obtain ⟨hb,he⟩:=φB he
  simp only[bA] at hb
  exact whole _ x off l vs K rs cs fp hl how ((φ9 _ _).1 hb.1) ((φ9 _ _).1 hb.2) he
end
end Go.Rf
namespace Go.Rf
section
variable {P:Program} {T:Tab} {E:Env} {B:Base} {Al Al':Nat→Prop} {s s':St} {a:Act} {w w':World} {W W':Wit} {o:Oper} {f:Nat}
 {ob ob':Nat→Option Obj} {rs rs':List Key} {u:Upd}
theorem φ56:∀{l:List Sc} {vs:List Value},φ1Q l=true→All2 (Vs w W ob) l vs→∀v∈vs,v.oneCell'=true
 | [],_,_,h,v,hv=>by rw[show _=[] from h] at hv;simp at hv
 | c::l,_,hd,⟨u,r,e,p,h⟩,v,hv=>by
  have hc:φL c=false∧φ1Q l=true:=by cases c<;>first | (simp[φ1Q] at hd;done) | exact ⟨rfl,by simpa [φ1Q] using hd⟩
  subst e
  rcases mc.1 hv with k | k
  ·subst k;exact p.1 hc.1
  ·exact φ56 hc.2 h v k
theorem φAE {vs us:List Value} {C:List Value} {off n:Nat} (h:us.length=n):C.take off++us++C.drop (off+n)=C.take off++us++C.drop (off+us.length):=by rw[h]
theorem φ5H {I:Nat→Prop} {t:Ty} {xs:List t.den} {c1 c2 c3:List Value} {f1 f2 f3:List Nat} {i:Nat} (hi:i<xs.length) {y:t.den}
  (h1:ChO (Ow w I t) (xs.take i) c1 f1) (h2:Ow w I t y c2 f2) (h3:ChO (Ow w I t) (xs.drop (i+1)) c3 f3):ChO (Ow w I t) (xs.set i y) (c1++(c2++c3)) (f1++(f2++f3)):=by
 have:xs.set i y=xs.take i++(y::xs.drop (i+1)):=by rw[List.set_eq_take_append_cons_drop,if_pos hi]
 rw[this]
 exact ChO.append _ _ _ _ _ _ h1 ⟨c2,c3,f2,f3,rfl,rfl,h2,h3⟩
theorem φ2o:∀{t:Ty} {off:Nat},φO t off=true→off<t.size
 | .sl true _,off,h=>by
  have:off=0:=(φ9 _ _).1 h
  subst this;exact Nat.one_pos
 | .sl false _,_,h=>by simp[φO] at h
 | .int _,_,h=>by simp[φO] at h
 | .bool,_,h=>by simp[φO] at h
 | .str,_,h=>by simp[φO] at h
 | .box _ _,_,h=>by simp[φO] at h
 | .pair a b,off,h=>by
  show off<a.size+b.size
  unfold φO at h
  cases hb:Nat.blt off a.size with
  | true=>
   rw[hb] at h
   have:=φ2o (t:=a) h
   omega
  | false=>
   rw[hb] at h
   have:=φ2o (t:=b) h
   omega
theorem φ4R {c:Sc} {r:List Sc} (h:scal (c::r)=true):scal r=true∧(∀t,okSc (.sl true t) c=false)∧(∀t,okSc (.sl false t) c=false):=by
 cases c<;>first | (simp[scal] at h;done) | exact ⟨by simpa [scal] using h,fun _=>rfl,fun _=>rfl⟩
theorem φ3I {α:Type} {r:α×List Key}:∀(t:Ty) (l:List Sc) (K:t.den→List Sc→List Nat→RP α) (rs:List Key),scal l=true→(imp t l K).exec s rs=some r →
  (∀off,φO t off=false)∧∃x l' i rs',scal l'=true∧(K x l' i).exec s rs'=some r
 | .int k,c::l,K,rs,h,he=>by
  refine ⟨fun _=>rfl,?_⟩
  simp only[imp] at he
  split at he
  ·obtain ⟨_,he⟩:=φB he;exact ⟨_,_,_,_,(φ4R h).1,he⟩
  ·simp[RP.exec] at he
 | .bool,c::l,K,rs,h,he=>by
  refine ⟨fun _=>rfl,?_⟩
  simp only[imp] at he
  split at he
  ·exact ⟨_,_,_,_,(φ4R h).1,he⟩
  ·simp[RP.exec] at he
 | .str,c::l,K,rs,h,he=>by
  refine ⟨fun _=>rfl,?_⟩
  simp only[imp] at he
  split at he
  ·exact ⟨_,_,_,_,(φ4R h).1,he⟩
  ·simp[RP.exec] at he
 | .sl m t,c::l,K,rs,h,he=>by
  exfalso
  cases c<;>first | (simp[scal] at h;done) | simp[imp,RP.exec] at he
 | .box g t,c::l,K,rs,h,he=>by
  exfalso
  cases c<;>first | (simp[scal] at h;done) | simp[imp,RP.exec] at he
 | .pair a b,l,K,rs,h,he=>by
  simp only[imp] at he
  obtain ⟨h1,x,l1,i,rs1,h2,he1⟩:=φ3I a l _ _ h he
  obtain ⟨h3,y,l2,j,rs2,h4,he2⟩:=φ3I b l1 _ _ h2 he1
  refine ⟨fun off=>?_,_,_,_,_,h4,he2⟩
  unfold φO
  rw[h1,h3]
  cases Nat.blt off a.size<;>rfl
 | .int _,[],_,_,_,he=>by simp[imp,RP.exec] at he
 | .bool,[],_,_,_,he=>by simp[imp,RP.exec] at he
 | .str,[],_,_,_,he=>by simp[imp,RP.exec] at he
 | .sl _ _,[],_,_,_,he=>by simp[imp,RP.exec] at he
 | .box _ _,[],_,_,_,he=>by simp[imp,RP.exec] at he
theorem φ4C {α:Type} {r:α×List Key}:∀(t:Ty) (x:t.den) (off:Nat) (l:List Sc) (K:t.den→List Nat→RP α) (rs:List Key),scal l=true→(wr t x off l K).exec s rs=some r→∀z,off≤z→z<off+l.length→φO t z=false
 | .pair a b,x,off,l,K,rs,h,he,z,h1,h2=>by
  simp only[wr] at he
  cases hb1:(nEq off 0 && nEq l.length (a.size+b.size)) with
  | true=>
   rw[hb1] at he
   simp only[cT] at he
   exact (φ3I (.pair a b) l _ _ h he).1 z
  | false=>
   rw[hb1] at he
   simp only[cF] at he
   cases hb2:Nat.ble (off+l.length) a.size with
   | true=>
    rw[hb2] at he
    simp only[cT] at he
    have hle:=κ9 hb2
    have:=φ4C a x.1 off l _ rs h he z h1 h2
    unfold φO
    rw[show Nat.blt z a.size=true from Nat.ble_eq_true_of_le (by omega)]
    exact this
   | false=>
    rw[hb2] at he
    simp only[cF] at he
    obtain ⟨hle,he⟩:=φB he
    have hle:a.size≤off:=κ9 hle
    have:=φ4C b x.2 (off - a.size) l _ rs h he (z - a.size) (by omega) (by omega)
    unfold φO
    rw[show Nat.blt z a.size=false from by
     cases hq:Nat.blt z a.size with
     | false=>rfl
     | true=>have:z+1≤a.size:=κ9 hq;omega]
    exact this
 | .int _,_,_,_,_,_,_,_,_,_,_=>rfl
 | .bool,_,_,_,_,_,_,_,_,_,_=>rfl
 | .str,_,_,_,_,_,_,_,_,_,_=>rfl
 | .box _ _,_,_,_,_,_,_,_,_,_,_=>rfl
 | .sl m t,x,off,l,K,rs,h,he,z,h1,h2=>by
  simp only[wr] at he
  obtain ⟨_,he⟩:=φB he
  exact (φ3I (.sl m t) l _ _ h he).1 z
theorem φ3y {g:Nat} {C:Array Value} {e:TypeId} {fr:Nat×Nat} (h:w.heap[g]?=some (.cells C e fr)) (z:Nat):hdOf w g z=C.toList.getD z undef:=by
 unfold hdOf
 rw[h]
 simp[Array.getD_eq_getD_getElem?,List.getD_eq_getElem?_getD]
theorem φ9g {A X Y D:List Value} {z:Nat} (hl:X.length=Y.length) (hz:z<A.length∨A.length+X.length≤z):(A++(X++D)).getD z undef=(A++(Y++D)).getD z undef:=by
 rw[List.getD_eq_getElem?_getD,List.getD_eq_getElem?_getD]
 congr 1
 rcases hz with h | h
 ·rw[List.getElem?_append_left h,List.getElem?_append_left h]
 ·rw[List.getElem?_append_right (by omega),List.getElem?_append_right (by omega),List.getElem?_append_right (by omega),List.getElem?_append_right (by omega),hl]
theorem φ6b {t:Nat} {x y:Operand} (hT:φK P T) (h:Rel B Al s a w W) (hsc:W.hol=true→scal (Go.Rf.cells (φ1Z s y))=true) (hd:φA B o.dst) (hop:o.op=.store t x y) (he:(φ2 T E o f).exec s rs=some (u,rs')):Done P B Al (s.up u) o a w:=by
 simp only[φ2,hop] at he
 cases ht:lkp T t with
 | none=>rw[ht] at he;simp[RP.exec] at he
 | some td=>
  rw[ht] at he
  simp only at he
  have hty:=hT t td ht
  obtain ⟨v1,rs1,h1,k1,m1⟩:=φQ h he
  obtain ⟨rs2,h2,k2,m2⟩:=φ5u h h1
  generalize φ1Z s y=v2 at *
  clear he h1
  obtain ⟨hc,h5⟩:=φB h2
  clear h2
  simp only[bA] at hc
  have hn:=(φ9 _ _).1 hc.1
  have hl:=k2.cells hc.2 (by rw[hn];exact td.ty.pos)
  have h1c:=φ56 hc.2 hl
  have hsz:(a.eval y).cells.size=td.ty.size:=by have:=hl.length;rw[hn] at this;simpa using this
  have run:∀(b off:Nat) (cur:Array Value) (e:TypeId),a.eval x=pt b off→w.heap[b]?=some (.cells cur e (0,0))→off+td.ty.size≤cur.size →
    (execOp a.eval o).run P w=.ok .skip (w.setRow b (cur.toList.take off++(a.eval y).cells.toList++cur.toList.drop (off+td.ty.size)).toArray):=by
   intro b off cur e ex hh hle
   have:=φ91 (P:=P) w (v:=a.eval y) hty.tag.1 hsz hh hle h1c
   simp only[execOp,hop,ex,Instr.storeAt,pt,Instr.sureAddr,Sem.run_bind,Sem.run_pure,Result.andThen_ok,this]
  split at h5<;>try (simp[RP.exec] at h5;done)
  ·rename_i id off
   simp only[RP.exec] at h5
   split at h5<;>try (simp[RP.exec] at h5;done)
   rename_i l ho
   obtain ⟨hle,h6⟩:=φB h5
   have hle:off+td.ty.size≤l.length:=κ9 hle
   rw[φ1G h6]
   obtain ⟨b,e,k⟩:=k1.2
   have hb:=k l ho
   subst hb
   obtain ⟨_,_,vs,el,hh,hvs⟩:=h.var id l ho
   have hr:=run _ off _ el e hh (by have:=hvs.length;simp;omega)
   have hset:=φ5N (off:=off) hvs hl
   rw[κK,hsz] at hset
   have hR:=h.setVar ho hset (fun j hj=>(φ6T hj).elim (h.mO id l ho j) fun k=>m2 j (φ4g k)) hd undef
   intro K Q hK
   unfold Oper.wp
   rw[hr]
   exact hK _ _ ⟨W,hR⟩
  ·rename_i id i off
   simp only[RP.exec] at h5
   split at h5<;>try (simp[RP.exec] at h5;done)
   rename_i t' xs ho
   obtain ⟨b,o',e,k⟩:=k1.2
   obtain ⟨hi,rfl,rfl⟩:=k t' xs ho
   obtain ⟨_,hi⟩:=φ1m hi
   have hS:(s.ob id).isSome=true:=by rw[ho];rfl
   rcases h.row id t' xs ho with ⟨_,e0,_⟩ | ⟨hnl,ces,rest,el,q1,q2,q3,q4⟩
   ·rw[e0] at hi;exact absurd hi (Nat.not_lt_zero _)
   obtain ⟨c1,c2,c3,f1,f2,f3,p1,p2,p3,p4,p5⟩:=ChO.at xs ces (W.nf id) i.toNat hi q4
   rw[φ3G _ _ _ hi] at h5
   obtain ⟨y',ids,rs3,fp',fr,r1,r2,r3,r4,r5⟩:=φ9y h t' _ off _ _ _ _ c2 f2 hl p3 h5
   obtain ⟨hnd,r1⟩:=φh r1
   have hnd:=φ1t _ hnd
   rw[κC] at hnd
   rw[φ1G r1]
   have hc1:c1.length=i.toNat * t'.size:=by
    rw[ChO.len (fun x cs f=>Ow.size t' x cs f) _ _ _ p4,lT,Nat.min_eq_left (Nat.le_of_lt hi)]
   have hc2:=Ow.size t' _ _ _ p3
   rw[κK,hsz] at r5
   have hr:=run (W.η id) (i.toNat * t'.size+off) _ el e q1 (by rw[p1];simp[hc1];omega)
   have hcells:(ces++rest).toArray.toList.take (i.toNat * t'.size+off)++(a.eval y).cells.toList++(ces++rest).toArray.toList.drop (i.toNat * t'.size+off+td.ty.size) =
     (c1++((c2.take off++(a.eval y).cells.toList++c2.drop (off+(a.eval y).cells.toList.length))++c3))++rest:=by
    rw[p1,κK,hsz,←hc1]
    have e1:(c1++(c2++c3)++rest).take (c1.length+off)=c1++c2.take off:=by
     rw[aA,List.take_append,List.take_of_length_le (by omega)]
     congr 1
     rw[Nat.add_sub_cancel_left,aA,List.take_append_of_le_length (by omega)]
    have e2:(c1++(c2++c3)++rest).drop (c1.length+off+td.ty.size)=c2.drop (off+td.ty.size)++(c3++rest):=by
     rw[aA,List.drop_append,List.drop_eq_nil_of_le (by omega),List.nil_append,aA,Nat.add_assoc,Nat.add_sub_cancel_left,List.drop_append_of_le_length (by omega)]
    show (c1++(c2++c3)++rest).take _++_++(c1++(c2++c3)++rest).drop _=_
    rw[e1,e2]
    simp[aA]
   rw[hcells] at hr
   have hperm:(W.nf id++blk W ids).Perm ((f1++(fp'++f3))++fr):=by
    rw[p2]
    -- f1++(f2++f3)++blk ~ f1++f3++(f2++blk)
    refine (?_:(f1++(f2++f3)++blk W ids).Perm ((f1++f3)++(f2++blk W ids))).trans ((List.Perm.append_left _ r3).trans ?_)
    ·simp only[aA]
     exact List.Perm.append_left f1 (φ2X f2 f3 _)
    ·simp only[aA]
     exact List.Perm.append_left f1 (φ2X f3 fp' fr)
   have hids:∀j∈id::ids,(s.ob j).isSome=true:=by
    intro j hj
    rcases mc.1 hj with k | k
    ·subst k;exact hS
    ·exact r4 j k
   have hall:=h.blkNodup (id::ids) (κC.2 hnd) hids
   have hblk:blk W (id::ids)=W.η id::(W.nf id++blk W ids):=by
    show fpOf W id++blk W ids=_
    simp[fpOf,hnl]
   rw[hblk] at hall
   have hperm2:=List.Perm.cons (W.η id) hperm
   have hnd3:=hperm2.nodup_iff.1 hall
   rw[κC,κ2] at hnd3
   obtain ⟨n1,n2,n3,n4⟩:=hnd3
   have hI:∀b,plus W.I fr b→b≠W.η id:=by
    rintro b (k | k) rfl
    ·exact h.imm id hS _ (η_fp hnl) k
    ·exact n1 (mR _ k)
   have hkeep:∀b,b≠W.η id→(w.setRow (W.η id) ((c1++((c2.take off++(a.eval y).cells.toList++c2.drop (off+(a.eval y).cells.toList.length))++c3))++rest).toArray).heap[b]?=w.heap[b]?:=fun b hb=>setRow_other w _ b _ hb
   obtain ⟨W',hR⟩:=h.putRow (f:=id) (ids:=id::ids) (n0:=false) (g:=W.η id) (c:=W.cp id) (fp:=f1++(fp'++f3)) (fr:=fr) (t:=t') (xs:=xs.set i.toNat y') (Al':=Al)
    (w':=w.setRow (W.η id) ((c1++((c2.take off++(a.eval y).cells.toList++c2.drop (off+(a.eval y).cells.toList.length))++c3))++rest).toArray)
    (fun _ hi=>hi) (h.al id hS) hids (.inr ⟨by simp,xs,ho,by simp,rfl,rfl,hnl.symm⟩)
    (fun b hb=>by
     have hb2:b∈W.nf id++blk W ids:=hperm.mem_iff.2 (mA.2 hb)
     rcases mA.1 hb2 with k | k
     ·exact ⟨id,by simp,h.nfFp hS k⟩
     ·obtain ⟨j,hj,k⟩:=φa.1 k;exact ⟨j,mC _ hj,k⟩)
    (fun j hj b hb=>by
     have hb2:b∈W.nf id++blk W ids:=by
      rcases mc.1 hj with k | k
      ·subst k;exact mL _ hb
      ·exact mR _ (φa.2 ⟨j,k,h.nfFp (r4 j k) hb⟩)
     exact mA.1 (hperm.mem_iff.1 hb2))
    (κC.2 ⟨fun k=>n1 (mL _ k),n2⟩)
    (fun b hb k=>by
     rcases mc.1 k with k | k
     ·subst k;exact n1 (mR _ hb)
     ·exact n4 b k b hb rfl)
    (fun _=>.inr ⟨id,by simp,hnl,rfl⟩) (fun b _ hb=>hkeep b (hb.resolve_left (by simp))) (by simp)
    (.inr ⟨rfl,_,rest,el,setRow_heap w _ _ _ el _ q1,by
      rw[←q2,p1]
      simp[hsz]
      omega,by simpa using q3,by
      refine ChO.mono (R:=Ow w (plus W.I fr) t') _ _ _ (fun x cs f' hf' k=>Ow.mono (fun _ hb=>hb) (fun b hb=>hkeep b (hI b hb)) t' x cs f' (fun b hb=>hkeep b fun e=>n1 (e ▸ mL _ (hf' b hb))) k) ?_
      refine φ5H hi ?_ r2 ?_
      ·exact ChO.mono _ _ _ (fun x cs f' _ k=>Ow.mono (w:=w) (fun b hb=>.inl hb) (fun _ _=>rfl) t' x cs f' (fun _ _=>rfl) k) p4
      ·exact ChO.mono _ _ _ (fun x cs f' _ k=>Ow.mono (w:=w) (fun b hb=>.inl hb) (fun _ _=>rfl) t' x cs f' (fun _ _=>rfl) k) p5⟩)
    rfl rfl rfl (fun hh _ _ n z hnl2 hoz=>by
     rw[List.length_set] at hnl2
     have hold:=h.hdr hh id t' xs ho hnl n z hnl2 hoz
     rw[←hold,φ3y (setRow_heap w _ _ _ el _ q1),φ3y q1,p1]
     have hzl:=φ2o hoz
     have hlv:(a.eval y).cells.toList.length=(Go.Rf.cells v2).length:=hl.length
     have hout:z<off∨off+(a.eval y).cells.toList.length≤z:=by
      rcases κ4 z off with q | q
      ·exact .inl q
      ·rcases κ4 z (off+(a.eval y).cells.toList.length) with q' | q'
       ·have:=φ4C t' _ off _ _ _ (hsc hh) h5 z q (by omega)
        rw[this] at hoz;simp at hoz
       ·exact .inr q'
     have hr5:off+(a.eval y).cells.toList.length≤c2.length:=by rw[κK,hsz];exact r5
     generalize (a.eval y).cells.toList=vs at hout hr5 ⊢
     have e1:c1++((c2.take off++vs++c2.drop (off+vs.length))++c3)++rest=(c1++c2.take off)++(vs++(c2.drop (off+vs.length)++(c3++rest))):=by simp[aA]
     have e2:c1++(c2++c3)++rest=(c1++c2.take off)++((c2.drop off).take vs.length++(c2.drop (off+vs.length)++(c3++rest))):=by
      have:c2=c2.take off++((c2.drop off).take vs.length++c2.drop (off+vs.length)):=by
       rw[←List.drop_drop,κJ,κJ]
      conv=>lhs;rw[this]
      simp[aA]
     have hA:(c1++c2.take off).length=i.toNat * t'.size+off:=by rw[lA,lT,hc1];omega
     have hX:((c2.drop off).take vs.length).length=vs.length:=by rw[lT,lD];omega
     show (c1++((c2.take off++vs++c2.drop (off+vs.length))++c3)++rest).getD _ undef=(c1++(c2++c3)++rest).getD _ undef
     rw[e1,e2]
     refine φ9g hX.symm ?_
     rw[hA]
     rcases Nat.lt_trichotomy n i.toNat with q | q | q
     ·have:=Nat.mul_le_mul_right t'.size (show n+1≤i.toNat from q)
      rw[Nat.add_mul,Nat.one_mul] at this
      omega
     ·subst q;omega
     ·have:=Nat.mul_le_mul_right t'.size (show i.toNat+1≤n from q)
      rw[Nat.add_mul,Nat.one_mul] at this
      omega) (ob':=updS s.ob (gone ids++[(id,some (.row t' (xs.set i.toNat y')))])) (fun j=>by
     rw[φ4S]
     by_cases hj:j=id
     ·rw[if_pos hj,if_pos hj]
     ·rw[if_neg hj,if_neg hj];simp[hj])
   intro K Q hK
   unfold Oper.wp
   rw[hr]
   exact hK _ _ ⟨W',hR o.dst (.one .undef) undef hd (.inr rfl)⟩
end
end Go.Rf
namespace Go.Rf
section
variable {P:Program} {T:Tab} {E:Env} {B:Base} {Al Al':Nat→Prop} {s s':St} {a:Act} {w w':World} {W W':Wit} {o:Oper} {f:Nat}
 {ob ob':Nat→Option Obj} {rs rs':List Key} {u:Upd}
def Onto (w:World) (W:Wit) (s:St) (t:Ty) (xs:List t.den) (v:Value) (ids:List Nat):Prop:=
 (v=.slice none 0 0∧xs=[]∧blk W ids=[]∧(∀i∈ids,(s.ob i).isSome=true)) ∨
 ∃id,ids=[id]∧(s.ob id).isSome=true∧W.nl id=false∧v=.slice (some ⟨W.η id,0,none⟩) xs.length (W.cp id)∧φ2B w (Ow w W.I t) t.size xs (W.η id) (W.cp id) (W.nf id)
def Adds (w:World) (W:Wit) (s:St) (t:Ty) (ys:List t.den) (v:Value) (ids:List Nat):Prop:=
 ∃A c news fq fr,v=.slice A ys.length c∧(ys=[]∨∃ad,A=some ad∧(∀(j:Nat) (u:Value),news[j]?=some u→w.cell? (ad.add j)=some u))∧(∀u∈news,u.oneCell'=true) ∧
  ChO (Ow w (plus W.I fr) t) ys news fq∧(blk W ids).Perm (fq++fr)∧∀i∈ids,(s.ob i).isSome=true
theorem φ6j (t ty e:TypeId) (i:TypeInfo) (ht:P.underlying t=some (.slice e)) (hi:P.info? e=some i) (b:Option Addr) (n c:Nat) (hnc:n≤c) (A:Option Addr) (cp:Nat) :
  (Builtin.append_ #[t,t] ty #[.slice b n c,.slice A 0 cp]).run P w=.ok (.slice b n c) w:=by
 have hf:(Builtin.firstCells i.size 0 (.slice A 0 cp)).run P w=.ok #[] w:=by
  cases A with
  | none=>simp[Builtin.firstCells]
  | some ad=>simpa using run_firstCells_some (P:=P) w i.size 0 ad 0 cp [] (by simp) (by simp)
 cases b with
 | none=>simp[Builtin.append_,run_underlying ht,sizeOf,typeInfo,hi,Builtin.lenOf,hf,hnc]
 | some ad=>simp[Builtin.append_,run_underlying ht,sizeOf,typeInfo,hi,Builtin.lenOf,hf,hnc,storeCells]
theorem φ9t (t ty e e':TypeId) (i:TypeInfo) (ht:P.underlying t=some (.slice e)) (hi:P.info? e=some i)
  (g sLen sCap:Nat) (cur:Array Value) (hg:w.heap[g]?=some (.cells cur e' (0,0)))
  (a:Addr) (m c:Nat) (news:List Value) (hl:news.length=m * i.size) (hnews:∀(j:Nat) (u:Value),news[j]?=some u→w.cell? (a.add j)=some u) (h1:∀u∈news,u.oneCell'=true)
  (hroom:sLen+m≤sCap) (hfit:sLen * i.size+news.length≤cur.size) :
  (Builtin.append_ #[t,t] ty #[.slice (some ⟨g,0,none⟩) sLen sCap,.slice (some a) m c]).run P w =
   .ok (.slice (some ⟨g,0,none⟩) (sLen+m) sCap) (w.setRow g (cur.toList.take (sLen * i.size)++news++cur.toList.drop (sLen * i.size+news.length)).toArray):=by
 have hf:=run_firstCells_some (P:=P) w i.size m a m c news hl hnews
 have hst:=run_storeCells_at P g (sLen * i.size) e' news 0 cur w hg (by simpa using hfit) h1
 simp only[Nat.add_zero] at hst
 simp[Builtin.append_,run_underlying ht,sizeOf,typeInfo,hi,Builtin.lenOf,hroom,hf,Addr.add_lit,hst]
theorem φ7T (h:Rel B Al s a w W) (hf:¬Al f) (hA:∀i,Al i→Al' i) (hf':Al' f) {ids0 idsY:List Nat} {t:Ty} {xs ys:List t.den} {v1 v2:Value} (hx:Onto w W s t xs v1 ids0) (hy:Adds w W s t ys v2 idsY)
  (hnd:(ids0++idsY).Nodup) {tt ty el:TypeId} {bytes:Nat} {zs:List Value} (hu:P.underlying tt=some (.slice el)) (ht:φ1v P el t.size bytes zs) (hzl:zs.length=t.size) (hby:bytes≠0)
  (hbd:(xs.length+ys.length) * bytes≤140737488355328) :
  ∃v w',(Builtin.append_ #[tt,tt] ty #[v1,v2]).run P w=.ok v w'∧∀d,φA B d→∃W',Rel B Al' (s.up ⟨dl d (.one (.own f)),gone (ids0++idsY)++[(f,some (.row t (xs++ys)))]⟩) (a.put d v) w' W':=by
 obtain ⟨i,z,p1,p2,p3,p4,p5⟩:=φ2v ht
 obtain ⟨A,c,news,fq,fr,e2,hcell,h1c,hch,hpm,hidY⟩:=hy
 subst e2
 have hids:∀j∈ids0++idsY,(s.ob j).isSome=true:=by
  intro j hj
  rcases mA.1 hj with k | k
  ·rcases hx with ⟨_,_,_,q⟩ | ⟨id,q,q2,_⟩
   ·exact q j k
   ·rw[q] at k;simp at k;subst k;exact q2
  ·exact hidY j k
 have hall:=h.blkNodup _ hnd hids
 rw[φ10] at hall
 have hlen:news.length=ys.length * t.size:=ChO.len (fun x cs f k=>Ow.size t x cs f k) _ _ _ hch
 have hb1:1≤bytes:=Nat.pos_of_ne_zero hby
 have hsmall:xs.length+ys.length≤140737488355328:=Nat.le_trans (Nat.le_mul_of_pos_right _ hb1) hbd
 have hfqfr:∀b,b∈fq∨b∈fr→∃j∈idsY,b∈fpOf W j:=fun b hb=>φa.1 (hpm.mem_iff.2 (mA.2 hb))
 have hcovY:∀j∈idsY,∀b∈W.nf j,b∈fq∨b∈fr:=fun j hj b hb=>mA.1 (hpm.mem_iff.1 (φa.2 ⟨j,hj,h.nfFp (hidY j hj) hb⟩))
 have hltY:∀b,b∈fq∨b∈fr→b<w.heap.size:=fun b hb=>by
  obtain ⟨j,hj,k⟩:=hfqfr b hb
  exact h.lt (hidY j hj) b k
 have hob:=φ4S s.ob f (some (.row t (xs++ys))) (ids0++idsY)
 rw[κ2] at hall
 obtain ⟨n1,n2,n3⟩:=hall
 have n2':=hpm.nodup_iff.1 n2
 rw[κ2] at n2'
 obtain ⟨m1,m2,m3⟩:=n2'
 rcases hx with ⟨rfl,rfl,hb0,_⟩ | ⟨id,rfl,hS,hnl,rfl,ces,rest,e0,q1,q2,q3,q4⟩
 ·-- onto nil
  by_cases hm:ys=[]
  ·subst hm
   refine ⟨_,w,φ6j tt ty el i hu p1 none 0 0 (κD _) A c,?_⟩
   obtain ⟨W',hR⟩:=h.putRow (f:=f) (n0:=true) (g:=0) (c:=0) (fp:=[]) (fr:=fr) (t:=t) (xs:=[]++[]) (w':=w) hA hf' hids (.inl hf)
    (fun b hb=>by
     obtain ⟨j,hj,k⟩:=hfqfr b (hb.imp (by simp) _root_.id)
     exact ⟨j,mR _ hj,k⟩)
    (fun j hj b hb=>by
     rcases mA.1 hj with k | k
     ·have:b∈blk W ids0:=φa.2 ⟨j,k,h.nfFp (hids j hj) hb⟩
      rw[hb0] at this;simp at this
     ·rcases hcovY j k b hb with q | q
      ·rw[hch.2] at q;simp at q
      ·exact .inr q)
    List.nodup_nil (by simp) (by simp) (fun _ _ _=>rfl) (κD _) (.inl ⟨rfl,rfl,rfl⟩) rfl rfl rfl (fun _ k=>absurd k hf) hob
   exact fun d hd=>⟨W',hR d _ _ hd (.inl ⟨rfl,rfl⟩)⟩
  ·obtain ⟨ad,rfl,hc⟩:=hcell.resolve_left hm
   have hpos:0<ys.length:=List.length_pos_iff.2 hm
   simp only[lN,Nat.zero_add] at hbd hsmall
   have hr:=run_append_nil (P:=P) w tt ty el i z hu p1 p4 ad ys.length c news (by rw[p2];exact hlen) hc hpos (by omega) (by rw[p3];omega)
   refine ⟨_,_,hr,?_⟩
   have hcap:=grownCap_ge w ys.length 0 el
   have hrow:=fun (d:Option Nat) (hd:φA B d)=>h.freshRow (Al':=Al') (f:=f) (d:=d) (c:=grownCap w ys.length 0 el) (ces:=news) (rest:=(Builtin.zeroCells z.cells (grownCap w ys.length 0 el - ys.length)).toList) (e:=el) (w1:=w.drew) (t:=t) (xs:=ys) (fp:=fq) (fr:=fr) hf hA hf' hd hids hnd
    (by rw[φ10,hb0];exact hpm) rfl rfl rfl rfl (by
     have:z.cells.size=t.size:=by rw[←hzl,←p5];simp
     simp only[lA,hlen,κK,size_zeroCells,this,←Nat.add_mul]
     congr 1;omega) hcap hch
   have hw:(news++(Builtin.zeroCells z.cells (grownCap w ys.length 0 el - ys.length)).toList).toArray=news.toArray++Builtin.zeroCells z.cells (grownCap w ys.length 0 el - ys.length):=by
    apply Array.ext';simp
   rw[hw] at hrow
   exact fun d hd=>hrow d hd
 ·-- onto a block
  have hxl:ces.length=xs.length * t.size:=ChO.len (fun x cs f k=>Ow.size t x cs f k) _ _ _ q4
  have hgY:∀b,b∈fq∨b∈fr→b≠W.η id∧b ∉ W.nf id:=fun b hb=>by
   have hb2:b∈blk W idsY:=hpm.mem_iff.2 (mA.2 hb)
   have hbf:b ∉ fpOf W id:=fun k=>n3 b (by simpa [blk] using k) b hb2 rfl
   exact ⟨fun e=>hbf (e ▸ η_fp hnl),fun k=>hbf (h.nfFp hS k)⟩
  have hnod:=h.nod id hS
  simp only[fpOf,hnl,cF,κC] at hnod
  have hcons:∀b,b∈W.nf id++fq∨b∈fr→∃j∈[id]++idsY,b∈fpOf W j:=fun b hb=>by
   rcases hb with hb | hb
   ·rcases mA.1 hb with k | k
    ·exact ⟨id,by simp,h.nfFp hS k⟩
    ·obtain ⟨j,hj,k⟩:=hfqfr b (.inl k);exact ⟨j,mR _ hj,k⟩
   ·obtain ⟨j,hj,k⟩:=hfqfr b (.inr hb);exact ⟨j,mR _ hj,k⟩
  have hcov:∀j∈[id]++idsY,∀b∈W.nf j,b∈W.nf id++fq∨b∈fr:=fun j hj b hb=>by
   rcases mA.1 hj with k | k
   ·simp at k;subst k;exact .inl (mL _ hb)
   ·exact (hcovY j k b hb).imp (mR _) _root_.id
  have hndp:(W.η id::(W.nf id++fq)).Nodup:=by
   refine κC.2 ⟨fun k=>?_,κ2.2 ⟨hnod.2,m1,fun x hx y hy e=>?_⟩⟩
   ·rcases mA.1 k with k | k
    ·exact hnod.1 k
    ·exact (hgY _ (.inl k)).1 rfl
   ·subst e;exact (hgY x (.inl hy)).2 hx
  have hndr:∀b∈fr,b ∉ W.η id::(W.nf id++fq):=fun b hb k=>by
   rcases mc.1 k with k | k
   ·exact (hgY b (.inr hb)).1 k
   ·rcases mA.1 k with k | k
    ·exact (hgY b (.inr hb)).2 k
    ·exact m3 b k b hb rfl
  have both:∀(w2:World),(∀b,b<w.heap.size→b≠W.η id→w2.heap[b]?=w.heap[b]?)→ChO (Ow w2 (plus W.I fr) t) (xs++ys) (ces++news) (W.nf id++fq):=by
   intro w2 hk
   refine ChO.append _ _ _ _ _ _ ?_ ?_
   ·exact ChO.mono _ _ _ (fun x cs f' hf' k=>Ow.mono (fun b hb=>.inl hb) (fun b hb=>hk b (h.bnd b hb) fun e=>h.imm id hS _ (η_fp hnl) (e ▸ hb)) t x cs f'
     (fun b hb=>hk b (h.lt hS b (h.nfFp hS (hf' b hb))) fun e=>hnod.1 (e ▸ hf' b hb)) k) q4
   ·refine ChO.mono _ _ _ (fun x cs f' hf' k=>Ow.mono (fun b hb=>hb) (fun b hb=>?_) t x cs f' (fun b hb=>hk b (hltY b (.inl (hf' b hb))) (hgY b (.inl (hf' b hb))).1) k) hch
    rcases hb with hb | hb
    ·exact hk b (h.bnd b hb) fun e=>h.imm id hS _ (η_fp hnl) (e ▸ hb)
    ·exact hk b (hltY b (.inr hb)) (hgY b (.inr hb)).1
  by_cases hm:ys=[]
  ·subst hm
   have hcn:=hch.1
   have hfn:=hch.2
   refine ⟨_,w,φ6j tt ty el i hu p1 _ _ _ q3 A c,?_⟩
   obtain ⟨W',hR⟩:=h.putRow (f:=f) (n0:=false) (g:=W.η id) (c:=W.cp id) (fp:=W.nf id++fq) (fr:=fr) (t:=t) (xs:=xs++[]) (w':=w) hA hf' hids (.inl hf) hcons hcov hndp hndr
    (fun _=>.inr ⟨id,by simp,hnl,rfl⟩) (fun _ _ _=>rfl) (κD _) (.inr ⟨rfl,ces,rest,e0,q1,q2,by simpa using q3,by
     have:=both w (fun _ _ _=>rfl)
     simpa [hcn] using this⟩) rfl rfl rfl (fun _ k=>absurd k hf) hob
   refine fun d hd=>⟨W',?_⟩
   have:=hR d _ _ hd (.inl ⟨rfl,rfl⟩)
   rw[κ5] at this ⊢
   exact this
  ·obtain ⟨ad,rfl,hc⟩:=hcell.resolve_left hm
   have hpos:0<ys.length:=List.length_pos_iff.2 hm
   by_cases hroom:xs.length+ys.length≤W.cp id
   ·have hfit:xs.length * i.size+news.length≤(ces++rest).toArray.size:=by
     rw[List.size_toArray,q2,hlen,p2,←Nat.add_mul];exact Nat.mul_le_mul_right _ hroom
    have hr:=φ9t (P:=P) (w:=w) tt ty el e0 i hu p1 (W.η id) xs.length (W.cp id) _ q1 ad ys.length c news (by rw[p2];exact hlen) hc h1c hroom hfit
    refine ⟨_,_,hr,?_⟩
    have hcells:((ces++rest).toArray.toList.take (xs.length * i.size)++news++(ces++rest).toArray.toList.drop (xs.length * i.size+news.length))=(ces++news)++rest.drop news.length:=by
     rw[p2,←hxl]
     show (ces++rest).take _++news++(ces++rest).drop _=_
     rw[List.take_left,List.drop_append,List.drop_eq_nil_of_le (by omega),Nat.add_sub_cancel_left,List.nil_append]
    rw[hcells]
    obtain ⟨W',hR⟩:=h.putRow (f:=f) (n0:=false) (g:=W.η id) (c:=W.cp id) (fp:=W.nf id++fq) (fr:=fr) (t:=t) (xs:=xs++ys) (w':=w.setRow (W.η id) ((ces++news)++rest.drop news.length).toArray) hA hf' hids (.inl hf) hcons hcov hndp hndr
     (fun _=>.inr ⟨id,by simp,hnl,rfl⟩) (fun b _ hb=>setRow_other w _ b _ (hb.resolve_left (by simp))) (by simp) (.inr ⟨rfl,ces++news,rest.drop news.length,e0,setRow_heap w _ _ _ e0 _ q1,by
      have h2:=q2
      simp only[lA,lD] at h2 ⊢
      rw[List.size_toArray,p2,←hxl] at hfit
      simp only[lA] at hfit
      omega,by simpa using hroom,both _ (fun b _ hb=>setRow_other w _ b _ hb)⟩) rfl rfl rfl (fun _ k=>absurd k hf) hob
    refine fun d hd=>⟨W',?_⟩
    have:=hR d _ _ hd (.inl ⟨rfl,rfl⟩)
    rw[lA] at this
    exact this
   ·have holds:∀(j:Nat) (v:Value),ces[j]?=some v→w.cell? ((⟨W.η id,0,none⟩:Addr).add j)=some v:=fun j v hv=>by
     rw[φ1d]
     exact At.cell ⟨_,e0,_,[],rest,q1,by simp,rfl⟩ j v hv
    have hr:=run_append_grow (P:=P) w tt ty el i z hu p1 p4 ⟨W.η id,0,none⟩ xs.length (W.cp id) ces (by rw[p2];exact hxl) holds ad ys.length c news (by rw[p2];exact hlen) hc (by omega) (by omega)
     (growslice_fits (by omega) (by rw[p3];exact hbd))
    refine ⟨_,_,hr,?_⟩
    have hcap:=grownCap_ge w (xs.length+ys.length) (W.cp id) el
    generalize hZ:Builtin.zeroCells z.cells (grownCap w (xs.length+ys.length) (W.cp id) el - (xs.length+ys.length))=Z at *
    have hZs:Z.size=(grownCap w (xs.length+ys.length) (W.cp id) el - (xs.length+ys.length)) * t.size:=by
     rw[←hZ,size_zeroCells]
     congr 1
     rw[←hzl,←p5];simp
    have hperm:(blk W ([id]++idsY)).Perm ((W.nf id++fq)++(W.η id::fr)):=by
     rw[φ10]
     have e1:blk W [id]=W.η id::W.nf id:=by simp[blk,fpOf,hnl]
     rw[e1]
     refine (List.Perm.append_left _ hpm).trans ?_
     rw[κG]
     refine (?_:(W.η id::(W.nf id++(fq++fr))).Perm _)
     rw[←aA]
     exact List.perm_middle.symm
    have hnotI:∀b,plus W.I fr b→plus W.I (W.η id::fr) b:=fun b hb=>hb.imp _root_.id (mC _)
    have hrow:=fun (d:Option Nat) (hd:φA B d)=>h.freshRow (Al':=Al') (f:=f) (d:=d) (c:=grownCap w (xs.length+ys.length) (W.cp id) el) (ces:=ces++news) (rest:=Z.toList) (e:=el) (w1:=w.drew) (t:=t) (xs:=xs++ys) (fp:=W.nf id++fq) (fr:=W.η id::fr) hf hA hf' hd hids hnd hperm rfl rfl rfl rfl (by
      simp only[lA,hlen,hxl,κK,hZs,←Nat.add_mul]
      congr 1;omega) (by simpa using hcap) (ChO.mono _ _ _ (fun x cs f' _ k=>Ow.mono (w:=w) hnotI (fun _ _=>rfl) t x cs f' (fun _ _=>rfl) k) (both w (fun _ _ _=>rfl)))
    have hw:((ces++news)++Z.toList).toArray=ces.toArray++news.toArray++Z:=by
     apply Array.ext';simp
    rw[hw] at hrow
    intro d hd
    obtain ⟨W',hR⟩:=hrow d hd
    rw[lA] at hR
    exact ⟨W',hR⟩
theorem φ4h {I I':Nat→Prop}:∀(t:Ty),t.flat=true→∀(x:t.den) cs,Rd w I t x cs→Ow w I' t x cs []
 | .int _,_,_,_,h=>⟨h,rfl⟩
 | .bool,_,_,_,h=>⟨h,rfl⟩
 | .str,_,_,_,h=>⟨h,rfl⟩
 | .sl _ _,hf,_,_,_=>by simp[Ty.flat] at hf
 | .box _ _,hf,_,_,_=>by simp[Ty.flat] at hf
 | .pair a b,hf,x,cs,⟨c1,c2,e,h,h'⟩=>by
  simp only[Ty.flat,bA] at hf
  exact ⟨c1,c2,[],[],e,rfl,φ4h a hf.1 _ _ h,φ4h b hf.2 _ _ h'⟩
theorem φ3A {I:Nat→Prop}:∀(t:Ty),t.owns=false→∀(x:t.den) cs,Rd w I t x cs→Ow w I t x cs []
 | .int _,_,_,_,h=>⟨h,rfl⟩
 | .bool,_,_,_,h=>⟨h,rfl⟩
 | .str,_,_,_,h=>⟨h,rfl⟩
 | .sl false _,_,_,_,h=>⟨h,rfl⟩
 | .box _ _,_,_,_,h=>⟨h,rfl⟩
 | .sl true _,hf,_,_,_=>by simp[Ty.owns] at hf
 | .pair a b,hf,x,cs,⟨c1,c2,e,h,h'⟩=>by
  simp only[Ty.owns,κ6] at hf
  exact ⟨c1,c2,[],[],e,rfl,φ3A a hf.1 _ _ h,φ3A b hf.2 _ _ h'⟩
theorem ChO.of_ch {α:Type} {R:α→List Value→Prop} {R':α→List Value→List Nat→Prop} (h:∀x cs,R x cs→R' x cs []):∀xs cs,Ch R xs cs→ChO R' xs cs []
 | [],_,k=>⟨k,rfl⟩
 | _::xs,_,⟨c1,c2,e,r,k⟩=>⟨c1,c2,[],[],e,rfl,h _ _ r,ChO.of_ch h xs c2 k⟩
theorem φ4Z {I:Nat→Prop} (t:Ty):∀(xs:List t.den) cs,Ch (Rd w I t) xs cs→∀v∈cs,v.oneCell'=true
 | [],_,k,v,hv=>by rw[show _=[] from k] at hv;simp at hv
 | _::xs,_,⟨c1,c2,e,r,k⟩,v,hv=>by
  rw[e] at hv
  rcases mA.1 hv with q | q
  ·exact φ2r t _ _ r v q
  ·exact φ4Z t xs c2 k v q
theorem φ6e {I:Nat→Prop} {t:Ty} {ys:List t.den} {v:Value} {ids:List Nat} {fr:List Nat} (hr:Rd w I (.sl false t) ys [v]) (hR:∀x cs,Rd w I t x cs→Ow w (plus W.I fr) t x cs [])
  (hp:(blk W ids).Perm fr) (hids:∀i∈ids,(s.ob i).isSome=true):Adds w W s t ys v ids:=by
 obtain ⟨A,c,e,hc,hr⟩:=Rd.slv hr
 rcases hr with hr | ⟨ad,C,el,fz,pre,ces,post,q1,q2,q3,q4,q5,q6,q7⟩
 ·subst hr
  exact ⟨A,c,[],[],fr,e,.inl rfl,by simp,⟨rfl,rfl⟩,hp,hids⟩
 ·refine ⟨A,c,ces,[],fr,e,.inr ⟨ad,q1,fun j u hu=>?_⟩,φ4Z t _ _ q7,ChO.of_ch hR _ _ q7,hp,hids⟩
  have had:ad=⟨ad.block,ad.off,none⟩:=by cases ad;simp at q2;subst q2;rfl
  rw[had,φ1d]
  exact At.cell ⟨C,el,fz,pre,post,q4,q5,q6⟩ j u hu
theorem φ7b (h:Rel B Al s a w W) {t:Ty} {bytes:Nat} {xs:List t.den} {y:Sc} {v:Value} {d:Option Nat} {ids:List Nat} (hy:Vs w W s.ob y v) (hids:ids.Nodup) (he:(φ2x t bytes xs y d f ids).exec s rs=some (u,rs')) :
  ∃ys idsY,Adds w W s t ys v idsY∧(ids++idsY).Nodup∧bytes≠0∧(xs.length+ys.length) * bytes≤140737488355328∧u=⟨dl d (.one (.own f)),gone (ids++idsY)++[(f,some (.row t (xs++ys)))]⟩:=by
 unfold φ2x at he
 simp only at he
 obtain ⟨hby,he⟩:=φo he
 have hby:bytes≠0:=fun e=>by simp[e] at hby
 cases hfl:t.flat with
 | true=>
  rw[hfl] at he
  simp only[cT] at he
  obtain ⟨ys,l2,idr,sf,rs2,cs,vs2,e,h2,hl2,hrd,_,_⟩:=φ33 h (.sl false t) [y] [v] _ _ ⟨_,_,rfl,hy,rfl⟩ he
  split at h2<;>try (simp[RP.exec] at h2;done)
  have hl2:vs2=[]:=hl2
  subst hl2
  rw[κ5] at e
  obtain ⟨c1,h2⟩:=φh h2
  obtain ⟨c2,h2⟩:=φB h2
  refine ⟨ys,[],φ6e (fr:=[]) (e ▸ hrd) (fun x cs k=>φ4h t hfl x cs k) (List.Perm.refl _) (by simp),by rw[κ5];exact hids,hby,of_decide_eq_true c1,?_⟩
  rw[φ1G h2,κ5]
 | false=>
  rw[hfl] at he
  simp only[cF] at he
  cases how:t.owns with
  | true=>
   rw[how] at he
   simp only[cT] at he
   obtain ⟨ys,l2,idY,rs2,cs,vs2,fp,fr,e,h2,hl2,ho,hp,_,hi⟩:=φ3i h (.sl true t) [y] [v] _ _ ⟨_,_,rfl,hy,rfl⟩ he
   split at h2<;>try (simp[RP.exec] at h2;done)
   have hl2:vs2=[]:=hl2
   subst hl2
   rw[κ5] at e
   subst e
   obtain ⟨c1,h2⟩:=φh h2
   obtain ⟨c2,h2⟩:=φB h2
   refine ⟨ys,idY,?_,φ1t _ c2,hby,of_decide_eq_true c1,φ1G h2⟩
   rcases ho with ⟨e1,e2,e3⟩ | ⟨g,c,fq,e1,e2,ces,rest,el,q1,q2,q3,q4⟩
   ·subst e1;subst e3
    simp only[List.cons.injEq,and_true] at e2
    exact ⟨none,0,[],[],fr,e2,.inl rfl,by simp,⟨rfl,rfl⟩,hp,hi⟩
   ·subst e2
    simp only[List.cons.injEq,and_true] at e1
    refine ⟨some ⟨g,0,none⟩,c,ces,fq,g::fr,e1,.inr ⟨_,rfl,fun j u hu=>?_⟩,?_,?_,hp.trans (by rw[κG];exact List.perm_middle.symm),hi⟩
    ·rw[φ1d]
     exact At.cell ⟨_,el,_,[],rest,q1,by simp,rfl⟩ j u hu
    ·exact φ4Z (I:=fun _=>True) (w:=w) t _ _ (Ch.of_O _ _ _ (fun x cs f' _ k=>Ow.rd (fun _ _=>trivial) t x cs f' (fun _ _=>trivial) k) q4)
    ·exact ChO.mono _ _ _ (fun x cs f' _ k=>Ow.mono (w:=w) (fun b hb=>hb.imp id (mC _)) (fun _ _=>rfl) t x cs f' (fun _ _=>rfl) k) q4
  | false=>
   rw[how] at he
   simp only[cF] at he
   obtain ⟨ys,l2,idY,rs2,cs,vs2,fp,fr,e,h2,hl2,ho,hp,_,hi⟩:=φ3i h (.sl false t) [y] [v] _ _ ⟨_,_,rfl,hy,rfl⟩ he
   split at h2<;>try (simp[RP.exec] at h2;done)
   have hl2:vs2=[]:=hl2
   subst hl2
   rw[κ5] at e
   subst e
   obtain ⟨c1,h2⟩:=φh h2
   obtain ⟨c2,h2⟩:=φB h2
   have h0:fp=[]:=ho.2
   subst h0
   exact ⟨ys,idY,φ6e ho.1 (fun x cs k=>φ3A t how x cs k) hp hi,φ1t _ c2,hby,of_decide_eq_true c1,φ1G h2⟩
theorem φ7B {c:Call} (hT:φK P T) (h:Rel B Al s a w W) (hd:φA B o.dst) (hf:fresh Al f) (hop:o.op=.call c) (hb:c.callee=.builtin .append) (he:(φ2 T E o f).exec s rs=some (u,rs')):Done P B (Nu Al f) (s.up u) o a w:=by
 simp only[φ2,hop] at he
 obtain ⟨vs,rs1,h1,k1⟩:=φ17 h he
 clear he
 rw[hb] at h1
 simp only at h1
 split at h1<;>try (simp[RP.exec] at h1;done)
 rename_i t t2 hat
 obtain ⟨htt,h5⟩:=φo h1
 clear h1
 have htt:t=t2:=(φ9 _ _).1 (by simpa using htt)
 subst htt
 have hat:c.argTypes=#[t,t]:=by apply Array.ext';rw[hat]
 split at h5<;>try (simp[RP.exec] at h5;done)
 rename_i x y
 obtain ⟨v1,r1,e1,p1,v2,r2,e2,p2,p3⟩:=k1
 have p3:r2=[]:=p3
 subst p3;subst e2
 have fin:∀(ty:Ty) (xs:List ty.den) (ids:List Nat) (e:Ty) (rs2:List Key),φk T t=some e→e.size=ty.size→Onto w W s ty xs v1 ids→ids.Nodup→(φ2x ty (φ1E T t) xs y o.dst f ids).exec s rs2=some (u,rs')→Done P B (Nu Al f) (s.up u) o a w:=by
  intro ty xs ids e rs2 hel hsz hx hnd he
  obtain ⟨ys,idsY,q1,q2,q3,q4,q5⟩:=φ7b h p2.1 hnd he
  obtain ⟨el,hu,ht⟩:=φ2b hT hel
  rw[hsz] at ht
  obtain ⟨v,w',hr,hR⟩:=φ7T (P:=P) (tt:=t) (ty:=o.type) (Al':=Nu Al f) h hf.one (fun i hi=>.inl hi) Nu.new hx q1 q2 hu ht (by rw[φ2h,hsz]) q3 q4
  rw[q5]
  intro K Q hK
  unfold Oper.wp
  rw[show (execOp a.eval o).run P w=.ok (.value v) w' from by
   have ha:=φ2C e1
   simp only[execOp,hop,resolve,hb,Sem.run_bind,Sem.run_pure,Result.andThen_ok,invoke,ha]
   simp only[builtin,hat,Sem.run_bind,hr,Result.andThen_ok,Sem.run_pure]]
  obtain ⟨W',hR⟩:=hR o.dst hd
  exact hK _ _ ⟨W',hR⟩
 split at h5<;>try (simp[RP.exec] at h5;done)
 ·rename_i id
  simp only[RP.exec] at h5
  split at h5<;>try (simp[RP.exec] at h5;done)
  rename_i e xs ho
  split at h5<;>try (simp[RP.exec] at h5;done)
  rename_i e' hel
  split at h5<;>try (simp[RP.exec] at h5;done)
  rename_i hsm
  have hS:(s.ob id).isSome=true:=by rw[ho];rfl
  have ev:v1=_:=p1.1.2 e xs ho
  refine fin e xs [id] e' _ hel (φ3C e e' _ hsm).symm ?_ (by simp) h5
  rcases h.row id e xs ho with ⟨q1,q2,q3⟩ | ⟨q1,hr⟩
  ·exact .inl ⟨by rw[ev];simp[slv,q1],q2,by simp[blk,fpOf,q1],by simpa using hS⟩
  ·exact .inr ⟨id,rfl,hS,q1,by rw[ev];simp[slv,q1],hr⟩
 ·split at h5<;>try (simp[RP.exec] at h5;done)
  rename_i e hel
  exact fin e [] [] e _ hel rfl (.inl ⟨p1.1.2,rfl,rfl,by simp⟩) List.nodup_nil h5
end
end Go.Rf
namespace Go.Rf
section
variable {P:Program} {T:Tab} {E:Env} {B:Base} {Al Al':Nat→Prop} {s s':St} {a:Act} {w w':World} {W W':Wit} {o:Oper} {f:Nat}
 {ob ob':Nat→Option Obj} {rs rs':List Key} {u:Upd}
def Form (t:Ty) (v:Value):Prop:=if φU t then ∃us,v=.agg us else v.oneCell'=true
def φT (w:World) (S:Nat→Prop):(p:PK)→p.ty.den→Value→List Nat→List Nat→Prop
 | .val t,x,v,fp,tp=>Form t v∧Ow w S t x v.cells.toList fp∧tp=tops t v.cells.toList
 | .io t,x,v,fp,tp=>Form t v∧Ow w S t x v.cells.toList fp∧tp=tops t v.cells.toList
 | .ptr t,x,v,fp,tp=>∃g cs e f,v=pt g 0∧fp=g::f∧tp=g::tops t cs∧w.heap[g]?=some (.cells cs.toArray e (0,0))∧Ow w S t x cs f
def φe (w:World) (S:Nat→Prop):(ps:List PK)→List Value→Tys (ps.map PK.ty)→List Nat→List Nat→Prop
 | [],vs,_,fp,tp=>vs=[]∧fp=[]∧tp=[]
 | p::ps,vs,x,fp,tp=>∃v vs' f1 f2 t1 t2,vs=v::vs'∧fp=f1++f2∧tp=t1++t2∧φT w S p (φ4 p.ty (ps.map PK.ty) x) v f1 t1∧φe w S ps vs' (φF p.ty (ps.map PK.ty) x) f2 t2
def φg (w:World) (S:Nat→Prop):(ps:List PK)→List Value→Tys (ioOf ps)→List Nat→List Nat→Prop
 | [],vs,_,fp,tp=>vs=[]∧fp=[]∧tp=[]
 | .val _::ps,vs,x,fp,tp=>∃v vs',vs=v::vs'∧φg w S ps vs' x fp tp
 | .io t::ps,vs,x,fp,tp=>∃v vs' f1 f2 t1 t2,vs=v::vs'∧fp=f1++f2∧tp=t1++t2∧φT w S (.io t) (φ4 t (ioOf ps) x) v f1 t1∧φg w S ps vs' (φF t (ioOf ps) x) f2 t2
 | .ptr t::ps,vs,x,fp,tp=>∃v vs' f1 f2 t1 t2,vs=v::vs'∧fp=f1++f2∧tp=t1++t2∧φT w S (.ptr t) (φ4 t (ioOf ps) x) v f1 t1∧φg w S ps vs' (φF t (ioOf ps) x) f2 t2
def φ4u (b:Bool) (v:Value):Prop:=if b=true then ∃t y,v=.iface t y else v=.nilIface
def φW (w:World) (S:Nat→Prop):(rs:List RK)→List Value→Tys (rs.map RK.ty)→List Nat→List Nat→Prop
 | [],vs,_,fp,tp=>vs=[]∧fp=[]∧tp=[]
 | .val t::rs,vs,x,fp,tp=>∃v vs' f1 f2 t1 t2,vs=v::vs'∧fp=f1++f2∧tp=t1++t2∧φT w S (.val t) (φ4 t (rs.map RK.ty) x) v f1 t1∧φW w S rs vs' (φF t (rs.map RK.ty) x) f2 t2
 | .ptr t::rs,vs,x,fp,tp=>∃v vs' f1 f2 t1 t2,vs=v::vs'∧fp=f1++f2∧tp=t1++t2∧φT w S (.ptr t) (φ4 t (rs.map RK.ty) x) v f1 t1∧φW w S rs vs' (φF t (rs.map RK.ty) x) f2 t2
 | .err::rs,vs,x,fp,tp=>∃v vs',vs=v::vs'∧φ4u (φ4 .bool (rs.map RK.ty) x) v∧φW w S rs vs' (φF .bool (rs.map RK.ty) x) fp tp
def resV:List Value→Value
 | [v]=>v
 | vs=>.tuple vs.toArray
structure Post (w:World) (S:Nat→Prop) (fp tp:List Nat) (dw:Bool) (w':World) (S':Nat→Prop) (fq tq:List Nat):Prop where
 nd:fq.Nodup
 imm:∀b∈fq,¬S' b
 top:∀b∈tq,b∈tp∨w.heap.size≤b
 all:∀b∈fq,b∈fp∨w.heap.size≤b
 sub:∀b,S' b→S b∨b∈fp∨w.heap.size≤b
 bnd:∀b,S' b→b<w'.heap.size
 old:∀b,b<w.heap.size→b ∉ tp→(dw=true→b ∉ fp)→w'.heap[b]?=w.heap[b]?
 size:w.heap.size≤w'.heap.size
 os:w'.os=w.os
 tape:w'.tape=w.tape
 output:w'.output=w.output
class Laid where
 L:World→Prop
 lb:Nat→Prop
 keep:∀w w':World,(∀b,lb b→w'.heap[b]?=w.heap[b]?)→L w→L w'
 bnd:∀(w:World) (b:Nat),L w→lb b→b<w.heap.size
def φ1 [Laid] (P:Program) (g:FuncId) (c:Ctr):Prop:=
 ∀(w:World) (args:List Value) (x:Tys c.g.ins) (S:Nat→Prop) (fp tp:List Nat) (y:Tys c.g.outs),
  (∀b,S b→b<w.heap.size)→φe w S c.g.ps args x fp tp→fp.Nodup→(∀b∈bif c.g.sv then tp else fp,¬S b)→Laid.L w→(∀b∈fp,¬Laid.lb b)→c.fn x=some y →
  ∀(o:Oper) (a:Act) (K:Act→World→Prop) (Q:Exit→Act→World→Prop),
   (∀us w' S' f1 f2 t1 t2,φW w' S' c.g.rs us (φ1C (c.g.rs.map RK.ty) (ioOf c.g.ps) y).1 f1 t1→φg w' S' c.g.ps args (φ1C (c.g.rs.map RK.ty) (ioOf c.g.ps) y).2 f2 t2 →
    Post w S fp tp c.g.dw w' S' (f1++f2) (t1++t2)→K (a.put o.dst (resV us)) w') →
   o.upon P a K Q ((callFunc g args.toArray).run P w)
def φ0 [Laid] (P:Program) (E:Env):Prop:=∀g cs,lkp E g=some cs→∀c∈cs,φ1 P g c
structure EnvB [Laid] (P:Program) (E:Env) (B:Base):Prop where
 env:φ0 P E
 laid:Laid.L B.w0
 off:∀b,B.fpT b∨B.fpN b→¬Laid.lb b
 offC:∀b,B.fpC b→B.fpT b∨B.fpN b
 ns:B.ns=nsE E
 hol:B.hol=holE E
structure NewOb where
 id:Nat
 ob:Obj
 g:Nat
 c:Nat
 nf:List Nat
 nl:Bool
def NewOb.fp (o:NewOb):List Nat:=bif o.nl then [] else o.g::o.nf
def NewOb.tp (o:NewOb):List Nat:=bif o.nl then [] else [o.g]
def NewOb.upd (o:NewOb):Nat×Option Obj:=(o.id,some o.ob)
def VN (w:World) (I:Nat→Prop) (os:List NewOb):Sc→Value→Prop
 | .undef,_=>True
 | .int k n,v=>v=.int k n
 | .bool b,v=>v=.bool b
 | .str s,v=>v=.string ⟨s.toArray⟩
 | .rd false t xs,v=>Rd w I (.sl false t) xs [v]
 | .bx false g t x,v=>Rd w I (.box g t) x [v]
 | .own id,v=>∃o∈os,o.id=id∧∃t xs,o.ob=.row t xs∧v=bif o.nl then .slice none 0 0 else .slice (some ⟨o.g,0,none⟩) xs.length o.c
 | .pv id off,v=>∃o∈os,o.id=id∧(∃l,o.ob=.var l)∧v=pt o.g off
 | .err b,v=>φ4u b v
 | _,_=>False
def NOk (w:World) (I:Nat→Prop) (os:List NewOb) (o:NewOb):Prop:=
 match o.ob with
 | .row t xs=>(o.nl=true∧xs=[]∧o.nf=[])∨(o.nl=false∧φ2B w (Ow w I t) t.size xs o.g o.c o.nf)
 | .var l=>o.nl=false∧o.nf=[]∧∃vs e,w.heap[o.g]?=some (.cells vs.toArray e (0,0))∧All2 (VN w I os) l vs
theorem VN.mono {I I':Nat→Prop} {os os':List NewOb} (hI:∀b,I b→I' b) (ho:∀o∈os,o∈os') {c:Sc} {v:Value} (h:VN w I os c v):VN w I' os' c v:=by
 cases c with
 | rd sf t xs=>cases sf with
  | false=>exact Rd.mono hI (fun _ _=>rfl) _ _ _ h
  | true=>exact h
 | bx sf g t x=>cases sf with
  | false=>exact Rd.mono hI (fun _ _=>rfl) _ _ _ h
  | true=>exact h
 | own id=>obtain ⟨o,h1,h2⟩:=h;exact ⟨o,ho o h1,h2⟩
 | pv id off=>obtain ⟨o,h1,h2⟩:=h;exact ⟨o,ho o h1,h2⟩
 | _=>exact h
theorem NOk.mono {I I':Nat→Prop} {os os':List NewOb} (hI:∀b,I b→I' b) (ho:∀o∈os,o∈os') {o:NewOb} (h:NOk w I os o):NOk w I' os' o:=by
 unfold NOk at h ⊢
 split
 ·rename_i t xs e
  rw[e] at h
  rcases h with h | ⟨h1,ces,rest,el,q1,q2,q3,q4⟩
  ·exact .inl h
  ·exact .inr ⟨h1,ces,rest,el,q1,q2,q3,ChO.mono _ _ _ (fun x cs f' _ k=>Ow.mono (w:=w) hI (fun _ _=>rfl) t x cs f' (fun _ _=>rfl) k) q4⟩
 ·rename_i l e
  rw[e] at h
  obtain ⟨h1,h2,vs,el,q1,q2⟩:=h
  exact ⟨h1,h2,vs,el,q1,q2.imp fun c _ v k=>VN.mono hI ho k⟩
theorem φ3Z (f n m:Nat):κE f n++κE (f+n) m=κE f (n+m):=by
 rw[List.range'_append_1]
theorem φ2c {I:Nat→Prop}:∀(t:Ty) (x:t.den) (cs:List Value) (fp:List Nat) (f:Nat),Ow w I t x cs fp →
  ∃os:List NewOb,(φ5 t x f).2.1=os.map NewOb.upd∧(φ5 t x f).2.2=f+os.length∧os.map (·.id)=κE f os.length∧fp=os.flatMap NewOb.fp ∧
   tops t cs=os.flatMap NewOb.tp∧All2 (VN w I os) (φ5 t x f).1 cs∧∀o∈os,NOk w I os o
 | .int _,_,_,_,f,h=>by obtain ⟨h,rfl⟩:=h;rw[h];exact ⟨[],rfl,rfl,rfl,rfl,rfl,⟨_,_,rfl,rfl,rfl⟩,by simp⟩
 | .bool,_,_,_,f,h=>by obtain ⟨h,rfl⟩:=h;rw[h];exact ⟨[],rfl,rfl,rfl,rfl,rfl,⟨_,_,rfl,rfl,rfl⟩,by simp⟩
 | .str,_,_,_,f,h=>by obtain ⟨h,rfl⟩:=h;rw[h];exact ⟨[],rfl,rfl,rfl,rfl,rfl,⟨_,_,rfl,rfl,rfl⟩,by simp⟩
 | .sl false t,x,cs,_,f,h=>by
  obtain ⟨⟨A,c,e,hc,hr⟩,rfl⟩:=h
  subst e
  exact ⟨[],rfl,rfl,rfl,rfl,rfl,⟨_,_,rfl,⟨A,c,rfl,hc,hr⟩,rfl⟩,by simp⟩
 | .box none t,x,cs,_,f,h=>by
  obtain ⟨⟨b,o,e,hr⟩,rfl⟩:=h
  subst e
  exact ⟨[],rfl,rfl,rfl,rfl,rfl,⟨_,_,rfl,⟨b,o,rfl,hr⟩,rfl⟩,by simp⟩
 | .box (some g) t,x,cs,_,f,h=>by
  obtain ⟨⟨caps,e,hr⟩,rfl⟩:=h
  subst e
  exact ⟨[],rfl,rfl,rfl,rfl,rfl,⟨_,_,rfl,⟨caps,rfl,hr⟩,rfl⟩,by simp⟩
 | .sl true t,xs,cs,fp,f,h=>by
  rcases h with ⟨e1,e2,e3⟩ | ⟨g,c,fq,e1,e2,hr⟩
  ·subst e2;subst e3
   refine ⟨[⟨f,.row t xs,0,0,[],true⟩],rfl,rfl,rfl,rfl,rfl,⟨_,_,rfl,⟨_,mZ.2 rfl,rfl,t,xs,rfl,rfl⟩,rfl⟩,?_⟩
   intro o ho
   rw[mZ.1 ho]
   exact .inl ⟨rfl,e1,rfl⟩
  ·subst e1;subst e2
   refine ⟨[⟨f,.row t xs,g,c,fq,false⟩],rfl,rfl,rfl,by simp[NewOb.fp],by simp[tops,NewOb.tp],⟨_,_,rfl,⟨_,mZ.2 rfl,rfl,t,xs,rfl,rfl⟩,rfl⟩,?_⟩
   intro o ho
   rw[mZ.1 ho]
   exact .inr ⟨rfl,hr⟩
 | .pair t1 t2,x,cs,fp,f,⟨c1,c2,f1,f2,e1,e2,r1,r2⟩=>by
  obtain ⟨os1,p1,p2,p3,p4,p5,p6,p7⟩:=φ2c t1 x.1 c1 f1 f r1
  obtain ⟨os2,q1,q2,q3,q4,q5,q6,q7⟩:=φ2c t2 x.2 c2 f2 (f+os1.length) r2
  have hex:φ5 (.pair t1 t2) x f=((φ5 t1 x.1 f).1++(φ5 t2 x.2 (f+os1.length)).1,(φ5 t1 x.1 f).2.1++(φ5 t2 x.2 (f+os1.length)).2.1,(φ5 t2 x.2 (f+os1.length)).2.2):=by
   show (match φ5 t1 x.1 f with | (l,o,f1)=>match φ5 t2 x.2 f1 with | (l',o',f2)=>(l++l',o++o',f2))=_
   rw[←p2]
  have s1:∀o∈os1,o∈os1++os2:=fun o ho=>mL _ ho
  have s2:∀o∈os2,o∈os1++os2:=fun o ho=>mR _ ho
  refine ⟨os1++os2,?_,?_,?_,?_,?_,?_,?_⟩
  ·rw[hex,mp,←p1,←q1]
  ·rw[hex,lA];show (φ5 t2 x.2 (f+os1.length)).2.2=_;rw[q2];omega
  ·rw[mp,p3,q3,lA,φ3Z]
  ·rw[e2,p4,q4,κ8]
  ·rw[e1,φ39 (Ow.size t1 _ _ _ r1),p5,q5,κ8]
  ·rw[hex,e1]
   exact All2.append (p6.imp fun c _ v k=>VN.mono (fun _ h=>h) s1 k) (q6.imp fun c _ v k=>VN.mono (fun _ h=>h) s2 k)
  ·intro o ho
   rcases mA.1 ho with k | k
   ·exact NOk.mono (fun _ h=>h) s1 (p7 o k)
   ·exact NOk.mono (fun _ h=>h) s2 (q7 o k)
end
end Go.Rf
namespace Go.Rf
section
variable {P:Program} {T:Tab} {E:Env} {B:Base} {Al Al':Nat→Prop} {s s':St} {a:Act} {w w':World} {W W':Wit} {o:Oper} {f:Nat}
 {ob ob':Nat→Option Obj} {rs rs':List Key} {u:Upd}
def SS (W:Wit) (ob:Nat→Option Obj) (fr sn:List Nat) (sf:Bool) (b:Nat):Prop:=b∈fr∨φ16 W ob sn sf b
def pids:List Plc→List Nat
 | []=>[]
 | .rows l::r=>l.filterMap id++pids r
 | .var i::r=>i::pids r
def PlOk (W:Wit) (ob:Nat→Option Obj):List PK→List Value→List Plc→Prop
 | [],us,pl=>us=[]∧pl=[]
 | .val _::ps,us,pl=>∃v us',us=v::us'∧PlOk W ob ps us' pl
 | .io t::ps,us,pl=>∃v us' l pl',us=v::us'∧pl=.rows l::pl'∧LdOk W ob t l v.cells.toList∧PlOk W ob ps us' pl'
 | .ptr _::ps,us,pl=>∃v us' id l pl',us=v::us'∧pl=.var id::pl'∧ob id=some (.var l)∧W.nl id=false∧v=pt (W.η id) 0∧PlOk W ob ps us' pl'
theorem φT.mono {S S':Nat→Prop} (hS:∀b,S b→S' b) {p:PK} {x:p.ty.den} {v:Value} {fp tp:List Nat} (h:φT w S p x v fp tp):φT w S' p x v fp tp:=by
 cases p with
 | val t=>obtain ⟨h1,h2,h3⟩:=h;exact ⟨h1,Ow.mono (w:=w) hS (fun _ _=>rfl) t _ _ _ (fun _ _=>rfl) h2,h3⟩
 | io t=>obtain ⟨h1,h2,h3⟩:=h;exact ⟨h1,Ow.mono (w:=w) hS (fun _ _=>rfl) t _ _ _ (fun _ _=>rfl) h2,h3⟩
 | ptr t=>obtain ⟨g,cs,e,f,h1,h2,h3,h4,h5⟩:=h;exact ⟨g,cs,e,f,h1,h2,h3,h4,Ow.mono (w:=w) hS (fun _ _=>rfl) t _ _ _ (fun _ _=>rfl) h5⟩
theorem φe.mono {S S':Nat→Prop} (hS:∀b,S b→S' b):∀{ps:List PK} {vs:List Value} {x:Tys (ps.map PK.ty)} {fp tp:List Nat},φe w S ps vs x fp tp→φe w S' ps vs x fp tp
 | [],_,_,_,_,h=>h
 | p::ps,_,_,_,_,⟨v,vs',f1,f2,t1,t2,e1,e2,e3,h1,h2⟩=>⟨v,vs',f1,f2,t1,t2,e1,e2,e3,h1.mono hS,h2.mono hS⟩
theorem SS.mono {fr fr' sn sn':List Nat} {sf sf':Bool} (h1:∀b∈fr,b∈fr') (h2:∀i∈sn,i∈sn') (h3:sf=true→sf'=true) {b:Nat} (h:SS W ob fr sn sf b):SS W ob fr' sn' sf' b:=by
 rcases h with h | h
 ·exact .inl (h1 b h)
 ·refine .inr ?_
  rcases h with h | ⟨h,k⟩ | ⟨id,h,k⟩
  ·exact .inl h
  ·exact .inr (.inl ⟨h3 h,k⟩)
  ·exact .inr (.inr ⟨id,h2 id h,k⟩)
theorem φ7O {α:Type} {r:α×List Key}:∀(t:Ty) (K:t.den→List Sc→List Nat→Bool→RP α) (rs:List Key),(see t [] K).exec s rs=some r→False
 | .pair a _,_,_,h=>φ7O a _ _ h
 | .int _,_,_,h=>by simp[see,RP.exec] at h
 | .bool,_,_,h=>by simp[see,RP.exec] at h
 | .str,_,_,h=>by simp[see,RP.exec] at h
 | .sl _ _,_,_,h=>by simp[see,RP.exec] at h
 | .box _ _,_,_,h=>by simp[see,RP.exec] at h
theorem φ6l {α:Type} {r:α×List Key} {c:Sc} (hc:φL c=true):∀(t:Ty) (l:List Sc) (K:t.den→List Sc→List Nat→Bool→RP α) (rs:List Key),(see t (c::l) K).exec s rs=some r→False
 | .pair a _,l,_,_,h=>φ6l hc a l _ _ h
 | .int _,_,_,_,h=>by cases c<;>first | (simp[φL] at hc;done) | simp[see,RP.exec] at h
 | .bool,_,_,_,h=>by cases c<;>first | (simp[φL] at hc;done) | simp[see,RP.exec] at h
 | .str,_,_,_,h=>by cases c<;>first | (simp[φL] at hc;done) | simp[see,RP.exec] at h
 | .sl _ _,_,_,_,h=>by cases c<;>first | (simp[φL] at hc;done) | simp[see,RP.exec] at h
 | .box _ _,_,_,_,h=>by cases c<;>first | (simp[φL] at hc;done) | simp[see,RP.exec] at h
theorem cells_one {x:Value} (h1:x.oneCell'=true):x.cells=#[x]:=by cases x<;>first | rfl | (simp[Value.oneCell'] at h1)
theorem AVr.form {v:AV} {x:Value} (h:AVr w W s.ob v x) {t:Ty} (hs:shp t v=true) (hu:∀c l,Go.Rf.cells v=c::l→φL c=false):Form t x∧All2 (Vs w W s.ob) (Go.Rf.cells v) x.cells.toList:=by
 cases v with
 | one c=>
  have h1:x.oneCell'=true:=h.1 (hu c [] rfl)
  refine ⟨?_,?_⟩
  ·unfold Form
   rw[if_neg (by simpa [shp] using hs)]
   exact h1
  ·rw[cells_one h1];exact ⟨x,[],rfl,h,rfl⟩
 | agg l=>
  obtain ⟨vs,e,p⟩:=h
  subst e
  refine ⟨?_,p⟩
  unfold Form
  rw[if_pos (by simpa [shp] using hs)]
  exact ⟨_,rfl⟩
 | tup l=>simp[shp] at hs
theorem φ6z {α:Type} {r:α×List Key} {t:Ty} {l:List Sc} {K:t.den→List Sc→List Nat→RP α} (h:(imp t l K).exec s rs=some r):∀c l',l=c::l'→φL c=false:=by
 rintro c l' rfl
 cases hc:φL c with
 | false=>rfl
 | true=>exact (φ4a hc t l' K rs h).elim
theorem φ9i {α:Type} {r:α×List Key} {t:Ty} {l:List Sc} {K:t.den→List Sc→List Nat→Bool→RP α} (h:(see t l K).exec s rs=some r):∀c l',l=c::l'→φL c=false:=by
 rintro c l' rfl
 cases hc:φL c with
 | false=>rfl
 | true=>exact (φ6l hc t l' K rs h).elim
theorem φ34:∀(t:Ty),t.owns=false→∀cs,tops t cs=[]
 | .int _,_,_=>rfl
 | .bool,_,_=>rfl
 | .str,_,_=>rfl
 | .sl false _,_,_=>rfl
 | .box _ _,_,_=>rfl
 | .sl true _,h,_=>by simp[Ty.owns] at h
 | .pair a b,h,cs=>by
  simp only[Ty.owns,κ6] at h
  show tops a _++tops b _=[]
  rw[φ34 a h.1,φ34 b h.2];rfl
theorem φ1J (t:Ty) (ts:List Ty) (x:t.den) (xs:Tys ts):φ4 t ts (φS t ts x xs)=x:=by cases ts<;>rfl
theorem φ1F (t:Ty) (ts:List Ty) (x:t.den) (xs:Tys ts):φF t ts (φS t ts x xs)=xs:=by cases ts<;>rfl
theorem φA3 {a b x y c d:List Nat} (h:a.Perm (x++c)) (k:b.Perm (y++d)):(a++b).Perm ((x++y)++(c++d)):=φz h k
theorem φ2s (h:Rel B Al s a w W) (hard:Bool) {α:Type} {r:α×List Key}:∀(ps:List PK) (vs:List AV) (us:List Value) (K:Tys (ps.map PK.ty)→List Nat→List Nat→Bool→List Plc→RP α) (rs:List Key),
  φ1B w W s.ob Al vs us→φ1b ps vs=true→(φ1X hard ps vs K).exec s rs=some r →
  ∃x ids sn sf pl rs2 fp tp fr,(K x ids sn sf pl).exec s rs2=some r∧φe w (SS W s.ob fr sn sf) ps us x fp tp∧(blk W ids).Perm (fp++fr)∧(∀i∈ids,(s.ob i).isSome=true)∧(∀i∈sn,(s.ob i).isSome=true) ∧
   (∀b∈tp,∃i∈ids,W.nl i=false∧b=W.η i)∧PlOk W s.ob ps us pl∧(pids pl).Sublist ids∧(hard=true→sn=[]∧sf=false)
 | [],vs,us,K,rs,hv,hok,he=>by
  cases vs with
  | nil=>
   have hv:us=[]:=hv
   subst hv
   exact ⟨(),[],[],false,[],rs,[],[],[],he,⟨rfl,rfl,rfl⟩,List.Perm.refl _,by simp,by simp,by simp,⟨rfl,rfl⟩,List.Sublist.refl _,fun _=>⟨rfl,rfl⟩⟩
  | cons v vs=>simp[φ1b] at hok
 | p::ps,vs,us,K,rs,hv,hok,he=>by
  cases vs with
  | nil=>simp[φ1b] at hok
  | cons v vs=>
   obtain ⟨u,us',e,hp,hv⟩:=hv
   subst e
   simp only[φ1b,bA] at hok
   obtain ⟨hok1,hok2⟩:=hok
   -- a value that is taken
   have took:∀(t:Ty) (K2:t.den→List Nat→RP α) (rs:List Key),shp t v=true→(imp t (cells v) fun x rest i=>match rest with | []=>K2 x i | _=>.fail).exec s rs=some r →
     ∃x i rs2 fp fr,(K2 x i).exec s rs2=some r∧Form t u∧Ow w (plus W.I fr) t x u.cells.toList fp∧(blk W i).Perm (fp++fr)∧(∀j∈i,(s.ob j).isSome=true)∧(∀b∈tops t u.cells.toList,∃j∈i,W.nl j=false∧b=W.η j) ∧
      ((φv t (cells v)).1=true→LdOk W s.ob t (φ13 t (cells v)).1 u.cells.toList∧((φ13 t (cells v)).1.filterMap id).Sublist i):=by
    intro t K2 rs hs he
    obtain ⟨hF,hl⟩:=hp.1.form hs (φ6z he)
    obtain ⟨x,l2,i,rs2,cs,vs2,fp,fr,q1,q2,q3,q4,q5,_,q7,q8,q9⟩:=φ1j h t _ _ _ _ hl he
    split at q2<;>try (simp[RP.exec] at q2;done)
    have q3:vs2=[]:=q3
    subst q3
    rw[κ5] at q1
    rw[q1]
    exact ⟨x,i,rs2,fp,fr,q2,hF,q4,q5,q7,q8,fun hk=>⟨(q9 hk).1,(q9 hk).2.1⟩⟩
   have subP:∀{fr0 fr:List Nat} {sn:List Nat} {sf:Bool} (b:Nat),plus W.I fr0 b→SS W s.ob (fr0++fr) sn sf b:=fun b hb=>hb.elim (fun k=>.inr (.inl k)) fun k=>.inl (mL _ k)
   cases p with
   | val t=>
    have hok1:shp t v=true∧(φv t (cells v)).1=true:=by simpa [φ3c] using hok1
    simp only[φ1X] at he
    cases hb:(hard || t.owns) with
    | true=>
     rw[hb] at he
     simp only[cT] at he
     obtain ⟨x,i,rs2,fp,fr,k1,k2,k3,k4,k5,k6,_⟩:=took t _ _ hok1.1 he
     obtain ⟨xs,j,sn,sf,pl,rs3,fq,tq,fs,m1,m2,m3,m4,m5,m6,m7,m8,m9⟩:=φ2s h hard ps vs us' _ _ hv hok2 k1
     refine ⟨_,_,_,_,_,_,fp++fq,tops t u.cells.toList++tq,fr++fs,m1,⟨u,us',fp,fq,_,tq,rfl,rfl,rfl,?_,?_⟩,by rw[φ10];exact φz k4 m3,?_,m5,?_,⟨u,us',rfl,m7⟩,m8.trans (List.sublist_append_right _ _),m9⟩
     ·show φT w _ (.val t) (φ4 t (ps.map PK.ty) (φS t (ps.map PK.ty) x xs)) u _ _
      rw[φ1J]
      exact ⟨k2,Ow.mono (w:=w) subP (fun _ _=>rfl) t _ _ _ (fun _ _=>rfl) k3,rfl⟩
     ·show φe w _ ps us' (φF t (ps.map PK.ty) (φS t (ps.map PK.ty) x xs)) fq tq
      rw[φ1F]
      exact m2.mono fun b hb=>SS.mono (fun b hb=>mR _ hb) (fun i hi=>hi) (fun h=>h) hb
     ·intro k hk
      rcases mA.1 hk with hk | hk
      ·exact k5 k hk
      ·exact m4 k hk
     ·intro b hb
      rcases mA.1 hb with hb | hb
      ·obtain ⟨j',hj,z⟩:=k6 b hb;exact ⟨j',mL _ hj,z⟩
      ·obtain ⟨j',hj,z⟩:=m6 b hb;exact ⟨j',mR _ hj,z⟩
    | false=>
     rw[hb] at he
     simp only[cF] at he
     simp only[κ6] at hb
     obtain ⟨hF,hl⟩:=hp.1.form hok1.1 (φ9i he)
     obtain ⟨x,l2,sn0,sf0,rs2,cs,vs2,q1,q2,q3,q4,_,q6⟩:=φ33 h t _ _ _ _ hl he
     split at q2<;>try (simp[RP.exec] at q2;done)
     have q3:vs2=[]:=q3
     subst q3
     rw[κ5] at q1
     obtain ⟨xs,j,sn,sf,pl,rs3,fq,tq,fs,m1,m2,m3,m4,m5,m6,m7,m8,m9⟩:=φ2s h hard ps vs us' _ _ hv hok2 q2
     refine ⟨_,_,_,_,_,_,fq,tq,fs,m1,⟨u,us',[],fq,[],tq,rfl,rfl,rfl,?_,?_⟩,m3,m4,?_,m6,⟨u,us',rfl,m7⟩,m8,fun hh=>by rw[hb.1] at hh;simp at hh⟩
     ·show φT w _ (.val t) (φ4 t (ps.map PK.ty) (φS t (ps.map PK.ty) x xs)) u _ _
      rw[φ1J]
      refine ⟨hF,?_,by rw[φ34 t hb.2]⟩
      rw[q1]
      refine φ3A t hb.2 _ _ (Rd.mono (w:=w) (fun b hb=>?_) (fun _ _=>rfl) t _ _ q4)
      exact .inr (φ16.mono (fun i hi=>mL _ hi) (fun h=>by simp[h]) hb)
     ·show φe w _ ps us' (φF t (ps.map PK.ty) (φS t (ps.map PK.ty) x xs)) fq tq
      rw[φ1F]
      exact m2.mono fun b hb=>SS.mono (fun b hb=>hb) (fun i hi=>mR _ hi) (fun h=>by simp[h]) hb
     ·intro k hk
      rcases mA.1 hk with hk | hk
      ·exact q6 k hk
      ·exact m5 k hk
   | io t=>
    have hok1:shp t v=true∧(φv t (cells v)).1=true:=by simpa [φ3c] using hok1
    simp only[φ1X] at he
    obtain ⟨x,i,rs2,fp,fr,k1,k2,k3,k4,k5,k6,k7⟩:=took t _ _ hok1.1 he
    obtain ⟨xs,j,sn,sf,pl,rs3,fq,tq,fs,m1,m2,m3,m4,m5,m6,m7,m8,m9⟩:=φ2s h hard ps vs us' _ _ hv hok2 k1
    refine ⟨_,_,_,_,_,_,fp++fq,tops t u.cells.toList++tq,fr++fs,m1,⟨u,us',fp,fq,_,tq,rfl,rfl,rfl,?_,?_⟩,by rw[φ10];exact φz k4 m3,?_,m5,?_,⟨u,us',_,pl,rfl,rfl,(k7 hok1.2).1,m7⟩,List.Sublist.append (k7 hok1.2).2 m8,m9⟩
    ·show φT w _ (.io t) (φ4 t (ps.map PK.ty) (φS t (ps.map PK.ty) x xs)) u _ _
     rw[φ1J]
     exact ⟨k2,Ow.mono (w:=w) subP (fun _ _=>rfl) t _ _ _ (fun _ _=>rfl) k3,rfl⟩
    ·show φe w _ ps us' (φF t (ps.map PK.ty) (φS t (ps.map PK.ty) x xs)) fq tq
     rw[φ1F]
     exact m2.mono fun b hb=>SS.mono (fun b hb=>mR _ hb) (fun i hi=>hi) (fun h=>h) hb
    ·intro k hk
     rcases mA.1 hk with hk | hk
     ·exact k5 k hk
     ·exact m4 k hk
    ·intro b hb
     rcases mA.1 hb with hb | hb
     ·obtain ⟨j',hj,z⟩:=k6 b hb;exact ⟨j',mL _ hj,z⟩
     ·obtain ⟨j',hj,z⟩:=m6 b hb;exact ⟨j',mR _ hj,z⟩
   | ptr t=>
    simp only[φ1X] at he
    split at he<;>try (simp[RP.exec] at he;done)
    rename_i id off
    have hoff:off=0:=(φ9 _ _).1 (by simpa [φ3c] using hok1)
    subst hoff
    simp only[RP.exec] at he
    split at he<;>try (simp[RP.exec] at he;done)
    rename_i cs ho
    obtain ⟨b,e,k⟩:=hp.1.2
    have hb:=k cs ho
    subst hb
    obtain ⟨hnl,hnf,vs0,el,hh,hl⟩:=h.var id cs ho
    obtain ⟨x,l2,i,rs2,cs0,vs2,fp,fr,q1,q2,q3,q4,q5,_,q7,q8,_⟩:=φ1j h t _ _ _ _ hl he
    split at q2<;>try (simp[RP.exec] at q2;done)
    have q3:vs2=[]:=q3
    subst q3
    rw[κ5] at q1
    subst q1
    obtain ⟨xs,j,sn,sf,pl,rs3,fq,tq,fs,m1,m2,m3,m4,m5,m6,m7,m8,m9⟩:=φ2s h hard ps vs us' _ _ hv hok2 q2
    have hS:(s.ob id).isSome=true:=by rw[ho];rfl
    have hblk:blk W (id::(i++j))=W.η id::(blk W i++blk W j):=by
     show fpOf W id++blk W (i++j)=_
     rw[φ10]
     simp[fpOf,hnl,hnf]
    refine ⟨_,_,_,_,_,_,(W.η id::fp)++fq,(W.η id::tops t vs0)++tq,fr++fs,m1,⟨u,us',_,fq,_,tq,rfl,rfl,rfl,?_,?_⟩,?_,?_,m5,?_,⟨u,us',id,cs,pl,rfl,rfl,ho,hnl,e,m7⟩,List.Sublist.cons_cons id (m8.trans (List.sublist_append_right _ _)),m9⟩
    ·show φT w _ (.ptr t) (φ4 t (ps.map PK.ty) (φS t (ps.map PK.ty) x xs)) u _ _
     rw[φ1J]
     exact ⟨W.η id,vs0,el,fp,e,rfl,rfl,hh,Ow.mono (w:=w) subP (fun _ _=>rfl) t _ _ _ (fun _ _=>rfl) q4⟩
    ·show φe w _ ps us' (φF t (ps.map PK.ty) (φS t (ps.map PK.ty) x xs)) fq tq
     rw[φ1F]
     exact m2.mono fun b hb=>SS.mono (fun b hb=>mR _ hb) (fun i hi=>hi) (fun h=>h) hb
    ·rw[hblk]
     exact List.Perm.cons _ (φz q5 m3)
    ·intro k hk
     rcases mc.1 hk with hk | hk
     ·subst hk;exact hS
     ·rcases mA.1 hk with hk | hk
      ·exact q7 k hk
      ·exact m4 k hk
    ·intro b hb
     rcases mA.1 hb with hb | hb
     ·rcases mc.1 hb with hb | hb
      ·exact ⟨id,by simp,hnl,hb⟩
      ·obtain ⟨j',hj,z⟩:=q8 b hb;exact ⟨j',mC _ (mL _ hj),z⟩
     ·obtain ⟨j',hj,z⟩:=m6 b hb;exact ⟨j',mC _ (mR _ hj),z⟩
end
end Go.Rf
namespace Go.Rf
section
variable {P:Program} {T:Tab} {E:Env} {B:Base} {Al Al':Nat→Prop} {s s':St} {a:Act} {w w':World} {W W':Wit} {o:Oper} {f:Nat}
 {ob ob':Nat→Option Obj} {rs rs':List Key} {u:Upd} {I:Nat→Prop}
theorem VN.one {os:List NewOb} {c:Sc} {v:Value} (h:VN w I os c v) (hu:φL c=false):v.oneCell'=true:=by
 cases c with
 | undef=>simp[φL] at hu
 | int k n=>rw[show v=_ from h];rfl
 | bool b=>rw[show v=_ from h];rfl
 | str s=>rw[show v=_ from h];rfl
 | rd sf t xs=>cases sf with
  | false=>obtain ⟨A,c,e,_⟩:=Rd.slv (m:=false) h;rw[e];rfl
  | true=>exact h.elim
 | bx sf g t x=>cases sf with
  | false=>exact φ2r (.box g t) x [v] h v (by simp)
  | true=>exact h.elim
 | own id=>obtain ⟨o,_,_,t,xs,_,e⟩:=h;rw[e];cases o.nl<;>rfl
 | pv id off=>obtain ⟨o,_,_,_,e⟩:=h;rw[e];rfl
 | err b=>cases b with
  | false=>rw[show v=_ from h];rfl
  | true=>obtain ⟨t,x,e⟩:=h;rw[e];rfl
 | _=>exact h.elim
def RVN (w:World) (I:Nat→Prop) (os:List NewOb) (p:Bool×List Sc) (u:Value):Prop:=
 if p.1 then ∃us,u=.agg us.toArray∧All2 (VN w I os) p.2 us else All2 (VN w I os) p.2 [u]
theorem RVN.mono {I':Nat→Prop} {os os':List NewOb} (hI:∀b,I b→I' b) (ho:∀o∈os,o∈os') {p:Bool×List Sc} {v:Value} (h:RVN w I os p v):RVN w I' os' p v:=by
 unfold RVN at h ⊢
 split
 ·rename_i hb;rw[if_pos hb] at h
  obtain ⟨us,e,k⟩:=h
  exact ⟨us,e,k.imp fun c _ v k=>VN.mono hI ho k⟩
 ·rename_i hb;rw[if_neg hb] at h
  exact h.imp fun c _ v k=>VN.mono hI ho k
theorem φ4F {os:List NewOb} {t:Ty} {v:Value} {l:List Sc} (hF:Form t v) (hl:All2 (VN w I os) l v.cells.toList):RVN w I os (φU t,l) v:=by
 unfold RVN Form at *
 cases hp:φU t with
 | true=>
  rw[hp] at hF
  simp only[if_true] at hF ⊢
  obtain ⟨us,e⟩:=hF
  subst e
  exact ⟨us.toList,rfl,hl⟩
 | false=>
  rw[hp] at hF
  simp only[κI,if_false] at hF ⊢
  rw[cells_one hF] at hl
  exact hl
theorem φ3K {t:Ty} {x:t.den} {g:Nat} {cs:List Value} {e:TypeId} {fp:List Nat} (id f:Nat) (hh:w.heap[g]?=some (.cells cs.toArray e (0,0))) (how:Ow w I t x cs fp) :
  ∃os:List NewOb,(id,some (Obj.var (φ5 t x f).1))::(φ5 t x f).2.1=os.map NewOb.upd∧f+os.length=(φ5 t x f).2.2+1∧os.map (·.id)=id::κE f (os.length - 1) ∧
   g::fp=os.flatMap NewOb.fp∧g::tops t cs=os.flatMap NewOb.tp∧(∀o∈os,NOk w I os o)∧(∃o∈os,o.id=id∧o.ob=.var (φ5 t x f).1∧o.g=g)∧∀o∈os,(o.id=id∧o.ob=.var (φ5 t x f).1∧o.g=g)∨(f≤o.id∧o.id<(φ5 t x f).2.2):=by
 obtain ⟨os,p1,p2,p3,p4,p5,p6,p7⟩:=φ2c t x cs fp f how
 let v0:NewOb:=⟨id,.var (φ5 t x f).1,g,0,[],false⟩
 have s1:∀o∈os,o∈v0::os:=fun o ho=>mC _ ho
 refine ⟨v0::os,?_,?_,?_,?_,?_,?_,⟨v0,by simp,rfl,rfl,rfl⟩,?_⟩
 ·rw[p1];rfl
 ·rw[p2,lC];omega
 ·rw[κH,p3];simp[v0]
 ·rw[p4];rfl
 ·rw[p5];rfl
 ·intro o ho
  rcases mc.1 ho with k | k
  ·subst k;exact ⟨rfl,rfl,cs,e,hh,p6.imp fun c _ v k=>VN.mono (fun _ h=>h) s1 k⟩
  ·exact NOk.mono (fun _ h=>h) s1 (p7 o k)
 ·intro o ho
  rcases mc.1 ho with k | k
  ·subst k;exact .inl ⟨rfl,rfl,rfl⟩
  ·right
   have:o.id∈κE f os.length:=by rw[←p3];exact mM.2 ⟨o,k,rfl⟩
   rw[List.mem_range'_1] at this
   omega
theorem φ3W:∀(rs:List RK) (us:List Value) (y:Tys (rs.map RK.ty)) (fp tp:List Nat) (f:Nat),φW w I rs us y fp tp →
  ∃os:List NewOb,(φc rs y f).2.1=os.map NewOb.upd∧(φc rs y f).2.2=f+os.length∧os.map (·.id)=κE f os.length∧fp=os.flatMap NewOb.fp∧tp=os.flatMap NewOb.tp ∧
   All2 (RVN w I os) (φc rs y f).1 us∧∀o∈os,NOk w I os o
 | [],us,y,fp,tp,f,⟨h1,h2,h3⟩=>by subst h1;subst h2;subst h3;exact ⟨[],rfl,rfl,rfl,rfl,rfl,rfl,by simp⟩
 | .val t::rs,us,y,fp,tp,f,⟨v,vs',f1,f2,t1,t2,e1,e2,e3,⟨hF,how,htp⟩,hr⟩=>by
  obtain ⟨os1,p1,p2,p3,p4,p5,p6,p7⟩:=φ2c t _ _ f1 f how
  obtain ⟨os2,q1,q2,q3,q4,q5,q6,q7⟩:=φ3W rs vs' (φF t (rs.map RK.ty) y) f2 t2 (f+os1.length) hr
  have hex:φc (.val t::rs) y f=((φU t,(φ5 t (φ4 t (rs.map RK.ty) y) f).1)::(φc rs (φF t (rs.map RK.ty) y) (f+os1.length)).1,
    (φ5 t (φ4 t (rs.map RK.ty) y) f).2.1++(φc rs (φF t (rs.map RK.ty) y) (f+os1.length)).2.1,(φc rs (φF t (rs.map RK.ty) y) (f+os1.length)).2.2):=by
   rw[←p2];rfl
  have s1:∀o∈os1,o∈os1++os2:=fun o ho=>mL _ ho
  have s2:∀o∈os2,o∈os1++os2:=fun o ho=>mR _ ho
  refine ⟨os1++os2,?_,?_,?_,?_,?_,?_,?_⟩
  ·rw[hex,mp,←p1,←q1]
  ·rw[hex];show (φc rs _ _).2.2=_;rw[q2,lA];omega
  ·rw[mp,p3,q3,lA,φ3Z]
  ·rw[e2,p4,q4,κ8]
  ·rw[e3,htp,p5,q5,κ8]
  ·rw[hex,e1]
   exact ⟨v,vs',rfl,(φ4F hF p6).mono (fun _ h=>h) s1,q6.imp fun c _ v k=>k.mono (fun _ h=>h) s2⟩
  ·intro o ho
   rcases mA.1 ho with k | k
   ·exact NOk.mono (fun _ h=>h) s1 (p7 o k)
   ·exact NOk.mono (fun _ h=>h) s2 (q7 o k)
 | .ptr t::rs,us,y,fp,tp,f,⟨v,vs',f1,f2,t1,t2,e1,e2,e3,⟨g,cs,e,fi,hv,hf1,ht1,hh,how⟩,hr⟩=>by
  obtain ⟨os1,p1,p2,p3,p4,p5,p7,p8,_⟩:=φ3K (t:=t) f (f+1) hh how
  have hlen:(φ5 t (φ4 t (rs.map RK.ty) y) (f+1)).2.2=f+os1.length:=by omega
  obtain ⟨os2,q1,q2,q3,q4,q5,q6,q7⟩:=φ3W rs vs' (φF t (rs.map RK.ty) y) f2 t2 (f+os1.length) hr
  have hex:φc (.ptr t::rs) y f=((false,[.pv f 0])::(φc rs (φF t (rs.map RK.ty) y) (f+os1.length)).1,
    (f,some (Obj.var (φ5 t (φ4 t (rs.map RK.ty) y) (f+1)).1))::((φ5 t (φ4 t (rs.map RK.ty) y) (f+1)).2.1++(φc rs (φF t (rs.map RK.ty) y) (f+os1.length)).2.1),(φc rs (φF t (rs.map RK.ty) y) (f+os1.length)).2.2):=by
   rw[←hlen];rfl
  have hpos:0<os1.length:=by obtain ⟨o,ho,_⟩:=p8;exact List.length_pos_of_mem ho
  have s1:∀o∈os1,o∈os1++os2:=fun o ho=>mL _ ho
  have s2:∀o∈os2,o∈os1++os2:=fun o ho=>mR _ ho
  refine ⟨os1++os2,?_,?_,?_,?_,?_,?_,?_⟩
  ·rw[hex,mp,←p1,←q1];rfl
  ·rw[hex];show (φc rs _ _).2.2=_;rw[q2,lA];omega
  ·rw[mp,p3,q3,lA]
   have:f::κE (f+1) (os1.length - 1)=κE f os1.length:=by
    obtain ⟨n,hn⟩:∃n,os1.length=n+1:=⟨os1.length - 1,by omega⟩
    rw[hn];rfl
   rw[this,φ3Z]
  ·rw[e2,hf1,p4,q4,κ8]
  ·rw[e3,ht1,p5,q5,κ8]
  ·rw[hex,e1]
   refine ⟨v,vs',rfl,?_,q6.imp fun c _ v k=>k.mono (fun _ h=>h) s2⟩
   show RVN w I (os1++os2) (false,[.pv f 0]) v
   unfold RVN
   rw[if_neg (by simp)]
   obtain ⟨o,ho,k1,k2,k3⟩:=p8
   exact ⟨v,[],rfl,⟨o,s1 o ho,k1,⟨_,k2⟩,by rw[hv,k3]⟩,rfl⟩
  ·intro o ho
   rcases mA.1 ho with k | k
   ·exact NOk.mono (fun _ h=>h) s1 (p7 o k)
   ·exact NOk.mono (fun _ h=>h) s2 (q7 o k)
 | .err::rs,us,y,fp,tp,f,⟨v,vs',e1,hv,hr⟩=>by
  obtain ⟨os2,q1,q2,q3,q4,q5,q6,q7⟩:=φ3W rs vs' (φF .bool (rs.map RK.ty) y) fp tp f hr
  have hex:φc (.err::rs) y f=((false,[.err (φ4 .bool (rs.map RK.ty) y)])::(φc rs (φF .bool (rs.map RK.ty) y) f).1,
    (φc rs (φF .bool (rs.map RK.ty) y) f).2.1,(φc rs (φF .bool (rs.map RK.ty) y) f).2.2):=rfl
  refine ⟨os2,?_,?_,q3,q4,q5,?_,q7⟩
  ·rw[hex];exact q1
  ·rw[hex];exact q2
  ·rw[hex,e1]
   refine ⟨v,vs',rfl,?_,q6⟩
   show RVN w I os2 (false,[.err (φ4 .bool (rs.map RK.ty) y)]) v
   unfold RVN
   rw[if_neg (by simp)]
   exact ⟨v,[],rfl,hv,rfl⟩
def φ3a (W:Wit) (ob:Nat→Option Obj) (o:NewOb):Prop:=
 (∃t,∃xs:List (Ty.den t),o.ob=.row t xs∧∃t0,∃xs0:List (Ty.den t0),ob o.id=some (.row t0 xs0)∧t0.size=t.size∧xs.length=xs0.length∧o.g=W.η o.id∧o.c=W.cp o.id∧o.nl=W.nl o.id) ∨
 (∃l l0,o.ob=.var l∧ob o.id=some (.var l0)∧o.g=W.η o.id)
theorem φ4q (hnil:∀id t (xs:List (Ty.den t)),ob id=some (.row t xs)→W.nl id=true→xs=[]):∀(t:Ty) (x:t.den) (cs:List Value) (fp:List Nat) (l l':List (Option Nat)),LdOk W ob t l cs→Ow w I t x cs fp →
  ∃os:List NewOb,φ2V t x (l++l')=(os.map NewOb.upd,l')∧fp=os.flatMap NewOb.fp∧tops t cs=os.flatMap NewOb.tp∧os.map (·.id)=l.filterMap id∧(∀o∈os,NOk w I os o)∧∀o∈os,φ3a W ob o
 | .int _,_,_,_,l,l',hl,h=>by have hl:l=[]:=hl;subst hl;exact ⟨[],rfl,h.2,rfl,rfl,by simp,by simp⟩
 | .bool,_,_,_,l,l',hl,h=>by have hl:l=[]:=hl;subst hl;exact ⟨[],rfl,h.2,rfl,rfl,by simp,by simp⟩
 | .str,_,_,_,l,l',hl,h=>by have hl:l=[]:=hl;subst hl;exact ⟨[],rfl,h.2,rfl,rfl,by simp,by simp⟩
 | .sl false _,_,_,_,l,l',hl,h=>by have hl:l=[]:=hl;subst hl;exact ⟨[],rfl,h.2,rfl,rfl,by simp,by simp⟩
 | .box _ _,_,_,_,l,l',hl,h=>by have hl:l=[]:=hl;subst hl;exact ⟨[],rfl,h.2,rfl,rfl,by simp,by simp⟩
 | .sl true t,xs,cs,fp,l,l',hl,h=>by
  obtain ⟨v,hcs,hl⟩:=hl
  subst hcs
  rcases hl with ⟨id,t0,xs0,rfl,ho,hsz,hv⟩ | ⟨rfl,hv⟩
  ·rcases h with ⟨e1,e2,e3⟩ | ⟨g,c,fq,e1,e2,hr⟩
   ·simp only[List.cons.injEq,and_true] at e2
    rcases φ3U (hv.symm.trans e2) with ⟨_,hn,_⟩ | ⟨hn,_⟩
    ·have hx0:=hnil id t0 xs0 ho hn
     subst e1
     refine ⟨[⟨id,.row t [],W.η id,W.cp id,[],true⟩],rfl,by rw[e3];rfl,by rw[e2];rfl,rfl,?_,?_⟩
     ·intro o ho;rw[mZ.1 ho];exact .inl ⟨rfl,rfl,rfl⟩
     ·intro o ho';rw[mZ.1 ho'];exact .inl ⟨t,[],rfl,t0,xs0,ho,hsz,by rw[hx0];rfl,rfl,rfl,hn.symm⟩
    ·simp at hn
   ·simp only[List.cons.injEq,and_true] at e1
    rcases φ3U (hv.symm.trans e1) with ⟨hn,_⟩ | ⟨h1,h2,h3,h4⟩
    ·simp at hn
    ·simp only[Option.some.injEq,Addr.mk.injEq,and_true] at h1
     subst h1;subst h4;subst e2
     refine ⟨[⟨id,.row t xs,W.η id,W.cp id,fq,false⟩],rfl,by simp[NewOb.fp],by rw[e1];rfl,rfl,?_,?_⟩
     ·intro o ho;rw[mZ.1 ho];exact .inr ⟨rfl,hr⟩
     ·intro o ho';rw[mZ.1 ho'];exact .inl ⟨t,xs,rfl,t0,xs0,ho,hsz,h3,rfl,rfl,h2.symm⟩
  ·subst hv
   rcases h with ⟨e1,e2,e3⟩ | ⟨g,c,fq,e1,_,_⟩
   ·exact ⟨[],rfl,e3,rfl,rfl,by simp,by simp⟩
   ·simp at e1
 | .pair t1 t2,x,cs,fp,l,l',⟨l1,l2,c1,c2,e1,e2,hc1,k1,k2⟩,⟨d1,d2,f1,f2,e3,e4,r1,r2⟩=>by
  have hd1:=Ow.size t1 _ _ _ r1
  obtain ⟨rfl,rfl⟩:=List.append_inj (e2.symm.trans e3) (by rw[hc1,hd1])
  obtain ⟨os1,p1,p2,p3,p4,p5,p6⟩:=φ4q hnil t1 x.1 c1 f1 l1 (l2++l') k1 r1
  obtain ⟨os2,q1,q2,q3,q4,q5,q6⟩:=φ4q hnil t2 x.2 c2 f2 l2 l' k2 r2
  have s1:∀o∈os1,o∈os1++os2:=fun o ho=>mL _ ho
  have s2:∀o∈os2,o∈os1++os2:=fun o ho=>mR _ ho
  refine ⟨os1++os2,?_,by rw[e4,p2,q2,κ8],by rw[e2,φ39 hc1,p3,q3,κ8],by rw[e1,mp,p4,q4,List.filterMap_append],?_,?_⟩
  ·show (match φ2V t1 x.1 (l++l') with | (o,l')=>match φ2V t2 x.2 l' with | (o',l'')=>(o++o',l''))=_
   rw[e1,aA,p1]
   simp only[q1,mp]
  ·intro o ho
   rcases mA.1 ho with k | k
   ·exact NOk.mono (fun _ h=>h) s1 (p5 o k)
   ·exact NOk.mono (fun _ h=>h) s2 (q5 o k)
  ·intro o ho
   rcases mA.1 ho with k | k
   ·exact p6 o k
   ·exact q6 o k
theorem φ3N (hnil:∀id t (xs:List (Ty.den t)),ob id=some (.row t xs)→W.nl id=true→xs=[]):∀(ps:List PK) (us:List Value) (pl:List Plc) (y:Tys (ioOf ps)) (fq tq:List Nat) (f f':Nat) (l:List (Nat×Option Obj)),
  PlOk W ob ps us pl→φg w I ps us y fq tq→φ1Y ps pl y f=some (l,f') →
  ∃(os:List NewOb) (n:Nat),l=os.map NewOb.upd∧f'=f+n∧(os.map (·.id)).Perm (pids pl++κE f n)∧fq=os.flatMap NewOb.fp∧tq=os.flatMap NewOb.tp∧(∀o∈os,NOk w I os o)∧∀o∈os,(f≤o.id∧o.id<f')∨φ3a W ob o
 | [],us,pl,y,fq,tq,f,f',l,hp,hb,he=>by
  obtain ⟨_,rfl⟩:=hp
  obtain ⟨_,rfl,rfl⟩:=hb
  simp only[φ1Y,Option.some.injEq,Prod.mk.injEq] at he
  obtain ⟨rfl,rfl⟩:=he
  exact ⟨[],0,rfl,rfl,List.Perm.refl _,rfl,rfl,by simp,by simp⟩
 | .val t::ps,us,pl,y,fq,tq,f,f',l,⟨v,us',e1,hp⟩,⟨v',vs',e2,hb⟩,he=>by
  subst e1
  simp only[List.cons.injEq] at e2
  obtain ⟨rfl,rfl⟩:=e2
  exact φ3N hnil ps us' pl y fq tq f f' l hp hb he
 | .io t::ps,us,pl,y,fq,tq,f,f',l,⟨v,us',ld,pl',e1,e2,hld,hp⟩,⟨v',vs',f1,f2,t1,t2,e3,e4,e5,⟨hF,how,ht⟩,hb⟩,he=>by
  subst e1;subst e2
  simp only[List.cons.injEq] at e3
  obtain ⟨rfl,rfl⟩:=e3
  simp only[φ1Y] at he
  split at he<;>try (simp at he;done)
  rename_i os0 f0 hout
  simp only[Option.some.injEq,Prod.mk.injEq] at he
  obtain ⟨rfl,rfl⟩:=he
  obtain ⟨os1,p1,p2,p3,p4,p5,p6⟩:=φ4q hnil t _ _ f1 ld [] hld how
  obtain ⟨os2,n,q1,q2,q3,q4,q5,q6,q7⟩:=φ3N hnil ps us' pl' _ f2 t2 f f0 os0 hp hb hout
  rw[κ5] at p1
  have s1:∀o∈os1,o∈os1++os2:=fun o ho=>mL _ ho
  have s2:∀o∈os2,o∈os1++os2:=fun o ho=>mR _ ho
  refine ⟨os1++os2,n,by rw[p1,q1,mp],q2,?_,by rw[e4,p2,q4,κ8],by rw[e5,ht,p3,q5,κ8],?_,?_⟩
  ·rw[mp,p4]
   show (_:List Nat).Perm ((ld.filterMap _root_.id++pids pl')++_)
   rw[aA]
   exact List.Perm.append_left _ q3
  ·intro o ho
   rcases mA.1 ho with k | k
   ·exact NOk.mono (fun _ h=>h) s1 (p5 o k)
   ·exact NOk.mono (fun _ h=>h) s2 (q6 o k)
  ·intro o ho
   rcases mA.1 ho with k | k
   ·exact .inr (p6 o k)
   ·exact q7 o k
 | .ptr t::ps,us,pl,y,fq,tq,f,f',l,⟨v,us',id,l0,pl',e1,e2,ho,hnl,hv,hp⟩,⟨v',vs',f1,f2,t1,t2,e3,e4,e5,⟨g,cs,e,fi,hv2,hf1,ht1,hh,how⟩,hb⟩,he=>by
  subst e1;subst e2
  simp only[List.cons.injEq] at e3
  obtain ⟨rfl,rfl⟩:=e3
  have hg:g=W.η id:=by
   have:=hv2.symm.trans hv
   simpa [pt] using this
  simp only[φ1Y] at he
  split at he<;>try (simp at he;done)
  rename_i os0 f0 hout
  simp only[Option.some.injEq,Prod.mk.injEq] at he
  obtain ⟨rfl,rfl⟩:=he
  obtain ⟨os1,p1,p2,p3,p4,p5,p7,p8,p9⟩:=φ3K (t:=t) id f hh how
  obtain ⟨os2,n,q1,q2,q3,q4,q5,q6,q7⟩:=φ3N hnil ps us' pl' _ f2 t2 _ f0 os0 hp hb hout
  have q2:f0=(φ5 t (φ4 t (ioOf ps) y) f).2.2+n:=q2
  have hpos:0<os1.length:=by obtain ⟨o,ho,_⟩:=p8;exact List.length_pos_of_mem ho
  have s1:∀o∈os1,o∈os1++os2:=fun o ho=>mL _ ho
  have s2:∀o∈os2,o∈os1++os2:=fun o ho=>mR _ ho
  have hf1':(φ5 t (φ4 t (ioOf ps) y) f).2.2=f+(os1.length - 1):=by omega
  refine ⟨os1++os2,os1.length - 1+n,?_,by omega,?_,by rw[e4,hf1,p4,q4,κ8],by rw[e5,ht1,p5,q5,κ8],?_,?_⟩
  ·rw[mp,←p1,←q1];rfl
  ·rw[mp,p3]
   rw[hf1'] at q3
   have:(id::κE f (os1.length - 1)++List.map (fun x=>x.id) os2).Perm (id::κE f (os1.length - 1)++(pids pl'++κE (f+(os1.length - 1)) n)):=List.Perm.append_left _ q3
   refine this.trans ?_
   rw[←φ3Z]
   show (id::(κE f (os1.length - 1)++(pids pl'++κE (f+(os1.length - 1)) n))).Perm (id::(pids pl'++(κE f (os1.length - 1)++κE (f+(os1.length - 1)) n)))
   exact List.Perm.cons _ (φ2X _ _ _)
  ·intro o ho
   rcases mA.1 ho with k | k
   ·exact NOk.mono (fun _ h=>h) s1 (p7 o k)
   ·exact NOk.mono (fun _ h=>h) s2 (q6 o k)
  ·intro o ho'
   rcases mA.1 ho' with k | k
   ·rcases p9 o k with ⟨k1,k2,k3⟩ | ⟨k1,k2⟩
    ·exact .inr (.inr ⟨_,l0,k2,by rw[k1];exact ho,by rw[k3,k1];exact hg⟩)
    ·exact .inl ⟨k1,κ7 k2 (show (φ5 t (φ4 t (ioOf ps) y) f).2.2≤f0 by omega)⟩
   ·rcases q7 o k with ⟨k1,k2⟩ | k
    ·have k1:(φ5 t (φ4 t (ioOf ps) y) f).2.2≤o.id:=k1
     exact .inl ⟨by omega,k2⟩
    ·exact .inr k
end
end Go.Rf
