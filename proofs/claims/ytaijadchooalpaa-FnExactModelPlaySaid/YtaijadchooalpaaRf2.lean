import Derived.Laws.Slices
import Derived.Laws.BytesString
import Derived.OrdersHeld
import Derived.Laws.AppendOwn
import Derived.Laws.MakeOwn
import Derived.Great.FillDense
import Derived.Test.YtaijadchooalpaaRf1
open Option renaming bind_some→bS
open List renaming length_append→lA,append_assoc→aA,mem_cons_of_mem→mC,mem_append→mA,mem_append_right→mR,mem_append_left→mL,mem_cons→mc,drop_eq_getElem_cons→dG,length_take→lT,length_drop→lD,mem_map→mM,length_map→lM,length_cons→lC,length_nil→lN,getElem_mem→gM,map_append→mp,mem_singleton→mZ,take_succ_eq_append_getElem→κ0,nodup_append→κ2,mem_cons_self→κ3,append_nil→κ5,flatMap_append→κ8,replicate→κA,take_length→κB,nodup_cons→κC,range'→κE,cons_append→κG,map_cons→κH,take_append_drop→κJ
open Bool renaming and_eq_true→bA,eq_false_or_eq_true→bE,not_true→nZ,not_false→nF,true_and→tA,not_not→nn,or_eq_false_iff→κ6,not_eq_true'→κF,false_eq_true→κI
open Int renaming toNat_natCast→tN,ofNat_lt→oL
open Nat renaming eq_of_beq_eq_true→κ1,lt_or_ge→κ4,lt_of_lt_of_le→κ7,le_of_ble_eq_true→κ9,le_refl→κD,zero_le→κL
open Array renaming length_toList→κK
set_option linter.unusedVariables false
set_option linter.unusedSimpArgs false
namespace Go.Rf
def Nu (Al:Nat→Prop) (f:Nat) (i:Nat):Prop:=Al i∨(f≤i∧i<f+idW)
def Done (P:Program) (B:Base) (Al':Nat→Prop) (s':St) (o:Oper) (a:Act) (w:World):Prop:=
 ∀K Q,(∀a' w',(∃W',Rel B Al' s' a' w' W')→K a' w')→o.wp P a w K Q
section
variable {P:Program} {T:Tab} {E:Env} {B:Base} {Al:Nat→Prop} {s:St} {a:Act} {w:World} {W:Wit} {o:Oper} {f:Nat}
 {rs rs':List Key} {u:Upd}
theorem Done.mono {Al':Nat→Prop} (hA:∀i,Al i→Al' i) (h:Done P B Al s o a w):Done P B Al' s o a w:=
 fun K Q hK=>h K Q fun a' w' ⟨W',r⟩=>hK a' w' ⟨W',r.mono hA⟩
theorem φp (h:Rel B Al s a w W) (hd:φA B o.dst) {v:Value} {r:AV} (hr:(execOp a.eval o).run P w=.ok (.value v) w)
  (hv:AVr w W s.ob r v) (hm:∀id,menA r id→Al id):Done P B Al (s.up ⟨dl o.dst r,[]⟩) o a w:=by
 intro K Q hK
 unfold Oper.wp
 rw[hr]
 exact hK _ _ ⟨W,h.put hd hv hm⟩
theorem All2.length {α β:Type} {R:α→β→Prop}:∀{l:List α} {m:List β},All2 R l m→m.length=l.length
 | [],_,h=>by rw[show _=[] from h];rfl
 | _::l,_,⟨_,_,e,_,h⟩=>by rw[e,lC,lC,All2.length h]
theorem All2.append {α β:Type} {R:α→β→Prop}:∀{l l':List α} {m m':List β},All2 R l m→All2 R l' m'→All2 R (l++l') (m++m')
 | [],_,_,_,h,h'=>by rw[h];exact h'
 | _::l,_,_,m',⟨b,r,e,p,h⟩,h'=>⟨b,r++m',by rw[e];rfl,p,All2.append h h'⟩
theorem All2.drop {α β:Type} {R:α→β→Prop}:∀{l:List α} {m:List β} (n:Nat),All2 R l m→All2 R (l.drop n) (m.drop n)
 | _,_,0,h=>h
 | [],_,n+1,h=>by rw[h];exact rfl
 | _::l,_,n+1,⟨_,_,e,_,h⟩=>by rw[e];exact All2.drop n h
theorem All2.take {α β:Type} {R:α→β→Prop}:∀{l:List α} {m:List β} (n:Nat),All2 R l m→All2 R (l.take n) (m.take n)
 | _,_,0,_=>by simp only[List.take_zero];exact rfl
 | [],_,n+1,h=>by rw[h];exact rfl
 | _::l,_,n+1,⟨b,r,e,p,h⟩=>by rw[e];exact ⟨b,r.take n,rfl,p,All2.take n h⟩
theorem All2.imp {α β:Type} {R R':α→β→Prop}:∀{l:List α} {m:List β},(∀x∈l,∀y,R x y→R' x y)→All2 R l m→All2 R' l m
 | [],_,_,h=>h
 | x::l,_,hR,⟨b,r,e,p,h⟩=>⟨b,r,e,hR x (κ3 ..) b p,All2.imp (fun y hy=>hR y (mC _ hy)) h⟩
theorem All2.get {α β:Type} {R:α→β→Prop}:∀{l:List α} {m:List β} (i:Nat) (x:α),All2 R l m→l[i]?=some x→∃y,m[i]?=some y∧R x y
 | [],_,_,_,_,h=>by simp at h
 | x::l,_,0,y,⟨b,r,e,p,_⟩,h=>by simp only[List.getElem?_cons_zero,Option.some.injEq] at h;subst h;exact ⟨b,by rw[e];rfl,p⟩
 | x::l,_,i+1,y,⟨b,r,e,p,h'⟩,h=>by rw[e];simp only[List.getElem?_cons_succ] at h ⊢;exact All2.get i y h' h
theorem φ2w {l:List Sc} {n id:Nat} (h:menL (l.take n) id):menL l id:=let ⟨s,h1,h2⟩:=h;⟨s,List.mem_of_mem_take h1,h2⟩
theorem φ3t {l:List Sc} {n id:Nat} (h:menL (l.drop n) id):menL l id:=let ⟨s,h1,h2⟩:=h;⟨s,List.mem_of_mem_drop h1,h2⟩
theorem φh {α:Type} {b:Bool} {k:RP α} {r:α×List Key} (h:(RP.chk b k).exec s rs=some r):b=true∧k.exec s rs=some r:=by
 cases b
 ·simp[RP.exec] at h
 ·exact ⟨rfl,h⟩
theorem φB {α:Type} {b:Bool} {k:RP α} {r:α×List Key} (h:(bif b then k else .fail).exec s rs=some r):b=true∧k.exec s rs=some r:=by
 cases b
 ·simp[RP.exec] at h
 ·exact ⟨rfl,h⟩
theorem φo {α:Type} {b:Bool} {k:RP α} {r:α×List Key} (h:(bif b then .fail else k).exec s rs=some r):b=false∧k.exec s rs=some r:=by
 cases b
 ·exact ⟨rfl,h⟩
 ·simp[RP.exec] at h
theorem φ70 {α:Type} {g:Bool} {n:Nat} {l:List Sc} {vs:List Value} {k:AV→RP α} {r:α×List Key} (hl:All2 (Vs w W s.ob) l vs) (hm:∀id,menL l id→Al id)
  (h:(mkAV g n l k).exec s rs=some r) :
  ∃v,(k v).exec s rs=some r∧AVr w W s.ob v (mkV g vs)∧(∀id,menA v id→Al id)∧vs.length=n∧(g=false→n=1):=by
 unfold mkAV at h
 obtain ⟨hn,h⟩:=φB h
 have hn:=(φ9 _ _).1 hn
 cases g with
 | true=>exact ⟨.agg l,h,⟨vs,rfl,hl⟩,hm,hl.length.trans hn,fun h=>by simp at h⟩
 | false=>
  simp only[cF] at h
  match l,hl,hn,h with
  | [c],⟨v,_,e,p,e'⟩,hn,h=>
   simp only[All2] at e'
   subst e';subst e
   exact ⟨.one c,h,p,fun id hid=>hm id ⟨c,by simp,hid⟩,hn,fun _=>hn.symm⟩
  | [],_,_,h=>simp[RP.exec] at h
  | _::_::_,_,_,h=>simp[RP.exec] at h
theorem φ2r {I:Nat→Prop}:∀(t:Ty) (x:t.den) cs,Rd w I t x cs→∀v∈cs,v.oneCell'=true
 | .int _,_,_,h,v,hv=>by rw[h] at hv;simp at hv;subst hv;rfl
 | .bool,_,_,h,v,hv=>by rw[h] at hv;simp at hv;subst hv;rfl
 | .str,_,_,h,v,hv=>by rw[h] at hv;simp at hv;subst hv;rfl
 | .sl _ _,_,_,⟨_,_,h,_⟩,v,hv=>by rw[h] at hv;simp at hv;subst hv;rfl
 | .box none _,_,_,⟨_,_,h,_⟩,v,hv=>by rw[h] at hv;simp at hv;subst hv;rfl
 | .box (some _) _,_,_,⟨_,h,_⟩,v,hv=>by rw[h] at hv;simp at hv;subst hv;rfl
 | .pair a b,x,_,⟨c1,c2,e,h,h'⟩,v,hv=>by
  rw[e] at hv
  rcases mA.1 hv with k | k
  ·exact φ2r a _ _ h v k
  ·exact φ2r b _ _ h' v k
theorem φ2R {ob:Nat→Option Obj} (sf:Bool):∀(t:Ty) (x:t.den) cs,Rd w (if sf then W.J ob else W.I) t x cs→All2 (Vs w W ob) (φY false sf t x) cs
 | .int _,_,_,h=>by rw[h];exact ⟨_,_,rfl,⟨fun _=>rfl,rfl⟩,rfl⟩
 | .bool,_,_,h=>by rw[h];exact ⟨_,_,rfl,⟨fun _=>rfl,rfl⟩,rfl⟩
 | .str,_,_,h=>by rw[h];exact ⟨_,_,rfl,⟨fun _=>rfl,rfl⟩,rfl⟩
 | .sl m t,x,cs,h=>by
  obtain ⟨A,c,e,hc,hr⟩:=h
  subst e
  refine ⟨_,_,rfl,⟨fun _=>rfl,?_⟩,rfl⟩
  show Rd w (if (sf || (false && m)) then W.J ob else W.I) (.sl false t) x _
  rw[Bool.false_and,Bool.or_false]
  exact ⟨A,c,rfl,hc,hr⟩
 | .pair a b,x,cs,⟨c1,c2,e,h,h'⟩=>by rw[e];exact All2.append (φ2R sf a _ _ h) (φ2R sf b _ _ h')
 | .box none t,x,cs,h=>by
  obtain ⟨b,o,e,hr⟩:=h
  subst e
  exact ⟨_,_,rfl,⟨fun _=>rfl,b,o,rfl,hr⟩,rfl⟩
 | .box (some g) t,x,cs,h=>by
  obtain ⟨caps,e,hr⟩:=h
  subst e
  exact ⟨_,_,rfl,⟨fun _=>rfl,caps,rfl,hr⟩,rfl⟩
theorem φ4V {ob:Nat→Option Obj}:∀(t:Ty) (x:t.den) cs fp,(∀b∈fp,W.J ob b)→Ow w W.I t x cs fp→All2 (Vs w W ob) (φY true false t x) cs
 | .int _,_,_,_,_,h=>by rw[h.1];exact ⟨_,_,rfl,⟨fun _=>rfl,rfl⟩,rfl⟩
 | .bool,_,_,_,_,h=>by rw[h.1];exact ⟨_,_,rfl,⟨fun _=>rfl,rfl⟩,rfl⟩
 | .str,_,_,_,_,h=>by rw[h.1];exact ⟨_,_,rfl,⟨fun _=>rfl,rfl⟩,rfl⟩
 | .sl false t,x,cs,fp,_,h=>by
  obtain ⟨A,c,e,hc,hr⟩:=h.1
  subst e
  exact ⟨_,_,rfl,⟨fun _=>rfl,A,c,rfl,hc,hr⟩,rfl⟩
 | .box none t,x,cs,fp,_,h=>by
  obtain ⟨b,o,e,hr⟩:=h.1
  subst e
  exact ⟨_,_,rfl,⟨fun _=>rfl,b,o,rfl,hr⟩,rfl⟩
 | .box (some g) t,x,cs,fp,_,h=>by
  obtain ⟨caps,e,hr⟩:=h.1
  subst e
  exact ⟨_,_,rfl,⟨fun _=>rfl,caps,rfl,hr⟩,rfl⟩
 | .sl true t,x,cs,fp,hf,h=>by
  obtain ⟨A,c,e,hc,hr⟩:=Ow.rd (I':=W.J ob) (fun b hb=>.inl hb) (.sl true t) x cs fp hf h
  subst e
  exact ⟨_,_,rfl,⟨fun _=>rfl,A,c,rfl,hc,hr⟩,rfl⟩
 | .pair a b,x,cs,fp,hf,⟨c1,c2,f1,f2,e,e',h,h'⟩=>by
  subst e'
  rw[e]
  exact All2.append (φ4V a _ _ _ (fun b hb=>hf b (mL _ hb)) h) (φ4V b _ _ _ (fun b hb=>hf b (mR _ hb)) h')
theorem φ1z (c sf:Bool):∀(t:Ty) (x:t.den) id,¬menL (φY c sf t x) id
 | .int _,_,_,⟨s,h,k⟩=>by simp[φY] at h;subst h;exact k
 | .bool,_,_,⟨s,h,k⟩=>by simp[φY] at h;subst h;exact k
 | .str,_,_,⟨s,h,k⟩=>by simp[φY] at h;subst h;exact k
 | .sl m t,_,_,⟨s,h,k⟩=>by simp[φY] at h;subst h;exact k
 | .box _ _,_,_,⟨s,h,k⟩=>by simp[φY] at h;subst h;exact k
 | .pair a b,x,id,⟨s,h,k⟩=>by
  rcases mA.1 h with h | h
  ·exact φ1z c sf a x.1 id ⟨s,h,k⟩
  ·exact φ1z c sf b x.2 id ⟨s,h,k⟩
theorem φ1m {i:Int} {n:Nat} (h:inB i n=true):0≤i∧i.toNat<n:=by
 simp only[inB,bA,decide_eq_true_eq] at h
 omega
theorem φ3G {α:Type} (xs:List α) (z:α) (i:Nat) (h:i<xs.length):xs.getD i z=xs[i]:=by simp[List.getD,h]
theorem Rel.elem (h:Rel B Al s a w W) {id:Nat} {t:Ty} {xs:List t.den} (ho:s.ob id=some (.row t xs)) {i:Int} (hi:inB i xs.length=true) :
  ∃cs fp,At w (W.η id) (i.toNat * t.size) cs∧Ow w W.I t (xs.getD i.toNat t.zero) cs fp∧(∀b∈fp,b∈W.nf id)∧cs.length=t.size:=by
 obtain ⟨_,hi⟩:=φ1m hi
 rcases h.row id t xs ho with ⟨_,e,_⟩ | ⟨_,ces,rest,e,h1,h2,h3,h4⟩
 ·rw[e] at hi;exact absurd hi (Nat.not_lt_zero _)
 obtain ⟨c1,c2,c3,f1,f2,f3,k1,k2,k3,k4,k5⟩:=ChO.at xs ces (W.nf id) i.toNat hi h4
 have hlen:c1.length=i.toNat * t.size:=by
  rw[ChO.len (fun x cs f=>Ow.size t x cs f) _ _ _ k4,lT,Nat.min_eq_left (Nat.le_of_lt hi)]
 refine ⟨c2,f2,⟨_,e,_,c1,c3++rest,h1,?_,hlen⟩,?_,fun b hb=>by rw[k2];simp[hb],Ow.size t _ _ _ k3⟩
 ·rw[k1];simp
 ·rw[φ3G _ _ _ hi];exact k3
theorem φ8N {α:Type} (l:List α) (o n:Nat):l=l.take o++((l.drop o).take n++(l.drop o).drop n):=by
 rw[κJ,κJ]
theorem At.part {b o:Nat} {vs:List Value} (h:At w b o vs) (off n:Nat) (ho:off≤vs.length):At w b (o+off) ((vs.drop off).take n):=by
 have:=h.sub (φ8N vs off n)
 rwa [lT,Nat.min_eq_left ho] at this
theorem φ3w {x:Operand} (h:Rel B Al s a w W) (hd:φA B o.dst) (hop:o.op=.move x∨o.op=.assign x) (he:(φ2 T E o f).exec s rs=some (u,rs')):Done P B Al (s.up u) o a w:=by
 have he:(opd x fun v=>out o.dst v).exec s rs=some (u,rs'):=by rcases hop with hop | hop<;>simpa only [φ2,hop] using he
 obtain ⟨v,rs2,h1,h2,h3⟩:=φQ h he
 rw[φE h1]
 exact φp h hd (by rcases hop with hop | hop<;>simp[execOp,hop]) h2 h3
theorem φ96 {c x y:Operand} (h:Rel B Al s a w W) (hd:φA B o.dst) (hop:o.op=.pick c x y) (he:(φ2 T E o f).exec s rs=some (u,rs')):Done P B Al (s.up u) o a w:=by
 simp only[φ2,hop] at he
 obtain ⟨v,rs2,h1,h2,h3⟩:=φQ h he
 split at h1<;>try (simp[RP.exec] at h1;done)
 rename_i b
 have hc:a.eval c=.bool b:=h2.2
 cases b with
 | true=>
  obtain ⟨v,rs2,h1,h2,h3⟩:=φQ h (show (opd x fun v=>out o.dst v).exec s rs2=_ from h1)
  rw[φE h1]
  exact φp h hd (by simp[execOp,hop,hc,asBool]) h2 h3
 | false=>
  obtain ⟨v,rs2,h1,h2,h3⟩:=φQ h (show (opd y fun v=>out o.dst v).exec s rs2=_ from h1)
  rw[φE h1]
  exact φp h hd (by simp[execOp,hop,hc,asBool]) h2 h3
theorem φ5C {x:Operand} (h:Rel B Al s a w W) (hd:φA B o.dst) (hop:o.op=.nilCheck x) (he:(φ2 T E o f).exec s rs=some (u,rs')):Done P B Al (s.up u) o a w:=by
 simp only[φ2,hop] at he
 obtain ⟨v,rs2,h1,h2,h3⟩:=φQ h he
 have fin:∀b o',a.eval x=pt b o'→Done P B Al (s.up ⟨dl o.dst v,[]⟩) o a w:=fun b o' e=>
  φp h hd (by simp[execOp,hop,e,pt]) (e ▸ h2) h3
 split at h1<;>try (simp[RP.exec] at h1;done)
 ·rw[φE h1];obtain ⟨b,e,_⟩:=h2.2;exact fin _ _ e
 ·rw[φE h1];obtain ⟨b,o',e,_⟩:=h2.2;exact fin _ _ e
 ·rw[φE h1];obtain ⟨_,A,C,e,fr,pre,ces,post,e',_⟩:=h2.2;exact fin _ _ e'
 ·rw[φE h1]
  obtain ⟨b,o',e,_⟩:=h2.2
  simp only[List.cons.injEq,and_true] at e
  exact fin _ _ e
theorem φ6J {t j:Nat} {x:Operand} (hT:φK P T) (h:Rel B Al s a w W) (hd:φA B o.dst) (hop:o.op=.fieldAddr t x j) (he:(φ2 T E o f).exec s rs=some (u,rs')):Done P B Al (s.up u) o a w:=by
 simp only[φ2,hop] at he
 cases ht:lkp T t with
 | none=>rw[ht] at he;simp[RP.exec] at he
 | some td=>
  rw[ht] at he
  simp only at he
  cases hj:td.flds[j]? with
  | none=>rw[hj] at he;simp[RP.exec] at he
  | some p=>
   obtain ⟨off,n,g⟩:=p
   rw[hj] at he
   simp only at he
   obtain ⟨v,rs2,h1,h2,h3⟩:=φQ h he
   have hag:td.agg=true:=by
    cases e:td.agg with
    | true=>rfl
    | false=>have:=((hT t td ht).nagg e).2;rw[this] at hj;simp at hj
   obtain ⟨fs,hf1,hf2,hf3⟩:=(hT t td ht).agg hag
   obtain ⟨fd,k1,k2,k3,k4,k5⟩:=hf3 j off n g hj
   have fin:∀b o' r,a.eval x=pt b o'→AVr w W s.ob r (pt b (o'+off))→(∀id,menA r id→Al id)→Done P B Al (s.up ⟨dl o.dst r,[]⟩) o a w:=fun b o' r e hr hm=>
    φp h hd (by
     have hp:(Instr.fieldAt t (pt b o') j).run P w=.ok (pt b (o'+off)) w:=by
      unfold Instr.fieldAt
      rw[Sem.run_bind,run_underlying hf1,Result.andThen_ok]
      simp only[k1]
      simp[pt,Instr.sureAddr,fieldPlace,φ1x w k3,k4,k2,Addr.add]
     simp only[execOp,hop,e,Sem.run_bind,hp,Result.andThen_ok,Sem.run_pure]) hr hm
   split at h1<;>try (simp[RP.exec] at h1;done)
   ·rw[φE h1];obtain ⟨b,e,k⟩:=h2.2;exact fin _ _ _ e ⟨fun _=>rfl,b,rfl,k⟩ h3
   ·rw[φE h1];obtain ⟨b,o',e,k⟩:=h2.2
    exact fin _ _ _ e ⟨fun _=>rfl,b,_,rfl,fun t xs ho=>⟨(k t xs ho).1,(k t xs ho).2.1,by rw[(k t xs ho).2.2,Nat.add_assoc]⟩⟩ h3
   ·rw[φE h1];obtain ⟨hi,A,C,e,fr,pre,ces,post,e',k⟩:=h2.2
    exact fin _ _ _ e' ⟨fun _=>rfl,hi,A,C,e,fr,pre,ces,post,by simp[Nat.add_assoc],k⟩ h3
end
end Go.Rf
namespace Go.Rf
section
variable {P:Program} {T:Tab} {E:Env} {B:Base} {Al:Nat→Prop} {s:St} {a:Act} {w:World} {W:Wit} {o:Oper} {f:Nat}
 {rs rs':List Key} {u:Upd}
theorem Ty.pos:∀t:Ty,0<t.size
 | .pair a b=>Nat.add_pos_left (Ty.pos a) _
 | .int _ | .bool | .str | .sl _ _ | .box _ _=>Nat.one_pos
theorem TypeOk.one {t:Nat} {td:TD} (h:TypeOk P T t td) (hg:td.agg=false):td.ty.size=1:=by
 have hk:=h.kind
 cases e:td.ty with
 | pair a b=>rw[e] at hk;simp only at hk;rw[hk] at hg;simp at hg
 | _=>rfl
theorem TypeOk.aggD {t:Nat} {td:TD} (h:TypeOk P T t td):(P.underlying t).map aggD=some td.agg:=by
 cases e:td.agg with
 | false=>exact (h.nagg e).1
 | true=>obtain ⟨fs,h1,_⟩:=h.agg e;rw[h1];rfl
theorem φ4M {I:Nat→Prop}:∀(t:Ty),t.owns=false→∀(x:t.den) cs fp,Ow w I t x cs fp→fp=[]
 | .int _,_,_,_,_,h=>h.2
 | .bool,_,_,_,_,h=>h.2
 | .str,_,_,_,_,h=>h.2
 | .sl false _,_,_,_,_,h=>h.2
 | .box _ _,_,_,_,_,h=>h.2
 | .sl true _,hn,_,_,_,_=>by simp[Ty.owns] at hn
 | .pair a b,hn,_,_,_,⟨c1,c2,f1,f2,e,e',h,h'⟩=>by
  simp only[Ty.owns,κ6] at hn
  rw[e',φ4M a hn.1 _ _ _ h,φ4M b hn.2 _ _ _ h'];rfl
theorem φ7S {t:Nat} {x:Operand} (hT:φK P T) (h:Rel B Al s a w W) (hh:nsE E=false→W.ns=false) (hd:φA B o.dst) (hop:o.op=.load t x) (he:(φ2 T E o f).exec s rs=some (u,rs')):Done P B Al (s.up u) o a w:=by
 simp only[φ2,hop] at he
 cases ht:lkp T t with
 | none=>rw[ht] at he;simp[RP.exec] at he
 | some td=>
  rw[ht] at he
  simp only at he
  have hty:=hT t td ht
  obtain ⟨v,rs2,h1,h2,h3⟩:=φQ h he
  have fin:∀(b o':Nat) (l:List Sc) (vs:List Value) (rs3:List Key),a.eval x=pt b o'→At w b o' vs→All2 (Vs w W s.ob) l vs→(∀id,menL l id→Al id) →
    (mkAV td.agg td.ty.size l fun v=>out o.dst v).exec s rs3=some (u,rs')→Done P B Al (s.up u) o a w:=by
   intro b o' l vs rs3 e hat hl hm hx
   obtain ⟨r,k1,k2,k3,k4,k5⟩:=φ70 hl hm hx
   rw[φE k1]
   refine φp h hd ?_ k2 k3
   have:=φ4k (P:=P) w hty.tag.1 hty.aggD k4 k5 hat
   simp only[execOp,hop,e,Instr.loadAt,pt,Instr.sureAddr,Sem.run_bind,Sem.run_pure,Result.andThen_ok,this]
  split at h1<;>try (simp[RP.exec] at h1;done)
  ·rename_i id off
   obtain ⟨b,e,k⟩:=h2.2
   simp only[RP.exec] at h1
   cases ho:s.ob id with
   | none=>rw[ho] at h1;simp[RP.exec] at h1
   | some ob=>
    rw[ho] at h1
    cases ob with
    | row=>simp[RP.exec] at h1
    | var l=>
     obtain ⟨_,_,vs,el,hh,hl⟩:=h.var id l ho
     rw[k l ho] at e
     simp only at h1
     have hn:((l.drop off).take td.ty.size).length=td.ty.size:=(φ9 _ _).1 (φB h1).1
     have hpos:=td.ty.pos
     refine fin _ _ _ ((vs.drop off).take td.ty.size) _ e ?_ ((hl.drop off).take _) (fun j hj=>h.mO id l ho j (φ3t (φ2w hj))) h1
     have hat:At w (W.η id) 0 vs:=⟨_,el,_,[],[],hh,by simp,rfl⟩
     have:=hat.part off td.ty.size (by rw[hl.length];simp only[lT,lD] at hn;omega)
     rwa [Nat.zero_add] at this
  ·rename_i id i off
   obtain ⟨b,o',e,k⟩:=h2.2
   simp only[RP.exec] at h1
   cases ho:s.ob id with
   | none=>rw[ho] at h1;simp[RP.exec] at h1
   | some ob=>
    rw[ho] at h1
    cases ob with
    | var=>simp[RP.exec] at h1
    | row t' xs=>
     obtain ⟨k1,rfl,rfl⟩:=k t' xs ho
     simp only at h1
     obtain ⟨cs,fp,hat,how,hfp,hcs⟩:=h.elem ho k1
     obtain ⟨hno,h1⟩:=φo h1
     have hl:=φ4V (ob:=s.ob) t' _ cs fp (fun b hb=>by
      cases hq:nsE E with
      | false=>exact .inr (.inr ⟨hh hq,id,by rw[ho];rfl,hfp b hb⟩)
      | true=>
       rw[hq] at hno
       rw[φ4M t' (by simpa using hno) _ _ _ how] at hb
       simp at hb) how
     have hn:(((φY true false t' (xs.getD i.toNat t'.zero)).drop off).take td.ty.size).length=td.ty.size:=(φ9 _ _).1 (φB h1).1
     have hpos:=td.ty.pos
     exact fin _ _ _ _ _ e (hat.part off td.ty.size (by rw[hl.length];simp only[lT,lD] at hn;omega)) ((hl.drop off).take _)
      (fun j hj=>(φ1z _ _ _ _ _ (φ3t (φ2w hj))).elim) h1
  ·rename_i sf t' xs i off
   obtain ⟨k1,A,C,el,fr,pre,ces,post,e,hJ,hh,hC,hpre,hch⟩:=h2.2
   obtain ⟨_,hi⟩:=φ1m k1
   obtain ⟨c1,c2,c3,q1,q3,q4,q5⟩:=Ch.at xs ces i.toNat hi hch
   have hlen:c1.length=i.toNat * t'.size:=by
    rw[Ch.len (fun x cs=>Rd.size t' x cs) _ _ q4,lT,Nat.min_eq_left (Nat.le_of_lt hi)]
   have hl:=φ2R (ob:=s.ob) sf t' _ c2 q3
   rw[←φ3G xs t'.zero i.toNat hi] at hl
   have hat:At w A.block (A.off+i.toNat * t'.size) c2:=⟨C,el,fr,pre++c1,c3++post,hh,by rw[hC,q1];simp,by simp[hlen,hpre]⟩
   have hn:(((φY false sf t' (xs.getD i.toNat t'.zero)).drop off).take td.ty.size).length=td.ty.size:=(φ9 _ _).1 (φB h1).1
   have hpos:=td.ty.pos
   exact fin _ _ _ _ _ (by rw[e,Nat.add_assoc]) (hat.part off td.ty.size (by rw[hl.length];simp only[lT,lD] at hn;omega)) ((hl.drop off).take _)
      (fun j hj=>(φ1z _ _ _ _ _ (φ3t (φ2w hj))).elim) h1
  ·rename_i sf t' x'
   have h2':Rd w (if sf then W.J s.ob else W.I) (.box none t') x' [a.eval x]:=h2.2
   obtain ⟨b,o',e,hr⟩:=h2'
   simp only[List.cons.injEq,and_true] at e
   rcases hr with hr | ⟨A,C,el,fr,pre,ces,post,h1',h2',h3',h4',h5',h6',h7'⟩
   ·simp at hr
   ·simp only[Option.some.injEq] at h1'
    subst h1'
    obtain ⟨c1,c2,q1,q2,q3⟩:=h7'
    have q3:c2=[]:=q3
    subst q3
    rw[κ5] at q1
    subst q1
    have hl:=φ2R (ob:=s.ob) sf t' x' ces q2
    have hat:At w b o' ces:=⟨C,el,fr,pre,post,h4',h5',h6'⟩
    have hn:((φY false sf t' x').take td.ty.size).length=td.ty.size:=(φ9 _ _).1 (φB h1).1
    have hpos:=td.ty.pos
    have:=hat.part 0 td.ty.size (by rw[hl.length];simp only[lT] at hn;omega)
    rw[Nat.add_zero,List.drop_zero] at this
    exact fin _ _ _ _ _ e this (hl.take _) (fun j hj=>(φ1z _ _ _ _ _ (φ2w hj)).elim) h1
theorem φ1M {k k':IntKind} (h:kEq k k'=true):k=k':=by cases k<;>cases k'<;>first | rfl | (exact absurd h (by decide))
theorem Vs.mk {c:Sc} {v:Value} (h1:v.oneCell'=true) (h2:VsC w W s.ob c v):AVr w W s.ob (.one c) v:=⟨fun _=>h1,h2⟩
def φ3S:Sc→Option Value
 | .int k n=>some (.int k n)
 | .bool b=>some (.bool b)
 | .str s=>some (.string ⟨s.toArray⟩)
 | _=>none
theorem φ12 (h:Rel B Al s a w W) (hd:φA B o.dst) {c:Sc} {v:Value} (hc:φ3S c=some v) (hr:(execOp a.eval o).run P w=.ok (.value v) w) :
  Done P B Al (s.up ⟨dl o.dst (.one c),[]⟩) o a w:=by
 refine φp h hd hr ?_ ?_
 ·cases c<;>simp only[φ3S,Option.some.injEq,reduceCtorEq] at hc<;>subst hc<;>exact ⟨fun _=>rfl,rfl⟩
 ·intro id hid;cases c<;>simp only[φ3S,reduceCtorEq] at hc<;>exact hid.elim
theorem φ8E (x:List UInt8):(⟨x.toArray⟩:ByteArray).toList=x:=by rw[ByteArray.toList_eq]
theorem φ7r (x y:List UInt8):(⟨x.toArray⟩++⟨y.toArray⟩:ByteArray)=⟨(x++y).toArray⟩:=by
 apply ByteArray.ext
 rw[ByteArray.data_append]
 simp
theorem φ9x:∀(l m:List Sc) (b:Bool) (vs us:List Value),φI l m=some b→All2 (Vs w W s.ob) l vs→All2 (Vs w W s.ob) m us→All2 φ11 l vs∧All2 φ11 m us:=by
 have one:∀(a c:Sc) (b:Bool) (v u:Value),φI.eqSc a c=some b→Vs w W s.ob a v→Vs w W s.ob c u→φ11 a v∧φ11 c u:=by
  intro a c b v u h h1 h2
  cases a<;>cases c<;>first | (simp[φI.eqSc] at h;done) | exact ⟨h1.2,h2.2⟩
 intro l
 induction l with
 | nil=>
  intro m b vs us h h1 h2
  cases m with
  | nil=>exact ⟨h1,h2⟩
  | cons=>simp[φI] at h
 | cons a r ih=>
  intro m b vs us h ⟨v,vs',e1,p1,h1⟩ h2
  cases m with
  | nil=>cases r<;>simp[φI] at h
  | cons c r'=>
   obtain ⟨u,us',e2,p2,h2⟩:=h2
   have key:∃b1,φI.eqSc a c=some b1∧∃b2,φI r r'=some b2:=by
    cases r with
    | nil=>
     cases r' with
     | nil=>exact ⟨b,by simpa [φI] using h,true,rfl⟩
     | cons=>simp only[φI] at h;split at h<;>simp_all
    | cons x y=>
     simp only[φI] at h
     split at h
     ·rename_i h1 h2;exact ⟨_,h1,_,h2⟩
     ·simp at h
   obtain ⟨b1,hb1,b2,hb2⟩:=key
   obtain ⟨k1,k2⟩:=one a c b1 v u hb1 p1 p2
   obtain ⟨k3,k4⟩:=ih r' b2 vs' us' hb2 h1 h2
   exact ⟨⟨v,vs',e1,k1,k3⟩,⟨u,us',e2,k2,k4⟩⟩
theorem φ5U {op:BinOp} {t t':Nat} {x y:Operand} (hT:φK P T) (h:Rel B Al s a w W) (hd:φA B o.dst) (hop:o.op=.binOp op t x y t') (he:(φ2 T E o f).exec s rs=some (u,rs')):Done P B Al (s.up u) o a w:=by
 simp only[φ2,hop] at he
 obtain ⟨v1,rs1,h1,k1,-⟩:=φQ h he
 obtain ⟨v2,rs2,h2,k2,-⟩:=φQ h h1
 have run:∀(c:Sc) (v:Value),φ3S c=some v→(eqGuard op t x y (a.eval x) (a.eval y)).run P w=.ok () w→(binOp op t (a.eval x) (a.eval y)).run P w=.ok v w →
   Done P B Al (s.up ⟨dl o.dst (.one c),[]⟩) o a w:=fun c v hc hg hb=>
  φ12 h hd hc (by simp only[execOp,hop,Sem.run_bind,hg,hb,Result.andThen_ok,Sem.run_pure])
 unfold φ5i at h2
 split at h2
 ·rename_i k n k' m
  have e1:a.eval x=.int k n:=k1.2
  have e2:a.eval y=.int k' m:=k2.2
  replace h2:=φB h2
  obtain ⟨hk,h5⟩:=h2
  clear h1 he
  have hg:(eqGuard op t x y (a.eval x) (a.eval y)).run P w=.ok () w:=by rw[e1,e2];cases op<;>simp[eqGuard]
  cases op
  case shl=>
   obtain ⟨c,h5⟩:=φh h5
   rw[φE h5]
   have c:=of_decide_eq_true c
   refine run _ _ rfl hg ?_
   rw[e1,e2]
   simp[binOp,Op.shift,show ¬m<0 by omega]
  case shr=>
   obtain ⟨c,h5⟩:=φh h5
   rw[φE h5]
   have c:=of_decide_eq_true c
   refine run _ _ rfl hg ?_
   rw[e1,e2]
   simp[binOp,Op.shift,show ¬m<0 by omega]
  all_goals
   simp only[φ5T,Bool.false_or] at hk
   have hk:=φ1M hk
   subst hk
  case quo=>
   obtain ⟨c,h5⟩:=φh h5
   rw[φE h5]
   refine run _ _ rfl hg ?_
   rw[e1,e2]
   simp[binOp,Op.intDiv,show ¬m=0 by simpa using c]
  case rem=>
   obtain ⟨c,h5⟩:=φh h5
   rw[φE h5]
   refine run _ _ rfl hg ?_
   rw[e1,e2]
   simp[binOp,Op.intDiv,show ¬m=0 by simpa using c]
  all_goals
   rw[φE h5]
   refine run _ _ rfl hg ?_
   rw[e1,e2]
   simp[binOp,Op.intArith,Op.intCmp,Op.intBits,bits]
 ·rename_i n m
  have e1:a.eval x=.string ⟨n.toArray⟩:=k1.2
  have e2:a.eval y=.string ⟨m.toArray⟩:=k2.2
  have hg:(eqGuard op t x y (a.eval x) (a.eval y)).run P w=.ok () w:=by rw[e1,e2];cases op<;>simp[eqGuard]
  cases op<;>try (simp[φ6r,RP.exec] at h2;done)
  case add=>
   obtain ⟨c,h2⟩:=φh h2
   rw[φE h2]
   have c:=of_decide_eq_true c
   refine run _ _ rfl hg ?_
   rw[e1,e2]
   have:¬(((⟨n.toArray⟩:ByteArray).size+(⟨m.toArray⟩:ByteArray).size:Nat):Int) > IntKind.i64.max:=by
    simp only[ByteArray.size,List.size_toArray]
    have:IntKind.i64.max=9223372036854775807:=by decide
    omega
   simp only[binOp,Op.stringOp,if_neg this,Sem.run_pure,φ7r]
  all_goals
   rw[φE h2]
   refine run _ _ rfl hg ?_
   rw[e1,e2]
   simp only[binOp,Op.stringOp,Sem.run_pure,φ8E]
 ·rename_i n m
  have e1:a.eval x=.bool n:=k1.2
  have e2:a.eval y=.bool m:=k2.2
  have hg:(eqGuard op t x y (a.eval x) (a.eval y)).run P w=.ok () w:=by rw[e1,e2];cases op<;>simp[eqGuard]
  cases ht:lkp T t with
  | none=>rw[ht] at h2;simp[RP.exec] at h2
  | some td=>
   rw[ht] at h2
   simp only at h2
   have hk:=(hT t td ht).kind
   cases hty:td.ty<;>rw[hty] at h2 hk<;>try (simp[RP.exec] at h2;done)
   have hk:P.underlying t=some .bool:=hk
   cases op<;>try (simp[RP.exec] at h2;done)
   all_goals
    rw[φE h2]
    refine run _ _ rfl hg ?_
    rw[e1,e2]
    simp[binOp,Op.equal,Op.maxDepth,run_equalIn_bool' w 9999 t n m hk]
 ·rename_i l m
  obtain ⟨vs,e1,p1⟩:=k1
  obtain ⟨us,e2,p2⟩:=k2
  cases ht:lkp T t with
  | none=>rw[ht] at h2;simp[RP.exec] at h2
  | some td=>
   rw[ht] at h2
   simp only at h2
   obtain ⟨heq,h2⟩:=φB h2
   simp only[bA] at heq
   cases hc:φI l m with
   | none=>rw[hc] at h2;simp[RP.exec] at h2
   | some b=>
    rw[hc] at h2
    simp only at h2
    obtain ⟨q1,q2⟩:=(hT t td ht).eq heq.1
    obtain ⟨f1,f2⟩:=φ9x l m b vs us hc p1 p2
    have hq:=q2 w vs.toArray us.toArray l m b heq.2 hc f1 f2
    have hg:(eqGuard op t x y (a.eval x) (a.eval y)).run P w=.ok () w:=by rw[e1,e2];exact run_eqGuard_agg w op t x y _ _ q1
    cases op<;>try (simp[RP.exec] at h2;done)
    ·rw[φE h2]
     refine run _ _ rfl hg ?_
     rw[e1,e2,run_eql_struct,hq]
     rfl
    ·rw[φE h2]
     refine run _ _ rfl hg ?_
     rw[e1,e2,run_neq_struct,hq]
     rfl
 ·rename_i b
  obtain ⟨hlit,h2⟩:=φB h2
  have e1:(if b=true then ∃tt vv,a.eval x=.iface tt vv else a.eval x=.nilIface):=k1.2
  have e2:a.eval y=.nilIface:=k2.2
  cases ht:lkp T t with
  | none=>rw[ht] at h2;simp[RP.exec] at h2
  | some td=>
   rw[ht] at h2
   simp only at h2
   have hk:=(hT t td ht).kind
   cases hty:td.ty<;>rw[hty] at h2 hk<;>try (simp[RP.exec] at h2;done)
   obtain ⟨ms,hk⟩:=hk
   have q1:∀d:Nat,(Op.equalIn (d+1) t .nilIface .nilIface).run P w=.ok true w:=fun d=>by simp[Op.equalIn,run_underlying hk]
   have q2:∀(d:Nat) tt vv,(Op.equalIn (d+1) t (.iface tt vv) .nilIface).run P w=.ok false w:=fun d tt vv=>by simp[Op.equalIn,run_underlying hk]
   obtain ⟨c,hy⟩:∃c,y=.const c:=by
    cases y with
    | const c=>exact ⟨c,rfl⟩
    | _=>simp[litO] at hlit
   cases b with
   | true=>
    obtain ⟨tt,vv,e1⟩:=e1
    have hg:(eqGuard op t x y (a.eval x) (a.eval y)).run P w=.ok () w:=by rw[e1,e2];cases op<;>simp[eqGuard]
    cases op<;>try (simp[RP.exec] at h2;done)
    all_goals
     rw[φE h2]
     refine run _ _ rfl hg ?_
     rw[e1,e2]
     simp[binOp,Op.equal,Op.maxDepth,q2 9999]
   | false=>
    have e1:a.eval x=.nilIface:=e1
    have hg:(eqGuard op t x y (a.eval x) (a.eval y)).run P w=.ok () w:=by rw[e1,e2,hy];cases op<;>simp[eqGuard]
    cases op<;>try (simp[RP.exec] at h2;done)
    all_goals
     rw[φE h2]
     refine run _ _ rfl hg ?_
     rw[e1,e2]
     simp[binOp,Op.equal,Op.maxDepth,q1 9999]
 ·simp[RP.exec] at h2
end
end Go.Rf
namespace Go.Rf
section
variable {P:Program} {T:Tab} {E:Env} {B:Base} {Al:Nat→Prop} {s:St} {a:Act} {w:World} {W:Wit} {o:Oper} {f:Nat}
 {rs rs':List Key} {u:Upd}
theorem Ch.cast {α β:Type} (e:α=β) {R:α→List Value→Prop} {R':β→List Value→Prop} (h:∀x cs,R x cs→R' (cast e x) cs) (xs:List α) (cs:List Value) (k:Ch R xs cs) :
  Ch R' (cast (congrArg List e) xs) cs:=by subst e;exact Ch.mono h xs cs k
theorem φ71 {α β:Type} (e:α=β) (xs:List α):(cast (congrArg List e) xs).length=xs.length:=by subst e;rfl
theorem φ4X {α β:Type} (e:α=β) (xs:List α) (h:xs=[]):cast (congrArg List e) xs=[]:=by subst e;exact h
theorem φ5O {A B C D:Type} (e:A=C) (e':B=D) (x:A×B):(cast (φ41 e e') x).1=cast e x.1:=by subst e;subst e';rfl
theorem φ65 {A B C D:Type} (e:A=C) (e':B=D) (x:A×B):(cast (φ41 e e') x).2=cast e' x.2:=by subst e;subst e';rfl
theorem φ1n.cast {α β:Type} (e:α=β) {I:Nat→Prop} {R:α→List Value→Prop} {R':β→List Value→Prop} (h:∀x cs,R x cs→R' (cast e x) cs) {xs:List α} {A:Option Addr} (k:φ1n w I R xs A) :
  φ1n w I R' (cast (congrArg List e) xs) A:=by
 rcases k with k | ⟨a,C,el,fr,pre,ces,post,h1,h2,h3,h4,h5,h6,h7⟩
 ·exact .inl (φ4X e xs k)
 ·exact .inr ⟨a,C,el,fr,pre,ces,post,h1,h2,h3,h4,h5,h6,Ch.cast e h _ _ h7⟩
theorem φ3C:∀(a b:Ty) p,Ty.same a b=some p→a.size=b.size
 | .int _,.int _,_,_=>rfl
 | .bool,.bool,_,_=>rfl
 | .str,.str,_,_=>rfl
 | .sl _ _,.sl _ _,_,_=>rfl
 | .box _ _,.box _ _,_,_=>rfl
 | .pair a b,.pair c d,p,h=>by
  simp only[Ty.same] at h
  split at h
  ·rename_i h1 h2
   show a.size+b.size=c.size+d.size
   rw[φ3C a c _ h1,φ3C b d _ h2]
  ·simp at h
theorem Rd.same {I:Nat→Prop}:∀(a b:Ty) (h:a.den=b.den),Ty.same a b=some ⟨h⟩→∀x cs,Rd w I a x cs→Rd w I b (cast h x) cs
 | .int k,.int k',h,hs,x,cs,r=>by
  simp only[Ty.same] at hs
  cases hk:kEq k k' with
  | false=>rw[hk] at hs;simp at hs
  | true=>have:=φ1M hk;subst this;exact r
 | .bool,.bool,_,_,_,_,r=>r
 | .str,.str,_,_,_,_,r=>r
 | .sl m a,.sl m' b,h,hs,xs,cs,r=>by
  simp only[Ty.same] at hs
  split at hs
  ·rename_i h0 h1
   obtain ⟨A,c,e,hc,hr⟩:=r
   have hl:(cast h xs:List b.den).length=List.length (α:=a.den) xs:=φ71 h0 xs
   exact ⟨A,c,by rw[e];exact congrArg (fun n=>[Value.slice A n c]) hl.symm,Nat.le_trans (Nat.le_of_eq hl) hc,φ1n.cast h0 (Rd.same a b h0 h1) hr⟩
  ·simp at hs
 | .box none a,.box none b,h,hs,x,cs,r=>by
  simp only[Ty.same,gEq,cT] at hs
  split at hs
  ·rename_i h0 h1
   obtain ⟨bl,o,e,hr⟩:=r
   refine ⟨bl,o,e,?_⟩
   have:=φ1n.cast h0 (Rd.same a b h0 h1) hr
   have hc:cast (congrArg List h0) [x]=[cast h x]:=by
    have:∀{α β:Type} (e:α=β) (x:α),cast (congrArg List e) [x]=[cast e x]:=by intro α β e x;subst e;rfl
    exact this h0 x
   rw[hc] at this
   exact this
  ·simp at hs
 | .box (some g) a,.box (some g') b,h,hs,x,cs,r=>by
  simp only[Ty.same,gEq] at hs
  cases hg:Nat.beq g g' with
  | false=>rw[hg] at hs;simp at hs
  | true=>
   rw[hg] at hs
   simp only[cT] at hs
   have:=κ1 hg
   subst this
   split at hs
   ·rename_i h0 h1
    obtain ⟨caps,e,hr⟩:=r
    exact ⟨caps,e,Rd.same a b h0 h1 x caps hr⟩
   ·simp at hs
 | .box none _,.box (some _) _,_,hs,_,_,_=>by simp[Ty.same,gEq] at hs
 | .box (some _) _,.box none _,_,hs,_,_,_=>by simp[Ty.same,gEq] at hs
 | .pair a b,.pair c d,h,hs,x,cs,r=>by
  simp only[Ty.same] at hs
  split at hs
  ·rename_i h1 h3 h2 h4
   obtain ⟨c1,c2,e,r1,r2⟩:=r
   refine ⟨c1,c2,e,?_,?_⟩
   ·have:(cast h x).1=cast h1 x.1:=φ5O h1 h3 x
    rw[this];exact Rd.same a c h1 h2 _ _ r1
   ·have:(cast h x).2=cast h3 x.2:=φ65 h1 h3 x
    rw[this];exact Rd.same b d h3 h4 _ _ r2
  ·simp at hs
theorem Ch.drop {α:Type} {R:α→List Value→Prop}:∀(n:Nat) (xs:List α) cs,Ch R xs cs→∃c1 c2,cs=c1++c2∧Ch R (xs.take n) c1∧Ch R (xs.drop n) c2
 | 0,_,cs,h=>⟨[],cs,rfl,rfl,h⟩
 | n+1,[],cs,h=>⟨[],[],h,rfl,rfl⟩
 | n+1,x::xs,cs,⟨c1,c2,e,r,h⟩=>by
  obtain ⟨d1,d2,e2,k1,k2⟩:=Ch.drop n xs c2 h
  exact ⟨c1++d1,d2,by rw[e,e2,aA],⟨c1,d1,rfl,r,k1⟩,k2⟩
def φ16 (W:Wit) (ob:Nat→Option Obj) (ids:List Nat) (sf:Bool) (b:Nat):Prop:=W.I b∨(sf=true∧W.J ob b)∨∃id∈ids,(ob id).isSome=true∧b∈fpOf W id
theorem Rel.rowOw (h:Rel B Al s a w W) {id:Nat} {t:Ty} {xs:List t.den} (ho:s.ob id=some (.row t xs)):Ow w W.I (.sl true t) xs [slv W id xs.length] (fpOf W id):=by
 rcases h.row id t xs ho with ⟨e1,e2,e3⟩ | ⟨e1,hr⟩
 ·exact .inl ⟨e2,by simp[slv,e1],by simp[fpOf,e1]⟩
 ·exact .inr ⟨W.η id,W.cp id,W.nf id,by simp[slv,e1],by simp[fpOf,e1],hr⟩
theorem Rel.rowRd (h:Rel B Al s a w W) {id:Nat} {t:Ty} {xs:List t.den} (ho:s.ob id=some (.row t xs)) (m:Bool) :
  Rd w (φ16 W s.ob [id] false) (.sl m t) xs [slv W id xs.length]:=
 Ow.rd (I':=φ16 W s.ob [id] false) (fun b hb=>.inl hb) (.sl true t) xs _ (fpOf W id) (fun b hb=>.inr (.inr ⟨id,by simp,by rw[ho];rfl,hb⟩)) (h.rowOw ho)
theorem φ3U {i n c:Nat} {A:Option Addr} {m:Nat} (h:slv W i n=.slice A m c):(A=none∧W.nl i=true∧m=0)∨(A=some ⟨W.η i,0,none⟩∧W.nl i=false∧m=n∧c=W.cp i):=by
 unfold slv at h
 cases e:W.nl i<;>rw[e] at h<;>simp at h
 ·obtain ⟨rfl,rfl,rfl⟩:=h;exact .inr ⟨rfl,rfl,rfl,rfl⟩
 ·obtain ⟨rfl,rfl,rfl⟩:=h;exact .inl ⟨rfl,rfl,rfl⟩
theorem φA6 {α:Type} (lo hi:Option Nat) (xs:List α):(cut lo hi xs).length≤xs.length:=by
 unfold cut;split<;>simp<;>omega
theorem φ21 {α:Type} (lo hi:Option Nat) (xs:List α):cut lo hi xs=(xs.take (hi.getD xs.length)).drop (lo.getD 0):=by
 unfold cut;split<;>simp
theorem φ5q {α:Type} {R:α→List Value→Prop} {n:Nat} (hn:∀x cs,R x cs→cs.length=n) (lo hi:Option Nat) (xs:List α) (cs:List Value) (h:Ch R xs cs) (hne:cut lo hi xs≠[]) :
  ∃c1 c2 c3,cs=c1++(c2++c3)∧Ch R (cut lo hi xs) c2∧c1.length=(lo.getD 0) * n:=by
 rw[φ21] at hne ⊢
 obtain ⟨c1,c2,e,k1,_⟩:=Ch.drop (hi.getD xs.length) xs cs h
 obtain ⟨d1,d2,e',k3,k4⟩:=Ch.drop (lo.getD 0) _ c1 k1
 refine ⟨d1,d2,c2,by rw[e,e',aA],k4,?_⟩
 rw[Ch.len hn _ _ k3,lT]
 have:lo.getD 0<(xs.take (hi.getD xs.length)).length:=by
  rcases κ4 (lo.getD 0) (xs.take (hi.getD xs.length)).length with h | h
  ·exact h
  ·exact absurd (List.drop_eq_nil_of_le h) hne
 rw[Nat.min_eq_left (Nat.le_of_lt this)]
theorem Rel.viewRd (h:Rel B Al s a w W) {id:Nat} {t:Ty} {xs:List t.den} (ho:s.ob id=some (.row t xs)) {lo hi:Option Nat} {v:Value} (hv:VsC w W s.ob (.vw id lo hi) v) (m:Bool) :
  Rd w (φ16 W s.ob [id] false) (.sl m t) (cut lo hi xs) [v]:=by
 obtain ⟨A,c,e,hc,hA⟩:=hv t xs ho
 subst e
 refine ⟨A,c,rfl,hc,?_⟩
 by_cases hne:cut lo hi xs=[]
 ·exact .inl hne
 ·obtain ⟨A',c',e',_,hr⟩:=h.rowRd ho m
  simp only[List.cons.injEq,and_true] at e'
  have hxs:xs≠[]:=fun e=>hne (by rw[e,φ21];simp)
  rcases hr with hr | ⟨a',C,el,fr,pre,ces,post,q1,q2,q3,q4,q5,q6,q7⟩
  ·exact absurd hr hxs
  ·rcases φ3U e' with ⟨e1,_⟩ | ⟨e1,_⟩
   ·rw[e1] at q1;simp at q1
   rw[e1] at q1
   simp only[Option.some.injEq] at q1
   subst q1
   obtain ⟨c1,c2,c3,r1,r2,r3⟩:=φ5q (fun x cs=>Rd.size t x cs) lo hi xs ces q7 hne
   rcases hA with hA | hA
   ·exact absurd (List.eq_nil_of_length_eq_zero hA) hne
   ·exact .inr ⟨_,C,el,fr,pre++c1,c2,c3++post,hA,rfl,q3,q4,by rw[q5,r1];simp,by simp[r3] at q6 ⊢;exact q6,r2⟩
theorem φ16.mono {ids ids':List Nat} {p p':Bool} (h1:∀i∈ids,i∈ids') (h2:p=true→p'=true) {b:Nat} (h:φ16 W s.ob ids p b):φ16 W s.ob ids' p' b:=by
 rcases h with h | ⟨h,k⟩ | ⟨id,h,k⟩
 ·exact .inl h
 ·exact .inr (.inl ⟨h2 h,k⟩)
 ·exact .inr (.inr ⟨id,h1 id h,k⟩)
theorem φ33 (h:Rel B Al s a w W) {α:Type} {r:α×List Key}:∀(t:Ty) (l:List Sc) (vs:List Value) (K:t.den→List Sc→List Nat→Bool→RP α) (rs:List Key),All2 (Vs w W s.ob) l vs→(see t l K).exec s rs=some r →
  ∃x l2 ids sf rs2 cs vs2,vs=cs++vs2∧(K x l2 ids sf).exec s rs2=some r∧All2 (Vs w W s.ob) l2 vs2∧Rd w (φ16 W s.ob ids sf) t x cs∧(∀c∈l2,c∈l)∧(∀i∈ids,(s.ob i).isSome=true)
 | .int k,c::l,vs,K,rs,hl,he=>by
  obtain ⟨v,vs2,e,p,hl⟩:=hl
  simp only[see] at he
  split at he
  ·rename_i k' n
   obtain ⟨hk,he5⟩:=φB he
   clear he
   have hk:=φ1M hk
   subst hk
   have p:v=_:=p.2
   subst p
   exact ⟨_,_,_,_,_,[_],vs2,e,he5,hl,rfl,fun c hc=>mC _ hc,by simp⟩
  ·simp[RP.exec] at he
 | .bool,c::l,vs,K,rs,hl,he=>by
  obtain ⟨v,vs2,e,p,hl⟩:=hl
  simp only[see] at he
  split at he
  ·have p:v=_:=p.2
   subst p
   exact ⟨_,_,_,_,_,[_],vs2,e,he,hl,rfl,fun c hc=>mC _ hc,by simp⟩
  ·simp[RP.exec] at he
 | .str,c::l,vs,K,rs,hl,he=>by
  obtain ⟨v,vs2,e,p,hl⟩:=hl
  simp only[see] at he
  split at he
  ·have p:v=_:=p.2
   subst p
   exact ⟨_,_,_,_,_,[_],vs2,e,he,hl,rfl,fun c hc=>mC _ hc,by simp⟩
  ·simp[RP.exec] at he
 | .sl m t,c::l,vs,K,rs,hl,he=>by
  obtain ⟨v,vs2,e,p,hl⟩:=hl
  simp only[see] at he
  split at he
  ·have p:v=_:=p.2
   subst p
   exact ⟨_,_,_,_,_,[_],vs2,e,he,hl,⟨none,0,rfl,κD _,.inl rfl⟩,fun c hc=>mC _ hc,by simp⟩
  ·rename_i id
   simp only[RP.exec] at he
   split at he
   ·rename_i t' xs ho
    split at he
    ·rename_i hq hsm
     have p:v=_:=p.2 t' xs ho
     subst p
     exact ⟨_,_,_,_,_,[_],vs2,e,he,hl,Rd.same (.sl m t') (.sl m t) (congrArg List hq) (by simp only[Ty.same,hsm]) _ _ (h.rowRd ho m),fun c hc=>mC _ hc,by simp[ho]⟩
    ·simp[RP.exec] at he
   ·simp[RP.exec] at he
  ·rename_i id lo hi
   simp only[RP.exec] at he
   split at he
   ·rename_i t' xs ho
    split at he
    ·rename_i hq hsm
     exact ⟨_,_,_,_,_,[_],vs2,e,he,hl,Rd.same (.sl m t') (.sl m t) (congrArg List hq) (by simp only[Ty.same,hsm]) _ _ (h.viewRd ho p.2 m),fun c hc=>mC _ hc,by simp[ho]⟩
    ·simp[RP.exec] at he
   ·simp[RP.exec] at he
  ·rename_i sf t' xs
   split at he
   ·rename_i hq hsm
    have hp:Rd w (φ16 W s.ob [] sf) (.sl m t') xs [v]:=by
     have q:Rd w (if sf then W.J s.ob else W.I) (.sl false t') xs [v]:=p.2
     refine Rd.mono (I:=if sf then W.J s.ob else W.I) (w:=w) (fun b hb=>?_) (fun _ _=>rfl) (.sl m t') xs _ q
     cases sf
     ·exact .inl hb
     ·exact .inr (.inl ⟨rfl,hb⟩)
    exact ⟨_,_,_,_,_,[_],vs2,e,he,hl,Rd.same (.sl m t') (.sl m t) (congrArg List hq) (by simp only[Ty.same,hsm]) _ _ hp,fun c hc=>mC _ hc,by simp⟩
   ·simp[RP.exec] at he
  ·simp[RP.exec] at he
 | .box g t,c::l,vs,K,rs,hl,he=>by
  obtain ⟨v,vs2,e,p,hl⟩:=hl
  simp only[see] at he
  split at he
  ·rename_i sf g' t' x
   obtain ⟨hg,he⟩:=φo he
   have hg:gEq g' g=true:=by simpa using hg
   split at he
   ·rename_i hq hsm
    have hp:Rd w (φ16 W s.ob [] sf) (.box g' t') x [v]:=by
     have q:Rd w (if sf then W.J s.ob else W.I) (.box g' t') x [v]:=p.2
     refine Rd.mono (I:=if sf then W.J s.ob else W.I) (w:=w) (fun b hb=>?_) (fun _ _=>rfl) (.box g' t') x _ q
     cases sf
     ·exact .inl hb
     ·exact .inr (.inl ⟨rfl,hb⟩)
    exact ⟨_,_,_,_,_,[_],vs2,e,he,hl,Rd.same (.box g' t') (.box g t) hq (by simp only[Ty.same,hg,hsm,cT]) _ _ hp,fun c hc=>mC _ hc,by simp⟩
   ·simp[RP.exec] at he
  ·simp[RP.exec] at he
 | .pair t1 t2,l,vs,K,rs,hl,he=>by
  have he:(see t1 l fun x r i p=>see t2 r fun y r' j q=>K (x,y) r' (i++j) (p || q)).exec s rs=some r:=by cases l<;>exact he
  obtain ⟨x,l2,i,p,rs2,cs,vs2,e1,k1,k2,k3,k4,k5⟩:=φ33 h t1 l vs _ rs hl he
  obtain ⟨y,l3,j,q,rs3,ds,vs3,e2,q1,q2,q3,q4,q5⟩:=φ33 h t2 l2 vs2 _ rs2 k2 k1
  refine ⟨(x,y),l3,i++j,p || q,rs3,cs++ds,vs3,by rw[e1,e2,aA],q1,q2,⟨cs,ds,rfl,?_,?_⟩,fun c hc=>k4 c (q4 c hc),?_⟩
  ·exact Rd.mono (fun b hb=>φ16.mono (fun i hi=>mL _ hi) (fun h=>by simp[h]) hb) (fun _ _=>rfl) t1 x cs k3
  ·exact Rd.mono (fun b hb=>φ16.mono (fun i hi=>mR _ hi) (fun h=>by simp[h]) hb) (fun _ _=>rfl) t2 y ds q3
  ·intro k hk
   rcases mA.1 hk with hk | hk
   ·exact k5 k hk
   ·exact q5 k hk
 | .int _,[],_,_,_,_,he=>by simp[see,RP.exec] at he
 | .bool,[],_,_,_,_,he=>by simp[see,RP.exec] at he
 | .str,[],_,_,_,_,he=>by simp[see,RP.exec] at he
 | .sl _ _,[],_,_,_,_,he=>by simp[see,RP.exec] at he
 | .box _ _,[],_,_,_,_,he=>by simp[see,RP.exec] at he
end
end Go.Rf
namespace Go.Rf
section
variable {P:Program} {T:Tab} {E:Env} {B:Base} {Al:Nat→Prop} {s:St} {a:Act} {w:World} {W:Wit} {o:Oper} {f:Nat}
 {rs rs':List Key} {u:Upd}
theorem φ6F {op:UnOp} {t:Nat} {x:Operand} (h:Rel B Al s a w W) (hd:φA B o.dst) (hop:o.op=.unOp op t x) (he:(φ2 T E o f).exec s rs=some (u,rs')):Done P B Al (s.up u) o a w:=by
 simp only[φ2,hop] at he
 obtain ⟨v1,rs1,h1,k1,-⟩:=φQ h he
 split at h1
 ·rename_i b
  have e1:a.eval x=.bool b:=k1.2
  cases op<;>try (simp[RP.exec] at h1;done)
  rw[φE h1]
  exact φ12 h hd rfl (by simp[execOp,hop,e1,Op.unary])
 ·rename_i k n
  have e1:a.eval x=.int k n:=k1.2
  cases op<;>try (simp[RP.exec] at h1;done)
  all_goals
   rw[φE h1]
   exact φ12 h hd rfl (by simp[execOp,hop,e1,Op.unary,Op.intArith,Op.intBits,bits])
 ·simp[RP.exec] at h1
theorem TypeOk.und {t:Nat} {td:TD} (h:TypeOk P T t td):∃d,P.underlying t=some d:=by
 have:=h.aggD
 cases e:P.underlying t with
 | none=>rw[e] at this;simp at this
 | some d=>exact ⟨d,rfl⟩
theorem φ74:∀(xs:List Int) (b:ByteArray),xs.foldl (fun r n=>r.push (UInt8.ofNat n.toNat)) b=⟨(b.data.toList++φ1L xs).toArray⟩
 | [],b=>by simp[φ1L]
 | x::xs,b=>by
  rw[List.foldl_cons,φ74 xs]
  simp[φ1L,ByteArray.push]
theorem φ5z:∀(xs:List Int) (cs:List Value),Ch (α:=Int) (Rd w (fun _=>True) (.int .u8)) xs cs→cs=xs.map (Value.int .u8)
 | [],_,h=>h
 | _::xs,_,⟨c1,c2,e,r,h⟩=>by rw[e,show c1=_ from r,φ5z xs c2 h];rfl
theorem φ6H {t1 t2:Nat} {x:Operand} (hT:φK P T) (h:Rel B Al s a w W) (hd:φA B o.dst) (hop:o.op=.convert t1 t2 x) (he:(φ2 T E o f).exec s rs=some (u,rs')):Done P B Al (s.up u) o a w:=by
 simp only[φ2,hop] at he
 cases ht1:lkp T t1 with
 | none=>rw[ht1] at he;simp[RP.exec] at he
 | some td1=>
  cases ht2:lkp T t2 with
  | none=>rw[ht1,ht2] at he;simp[RP.exec] at he
  | some td2=>
   rw[ht1,ht2] at he
   simp only at he
   have y1:=hT _ _ ht1
   have y2:=hT _ _ ht2
   have kk2:=y2.kind
   obtain ⟨d1,hu1⟩:=y1.und
   obtain ⟨v1,rs1,h1,k1,-⟩:=φQ h he
   clear he
   split at h1
   ·rename_i k n k2 hty
    have e1:a.eval x=.int k n:=k1.2
    rw[hty] at kk2
    have kk2:P.underlying t2=some (.int k2):=kk2
    rw[φE h1]
    exact φ12 h hd rfl (by simp[execOp,hop,e1,convert,run_underlying hu1,run_underlying kk2,Conv.intToInt])
   ·rename_i b hty
    have e1:a.eval x=.string ⟨b.toArray⟩:=k1.2
    rw[hty] at kk2
    have kk2:P.underlying t2=some .string:=kk2
    rw[φE h1]
    exact φ12 h hd rfl (by simp[execOp,hop,e1,convert,run_underlying hu1,run_underlying kk2])
   ·rename_i c hns hty
    rw[hty] at kk2
    have kk2:P.underlying t2=some .string:=kk2
    have kk1:=y1.kind
    split at h1
    ·rename_i m hty1
     rw[hty1] at kk1
     obtain ⟨el,hel,kk1,_⟩:=kk1
     obtain ⟨hu8,h1⟩:=φo h1
     have hu8:isU8 T td1.elem=true:=by simpa using hu8
     have hel8:P.underlying el=some (.int .u8):=by
      rw[hel] at hu8
      simp only[isU8] at hu8
      split at hu8
      ·rename_i td3 h3
       split at hu8
       ·rename_i h4
        have:=(hT _ _ h3).kind
        rw[h4] at this
        exact this
       ·simp at hu8
      ·simp at hu8
     obtain ⟨xs,l2,ids,sf,rs2,cs,vs2,e,h2,hl2,hrd,_,_⟩:=φ33 h (.sl false (.int .u8)) [c] [a.eval x] _ _ ⟨_,_,rfl,k1,rfl⟩ h1
     split at h2<;>try (simp[RP.exec] at h2;done)
     rw[φE h2]
     have hl2:vs2=[]:=hl2
     subst hl2
     obtain ⟨A,cp,e',hc,hr⟩:=hrd
     rw[κ5,e',List.cons.injEq] at e
     have e1:=e.1
     refine φ12 h hd rfl ?_
     have conv:(Conv.bytesToString (.slice A (List.length (α:=Int) xs) cp)).run P w=.ok (.string ⟨(φ1L xs).toArray⟩) w:=by
      rcases hr with hr | ⟨ad,C,el',fr,pre,ces,post,q1,q2,q3,q4,q5,q6,q7⟩
      ·have hr:(show List Int from xs)=[]:=hr
       have:xs=([]:List Int):=hr
       subst this
       cases A with
       | none=>simp[Conv.bytesToString,φ1L];rfl
       | some ad=>
        have:=run_bytesToString (P:=P) w ad 0 cp [] (by simpa using run_loadCells_list (P:=P) w ad [] (by simp))
        exact this
      ·subst q1
       have hces:=φ5z xs ces (Ch.mono (fun x cs h=>Rd.mono (fun _ _=>trivial) (fun _ _=>rfl) (.int .u8) x cs h) _ _ q7)
       have hat:At w ad.block ad.off ces:=⟨C,el',fr,pre,post,q4,q5,q6⟩
       have had:ad=⟨ad.block,ad.off,none⟩:=by cases ad;simp at q2;subst q2;rfl
       have hl:=run_loadCells_list (P:=P) w ad ces (fun j v hv=>by rw[had,φ1d];exact hat.cell j v hv)
       have hlen:ces.length=List.length (α:=Int) xs:=by rw[hces];exact lM _
       rw[hlen,hces] at hl
       have:=run_bytesToString (P:=P) w ad (List.length (α:=Int) xs) cp xs hl
       exact this.trans (congrArg (fun b=>Result.ok (Value.string b) w) (φ74 xs ByteArray.empty))
     simp[execOp,hop,e1,convert,run_underlying kk1,run_underlying kk2,run_underlying hel8]
     exact congrArg (fun r:Result Value=>r.andThen fun a w'=>Result.ok (Next.value a) w') conv
    ·simp[RP.exec] at h1
   ·simp[RP.exec] at h1
theorem φ78 {t:Nat} {e:Ty} (hT:φK P T) (h:φk T t=some e):e.plain=true:=by
 unfold φk at h
 split at h
 ·rename_i td ht
  split at h
  ·rename_i m e' hty
   simp only[Option.some.injEq] at h
   subst h
   have:=(hT _ _ ht).plain
   rw[hty] at this
   rcases this with k | ⟨g,t,k⟩
   ·exact k
   ·simp at k
  ·simp at h
 ·simp at h
theorem φ2b {t:Nat} {e:Ty} (hT:φK P T) (h:φk T t=some e):∃el,P.underlying t=some (.slice el)∧φ1v P el e.size (φ1E T t) (φd e):=by
 unfold φk at h
 split at h
 ·rename_i td ht
  split at h
  ·rename_i m e' hty
   simp only[Option.some.injEq] at h
   subst h
   have:=(hT _ _ ht).kind
   rw[hty] at this
   obtain ⟨el,_,k1,k2⟩:=this
   exact ⟨el,k1,k2⟩
  ·simp at h
 ·simp at h
theorem φ4x {t:Nat} (hT:φK P T) (h:φ2Y T t=true):P.underlying t=some .string:=by
 unfold φ2Y at h
 split at h
 ·rename_i td ht
  split at h
  ·rename_i hty
   have:=(hT _ _ ht).kind
   rw[hty] at this
   exact this
  ·simp at h
 ·simp at h
def optV:Option Int→Option Value→Prop
 | none,none=>True
 | some n,some v=>∃kd,v=.int kd n
 | _,_=>False
def hiOk (n:Nat):Option Int→Prop
 | none=>True
 | some h=>0≤h∧h≤n
def loOk (m:Int):Option Int→Prop
 | none=>True
 | some l=>0≤l∧l≤m
theorem φ64 (h:Rel B Al s a w W) {α:Type} {x:Option Operand} {k:Option Int→RP α} {r:α×List Key} (he:(φ3R x k).exec s rs=some r) :
  ∃n rs2,(k n).exec s rs2=some r∧optV n (x.map a.eval):=by
 unfold φ3R at he
 cases x with
 | none=>exact ⟨none,rs,he,trivial⟩
 | some x=>
  obtain ⟨v1,rs1,h1,k1,-⟩:=φQ h he
  split at h1
  ·rename_i kd n
   exact ⟨some n,rs1,h1,kd,k1.2⟩
  ·simp[RP.exec] at h1
theorem φ4c {α:Type} {n:Nat} {l h:Option Int} {k:RP α} {r:α×List Key} (he:(sliceBounds n l h k).exec s rs=some r) :
  k.exec s rs=some r∧hiOk n h∧loOk (h.getD n) l:=by
 unfold sliceBounds at he
 cases l<;>cases h<;>simp only at he
 ·exact ⟨he,trivial,trivial⟩
 ·obtain ⟨c,he⟩:=φh he;simp only[bA,decide_eq_true_eq] at c;exact ⟨he,c,trivial⟩
 ·obtain ⟨c,he⟩:=φh he;simp only[bA,decide_eq_true_eq] at c;exact ⟨he,trivial,c⟩
 ·obtain ⟨c,he⟩:=φh he;obtain ⟨c',he⟩:=φh he;simp only[bA,decide_eq_true_eq] at c c';exact ⟨he,c,c'⟩
theorem φ5g {isS:Bool} {n c:Nat} {l h:Option Int} {lo hi:Option Value} (hnc:n≤c)
  (hl:optV l lo) (hh:optV h hi) (b1:hiOk n h) (b2:loOk (h.getD n) l) :
  (Instr.sliceBounds isS n c lo hi none).run P w=.ok ((l.map Int.toNat).getD 0,(h.map Int.toNat).getD n,c) w:=by
 cases l<;>cases lo<;>try (exact hl.elim)
 all_goals
  cases h<;>cases hi<;>try (exact hh.elim)
 ·simp[Instr.sliceBounds]
 ·obtain ⟨kd,rfl⟩:=hh
  rename_i z
  simp only[hiOk] at b1
  have:(0:Int)≤z∧z≤(c:Int):=⟨b1.1,Int.le_trans b1.2 (Int.ofNat_le.2 hnc)⟩
  simp[Instr.sliceBounds,Instr.sliceBound,asIntOf,this]
 ·obtain ⟨kd,rfl⟩:=hl
  simp only[Option.getD_none,loOk] at b2
  simp[Instr.sliceBounds,Instr.sliceBound,asIntOf,b2]
 ·obtain ⟨kd,rfl⟩:=hl
  obtain ⟨kd',rfl⟩:=hh
  simp only[Option.getD_some,loOk,hiOk] at b1 b2
  rename_i z
  have h1:(0:Int)≤z∧z≤(c:Int):=⟨b1.1,Int.le_trans b1.2 (Int.ofNat_le.2 hnc)⟩
  have hm:max z 0=z:=by omega
  have h2:=b2
  simp[Instr.sliceBounds,Instr.sliceBound,asIntOf,h1,hm,h2]
theorem φ61 {α:Type} (l h:Option Int) (xs:List α) (b1:hiOk xs.length h) (b2:loOk (h.getD xs.length) l) :
  (cut (l.map Int.toNat) (h.map Int.toNat) xs).length=(h.map Int.toNat).getD xs.length - (l.map Int.toNat).getD 0:=by
 rw[φ21]
 cases l<;>cases h<;>simp[hiOk,loOk] at *<;>omega
theorem φ9Y {t j:Nat} {x:Operand} (hT:φK P T) (h:Rel B Al s a w W) (hd:φA B o.dst) (hop:o.op=.field t x j) (he:(φ2 T E o f).exec s rs=some (u,rs')):Done P B Al (s.up u) o a w:=by
 simp only[φ2,hop] at he
 cases ht:lkp T t with
 | none=>rw[ht] at he;simp[RP.exec] at he
 | some td=>
  rw[ht] at he
  simp only at he
  cases hj:td.flds[j]? with
  | none=>rw[hj] at he;simp[RP.exec] at he
  | some p=>
   obtain ⟨off,n,g⟩:=p
   rw[hj] at he
   simp only at he
   obtain ⟨v,rs2,h1,h2,h3⟩:=φQ h he
   have hag:td.agg=true:=by
    cases e:td.agg with
    | true=>rfl
    | false=>have:=((hT t td ht).nagg e).2;rw[this] at hj;simp at hj
   obtain ⟨fs,hf1,hf2,hf3⟩:=(hT t td ht).agg hag
   obtain ⟨fd,k1,k2,k3,k4,k5⟩:=hf3 j off n g hj
   split at h1
   ·rename_i l
    obtain ⟨vs,e,hl⟩:=h2
    obtain ⟨r,q1,q2,q3,q4,q5⟩:=φ70 ((hl.drop off).take n) (fun j hj=>h3 j (φ3t (φ2w hj))) h1
    rw[φE q1]
    refine φp h hd ?_ q2 q3
    have hp:(part fd.type vs.toArray off).run P w=.ok (mkV g ((vs.drop off).take n)) w:=by
     unfold part
     rw[Sem.run_bind,φ44 w k5,Result.andThen_ok]
     cases g with
     | true=>
      simp only[if_true,Sem.run_bind,φ1x w k3,Result.andThen_ok,Sem.run_pure,mkV]
      congr 2
      apply Array.ext'
      simp[List.take_drop,Nat.add_comm]
     | false=>
      have hn1:=q5 rfl
      subst hn1
      simp only[κI,if_false,List.getElem?_toArray,mkV]
      have:vs[off]?=some (((vs.drop off).take 1).getD 0 undef):=by
       have hlen:off<vs.length:=by simp at q4;omega
       simp[List.getD,hlen]
      rw[this]
      simp
    have:(Instr.field t (.agg vs.toArray) j).run P w=.ok (mkV g ((vs.drop off).take n)) w:=by
     unfold Instr.field
     rw[Sem.run_bind,run_underlying hf1,Result.andThen_ok]
     simp[k1,k2,asAgg,hp]
    simp only[execOp,hop,e,Sem.run_bind,this,Result.andThen_ok,Sem.run_pure]
   ·simp[RP.exec] at h1
theorem φ82 {t:Nat} {x y:Operand} (hT:φK P T) (h:Rel B Al s a w W) (hd:φA B o.dst) (hop:o.op=.index t x y) (he:(φ2 T E o f).exec s rs=some (u,rs')):Done P B Al (s.up u) o a w:=by
 simp only[φ2,hop] at he
 obtain ⟨hs,he⟩:=φo he
 have hu:=φ4x hT (show φ2Y T t=true by simpa using hs)
 obtain ⟨v1,rs1,h1,k1,-⟩:=φQ h he
 obtain ⟨v2,rs2,h2,k2,-⟩:=φQ h h1
 split at h2<;>try (simp[RP.exec] at h2;done)
 rename_i kd i
 split at h2<;>try (simp[RP.exec] at h2;done)
 rename_i b
 obtain ⟨c,h2⟩:=φh h2
 rw[φE h2]
 have e1:a.eval x=.string ⟨b.toArray⟩:=k1.2
 have e2:a.eval y=.int kd i:=k2.2
 obtain ⟨c0,c1⟩:=φ1m c
 refine φ12 h hd rfl ?_
 have hg:(⟨b.toArray⟩:ByteArray)[i.toNat]?=some (b.getD i.toNat 0):=by
  show (if _:i.toNat<(⟨b.toArray⟩:ByteArray).size then _ else _)=_
  rw[dif_pos (by simpa [ByteArray.size] using c1)]
  simp[List.getD,c1]
  rfl
 have:(Instr.index t (.string ⟨b.toArray⟩) (.int kd i)).run P w=.ok (.int .u8 (b.getD i.toNat 0).toNat) w:=by
  simp[Instr.index,asIntOf,run_underlying hu,c0,hg]
 simp only[execOp,hop,e1,e2,Sem.run_bind,this,Result.andThen_ok,Sem.run_pure]
theorem φ8g {j:Nat} {x:Operand} (h:Rel B Al s a w W) (hd:φA B o.dst) (hop:o.op=.extract x j) (he:(φ2 T E o f).exec s rs=some (u,rs')):Done P B Al (s.up u) o a w:=by
 simp only[φ2,hop] at he
 obtain ⟨v,rs1,h1,k1,hm⟩:=φQ h he
 split at h1
 ·rename_i l
  obtain ⟨vs,e,hl⟩:=k1
  split at h1
  ·rename_i cs hj
   rw[φE h1]
   obtain ⟨y,hy,us,e',p⟩:=hl.get j _ hj
   refine φp h hd ?_ ⟨us,e',p⟩ (fun id hid=>hm id ⟨_,List.mem_of_getElem? hj,hid⟩)
   simp[execOp,hop,e,Instr.extract,hy]
  ·rename_i c hj
   rw[φE h1]
   obtain ⟨y,hy,p⟩:=hl.get j _ hj
   obtain ⟨b,r',e',p,p'⟩:=p
   simp only[List.cons.injEq] at e'
   obtain ⟨rfl,-⟩:=e'
   refine φp h hd ?_ p (fun id hid=>hm id ⟨_,List.mem_of_getElem? hj,c,by simp,hid⟩)
   simp[execOp,hop,e,Instr.extract,hy]
  ·simp[RP.exec] at h1
 ·simp[RP.exec] at h1
end
end Go.Rf
namespace Go.Rf
section
variable {P:Program} {T:Tab} {E:Env} {B:Base} {Al:Nat→Prop} {s:St} {a:Act} {w:World} {W:Wit} {o:Oper} {f:Nat}
 {rs rs':List Key} {u:Upd}
theorem Rd.slv {I:Nat→Prop} {m:Bool} {t:Ty} {xs:List t.den} {v:Value} (h:Rd w I (.sl m t) xs [v]):∃A c,v=.slice A xs.length c∧xs.length≤c∧φ1n w I (Rd w I t) xs A:=by
 obtain ⟨A,c,e,hc,hr⟩:=h
 simp only[List.cons.injEq,and_true] at e
 exact ⟨A,c,e,hc,hr⟩
theorem φ8C {t:Nat} {x:Operand} {lo hi:Option Operand} (hT:φK P T) (h:Rel B Al s a w W) (hd:φA B o.dst) (hop:o.op=.slice t x lo hi none) (he:(φ2 T E o f).exec s rs=some (u,rs')):Done P B Al (s.up u) o a w:=by
 simp only[φ2,hop] at he
 obtain ⟨v,rs1,h1,k1,hm⟩:=φQ h he
 split at h1<;>try (simp[RP.exec] at h1;done)
 rename_i c
 obtain ⟨l,rs2,h2,kl⟩:=φ64 h h1
 obtain ⟨hh,rs3,h3,kh⟩:=φ64 h h2
 clear he h1 h2
 -- a slice's value
 have cutv:∀(e:Ty) (A:Option Addr) (n cp:Nat),φk T t=some e→a.eval x=.slice A n cp→n≤cp →
   hiOk n hh→loOk (hh.getD n) l →
   (execOp a.eval o).run P w=.ok (.value (.slice (if cp=(l.map Int.toNat).getD 0 then A else A.map (·.add ((l.map Int.toNat).getD 0 * e.size))) ((hh.map Int.toNat).getD n - (l.map Int.toNat).getD 0) (cp - (l.map Int.toNat).getD 0))) w:=by
  intro e A n cp hel ev hn b1 b2
  obtain ⟨el,hu,ht,_⟩:=φ2b hT hel
  have hb:=φ5g (P:=P) (w:=w) (isS:=true) hn kl kh b1 b2
  simp only[execOp,hop,ev,Option.map_none,Instr.sliceAt,Sem.run_bind,run_underlying hu,Result.andThen_ok,Instr.slice,hb,φ1x w ht,Sem.run_pure]
 cases c<;>try (simp[φ3z,RP.exec] at h3;done)
 case str b=>
  obtain ⟨hs,h3⟩:=φB h3
  have hu:=φ4x hT hs
  obtain ⟨h3,b1,b2⟩:=φ4c h3
  rw[φE h3]
  have ev:a.eval x=.string ⟨b.toArray⟩:=k1.2
  refine φ12 h hd rfl ?_
  have hb:=φ5g (P:=P) (w:=w) (isS:=false) (κD b.length) kl kh b1 b2
  have hsz:(⟨b.toArray⟩:ByteArray).size=b.length:=List.size_toArray
  have hex:(⟨b.toArray⟩:ByteArray).extract ((l.map Int.toNat).getD 0) ((hh.map Int.toNat).getD b.length)=⟨(cut (l.map Int.toNat) (hh.map Int.toNat) b).toArray⟩:=by
   apply ByteArray.ext
   rw[ByteArray.data_extract,φ21]
   simp[List.drop_take]
  simp only[execOp,hop,ev,Option.map_none,Instr.sliceAt,Sem.run_bind,run_underlying hu,Result.andThen_ok,Instr.slice,hb,hsz,hex,Sem.run_pure,Option.isSome_none,κI,if_false]
 case rd sf t' xs=>
  simp only[φ3z] at h3
  cases hel:φk T t with
  | none=>rw[hel] at h3;simp[RP.exec] at h3
  | some e=>
   rw[hel] at h3
   simp only at h3
   obtain ⟨hq,h3⟩:=φB h3
   have hq:=(φ9 _ _).1 hq
   obtain ⟨h3,b1,b2⟩:=φ4c h3
   rw[φE h3]
   obtain ⟨A,cp,ev,hc,hr⟩:=Rd.slv (show Rd w (if sf then W.J s.ob else W.I) (.sl false t') xs [a.eval x] from k1.2)
   refine φp h hd (cutv e A _ cp hel ev hc b1 b2) ⟨fun _=>rfl,?_⟩ (fun _ k=>k.elim)
   have hlen:=φ61 l hh xs b1 b2
   refine ⟨_,_,by rw[hlen],?_,?_⟩
   ·rw[hlen]
    have:(hh.map Int.toNat).getD xs.length≤xs.length:=by cases hh<;>simp[hiOk] at b1 ⊢;omega
    omega
   ·by_cases hne:cut (l.map Int.toNat) (hh.map Int.toNat) xs=[]
    ·exact .inl hne
    ·have hxs:xs≠[]:=fun e=>hne (by rw[e,φ21];simp)
     rcases hr with hr | ⟨a',C,el,fr,pre,ces,post,q1,q2,q3,q4,q5,q6,q7⟩
     ·exact absurd hr hxs
     ·subst q1
      obtain ⟨c1,c2,c3,r1,r2,r3⟩:=φ5q (fun x cs=>Rd.size t' x cs) (l.map Int.toNat) (hh.map Int.toNat) xs ces q7 hne
      have hpos:0<(cut (l.map Int.toNat) (hh.map Int.toNat) xs).length:=List.length_pos_iff.2 hne
      have hcp:¬cp=(l.map Int.toNat).getD 0:=by
       rw[hlen] at hpos
       have:(hh.map Int.toNat).getD xs.length≤xs.length:=by cases hh<;>simp[hiOk] at b1 ⊢;omega
       omega
      rw[if_neg hcp]
      have had:a'=⟨a'.block,a'.off,none⟩:=by cases a';simp at q2;subst q2;rfl
      refine .inr ⟨⟨a'.block,a'.off+(l.map Int.toNat).getD 0 * e.size,none⟩,C,el,fr,pre++c1,c2,c3++post,?_,rfl,q3,q4,by rw[q5,r1];simp,?_,r2⟩
      ·rw[had];simp[φ1d]
      ·simp[r3,q6,hq]
 case own id=>
  simp only[φ3z,RP.exec] at h3
  split at h3<;>try (simp[RP.exec] at h3;done)
  rename_i t' xs ho
  cases hel:φk T t with
  | none=>rw[hel] at h3;simp[RP.exec] at h3
  | some e=>
   rw[hel] at h3
   simp only at h3
   obtain ⟨hq,h3⟩:=φB h3
   have hq:=(φ9 _ _).1 hq
   obtain ⟨h3,b1,b2⟩:=φ4c h3
   rw[φE h3]
   have ev0:a.eval x=_:=k1.2 t' xs ho
   obtain ⟨A,cp,ev,hc,_⟩:=Rd.slv (h.rowRd ho true)
   rw[←ev0] at ev
   refine φp h hd (cutv e _ _ _ hel ev hc b1 b2) ⟨fun _=>rfl,?_⟩ hm
   intro t2 xs2 ho2
   rw[ho] at ho2
   simp only[Option.some.injEq,Obj.row.injEq] at ho2
   obtain ⟨rfl,ho2⟩:=ho2
   have ho2:=eq_of_heq ho2
   subst ho2
   have hlen:=φ61 l hh xs b1 b2
   have hle:(hh.map Int.toNat).getD xs.length≤xs.length:=by cases hh<;>simp[hiOk] at b1 ⊢;omega
   refine ⟨_,_,by rw[hlen],by rw[hlen];omega,?_⟩
   by_cases h0:(cut (l.map Int.toNat) (hh.map Int.toNat) xs).length=0
   ·exact .inl h0
   ·rw[hlen] at h0
    rw[if_neg (by omega)]
    rcases φ3U (ev0.symm.trans ev) with ⟨e1,_,e3⟩ | ⟨e1,_⟩
    ·omega
    ·exact .inr (by rw[e1];simp[φ1d,hq])
theorem φ5f {t:Nat} {x y:Operand} (hT:φK P T) (h:Rel B Al s a w W) (hd:φA B o.dst) (hop:o.op=.indexAddr t x y) (he:(φ2 T E o f).exec s rs=some (u,rs')):Done P B Al (s.up u) o a w:=by
 simp only[φ2,hop] at he
 cases hel:φk T t with
 | none=>rw[hel] at he;simp[RP.exec] at he
 | some e=>
  rw[hel] at he
  simp only at he
  obtain ⟨el,hu,ht,_⟩:=φ2b hT hel
  obtain ⟨v1,rs1,h1,k1,hm⟩:=φQ h he
  obtain ⟨v2,rs2,h2,k2,-⟩:=φQ h h1
  clear he h1
  split at h2<;>try (simp[RP.exec] at h2;done)
  rename_i kd i
  have e2:a.eval y=.int kd i:=k2.2
  have run:∀(b o' n cp:Nat),a.eval x=.slice (some ⟨b,o',none⟩) n cp→inB i n=true→(execOp a.eval o).run P w=.ok (.value (pt b (o'+i.toNat * e.size))) w:=by
   intro b o' n cp ev hi
   simp only[inB,bA,decide_eq_true_eq] at hi
   have hi:0≤i∧i<(n:Int):=hi
   have:(Instr.indexAt t (.slice (some ⟨b,o',none⟩) n cp) (.int kd i)).run P w=.ok (pt b (o'+i.toNat * e.size)) w:=by
    simp[Instr.indexAt,asIntOf,run_underlying hu,hi,φ1x w ht,φ1d,pt]
   simp only[execOp,hop,ev,e2,Sem.run_bind,this,Result.andThen_ok,Sem.run_pure]
  split at h2<;>try (simp[RP.exec] at h2;done)
  ·rename_i id
   simp only[RP.exec] at h2
   split at h2<;>try (simp[RP.exec] at h2;done)
   rename_i t' xs ho
   obtain ⟨hq,h2⟩:=φB h2
   have hq:=(φ9 _ _).1 hq
   obtain ⟨c,h2⟩:=φh h2
   rw[φE h2]
   have hne:=(φ1m c).2
   have ev:a.eval x=.slice (some ⟨W.η id,0,none⟩) xs.length (W.cp id):=by
    rw[show a.eval x=_ from k1.2 t' xs ho]
    rcases h.row id t' xs ho with ⟨_,e,_⟩ | ⟨e,_⟩
    ·rw[e] at hne;exact absurd hne (Nat.not_lt_zero _)
    ·simp[slv,e]
   refine φp h hd (run _ _ _ _ ev c) ⟨fun _=>rfl,_,_,rfl,?_⟩ hm
   intro t2 xs2 ho2
   rw[ho] at ho2
   simp only[Option.some.injEq,Obj.row.injEq] at ho2
   obtain ⟨rfl,ho2⟩:=ho2
   have ho2:=eq_of_heq ho2
   subst ho2
   exact ⟨c,rfl,by simp[hq]⟩
  ·rename_i sf t' xs
   obtain ⟨hq,h2⟩:=φB h2
   have hq:=(φ9 _ _).1 hq
   obtain ⟨c,h2⟩:=φh h2
   rw[φE h2]
   obtain ⟨A,cp,ev,hc,hr⟩:=Rd.slv (show Rd w (if sf then W.J s.ob else W.I) (.sl false t') xs [a.eval x] from k1.2)
   rcases hr with hr | ⟨a',C,el',fr,pre,ces,post,q1,q2,q3,q4,q5,q6,q7⟩
   ·have:=(φ1m c).2
    rw[hr] at this
    exact absurd this (Nat.not_lt_zero _)
   ·subst q1
    have had:a'=⟨a'.block,a'.off,none⟩:=by cases a';simp at q2;subst q2;rfl
    refine φp h hd (run a'.block a'.off _ cp (by rw[ev,←had]) c) ⟨fun _=>rfl,c,a',C,el',fr,pre,ces,post,by simp[hq],q3,q4,q5,q6,q7⟩ (fun _ k=>k.elim)
theorem φ4P {c:Call} {b:Builtin} {v:Value} (hop:o.op=.call c) (hb:c.callee=.builtin b)
  (h:∀cs,(builtin b c.argTypes o.type cs (c.args.map a.eval)).run P w=.ok (.value v) w):(execOp a.eval o).run P w=.ok (.value v) w:=by
 simp only[execOp,hop,resolve,hb,Sem.run_bind,Sem.run_pure,Result.andThen_ok,invoke,h]
theorem φ2C {c:Call} {vs:List Value} (h:c.args.toList.map a.eval=vs):c.args.map a.eval=vs.toArray:=by
 apply Array.ext'
 simp[h]
theorem φ5X {c:Call} (hT:φK P T) (h:Rel B Al s a w W) (hd:φA B o.dst) (hop:o.op=.call c) (hb:c.callee=.builtin .len) (he:(φ2 T E o f).exec s rs=some (u,rs')):Done P B Al (s.up u) o a w:=by
 simp only[φ2,hop] at he
 obtain ⟨vs,rs1,h1,k1⟩:=φ17 h he
 clear he
 rw[hb] at h1
 simp only at h1
 split at h1<;>try (simp[RP.exec] at h1;done)
 rename_i t hat
 have run:∀(v:Value) (n:Nat),c.args.toList.map a.eval=[v]→(∃A cp,v=.slice A n cp)→(∃el,P.underlying t=some (.slice el))→(execOp a.eval o).run P w=.ok (.value (.int .i64 n)) w:=by
  intro v n ha ⟨A,cp,e⟩ ⟨el,hu⟩
  subst e
  refine φ4P hop hb fun cs=>?_
  rw[φ2C ha]
  simp[builtin,Builtin.len_,hat,run_underlying hu,goInt]
 split at h1
 ·rename_i b
  obtain ⟨hs,h1⟩:=φB h1
  have hu:=φ4x hT hs
  obtain ⟨v,r',e,p,p'⟩:=k1
  have p':r'=[]:=p'
  subst p'
  have ev:v=.string ⟨b.toArray⟩:=p.1.2
  subst ev
  rw[φE h1]
  refine φ12 h hd rfl (φ4P hop hb fun cs=>?_)
  rw[φ2C e]
  have hsz:(⟨b.toArray⟩:ByteArray).size=b.length:=List.size_toArray
  simp[builtin,Builtin.len_,hat,run_underlying hu,goInt,hsz]
 ·rename_i cc hns
  obtain ⟨v,r',e,p,p'⟩:=k1
  have p':r'=[]:=p'
  subst p'
  split at h1<;>try (simp[RP.exec] at h1;done)
  rename_i el hel
  obtain ⟨elt,hu,_⟩:=φ2b hT hel
  split at h1<;>try (simp[RP.exec] at h1;done)
  ·rename_i sf t' xs
   rw[φE h1]
   obtain ⟨A,cp,ev,_⟩:=Rd.slv (show Rd w (if sf then W.J s.ob else W.I) (.sl false t') xs [v] from p.1.2)
   exact φ12 h hd rfl (run v _ e ⟨A,cp,ev⟩ ⟨_,hu⟩)
  ·rw[φE h1]
   exact φ12 h hd rfl (run v 0 e ⟨none,0,p.1.2⟩ ⟨_,hu⟩)
  ·simp only[RP.exec] at h1
   split at h1<;>try (simp[RP.exec] at h1;done)
   rename_i t' xs ho
   rw[φE h1]
   obtain ⟨A,cp,ev,hc,_⟩:=Rd.slv (h.rowRd ho true)
   exact φ12 h hd rfl (run v _ e ⟨A,cp,(show v=_ from p.1.2 t' xs ho).trans ev⟩ ⟨_,hu⟩)
  ·simp only[RP.exec] at h1
   split at h1<;>try (simp[RP.exec] at h1;done)
   rename_i t' xs ho
   rw[φE h1]
   obtain ⟨A,cp,ev,_⟩:=p.1.2 t' xs ho
   exact φ12 h hd rfl (run v _ e ⟨_,_,ev⟩ ⟨_,hu⟩)
 ·simp[RP.exec] at h1
theorem φ50 {c:Call} {b:Builtin} (h:Rel B Al s a w W) (hd:φA B o.dst) (hop:o.op=.call c) (hb:c.callee=.builtin b) (hm:b=.min∨b=.max) (he:(φ2 T E o f).exec s rs=some (u,rs')):Done P B Al (s.up u) o a w:=by
 simp only[φ2,hop] at he
 obtain ⟨vs,rs1,h1,k1⟩:=φ17 h he
 clear he
 rw[hb] at h1
 rcases hm with rfl | rfl
 all_goals
  simp only at h1
  split at h1<;>try (simp[RP.exec] at h1;done)
  rename_i k n k' m
  obtain ⟨hk,h5⟩:=φB h1
  clear h1
  have hk:=φ1M hk
  subst hk
  obtain ⟨v,r',e,p,v2,r2,e2,p2,p'⟩:=k1
  have p':r2=[]:=p'
  subst p'
  subst e2
  have ev:v=.int k n:=p.1.2
  have ev2:v2=.int k m:=p2.1.2
  subst ev;subst ev2
  rw[φE h5]
  refine φ12 h hd rfl (φ4P hop hb fun cs=>?_)
  rw[φ2C e]
  first
   | (simp[builtin,Builtin.min_,Builtin.min2];done)
   | (simp[builtin,Builtin.max_,Builtin.max2];done)
end
end Go.Rf
namespace Go.Rf
section
variable {P:Program} {T:Tab} {E:Env} {B:Base} {Al:Nat→Prop} {s:St} {a:Act} {w:World} {W:Wit} {o:Oper} {f:Nat}
 {rs rs':List Key} {u:Upd}
def plus (I:Nat→Prop) (fr:List Nat) (b:Nat):Prop:=I b∨b∈fr
def blk (W:Wit) (ids:List Nat):List Nat:=ids.flatMap (fpOf W)
theorem φ10 (W:Wit) (i j:List Nat):blk W (i++j)=blk W i++blk W j:=κ8
theorem φ7U {α β:Type} (e:α=β) (x:α) (xs:List α):cast (congrArg List e) (x::xs)=cast e x::cast (congrArg List e) xs:=by subst e;rfl
theorem φz {a b c d:List Nat} {x y:List Nat} (h:x.Perm (a++b)) (k:y.Perm (c++d)):(x++y).Perm ((a++c)++(b++d)):=by
 refine (h.append k).trans ?_
 rw[aA,aA]
 refine List.Perm.append_left a ?_
 rw[←aA,←aA]
 exact List.Perm.append_right d List.perm_append_comm
theorem Ow.same {I:Nat→Prop}:∀(a b:Ty) (h:a.den=b.den),Ty.same a b=some ⟨h⟩→Ty.leM a b=true→∀x cs fp,Ow w I a x cs fp→∃fp' fr,fp.Perm (fp'++fr)∧Ow w (plus I fr) b (cast h x) cs fp'
 | .int k,.int k',h,hs,_,x,cs,fp,r=>by
  refine ⟨[],[],by rw[r.2];exact List.Perm.refl _,?_,rfl⟩
  exact Rd.mono (I:=I) (w:=w) (fun b hb=>.inl hb) (fun _ _=>rfl) _ _ _ (Rd.same (.int k) (.int k') h hs x cs r.1)
 | .bool,.bool,_,_,_,_,_,_,r=>⟨[],[],by rw[r.2];exact List.Perm.refl _,r.1,rfl⟩
 | .str,.str,_,_,_,_,_,_,r=>⟨[],[],by rw[r.2];exact List.Perm.refl _,r.1,rfl⟩
 | .box g a,.box g' b,h,hs,_,x,cs,fp,r=>by
  refine ⟨[],[],by rw[r.2];exact List.Perm.refl _,?_,rfl⟩
  exact Rd.mono (I:=I) (w:=w) (fun b hb=>.inl hb) (fun _ _=>rfl) _ _ _ (Rd.same (.box g a) (.box g' b) h hs x cs r.1)
 | .sl true a,.sl false b,h,hs,_,x,cs,fp,r=>by
  refine ⟨[],fp,List.Perm.refl _,?_,rfl⟩
  have h1:=Ow.rd (I':=plus I fp) (fun b hb=>.inl hb) (.sl true a) x cs fp (fun b hb=>.inr hb) r
  have h2:Ty.same (.sl true a) (.sl false b)=some ⟨h⟩:=hs
  exact Rd.same (.sl true a) (.sl false b) h h2 x cs h1
 | .sl false a,.sl false b,h,hs,_,x,cs,fp,r=>by
  refine ⟨[],[],by rw[r.2];exact List.Perm.refl _,?_,rfl⟩
  exact Rd.mono (I:=I) (w:=w) (fun b hb=>.inl hb) (fun _ _=>rfl) _ _ _ (Rd.same (.sl false a) (.sl false b) h hs x cs r.1)
 | .sl false a,.sl true b,_,_,hle,_,_,_,_=>by simp[Ty.leM] at hle
 | .sl true a,.sl true b,h,hs,hle,xs,cs,fp,r=>by
  simp only[Ty.same] at hs
  split at hs
  ·rename_i h0 h1
   have hle:Ty.leM a b=true:=by simpa [Ty.leM] using hle
   rcases r with ⟨e1,e2,e3⟩ | ⟨g,c,f,e1,e2,hr⟩
   ·exact ⟨[],[],by rw[e3];exact List.Perm.refl _,.inl ⟨φ4X h0 xs e1,e2,rfl⟩⟩
   ·subst e2
    have key:∀(xs:List a.den) (ces:List Value) (fq:List Nat),ChO (Ow w I a) xs ces fq→∃fq' fr,fq.Perm (fq'++fr)∧ChO (Ow w (plus I fr) b) (cast (congrArg List h0) xs) ces fq':=by
     intro xs
     induction xs with
     | nil=>
      intro ces fq k
      refine ⟨[],[],by rw[k.2];exact List.Perm.refl _,?_⟩
      rw[φ4X h0 [] rfl]
      exact ⟨k.1,rfl⟩
     | cons x xs ih=>
      intro ces fq ⟨c1,c2,f1,f2,q1,q2,q3,q4⟩
      obtain ⟨g1,r1,p1,o1⟩:=Ow.same a b h0 h1 hle x c1 f1 q3
      obtain ⟨g2,r2,p2,o2⟩:=ih c2 f2 q4
      refine ⟨g1++g2,r1++r2,by rw[q2];exact φz p1 p2,?_⟩
      rw[φ7U h0]
      refine ⟨c1,c2,g1,g2,q1,rfl,?_,?_⟩
      ·exact Ow.mono (w:=w) (fun b hb=>hb.imp id fun h=>mL _ h) (fun _ _=>rfl) b _ _ _ (fun _ _=>rfl) o1
      ·exact ChO.mono _ _ _ (fun y ds f' _ k=>Ow.mono (w:=w) (fun b hb=>hb.imp id fun h=>mR _ h) (fun _ _=>rfl) b _ _ _ (fun _ _=>rfl) k) o2
    obtain ⟨ces,rest,el,q1,q2,q3,q4⟩:=hr
    obtain ⟨fq',fr,p,q⟩:=key xs ces f q4
    have hl:(cast h xs:List b.den).length=List.length (α:=a.den) xs:=φ71 h0 xs
    refine ⟨g::fq',fr,List.Perm.cons g p,.inr ⟨g,c,fq',?_,rfl,ces,rest,el,q1,?_,Nat.le_trans (Nat.le_of_eq hl) q3,q⟩⟩
    ·rw[e1];exact congrArg (fun n=>[Value.slice (some ⟨g,0,none⟩) n c]) hl.symm
    ·rw[q2,φ3C a b _ h1]
  ·simp at hs
 | .pair a b,.pair c d,h,hs,hle,x,cs,fp,r=>by
  simp only[Ty.same] at hs
  split at hs
  ·rename_i h1 h3 h2 h4
   simp only[Ty.leM,bA] at hle
   obtain ⟨c1,c2,f1,f2,e,e',r1,r2⟩:=r
   obtain ⟨g1,s1,p1,o1⟩:=Ow.same a c h1 h2 hle.1 _ _ _ r1
   obtain ⟨g2,s2,p2,o2⟩:=Ow.same b d h3 h4 hle.2 _ _ _ r2
   refine ⟨g1++g2,s1++s2,by rw[e'];exact φz p1 p2,c1,c2,g1,g2,e,rfl,?_,?_⟩
   ·have:(cast h x).1=cast h1 x.1:=φ5O h1 h3 x
    rw[this]
    exact Ow.mono (w:=w) (fun b hb=>hb.imp id fun h=>mL _ h) (fun _ _=>rfl) c _ _ _ (fun _ _=>rfl) o1
   ·have:(cast h x).2=cast h3 x.2:=φ65 h1 h3 x
    rw[this]
    exact Ow.mono (w:=w) (fun b hb=>hb.imp id fun h=>mR _ h) (fun _ _=>rfl) d _ _ _ (fun _ _=>rfl) o2
  ·simp at hs
def tops:Ty→List Value→List Nat
 | .sl true _,c::_=>match c with
  | .slice (some a) _ _=>[a.block]
  | _=>[]
 | .pair a b,cs=>tops a (cs.take a.size)++tops b (cs.drop a.size)
 | _,_=>[]
theorem φ39 {a b:Ty} {cs ds:List Value} (h:cs.length=a.size):tops (.pair a b) (cs++ds)=tops a cs++tops b ds:=by
 show tops a ((cs++ds).take a.size)++tops b ((cs++ds).drop a.size)=_
 rw[←h,List.take_left,List.drop_left]
def LdOk (W:Wit) (ob:Nat→Option Obj):Ty→List (Option Nat)→List Value→Prop
 | .sl true t,l,cs=>∃v,cs=[v]∧((∃id t0,∃xs0:List (Ty.den t0),l=[some id]∧ob id=some (.row t0 xs0)∧t0.size=t.size∧v=slv W id xs0.length)∨(l=[none]∧v=.slice none 0 0))
 | .pair a b,l,cs=>∃l1 l2 c1 c2,l=l1++l2∧cs=c1++c2∧c1.length=a.size∧LdOk W ob a l1 c1∧LdOk W ob b l2 c2
 | _,l,_=>l=[]
def Lead (W:Wit) (ob:Nat→Option Obj) (t:Ty) (l l2:List Sc) (cs:List Value) (ids:List Nat):Prop:=
 (φv t l).1=true→LdOk W ob t (φ13 t l).1 cs∧((φ13 t l).1.filterMap id).Sublist ids∧(φ13 t l).2=l2∧(φv t l).2=l2
theorem φ1j (h:Rel B Al s a w W) {α:Type} {r:α×List Key}:∀(t:Ty) (l:List Sc) (vs:List Value) (K:t.den→List Sc→List Nat→RP α) (rs:List Key),All2 (Vs w W s.ob) l vs→(imp t l K).exec s rs=some r →
  ∃x l2 ids rs2 cs vs2 fp fr,vs=cs++vs2∧(K x l2 ids).exec s rs2=some r∧All2 (Vs w W s.ob) l2 vs2∧Ow w (plus W.I fr) t x cs fp∧(blk W ids).Perm (fp++fr)∧(∀c∈l2,c∈l)∧(∀i∈ids,(s.ob i).isSome=true)∧(∀b∈tops t cs,∃i∈ids,W.nl i=false∧b=W.η i)∧Lead W s.ob t l l2 cs ids
 | .int k,c::l,vs,K,rs,hl,he=>by
  obtain ⟨v,vs2,e,p,hl⟩:=hl
  simp only[imp] at he
  split at he
  ·rename_i k' n
   obtain ⟨hk,he5⟩:=φB he
   clear he
   have hk:=φ1M hk
   subst hk
   have p:v=_:=p.2
   subst p
   exact ⟨_,_,_,_,[_],vs2,[],[],e,he5,hl,⟨rfl,rfl⟩,List.Perm.refl _,fun c hc=>mC _ hc,by simp,by simp[tops],fun _=>⟨rfl,List.Sublist.refl _,rfl,rfl⟩⟩
  ·simp[RP.exec] at he
 | .bool,c::l,vs,K,rs,hl,he=>by
  obtain ⟨v,vs2,e,p,hl⟩:=hl
  simp only[imp] at he
  split at he
  ·have p:v=_:=p.2
   subst p
   exact ⟨_,_,_,_,[_],vs2,[],[],e,he,hl,⟨rfl,rfl⟩,List.Perm.refl _,fun c hc=>mC _ hc,by simp,by simp[tops],fun _=>⟨rfl,List.Sublist.refl _,rfl,rfl⟩⟩
  ·simp[RP.exec] at he
 | .str,c::l,vs,K,rs,hl,he=>by
  obtain ⟨v,vs2,e,p,hl⟩:=hl
  simp only[imp] at he
  split at he
  ·have p:v=_:=p.2
   subst p
   exact ⟨_,_,_,_,[_],vs2,[],[],e,he,hl,⟨rfl,rfl⟩,List.Perm.refl _,fun c hc=>mC _ hc,by simp,by simp[tops],fun _=>⟨rfl,List.Sublist.refl _,rfl,rfl⟩⟩
  ·simp[RP.exec] at he
 | .sl m t,c::l,vs,K,rs,hl,he=>by
  obtain ⟨v,vs2,e,p,hl⟩:=hl
  simp only[imp] at he
  split at he
  ·have p:v=_:=p.2
   subst p
   refine ⟨_,_,_,_,[_],vs2,[],[],e,he,hl,?_,List.Perm.refl _,fun c hc=>mC _ hc,by simp,by cases m<;>simp[tops],fun _=>?_⟩
   rotate_left
   ·cases m
    ·exact ⟨rfl,List.Sublist.refl _,rfl,rfl⟩
    ·exact ⟨⟨_,rfl,.inr ⟨rfl,rfl⟩⟩,List.Sublist.refl _,rfl,rfl⟩
   cases m
   ·exact ⟨⟨none,0,rfl,κD _,.inl rfl⟩,rfl⟩
   ·exact .inl ⟨rfl,rfl,rfl⟩
  ·rename_i id
   simp only[RP.exec] at he
   split at he
   ·rename_i t' xs ho
    split at he
    ·rename_i hq hsm
     obtain ⟨hle,he5⟩:=φB he
     clear he
     have p:v=_:=p.2 t' xs ho
     subst p
     have ho1:=h.rowOw ho
     obtain ⟨fp,fr,hp,how⟩:=Ow.same (.sl true t') (.sl m t) (congrArg List hq) (by simp only[Ty.same,hsm]) (by cases m<;>simp[Ty.leM,hle]) xs _ _ ho1
     refine ⟨_,_,_,_,[_],vs2,fp,fr,e,he5,hl,how,by simpa [blk] using hp,fun c hc=>mC _ hc,by simp[ho],?_,?_⟩
     rotate_left
     ·intro _
      cases m
      ·exact ⟨rfl,List.nil_sublist _,rfl,rfl⟩
      ·exact ⟨⟨_,rfl,.inl ⟨id,t',xs,rfl,ho,φ3C t' t _ hsm,rfl⟩⟩,List.Sublist.refl _,rfl,rfl⟩
     intro b hb
     refine ⟨id,by simp,?_⟩
     cases m
     ·simp[tops] at hb
     ·cases hnl:W.nl id<;>simp[tops,slv,hnl] at hb
      exact ⟨rfl,hb⟩
    ·simp[RP.exec] at he
   ·simp[RP.exec] at he
  ·rename_i sf t' xs
   obtain ⟨hms,he⟩:=φo he
   simp only[κ6] at hms
   obtain ⟨rfl,rfl⟩:=hms
   split at he
   ·rename_i hq hsm
    have q:Rd w W.I (.sl false t') xs [v]:=p.2
    exact ⟨_,_,_,_,[_],vs2,[],[],e,he,hl,⟨Rd.mono (w:=w) (I:=W.I) (fun b hb=>.inl hb) (fun _ _=>rfl) (.sl false t) _ _ (Rd.same (.sl false t') (.sl false t) (congrArg List hq) (by simp only[Ty.same,hsm]) _ _ q),rfl⟩,List.Perm.refl _,fun c hc=>mC _ hc,by simp,by simp[tops],fun _=>⟨rfl,List.Sublist.refl _,rfl,rfl⟩⟩
   ·simp[RP.exec] at he
  ·rename_i id lo hi
   obtain ⟨hms,he⟩:=φo he
   subst hms
   simp only[RP.exec] at he
   split at he
   ·rename_i t' xs ho
    split at he
    ·rename_i hq hsm
     have q:=Rd.same (.sl false t') (.sl false t) (congrArg List hq) (by simp only[Ty.same,hsm]) _ _ (h.viewRd ho p.2 false)
     have q2:Rd w (plus W.I (fpOf W id)) (.sl false t) _ [v]:=Rd.mono (w:=w) (fun b hb=>by
      rcases hb with hb | ⟨hb,_⟩ | ⟨j,hj,_,hb⟩
      ·exact .inl hb
      ·simp at hb
      ·have:j=id:=by simpa using hj
       subst this;exact .inr hb) (fun _ _=>rfl) (.sl false t) _ _ q
     exact ⟨_,_,_,_,[_],vs2,[],fpOf W id,e,he,hl,⟨q2,rfl⟩,by simp[blk],fun c hc=>mC _ hc,by simp[ho],by simp[tops],fun _=>⟨rfl,List.nil_sublist _,rfl,rfl⟩⟩
    ·simp[RP.exec] at he
   ·simp[RP.exec] at he
  ·simp[RP.exec] at he
 | .box g t,c::l,vs,K,rs,hl,he=>by
  obtain ⟨v,vs2,e,p,hl⟩:=hl
  simp only[imp] at he
  split at he
  ·rename_i sf g' t' x
   obtain ⟨hms,he5⟩:=φo he
   clear he
   simp only[κ6,Bool.not_eq_false'] at hms
   obtain ⟨rfl,hg⟩:=hms
   split at he5
   ·rename_i hq hsm
    have q:Rd w W.I (.box g' t') x [v]:=p.2
    exact ⟨_,_,_,_,[_],vs2,[],[],e,he5,hl,⟨Rd.mono (w:=w) (I:=W.I) (fun b hb=>.inl hb) (fun _ _=>rfl) (.box g t) _ _ (Rd.same (.box g' t') (.box g t) hq (by simp only[Ty.same,hg,hsm,cT]) _ _ q),rfl⟩,List.Perm.refl _,fun c hc=>mC _ hc,by simp,by simp[tops],fun _=>⟨rfl,List.Sublist.refl _,rfl,rfl⟩⟩
   ·simp[RP.exec] at he5
  ·simp[RP.exec] at he
 | .pair t1 t2,l,vs,K,rs,hl,he=>by
  have he:(imp t1 l fun x r i=>imp t2 r fun y r' j=>K (x,y) r' (i++j)).exec s rs=some r:=by cases l<;>exact he
  obtain ⟨x,l2,i,rs2,cs,vs2,fp,fr,e1,k1,k2,k3,k6,k4,k5,k7,k8⟩:=φ1j h t1 l vs _ rs hl he
  obtain ⟨y,l3,j,rs3,ds,vs3,fq,fs,e2,q1,q2,q3,q6,q4,q5,q7,q8⟩:=φ1j h t2 l2 vs2 _ rs2 k2 k1
  refine ⟨(x,y),l3,i++j,rs3,cs++ds,vs3,fp++fq,fr++fs,by rw[e1,e2,aA],q1,q2,⟨cs,ds,fp,fq,rfl,rfl,?_,?_⟩,by rw[φ10];exact φz k6 q6,fun c hc=>k4 c (q4 c hc),?_,?_,?_⟩
  ·exact Ow.mono (w:=w) (fun b hb=>hb.imp id fun h=>mL _ h) (fun _ _=>rfl) t1 _ _ _ (fun _ _=>rfl) k3
  ·exact Ow.mono (w:=w) (fun b hb=>hb.imp id fun h=>mR _ h) (fun _ _=>rfl) t2 _ _ _ (fun _ _=>rfl) q3
  ·intro k hk
   rcases mA.1 hk with hk | hk
   ·exact k5 k hk
   ·exact q5 k hk
  ·intro b hb
   rw[φ39 (Ow.size t1 _ _ _ k3)] at hb
   rcases mA.1 hb with k | k
   ·obtain ⟨i',hi,z⟩:=k7 b k;exact ⟨i',mL _ hi,z⟩
   ·obtain ⟨i',hi,z⟩:=q7 b k;exact ⟨i',mR _ hi,z⟩
  ·intro hok
   have e1:φv (.pair t1 t2) l=((φv t1 l).1 && (φv t2 (φv t1 l).2).1,(φv t2 (φv t1 l).2).2):=rfl
   have e2:φ13 (.pair t1 t2) l=((φ13 t1 l).1++(φ13 t2 (φ13 t1 l).2).1,(φ13 t2 (φ13 t1 l).2).2):=rfl
   rw[e1] at hok
   simp only[bA] at hok
   obtain ⟨a1,a2,a3,a4⟩:=k8 hok.1
   rw[a4] at hok
   obtain ⟨b1,b2,b3,b4⟩:=q8 hok.2
   rw[e1,e2,a3,a4]
   refine ⟨⟨_,_,cs,ds,rfl,rfl,Ow.size t1 _ _ _ k3,a1,b1⟩,?_,b3,b4⟩
   rw[List.filterMap_append]
   exact List.Sublist.append a2 b2
 | .int _,[],_,_,_,_,he=>by simp[imp,RP.exec] at he
 | .bool,[],_,_,_,_,he=>by simp[imp,RP.exec] at he
 | .str,[],_,_,_,_,he=>by simp[imp,RP.exec] at he
 | .sl _ _,[],_,_,_,_,he=>by simp[imp,RP.exec] at he
 | .box _ _,[],_,_,_,_,he=>by simp[imp,RP.exec] at he
theorem φ3i (h:Rel B Al s a w W) {α:Type} {r:α×List Key} (t:Ty) (l:List Sc) (vs:List Value) (K:t.den→List Sc→List Nat→RP α) (rs:List Key) (hl:All2 (Vs w W s.ob) l vs) (he:(imp t l K).exec s rs=some r) :
  ∃x l2 ids rs2 cs vs2 fp fr,vs=cs++vs2∧(K x l2 ids).exec s rs2=some r∧All2 (Vs w W s.ob) l2 vs2∧Ow w (plus W.I fr) t x cs fp∧(blk W ids).Perm (fp++fr)∧(∀c∈l2,c∈l)∧(∀i∈ids,(s.ob i).isSome=true):=by
 obtain ⟨x,l2,ids,rs2,cs,vs2,fp,fr,q1,q2,q3,q4,q5,q6,q7,_,_⟩:=φ1j h t l vs K rs hl he
 exact ⟨x,l2,ids,rs2,cs,vs2,fp,fr,q1,q2,q3,q4,q5,q6,q7⟩
end
end Go.Rf
namespace Go.Rf
structure Turn (Al:Nat→Prop) (W W':Wit) (ob ob':Nat→Option Obj) (w w':World):Prop where
 I:∀b,W.I b→W'.I b
 J:∀b,W.J ob b→W'.J ob' b
 hJ:∀b,W.J ob b→w'.heap[b]?=w.heap[b]?
 rows:∀id,Al id→∀t (xs':List t.den),ob' id=some (.row t xs')→∃(t0:Ty) (xs:List t0.den),ob id=some (.row t0 xs)∧t0.size=t.size∧xs'.length=xs.length∧W'.η id=W.η id∧W'.cp id=W.cp id∧W'.nl id=W.nl id∧(W.hol=true→(∀off,φO t off=φO t0 off)∧W'.hd id=W.hd id)
 hol:W'.hol=W.hol
 ns:W'.ns=W.ns
 sj:W'.sj=W.sj
 vars:∀id,Al id→∀l',ob' id=some (.var l')→∃l,ob id=some (.var l)∧W'.η id=W.η id
section
variable {P:Program} {T:Tab} {E:Env} {B:Base} {Al Al':Nat→Prop} {s s':St} {a:Act} {w w':World} {W W':Wit} {o:Oper} {f:Nat}
 {ob ob':Nat→Option Obj}
theorem φ8n {α β:Type} (lo hi:Option Nat) (xs:List α) (ys:List β) (h:ys.length=xs.length):(cut lo hi ys).length=(cut lo hi xs).length:=by
 rw[φ21,φ21];simp[h]
theorem Turn.vsc (T:Turn Al W W' ob ob' w w') {c:Sc} {v:Value} (hm:∀id,menS c id→Al id) (h:VsC w W ob c v):VsC w' W' ob' c v:=by
 cases c with
 | rd sf t xs=>
  show Rd w' (if sf then W'.J ob' else W'.I) (.sl false t) xs [v]
  have h:Rd w (if sf then W.J ob else W.I) (.sl false t) xs [v]:=h
  cases sf
  ·exact Rd.mono T.I (fun b hb=>T.hJ b (.inl hb)) _ _ _ h
  ·exact Rd.mono T.J T.hJ _ _ _ h
 | bx sf g t x=>
  show Rd w' (if sf then W'.J ob' else W'.I) (.box g t) x [v]
  have h:Rd w (if sf then W.J ob else W.I) (.box g t) x [v]:=h
  cases sf
  ·exact Rd.mono T.I (fun b hb=>T.hJ b (.inl hb)) _ _ _ h
  ·exact Rd.mono T.J T.hJ _ _ _ h
 | own id=>
  intro t xs' ho'
  obtain ⟨t0,xs,ho,hs,hl,hη,hc,hn,_⟩:=T.rows id (hm id rfl) t xs' ho'
  rw[h t0 xs ho,hl];unfold slv;rw[hη,hc,hn]
 | vw id lo hi=>
  intro t xs' ho'
  obtain ⟨t0,xs,ho,hs,hl,hη,hc⟩:=T.rows id (hm id rfl) t xs' ho'
  obtain ⟨A,c,e,k1,k2⟩:=h t0 xs ho
  have:=φ8n lo hi xs xs' hl
  exact ⟨A,c,by rw[this];exact e,by rw[this];exact k1,by rw[this,hη,←hs];exact k2⟩
 | pv id off=>
  obtain ⟨b,e,k⟩:=h
  exact ⟨b,e,fun l' ho'=>by obtain ⟨l,ho,hη⟩:=T.vars id (hm id rfl) l' ho';rw[hη];exact k l ho⟩
 | pe id i off=>
  obtain ⟨b,o',e,k⟩:=h
  refine ⟨b,o',e,fun t xs' ho'=>?_⟩
  obtain ⟨t0,xs,ho,hs,hl,hη,hc⟩:=T.rows id (hm id rfl) t xs' ho'
  rw[hl,hη,←hs];exact k t0 xs ho
 | so id i off=>
  intro hh t xs' ho'
  have hh:W.hol=true:=T.hol ▸ hh
  obtain ⟨t0,xs,ho,hs,hl,hη,hc,hn,hx⟩:=T.rows id (hm id rfl) t xs' ho'
  obtain ⟨hoa,hhd⟩:=hx hh
  rw[hl,hoa,hhd,←hs];exact h hh t0 xs ho
 | pr sf t xs i off=>
  obtain ⟨hi,A,C,e,fr,pre,ces,post,k1,k2,k3,k4,k5,k6⟩:=h
  refine ⟨hi,A,C,e,fr,pre,ces,post,k1,?_,?_,k4,k5,?_⟩
  ·cases sf
   ·exact T.I _ k2
   ·exact T.J _ k2
  ·rw[←k3];cases sf
   ·exact T.hJ _ (.inl k2)
   ·exact T.hJ _ k2
  ·cases sf
   ·exact Ch.mono (fun x cs=>Rd.mono T.I (fun b hb=>T.hJ b (.inl hb)) t x cs) _ _ k6
   ·exact Ch.mono (fun x cs=>Rd.mono T.J T.hJ t x cs) _ _ k6
 | _=>exact h
theorem Turn.vs (T:Turn Al W W' ob ob' w w') {c:Sc} {v:Value} (hm:∀id,menS c id→Al id) (h:Vs w W ob c v):Vs w' W' ob' c v:=⟨h.1,T.vsc hm h.2⟩
theorem Turn.all (T:Turn Al W W' ob ob' w w') {l:List Sc} {vs:List Value} (hm:∀id,menL l id→Al id) (h:All2 (Vs w W ob) l vs):All2 (Vs w' W' ob') l vs:=
 h.imp fun c hc _ k=>T.vs (fun id hid=>hm id ⟨c,hc,hid⟩) k
theorem Turn.av (T:Turn Al W W' ob ob' w w') {r:AV} {v:Value} (hm:∀id,menA r id→Al id) (h:AVr w W ob r v):AVr w' W' ob' r v:=by
 cases r with
 | one c=>exact T.vs hm h
 | agg l=>obtain ⟨vs,e,p⟩:=h;exact ⟨vs,e,T.all hm p⟩
 | tup l=>
  obtain ⟨vs,e,p⟩:=h
  refine ⟨vs,e,p.imp fun q hq u k=>?_⟩
  have hm':∀id,menL q.2 id→Al id:=fun id hid=>hm id ⟨q,hq,hid⟩
  split
  ·rename_i hb;rw[if_pos hb] at k;obtain ⟨us,e',k⟩:=k;exact ⟨us,e',T.all hm' k⟩
  ·rename_i hb;rw[if_neg hb] at k;exact T.all hm' k
def φ3u (w:World) (W:Wit) (ob:Nat→Option Obj) (i:Nat):Obj→Prop
 | .row t xs=>φ27 w W i t xs
 | .var l=>W.nl i=false∧W.nf i=[]∧∃vs e,w.heap[W.η i]?=some (.cells vs.toArray e (0,0))∧All2 (Vs w W ob) l vs
structure Chg (B:Base) (Al Al':Nat→Prop) (C:Nat→Prop) (ob ob':Nat→Option Obj) (W W':Wit) (w w':World):Prop where
 turn:Turn Al W W' ob ob' w w'
 sub:∀i,Al i→Al' i
 kept:∀i,¬C i→ob' i=ob i∧W'.η i=W.η i∧W'.nf i=W.nf i∧W'.cp i=W.cp i∧W'.nl i=W.nl i
 hol:W'.hol=W.hol
 ns:W'.ns=W.ns
 hdK:∀i,¬C i→W'.hd i=W.hd i
 hdN:W.hol=true→∀i,C i→∀t xs,ob' i=some (.row t xs)→W'.nl i=false→∀n off,n<xs.length→φO t off=true→hdOf w' (W'.η i) (n * t.size+off)=W'.hd i (n * t.size+off)
 keptH:∀i,¬C i→(ob i).isSome=true→∀b,b∈fpOf W i→w'.heap[b]?=w.heap[b]?∧¬W'.I b
 newO:∀i,C i→∀x,ob' i=some x→φ3u w' W' ob' i x∧Al' i∧(∀l,x=.var l→∀j,menL l j→Al' j)
 newN:∀i,C i→(ob' i).isSome=true→(fpOf W' i).Nodup
 newI:∀i,C i→(ob' i).isSome=true→∀b,b∈fpOf W' i→¬W'.I b
 newD:∀i j,C i→(ob' i).isSome=true→¬C j→(ob j).isSome=true→∀b,b∈fpOf W' i→b ∉ fpOf W j
 newD2:∀i j,C i→C j→i≠j→(ob' i).isSome=true→(ob' j).isSome=true→∀b,b∈fpOf W' i→b ∉ fpOf W' j
 newT:∀i,C i→(ob' i).isSome=true→W'.nl i=false→B.fpT (W'.η i)∨B.w0.heap.size≤W'.η i
 newF:∀i,C i→(ob' i).isSome=true→∀b,b∈W'.nf i→B.fpT b∨B.fpN b∨B.w0.heap.size≤b
 bnd:∀b,W'.I b→b<w'.heap.size
 os:w'.os=B.w0.os
 tape:w'.tape=B.w0.tape
 output:w'.output=B.w0.output
 grown:B.w0.heap.size≤w'.heap.size
 old:∀b,b<B.w0.heap.size→¬B.fpC b→w'.heap[b]?=B.w0.heap[b]?
 from0:∀b,W'.I b→B.S0 b∨B.fpT b∨B.fpN b∨B.w0.heap.size≤b
theorem φ9a {i:Nat} (h:W'.η i=W.η i∧W'.nf i=W.nf i∧W'.cp i=W.cp i∧W'.nl i=W.nl i):fpOf W' i=fpOf W i:=by unfold fpOf;rw[h.1,h.2.1,h.2.2.2]
theorem Rel.turn {C:Nat→Prop} (h:Rel B Al s a w W) (c:Chg B Al Al' C s.ob ob' W W' w w') {d:Option Nat} {r:AV} {v:Value} (hd:φA B d)
  (hv:AVr w' W' ob' r v) (hm:∀id,menA r id→Al' id):Rel B Al' ⟨updS s.sl (dl d r),ob'⟩ (a.put d v) w' W':=by
 have hC:∀i,C i∨¬C i:=fun i=>Classical.em _
 have keptO:∀i x,¬C i→ob' i=some x→φ3u w' W' ob' i x:=by
  intro i x hi hx
  obtain ⟨k1,k2,k3,k4,k5⟩:=c.kept i hi
  have hx0:s.ob i=some x:=k1 ▸ hx
  have hS:(s.ob i).isSome=true:=by rw[hx0];rfl
  cases x with
  | row t xs=>
   rcases h.row i t xs hx0 with ⟨q1,q2,q3⟩ | ⟨q0,ces,rest,e,q1,q2,q3,q4⟩
   ·exact .inl ⟨k5.trans q1,q2,k3.trans q3⟩
   ·have hb:∀b,b∈W.η i::W.nf i→b∈fpOf W i:=fun b hb=>by simp only[fpOf,q0,cF];exact hb
    refine .inr ⟨k5.trans q0,?_⟩
    rw[k2,k3,k4]
    exact ⟨ces,rest,e,((c.keptH i hi hS (W.η i) (hb _ (κ3 ..))).1).trans q1,q2,q3,
     ChO.mono xs ces (W.nf i) (fun x cs f hf=>Ow.mono c.turn.I (fun b hb=>c.turn.hJ b (.inl hb)) t x cs f (fun b hb'=>(c.keptH i hi hS b (hb _ (mC _ (hf b hb')))).1)) q4⟩
  | var l=>
   obtain ⟨q0,q0',vs,e,q1,q2⟩:=h.var i l hx0
   exact ⟨k5.trans q0,k3.trans q0',vs,e,by rw[k2];exact ((c.keptH i hi hS (W.η i) (by simp[fpOf,q0])).1).trans q1,c.turn.all (fun id hid=>h.mO i l hx0 id hid) q2⟩
 have obj:∀i x,ob' i=some x→φ3u w' W' ob' i x:=fun i x hx=>(hC i).elim (fun hi=>(c.newO i hi x hx).1) fun hi=>keptO i x hi hx
 have slots:∀i,AVr w' W' ob' (s.sl i) (a.tmps.getD i undef):=fun i=>c.turn.av (h.mS i) (h.slots i)
 have hkS:∀i,¬C i→(ob' i).isSome=true→(s.ob i).isSome=true:=fun i hi hx=>by rw[←(c.kept i hi).1];exact hx
 have hfp:∀i,¬C i→fpOf W' i=fpOf W i:=fun i hi=>φ9a (c.kept i hi).2
 have base:Rel B Al' ⟨s.sl,ob'⟩ a w' W':=
  {slots:=slots
   mS:=fun i id k=>c.sub _ (h.mS i id k)
   mO:=fun id l hx j hj=>(hC id).elim (fun hi=>(c.newO id hi _ hx).2.2 l rfl j hj) fun hi=>c.sub _ (h.mO id l ((c.kept id hi).1 ▸ hx) j hj)
   al:=fun id hx=>(hC id).elim (fun hi=>by
    obtain ⟨x,hx⟩:=Option.isSome_iff_exists.1 hx
    exact (c.newO id hi x hx).2.1) fun hi=>c.sub _ (h.al id (hkS id hi hx))
   row:=fun id t xs hx=>obj id _ hx
   var:=fun id l hx=>obj id _ hx
   nod:=fun i hx=>(hC i).elim (fun hi=>c.newN i hi hx) fun hi=>by rw[hfp i hi];exact h.nod i (hkS i hi hx)
   dis:=fun i j hij hx hy b hb=>by
    rcases hC i with hi | hi<;>rcases hC j with hj | hj
    ·exact c.newD2 i j hi hj hij hx hy b hb
    ·rw[hfp j hj];exact c.newD i j hi hx hj (hkS j hj hy) b hb
    ·intro hb';rw[hfp i hi] at hb;exact c.newD j i hj hy hi (hkS i hi hx) b hb' hb
    ·rw[hfp i hi] at hb;rw[hfp j hj];exact h.dis i j hij (hkS i hi hx) (hkS j hj hy) b hb
   imm:=fun i hx b hb=>(hC i).elim (fun hi=>c.newI i hi hx b hb) fun hi=>by rw[hfp i hi] at hb;exact (c.keptH i hi (hkS i hi hx) b hb).2
   bnd:=c.bnd
   def0:=h.def0
   size:=h.size
   pins:=h.pins
   os:=c.os
   tape:=c.tape
   output:=c.output
   grown:=c.grown
   old:=c.old
   ownT:=fun i hx hn=>(hC i).elim (fun hi=>c.newT i hi hx hn) fun hi=>by rw[(c.kept i hi).2.1];rw[(c.kept i hi).2.2.2.2] at hn;exact h.ownT i (hkS i hi hx) hn
   ownN:=fun i hx b hb=>(hC i).elim (fun hi=>c.newF i hi hx b hb) fun hi=>by rw[(c.kept i hi).2.2.1] at hb;exact h.ownN i (hkS i hi hx) b hb
   from0:=c.from0
   hol:=c.hol.trans h.hol
   ns:=c.ns.trans h.ns
   sj:=c.turn.sj.trans h.sj
   sjB:=h.sjB
   hn:=fun hh=>c.ns.trans (h.hn (c.hol ▸ hh))
   cTop:=h.cTop
   cN:=fun hh=>h.cN (c.ns ▸ hh)
   hdr:=fun hh i t xs hx hn n off hl ho=>(hC i).elim (fun hi=>c.hdN (c.hol ▸ hh) i hi t xs hx hn n off hl ho) fun hi=>by
    obtain ⟨k1,k2,k3,k4,k5⟩:=c.kept i hi
    have hx0:s.ob i=some (.row t xs):=k1 ▸ hx
    have hn0:W.nl i=false:=k5 ▸ hn
    have hb:=(c.keptH i hi (by rw[hx0];rfl) (W.η i) (by simp[fpOf,hn0])).1
    rw[c.hdK i hi,k2]
    have:=h.hdr (c.hol ▸ hh) i t xs hx0 hn0 n off hl ho
    unfold hdOf at this ⊢
    rw[hb];exact this }
 exact base.put hd hv hm
end
end Go.Rf
namespace Go.Rf
section
variable {P:Program} {T:Tab} {E:Env} {B:Base} {Al Al':Nat→Prop} {s s':St} {a:Act} {w w':World} {W W':Wit} {o:Oper} {f:Nat}
 {ob ob':Nat→Option Obj} {rs rs':List Key} {u:Upd}
theorem φ6n {b:Nat} {x:Go.Obj} (h:w.heap[b]?=some x):b<w.heap.size:=(Array.getElem?_eq_some_iff.1 h).1
theorem ChO.lt {α:Type} {R:α→List Value→List Nat→Prop}:∀xs cs fp,(∀x cs f,R x cs f→∀b∈f,b<w.heap.size)→ChO R xs cs fp→∀b∈fp,b<w.heap.size
 | [],_,_,_,h,b,hb=>by rw[h.2] at hb;simp at hb
 | _::xs,_,_,hR,⟨c1,c2,f1,f2,e,e',r,h⟩,b,hb=>by
  rw[e'] at hb
  rcases mA.1 hb with k | k
  ·exact hR _ _ _ r b k
  ·exact ChO.lt xs c2 f2 hR h b k
theorem Ow.lt {I:Nat→Prop}:∀(t:Ty) (x:t.den) cs fp,Ow w I t x cs fp→∀b∈fp,b<w.heap.size
 | .int _,_,_,_,h,b,hb=>by rw[h.2] at hb;simp at hb
 | .bool,_,_,_,h,b,hb=>by rw[h.2] at hb;simp at hb
 | .str,_,_,_,h,b,hb=>by rw[h.2] at hb;simp at hb
 | .sl false _,_,_,_,h,b,hb=>by rw[h.2] at hb;simp at hb
 | .box _ _,_,_,_,h,b,hb=>by rw[h.2] at hb;simp at hb
 | .sl true t,x,_,_,h,b,hb=>by
  rcases h with ⟨_,_,e⟩ | ⟨g,c,f,e1,e2,ces,rest,el,h1,_,_,h4⟩
  ·rw[e] at hb;simp at hb
  ·subst e2
   rcases mc.1 hb with k | k
   ·subst k;exact φ6n h1
   ·exact ChO.lt _ _ _ (fun x cs f k=>Ow.lt t x cs f k) h4 b k
 | .pair a c,x,_,_,⟨c1,c2,f1,f2,e,e',h,h'⟩,b,hb=>by
  rw[e'] at hb
  rcases mA.1 hb with k | k
  ·exact Ow.lt a _ _ _ h b k
  ·exact Ow.lt c _ _ _ h' b k
theorem Rel.lt (h:Rel B Al s a w W) {i:Nat} (hi:(s.ob i).isSome=true):∀b∈fpOf W i,b<w.heap.size:=by
 obtain ⟨x,hx⟩:=Option.isSome_iff_exists.1 hi
 intro b hb
 cases x with
 | row t xs=>exact Ow.lt _ _ _ _ (h.rowOw hx) b hb
 | var l=>
  obtain ⟨hn,h0,vs,e,h1,_⟩:=h.var i l hx
  simp only[fpOf,hn,h0,cF,mZ] at hb
  subst hb;exact φ6n h1
theorem Rel.nfFp (h:Rel B Al s a w W) {i b:Nat} (hi:(s.ob i).isSome=true) (hb:b∈W.nf i):b∈fpOf W i:=by
 obtain ⟨x,hx⟩:=Option.isSome_iff_exists.1 hi
 cases x with
 | row t xs=>
  rcases h.row i t xs hx with ⟨_,_,e⟩ | ⟨e,_⟩
  ·rw[e] at hb;simp at hb
  ·simp only[fpOf,e,cF];exact mC _ hb
 | var l=>obtain ⟨_,h0,_⟩:=h.var i l hx;rw[h0] at hb;simp at hb
theorem φ2T {i b:Nat} (hb:b∈fpOf W i):W.nl i=false∧(b=W.η i∨b∈W.nf i):=by
 unfold fpOf at hb
 cases e:W.nl i<;>rw[e] at hb<;>simp at hb
 exact ⟨rfl,hb⟩
theorem η_fp {i:Nat} (h:W.nl i=false):W.η i∈fpOf W i:=by simp[fpOf,h]
theorem Rel.Jlt (h:Rel B Al s a w W) {b:Nat} (hb:W.J s.ob b):b<w.heap.size:=by
 rcases hb with hb | hb | ⟨_,i,hi,hb⟩
 ·exact h.bnd b hb
 ·rw[h.sj] at hb;exact κ7 (h.sjB b hb).1 h.grown
 ·exact h.lt hi b (h.nfFp hi hb)
theorem φA2 {α:Type} (g:Nat→α):updS g []=g:=rfl
theorem φ4S (ob:Nat→Option Obj) (k:Nat) (v:Option Obj):∀(ids:List Nat) (j:Nat),updS ob (gone ids++[(k,v)]) j=if j=k then v else if j∈ids then none else ob j:=by
 intro ids
 induction ids generalizing ob with
 | nil=>
  intro j
  show upd ob k v j=_
  by_cases h:j=k
  ·subst h;rw[φb,if_pos rfl]
  ·rw[φV _ _ h,if_neg h];simp
 | cons i ids ih=>
  intro j
  show updS (upd ob i none) (gone ids++[(k,v)]) j=_
  rw[ih]
  by_cases h:j=k
  ·rw[if_pos h,if_pos h]
  ·rw[if_neg h,if_neg h]
   by_cases h2:j∈ids
   ·rw[if_pos h2,if_pos (mC _ h2)]
   ·rw[if_neg h2]
    by_cases h3:j=i
    ·subst h3;rw[φb,if_pos (κ3 ..)]
    ·rw[φV _ _ h3,if_neg (by simp[h2,h3])]
theorem φAD {α:Type} (g:Nat→α) (i j:Nat) (v:α):upd g i v j=if j=i then v else g j:=by
 by_cases h:j=i
 ·subst h;rw[φb,if_pos rfl]
 ·rw[φV _ _ h,if_neg h]
theorem Rel.newVar (h:Rel B Al s a w W) (hf:¬Al f) (hA:∀i,Al i→Al' i) (hf':Al' f) {d:Option Nat} (hd:φA B d) {l:List Sc} {cs:List Value} {e:TypeId}
  (hl:All2 (Vs w W s.ob) l cs) (hm:∀id,menL l id→Al id) :
  ∃W',Rel B Al' (s.up ⟨dl d (.one (.pv f 0)),[(f,some (.var l))]⟩) (a.put d (pt w.heap.size 0)) (w.alloc (.cells cs.toArray e)) W':=by
 let W':Wit:={ W with η:=upd W.η f w.heap.size,nf:=upd W.nf f [],nl:=upd W.nl f false }
 have ne:∀i,Al i→i≠f:=fun i hi e=>hf (e ▸ hi)
 have hη:∀i,i≠f→W'.η i=W.η i:=fun i hi=>φV _ _ hi
 have hnf:∀i,i≠f→W'.nf i=W.nf i:=fun i hi=>φV _ _ hi
 have hηf:W'.η f=w.heap.size:=φb _ _ _
 have hnff:W'.nf f=[]:=φb _ _ _
 have hnl:∀i,i≠f→W'.nl i=W.nl i:=fun i hi=>φV _ _ hi
 have hnlf:W'.nl f=false:=φb _ _ _
 have hfpf:fpOf W' f=[w.heap.size]:=by unfold fpOf;rw[hnlf,hηf,hnff];rfl
 have hob:∀i,i≠f→updS s.ob [(f,some (.var l))] i=s.ob i:=fun i hi=>φV _ _ hi
 have hobf:updS s.ob [(f,some (.var l))] f=some (.var l):=φb _ _ _
 have hold:∀b,b<w.heap.size→(w.alloc (.cells cs.toArray e)).heap[b]?=w.heap[b]?:=fun b hb=>heap_alloc_old w _ b hb
 have turn:Turn Al W W' s.ob (updS s.ob [(f,some (.var l))]) w (w.alloc (.cells cs.toArray e)):=
  {I:=fun b hb=>hb
   J:=fun b hb=>by
    rcases hb with hb | hb | ⟨hh,i,hi,hb⟩
    ·exact .inl hb
    ·exact .inr (.inl hb)
    ·have:=ne i (h.al i hi)
     exact .inr (.inr ⟨hh,i,by rw[hob i this];exact hi,by rw[hnf i this];exact hb⟩)
   hJ:=fun b hb=>hold b (h.Jlt hb)
   rows:=fun id hid t xs' hx=>by
    rw[hob id (ne id hid)] at hx
    exact ⟨_,xs',hx,rfl,rfl,hη id (ne id hid),rfl,hnl id (ne id hid),fun _=>⟨fun _=>rfl,rfl⟩⟩
   hol:=rfl
   sj:=rfl
   ns:=rfl
   vars:=fun id hid l' hx=>by
    rw[hob id (ne id hid)] at hx
    exact ⟨l',hx,hη id (ne id hid)⟩ }
 refine ⟨W',h.turn (C:=fun i=>i=f)
  {turn:=turn
   sub:=hA
   kept:=fun i hi=>⟨hob i hi,hη i hi,hnf i hi,rfl,hnl i hi⟩
   keptH:=fun i hi hS b hb=>⟨hold b (h.lt hS b hb),h.imm i hS b hb⟩
   newO:=fun i hi x hx=>by
    subst hi
    rw[hobf] at hx
    simp only[Option.some.injEq] at hx
    subst hx
    refine ⟨⟨hnlf,hnff,cs,e,by rw[hηf];exact heap_alloc_new w _,turn.all hm hl⟩,hf',fun l' hl' j hj=>?_⟩
    simp only[Obj.var.injEq] at hl'
    subst hl'
    exact hA _ (hm j hj)
   newN:=fun i hi _=>by subst hi;rw[hfpf];simp
   newI:=fun i hi _ b hb=>by
    subst hi;rw[hfpf] at hb;simp at hb;subst hb
    exact fun k=>Nat.lt_irrefl _ (h.bnd _ k)
   newD:=fun i j hi _ hj hS b hb hb'=>by
    subst hi;rw[hfpf] at hb;simp at hb;subst hb
    exact Nat.lt_irrefl _ (h.lt hS _ hb')
   newD2:=fun i j hi hj hij=>absurd (hi.trans hj.symm) hij
   newT:=fun i hi _ _=>by subst hi;rw[hηf];exact .inr h.grown
   newF:=fun i hi _ b hb=>by subst hi;rw[hnff] at hb;simp at hb
   bnd:=fun b hb=>by have:=h.bnd b hb;simp;omega
   os:=h.os
   tape:=h.tape
   output:=h.output
   grown:=by have:=h.grown;simp;omega
   old:=fun b hb hn=>(hold b (κ7 hb h.grown)).trans (h.old b hb hn)
   from0:=h.from0
   hol:=rfl
   ns:=rfl
   hdK:=fun _ _=>rfl
   hdN:=fun _ i hi t xs hx=>by subst hi;rw[hobf] at hx;simp at hx } hd ⟨fun _=>rfl,?_⟩ ?_⟩
 ·refine ⟨w.heap.size,rfl,fun l' _=>hηf.symm⟩
 ·intro id hid
  have:f=id:=hid
  subst this;exact hf'
theorem φa {ids:List Nat} {b:Nat}:b∈blk W ids↔∃i∈ids,b∈fpOf W i:=by simp[blk]
theorem Rel.putRow (h:Rel B Al s a w W) (hA:∀i,Al i→Al' i) (hf':Al' f) {ids:List Nat} (hids:∀i∈ids,(s.ob i).isSome=true)
  {t:Ty} {xs:List t.den} {n0:Bool} {g c:Nat} {fp fr:List Nat}
  (hf:¬Al f∨(f∈ids∧∃xs0:List t.den,s.ob f=some (.row t xs0)∧xs.length=xs0.length∧g=W.η f∧c=W.cp f∧n0=W.nl f))
  (cons:∀b,b∈fp∨b∈fr→∃i∈ids,b∈fpOf W i) (cov:∀i∈ids,∀b∈W.nf i,b∈fp∨b∈fr) (nd:(bif n0 then [] else g::fp).Nodup) (nd2:∀b∈fr,b ∉ (bif n0 then [] else g::fp))
  (hg:n0=false→g=w.heap.size∨∃i∈ids,W.nl i=false∧g=W.η i) (hp:∀b,b<w.heap.size→(n0=true∨b≠g)→w'.heap[b]?=w.heap[b]?) (hsz:w.heap.size≤w'.heap.size)
  (hr:(n0=true∧xs=[]∧fp=[])∨(n0=false∧φ2B w' (Ow w' (plus W.I fr) t) t.size xs g c fp)) (ho:w'.os=w.os) (htp:w'.tape=w.tape) (hou:w'.output=w.output)
  (hhd:W.hol=true→Al f→n0=false→∀n off,n<xs.length→φO t off=true→hdOf w' g (n * t.size+off)=W.hd f (n * t.size+off))
  {ob':Nat→Option Obj} (hob:∀j,ob' j=if j=f then some (.row t xs) else if j∈ids then none else s.ob j) :
  ∃W',∀d r v,φA B d→((r=.one (.own f)∧v=bif n0 then .slice none 0 0 else .slice (some ⟨g,0,none⟩) xs.length c)∨r=.one .undef)→Rel B Al' ⟨updS s.sl (dl d r),ob'⟩ (a.put d v) w' W':=by
 let W':Wit:={ I:=plus W.I fr,η:=upd W.η f g,nf:=upd W.nf f fp,cp:=upd W.cp f c,nl:=upd W.nl f n0,ns:=W.ns,hol:=W.hol,sj:=W.sj,hd:=upd W.hd f fun z=>@ite _ (Al f) (Classical.propDecidable _) (W.hd f z) (hdOf w' g z) }
 have hη:∀i,i≠f→W'.η i=W.η i:=fun i hi=>φV _ _ hi
 have hnf:∀i,i≠f→W'.nf i=W.nf i:=fun i hi=>φV _ _ hi
 have hcp:∀i,i≠f→W'.cp i=W.cp i:=fun i hi=>φV _ _ hi
 have hnl:∀i,i≠f→W'.nl i=W.nl i:=fun i hi=>φV _ _ hi
 have hηf:W'.η f=g:=φb _ _ _
 have hnff:W'.nf f=fp:=φb _ _ _
 have hcpf:W'.cp f=c:=φb _ _ _
 have hnlf:W'.nl f=n0:=φb _ _ _
 have hhN:∀i,i≠f→W'.hd i=W.hd i:=fun i hi=>φV _ _ hi
 have hhF:W'.hd f=fun z=>@ite _ (Al f) (Classical.propDecidable _) (W.hd f z) (hdOf w' g z):=φb _ _ _
 have hfpf:fpOf W' f=(bif n0 then [] else g::fp):=by unfold fpOf;rw[hnlf,hηf,hnff]
 have hobf:ob' f=some (.row t xs):=by rw[hob,if_pos rfl]
 have hobC:∀i,¬(i∈ids∨i=f)→ob' i=s.ob i:=fun i hi=>by rw[hob,if_neg (fun e=>hi (.inr e)),if_neg (fun e=>hi (.inl e))]
 have hobN:∀i,i≠f→∀x,ob' i=some x→i ∉ ids∧s.ob i=some x:=fun i hi x hx=>by
  rw[hob,if_neg hi] at hx
  split at hx
  ·simp at hx
  ·rename_i k;exact ⟨k,hx⟩
 have notI:∀b,b∈fp∨b∈fr→¬W.I b:=fun b hb k=>by
  obtain ⟨i,hi,hbi⟩:=cons b hb
  exact h.imm i (hids i hi) b hbi k
 have gI:n0=false→¬W.I g:=fun h0 k=>by
  rcases hg h0 with e | ⟨i,hi,hn,e⟩
  ·rw[e] at k;exact Nat.lt_irrefl _ (h.bnd _ k)
  ·exact h.imm i (hids i hi) g (by rw[e];exact η_fp hn) k
 have gJ:∀b,W.J s.ob b→n0=true∨b≠g:=fun b hb=>by
  cases h0:n0 with
  | true=>exact .inl rfl
  | false=>
   refine .inr fun e=>?_
   subst e
   rcases hb with k | k | ⟨_,j,hj,k⟩
   ·exact gI h0 k
   ·rw[h.sj] at k
    obtain ⟨k1,k2,_⟩:=h.sjB _ k
    have hgr:=h.grown
    rcases hg h0 with e | ⟨i,hi,hn,e⟩
    ·omega
    ·rcases h.ownT i (hids i hi) hn with q | q
     ·exact k2 (e ▸ q)
     ·rw[←e] at q;omega
   ·rcases hg h0 with e | ⟨i,hi,hn,e⟩
    ·have:=h.lt hj _ (h.nfFp hj k);omega
    ·by_cases hij:i=j
     ·subst hij
      have:=h.nod i hj
      simp only[fpOf,hn,cF,κC] at this
      exact this.1 (e ▸ k)
     ·exact h.dis i j hij (hids i hi) hj b (by rw[e];exact η_fp hn) (h.nfFp hj k)
 have turn:Turn Al W W' s.ob ob' w w':=
  {I:=fun b hb=>.inl hb
   J:=fun b hb=>by
    rcases hb with hb | hb | ⟨hh,i,hi,hb⟩
    ·exact .inl (.inl hb)
    ·exact .inr (.inl hb)
    ·by_cases hi2:i∈ids
     ·rcases cov i hi2 b hb with k | k
      ·exact .inr (.inr ⟨hh,f,by rw[hobf];rfl,by rw[hnff];exact k⟩)
      ·exact .inl (.inr k)
     ·have hif:i≠f:=fun e=>by
       subst e
       rcases hf with k | ⟨k,_⟩
       ·exact k (h.al i hi)
       ·exact hi2 k
      exact .inr (.inr ⟨hh,i,by rw[hobC i (by simp[hi2,hif])];exact hi,by rw[hnf i hif];exact hb⟩)
   hJ:=fun b hb=>hp b (h.Jlt hb) (gJ b hb)
   rows:=fun id hid t2 xs' hx=>by
    by_cases e:id=f
    ·subst e
     rcases hf with k | ⟨_,xs0,k1,k2,k3,k4,k5⟩
     ·exact absurd hid k
     ·rw[hobf] at hx
      simp only[Option.some.injEq,Obj.row.injEq] at hx
      obtain ⟨rfl,hx⟩:=hx
      have hx:=eq_of_heq hx
      subst hx
      exact ⟨_,xs0,k1,rfl,k2,hηf.trans k3,hcpf.trans k4,hnlf.trans k5,fun _=>⟨fun _=>rfl,by rw[hhF];funext z;rw[if_pos hid]⟩⟩
    ·exact ⟨_,xs',(hobN id e _ hx).2,rfl,rfl,hη id e,hcp id e,hnl id e,fun _=>⟨fun _=>rfl,hhN id e⟩⟩
   hol:=rfl
   sj:=rfl
   ns:=rfl
   vars:=fun id hid l' hx=>by
    by_cases e:id=f
    ·subst e;rw[hobf] at hx;simp at hx
    ·exact ⟨l',(hobN id e _ hx).2,hη id e⟩ }
 have gNew:∀j,j ∉ ids→(s.ob j).isSome=true→∀b∈fpOf W j,n0=true∨b≠g:=fun j hj hS b hb=>by
  cases h0:n0 with
  | true=>exact .inl rfl
  | false=>
   refine .inr fun e=>?_
   subst e
   rcases hg h0 with e | ⟨i,hi,hn,e⟩
   ·have:=h.lt hS _ hb;omega
   ·exact h.dis i j (fun e=>hj (e ▸ hi)) (hids i hi) hS b (by rw[e];exact η_fp hn) hb
 have keptD:∀j,j ∉ ids→(s.ob j).isSome=true→∀b∈fpOf W j,¬(b∈fp∨b∈fr):=fun j hj hS b hb k=>by
  obtain ⟨i,hi,hbi⟩:=cons b k
  exact h.dis i j (fun e=>hj (e ▸ hi)) (hids i hi) hS b hbi hb
 have fromC:∀b,b∈fp∨b∈fr→B.fpT b∨B.fpN b∨B.w0.heap.size≤b:=fun b hb=>by
  obtain ⟨i,hi,hbi⟩:=cons b hb
  obtain ⟨hn,k | k⟩:=φ2T hbi
  ·rw[k];exact (h.ownT i (hids i hi) hn).imp id .inr
  ·exact h.ownN i (hids i hi) b k
 have gT:n0=false→B.fpT g∨B.w0.heap.size≤g:=fun h0=>by
  rcases hg h0 with e | ⟨i,hi,hn,e⟩
  ·rw[e];exact .inr h.grown
  ·rw[e];exact h.ownT i (hids i hi) hn
 have inF:∀b,b∈fpOf W' f→n0=false∧(b=g∨b∈fp):=fun b hb=>by
  rw[hfpf] at hb
  cases h0:n0<;>rw[h0] at hb<;>simp at hb
  exact ⟨rfl,hb⟩
 have hfin:=fun (d:Option Nat) (r:AV) (v:Value) (hd:φA B d)=>h.turn (C:=fun i=>i∈ids∨i=f) (Al':=Al') (W':=W') (w':=w') (ob':=ob') (r:=r) (v:=v)
  {turn:=turn
   sub:=hA
   kept:=fun i hi=>⟨hobC i hi,hη i (fun e=>hi (.inr e)),hnf i (fun e=>hi (.inr e)),hcp i (fun e=>hi (.inr e)),hnl i (fun e=>hi (.inr e))⟩
   keptH:=fun i hi hS b hb=>⟨hp b (h.lt hS b hb) (gNew i (fun k=>hi (.inl k)) hS b hb),fun k=>k.elim (h.imm i hS b hb) fun k=>keptD i (fun k=>hi (.inl k)) hS b hb (.inr k)⟩
   newO:=fun i hi x hx=>by
    by_cases e:i=f
    ·subst e
     rw[hobf] at hx
     simp only[Option.some.injEq] at hx
     subst hx
     refine ⟨?_,hf',fun l hl=>by simp at hl⟩
     show φ27 w' W' i t xs
     unfold φ27
     rw[hηf,hnff,hcpf,hnlf]
     exact hr
    ·exact absurd (hi.resolve_right e) (hobN i e x hx).1
   newN:=fun i hi hS=>by
    obtain ⟨x,hx⟩:=Option.isSome_iff_exists.1 hS
    by_cases e:i=f
    ·subst e;rw[hfpf];exact nd
    ·exact absurd (hi.resolve_right e) (hobN i e x hx).1
   newI:=fun i hi hS b hb=>by
    obtain ⟨x,hx⟩:=Option.isSome_iff_exists.1 hS
    by_cases e:i=f
    ·subst e
     obtain ⟨h0,hb2⟩:=inF b hb
     rintro (k | k)
     ·rcases hb2 with q | q
      ·exact gI h0 (q ▸ k)
      ·exact notI b (.inl q) k
     ·rw[hfpf] at hb;exact nd2 b k hb
    ·exact absurd (hi.resolve_right e) (hobN i e x hx).1
   newD:=fun i j hi hS hj hSj b hb hb'=>by
    obtain ⟨x,hx⟩:=Option.isSome_iff_exists.1 hS
    by_cases e:i=f
    ·subst e
     obtain ⟨h0,q | q⟩:=inF b hb
     ·rcases gNew j (fun k=>hj (.inl k)) hSj b hb' with k | k
      ·rw[h0] at k;simp at k
      ·exact k q
     ·exact keptD j (fun k=>hj (.inl k)) hSj b hb' (.inl q)
    ·exact absurd (hi.resolve_right e) (hobN i e x hx).1
   newD2:=fun i j hi hj hij hS hS'=>by
    obtain ⟨x,hx⟩:=Option.isSome_iff_exists.1 hS
    obtain ⟨y,hy⟩:=Option.isSome_iff_exists.1 hS'
    by_cases e:i=f
    ·by_cases e':j=f
     ·exact absurd (e.trans e'.symm) hij
     ·exact absurd (hj.resolve_right e') (hobN j e' y hy).1
    ·exact absurd (hi.resolve_right e) (hobN i e x hx).1
   newT:=fun i hi hS hn=>by
    obtain ⟨x,hx⟩:=Option.isSome_iff_exists.1 hS
    by_cases e:i=f
    ·subst e;rw[hηf];exact gT (hnlf.symm.trans hn)
    ·exact absurd (hi.resolve_right e) (hobN i e x hx).1
   newF:=fun i hi hS b hb=>by
    obtain ⟨x,hx⟩:=Option.isSome_iff_exists.1 hS
    by_cases e:i=f
    ·subst e;rw[hnff] at hb;exact fromC b (.inl hb)
    ·exact absurd (hi.resolve_right e) (hobN i e x hx).1
   bnd:=fun b hb=>by
    rcases hb with k | k
    ·exact κ7 (h.bnd b k) hsz
    ·obtain ⟨i,hi,hbi⟩:=cons b (.inr k)
     exact κ7 (h.lt (hids i hi) b hbi) hsz
   os:=ho.trans h.os
   tape:=htp.trans h.tape
   output:=hou.trans h.output
   grown:=Nat.le_trans h.grown hsz
   old:=fun b hb hn=>by
    rw[hp b (κ7 hb h.grown) ?_]
    ·exact h.old b hb hn
    ·cases h0:n0 with
     | true=>exact .inl rfl
     | false=>
      refine .inr ?_
      rintro rfl
      rcases gT h0 with k | k
      ·exact hn (h.cTop _ k)
      ·omega
   from0:=fun b hb=>by
    rcases hb with k | k
    ·exact h.from0 b k
    ·exact .inr (fromC b (.inr k))
   hol:=rfl
   ns:=rfl
   hdK:=fun i hi=>hhN i fun e=>hi (.inr e)
   hdN:=fun hh i hi t2 xs2 hx hn n off hl ho=>by
    by_cases e:i=f
    ·subst e
     rw[hobf] at hx
     simp only[Option.some.injEq,Obj.row.injEq] at hx
     obtain ⟨rfl,hx⟩:=hx
     have hx:=eq_of_heq hx
     subst hx
     rw[hηf,hhF]
     show hdOf w' g (n * t.size+off)=@ite _ (Al i) (Classical.propDecidable _) (W.hd i (n * t.size+off)) (hdOf w' g (n * t.size+off))
     by_cases ha:Al i
     ·rw[if_pos ha];exact hhd hh ha (hnlf.symm.trans hn) n off hl ho
     ·rw[if_neg ha]
    ·exact absurd (hi.resolve_right e) (hobN i e _ hx).1 } hd
 refine ⟨W',fun d r v hd hrv=>hfin d r v hd ?_ ?_⟩
 ·rcases hrv with ⟨rfl,rfl⟩ | rfl
  ·refine ⟨fun _=>by cases n0<;>rfl,?_⟩
   intro t2 xs2 h2
   rw[hobf] at h2
   simp only[Option.some.injEq,Obj.row.injEq] at h2
   obtain ⟨rfl,h2⟩:=h2
   have h2:=eq_of_heq h2
   subst h2
   unfold slv
   rw[hηf,hcpf,hnlf]
  ·exact ⟨fun k=>by simp[φL] at k,trivial⟩
 ·rcases hrv with ⟨rfl,rfl⟩ | rfl
  ·intro id hid
   have:f=id:=hid
   subst this;exact hf'
  ·exact fun id hid=>hid.elim
theorem Rel.newRow (h:Rel B Al s a w W) (hf:¬Al f) (hA:∀i,Al i→Al' i) (hf':Al' f) {d:Option Nat} (hd:φA B d) {ids:List Nat} (hids:∀i∈ids,(s.ob i).isSome=true)
  {t:Ty} {xs:List t.den} {g c:Nat} {fp fr:List Nat}
  (cons:∀b,b∈fp∨b∈fr→∃i∈ids,b∈fpOf W i) (cov:∀i∈ids,∀b∈W.nf i,b∈fp∨b∈fr) (nd:(g::fp).Nodup) (nd2:∀b∈fr,b ∉ g::fp)
  (hg:g=w.heap.size∨∃i∈ids,W.nl i=false∧g=W.η i) (hp:∀b,b<w.heap.size→b≠g→w'.heap[b]?=w.heap[b]?) (hsz:w.heap.size≤w'.heap.size)
  (hr:φ2B w' (Ow w' (plus W.I fr) t) t.size xs g c fp) (ho:w'.os=w.os) (htp:w'.tape=w.tape) (hou:w'.output=w.output) :
  ∃W',Rel B Al' (s.up ⟨dl d (.one (.own f)),gone ids++[(f,some (.row t xs))]⟩) (a.put d (.slice (some ⟨g,0,none⟩) xs.length c)) w' W':=by
 obtain ⟨W',hR⟩:=h.putRow (f:=f) (n0:=false) (g:=g) (c:=c) (w':=w') hA hf' hids (.inl hf) cons cov nd nd2 (fun _=>hg) (fun b hb k=>hp b hb (k.resolve_left (by simp))) hsz (.inr ⟨rfl,hr⟩) ho htp hou (fun _ k=>absurd k hf) (φ4S s.ob f _ ids)
 exact ⟨W',hR d _ _ hd (.inl ⟨rfl,rfl⟩)⟩
end
end Go.Rf
