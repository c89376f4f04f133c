import Derived.Test.YtakpldeobnelfaaGreatDoorLHintsUnseenLem3
namespace Go.Rf.G
open Go Go.Rf
set_option linter.unusedVariables false
set_option linter.unusedSimpArgs false
set_option synthInstance.maxSize 4000
def regEnd (l:List PlaceT) (g:GroupT):GroupT:=if g.2.2=0∧0<(ownL 5 0 l).length then (g.1,g.2.1,1) else g
def regroup (g:GroupT) (l:List PlaceT):GroupT:=regEnd l (regGo [] l g)
theorem regStep_len (pre:List PlaceT) (p:PlaceT) (g:GroupT):(regStep pre p g).1.length≤g.1.length+pre.length:=by
 unfold regStep
 have h1:=applyD_len (ownL p.2.2.2.1 p.2.2.2.2.1 pre) g.1
 have h2:=ownL_len p.2.2.2.1 p.2.2.2.2.1 pre
 simp only
 split
 ·split
  ·show (applyD g.1 (ownL p.2.2.2.1 p.2.2.2.2.1 pre)).length≤_;omega
  ·split<;>exact Nat.le_add_right _ _
 ·exact Nat.le_add_right _ _
theorem regStep_code (pre:List PlaceT) (p:PlaceT) (g:GroupT) (h:g.2.2=0) (hc:(regStep pre p g).2.2=0):(regStep pre p g).1.length≤max g.1.length 20:=by
 unfold regStep at hc ⊢
 simp only at hc ⊢
 split
 ·rename_i c
  rw[if_pos c] at hc
  split
  ·rename_i c2
   rw[if_pos c2] at hc
   have hc:codeD (applyD g.1 (ownL p.2.2.2.1 p.2.2.2.2.1 pre)) g.2.2=0:=hc
   show (applyD g.1 (ownL p.2.2.2.1 p.2.2.2.2.1 pre)).length≤_
   unfold codeD at hc
   split at hc
   ·simp at hc
   ·omega
  ·split<;>exact Nat.le_max_left _ _
 ·exact Nat.le_max_left _ _
def regF (l:List PlaceT):List PlaceT→List PlaceT→GroupT→(List PlaceT×GroupT×GroupT) ⊕ GroupT
 | _,[],g=>.inl (l,([],0,0),g)
 | pre,p::r,g=>if g.2.2≠0 then .inr g else regF l (pre++[p]) r (regStep pre p g)
theorem regF_go (l:List PlaceT):∀(r pre:List PlaceT) (g:GroupT),regF l pre r g=.inl (l,([],0,0),regGo pre r g)∨(regF l pre r g=.inr (regGo pre r g)∧(regGo pre r g).2.2≠0)
 | [],pre,g=>.inl rfl
 | p::r,pre,g=>by
  unfold regF regGo
  by_cases c:g.2.2≠0
  ·rw[if_pos c,if_pos c];exact .inr ⟨rfl,c⟩
  ·rw[if_neg c,if_neg c];exact regF_go l r _ _
def regInv (g:GroupT):Prop:=g.1.length≤(if g.2.2=0 then 1000020 else 11000020)
theorem regInv_step {pre:List PlaceT} {p:PlaceT} {g:GroupT} (h:regInv g) (hc:g.2.2=0) (hp:pre.length<10000000):regInv (regStep pre p g):=by
 unfold regInv at h ⊢
 rw[if_pos hc] at h
 split
 ·rename_i c
  have:=regStep_code pre p g hc c
  omega
 ·have:=regStep_len pre p g
  omega
theorem impl_Regroup_l0 (l:List PlaceT) (hl:l.length<10000000) (g0:GroupT) (hg:regInv g0) :
  lp ψd.l0 (l,([],0,0),g0,l,(l.length:Int),0)=some (regF l [] l g0):=by
 have key:=lp_up (step:=ψd.l0) (fun n (g:GroupT)=>(l,(([],0,0):GroupT),g,l,(l.length:Int),(n:Int))) l.length (fun n g=>regF l (l.take n) (l.drop n) g) (fun _ g=>regInv g)
  (fun rec n g hn hi ih=>by
   rcases Nat.lt_or_ge n l.length with h | h
   ·have hw:=w64_succ (show n+1<9223372036854775808 by omega)
    have htl:(l.take n).length=n:=by rw[List.length_take];omega
    rw[List.drop_eq_getElem_cons h]
    unfold regF
    obtain ⟨⟨sg,at_,ln,k,b,key,v,c,z⟩,hp⟩:∃p,l[n]=p:=⟨_,rfl⟩
    have hr:rdA zPlace l (n:Int)=(sg,at_,ln,k,b,key,v,c,z):=by rw[rdA_nat,getD_lt h,hp]
    have hx:inB (n:Int) l.length=true:=by rw[inB_nat,decide_eq_true h]
    have ht:l.take n++[(sg,at_,ln,k,b,key,v,c,z)]=l.take (n+1):=by rw[←hp];exact (List.take_succ_eq_append_getElem h).symm
    by_cases c0:g.2.2=0
    rotate_left
    ·rw[if_pos c0]
     have d0:(g.2.2 != 0)=true:=by simpa using c0
     simp only[ψd.l0,Int.ofNat_lt,h,decide_true,cond_true,hx,d0,Option.bind_some,caseS_r]
    rw[if_neg (fun z=>z c0),hp]
    have d0:(g.2.2 != 0)=false:=by simpa using c0
    have hs:=ih (regStep (l.take n) (sg,at_,ln,k,b,key,v,c,z) g) h (regInv_step hi c0 (by omega))
    rw[ht]
    rw[←hs]
    have hg1:g.1.length<100000000:=by unfold regInv at hi;rw[if_pos c0] at hi;omega
    have hin:(decide (0≤(n:Int)) && decide ((n:Int)≤(l.length:Int)))=true:=by simp only[Bool.and_eq_true,decide_eq_true_eq];omega
    have how:=impl_ownOf_eq (l.take n) (k,b,key,v,c,z) (by omega)
    have hol:=ownL_len k b (l.take n)
    have hft:=impl_fits_eq (k,b,key,v,c,z) (ownL k b (l.take n)) (by omega)
    have hap:=fun last=>impl_apply_eq (g.1,last,g.2.2) (ownL k b (l.take n)) hg1 (by omega)
    simp only[ψd.l0,Int.ofNat_lt,h,decide_true,cond_true,hx,hr,d0,cond_false]
    unfold regStep
    simp only
    by_cases c3:k=3
    ·subst c3
     simp only[bne_self_eq_false,cond_false,Option.bind_some,caseS_l,hin,cond_true,Int.toNat_natCast,how,hft,true_or,if_true,show ¬((3:Int)=5) by decide,if_false,show ((3:Int)==5)=false from rfl]
     cases fitsR (3,b,key,v,c,z) ((ownL 3 b (l.take n)).map (·.2.2.2))
     ·simp only[cond_false,Option.bind_some,caseS_l,hw,Bool.false_eq_true,if_false]
     ·simp only[cond_true,hap,Option.bind_some,caseS_l,hw,if_true]
    ·have d3:(k != 3)=true:=by simpa using c3
     simp only[d3,cond_true,c3,false_or]
     by_cases c5:k=5
     ·subst c5
      simp only[bne_self_eq_false,cond_false,Option.bind_some,caseS_l,hin,cond_true,Int.toNat_natCast,how,hft,if_true,beq_self_eq_true]
      cases fitsR (5,b,key,v,c,z) ((ownL 5 b (l.take n)).map (·.2.2.2))
      ·simp only[cond_false,Option.bind_some,caseS_l,hw,Bool.false_eq_true,if_false]
      ·simp only[cond_true,hap,Option.bind_some,caseS_l,hw,if_true]
     ·have d5:(k != 5)=true:=by simpa using c5
      simp only[d5,cond_true,c5,if_false,Option.bind_some,caseS_r,caseS_l,hw]
   ·have:n=l.length:=by omega
    subst this
    simp only[ψd.l0,Int.lt_irrefl,decide_false,cond_false,List.take_length,List.drop_length,regF])
  (by omega) 0 g0 (Nat.zero_le _) hg
 exact key
theorem impl_Regroup_eq (g:GroupT) (l:List PlaceT) (hl:l.length<10000000) (hg:regInv g):ψd.f g l=some (regroup g l):=by
 have hg1:g.1.length<1000000000:=by unfold regInv at hg;split at hg<;>omega
 unfold ψd.f
 rw[impl_copyDir_eq g.1 hg1,Option.bind_some,impl_Regroup_l0 l hl (g.1,g.2) hg,Option.bind_some]
 unfold regroup regEnd
 rcases regF_go l l [] g with e | ⟨e,hc⟩
 ·rw[show ((g.1,g.2):GroupT)=g from rfl,e]
  simp only[caseS_l]
  by_cases c:(regGo [] l g).2.2=0
  ·have d:((regGo [] l g).2.2==0)=true:=by simpa using c
   have ho:=impl_ownOf_eq l (5,0,[],[],0,0) (by omega)
   simp only[d,cond_true,ho,Option.bind_some]
   by_cases c2:0<(ownL 5 0 l).length
   ·have d2:decide (((ownL 5 0 l).length:Int) > 0)=true:=by simp;omega
    rw[d2,if_pos ⟨c,c2⟩];rfl
   ·have d2:decide (((ownL 5 0 l).length:Int) > 0)=false:=by simp only[decide_eq_false_iff_not];omega
    rw[d2,if_neg (fun z=>c2 z.2)];rfl
  ·have d:((regGo [] l g).2.2==0)=false:=by simpa using c
   simp only[d,cond_false]
   rw[if_neg (fun z=>c z.1)]
 ·rw[show ((g.1,g.2):GroupT)=g from rfl,e]
  simp only[caseS_r]
  rw[if_neg (fun z=>hc z.1)]
theorem spec_Regroup_l0 (l:List PlaceT) (hl:l.length<10000000) (g0:GroupT) (hg:regInv g0) :
  lp ψ2H.l0 (l,([],0,0),g0,0)=some (l,([],0,0),regGo [] l g0):=by
 have key:=lp_up (step:=ψ2H.l0) (fun n (g:GroupT)=>(l,(([],0,0):GroupT),g,(n:Int))) l.length (fun n g=>(l,(([],0,0):GroupT),regGo (l.take n) (l.drop n) g)) (fun _ g=>regInv g)
  (fun rec n g hn hi ih=>by
   rcases Nat.lt_or_ge n l.length with h | h
   ·have hw:=w64_succ (show n+1<9223372036854775808 by omega)
    have htl:(l.take n).length=n:=by rw[List.length_take];omega
    rw[List.drop_eq_getElem_cons h]
    unfold regGo
    obtain ⟨⟨sg,at_,ln,k,b,key,v,c,z⟩,hp⟩:∃p,l[n]=p:=⟨_,rfl⟩
    have hr:rdA zPlace l (n:Int)=(sg,at_,ln,k,b,key,v,c,z):=by rw[rdA_nat,getD_lt h,hp]
    have hx:inB (n:Int) l.length=true:=by rw[inB_nat,decide_eq_true h]
    have ht:l.take n++[(sg,at_,ln,k,b,key,v,c,z)]=l.take (n+1):=by rw[←hp];exact (List.take_succ_eq_append_getElem h).symm
    by_cases c0:g.2.2=0
    rotate_left
    ·rw[if_pos c0]
     have d0:(g.2.2==0)=false:=by simpa using c0
     simp only[ψ2H.l0,Int.ofNat_lt,h,decide_true,cond_true,d0,cond_false]
    rw[if_neg (fun z=>z c0),hp]
    have d0:(g.2.2==0)=true:=by simpa using c0
    have hs:=ih (regStep (l.take n) (sg,at_,ln,k,b,key,v,c,z) g) h (regInv_step hi c0 (by omega))
    rw[ht]
    rw[←hs]
    have hg1:g.1.length<40000000:=by unfold regInv at hi;rw[if_pos c0] at hi;omega
    have ho3:=spec_l9Of_eq l n (by omega) b (by omega)
    have ho5:=spec_l9Kept_eq l n (by omega) b (by omega)
    have hol3:=ownL_len 3 b (l.take n)
    have hol5:=ownL_len 5 b (l.take n)
    have hft:=fun o ho=>spec_l9Fits_eq (k,b,key,v,c,z) o ho
    have hap:=fun (zz:Int×Int) (o:List PlaceT) ho=>spec_Regroup_l3 l ([],0,0) g.1 zz (n:Int) o hg1 ho
    simp only[ψ2H.l0,Int.ofNat_lt,h,decide_true,cond_true,hx,hr,d0]
    unfold regStep
    simp only
    by_cases c3:k=3
    ·subst c3
     have hft:=hft (ownL 3 b (l.take n)) (by omega)
     have hap:=fun zz=>hap zz (ownL 3 b (l.take n)) (by omega)
     simp only[beq_self_eq_true,cond_true,ho3,Option.bind_some,hft,true_or,if_true,show ¬((3:Int)=5) by decide,if_false]
     cases fitsR (3,b,key,v,c,z) ((ownL 3 b (l.take n)).map (·.2.2.2))
     ·simp only[Bool.not_false,cond_true,Option.bind_some,caseS_r,hw,Bool.false_eq_true,if_false]
     ·simp only[Bool.not_true,cond_false,Option.bind_some,caseS_l,hap,hw,if_true]
      unfold codeD
      by_cases c9:20<(applyD g.1 (ownL 3 b (l.take n))).length
      ·have d9:decide (((applyD g.1 (ownL 3 b (l.take n))).length:Int) > 20)=true:=by simp;omega
       simp only[d9,cond_true,Option.bind_some,if_pos c9,hw]
      ·have d9:decide (((applyD g.1 (ownL 3 b (l.take n))).length:Int) > 20)=false:=by simp;omega
       simp only[d9,cond_false,Option.bind_some,if_neg c9,hw]
    ·have d3:(k==3)=false:=by simpa using c3
     simp only[d3,cond_false,c3,false_or]
     by_cases c5:k=5
     ·subst c5
      have hft:=hft (ownL 5 b (l.take n)) (by omega)
      have hap:=fun zz=>hap zz (ownL 5 b (l.take n)) (by omega)
      simp only[beq_self_eq_true,cond_true,ho5,Option.bind_some,hft,if_true]
      cases fitsR (5,b,key,v,c,z) ((ownL 5 b (l.take n)).map (·.2.2.2))
      ·simp only[Bool.not_false,cond_true,Option.bind_some,caseS_r,hw,Bool.false_eq_true,if_false]
      ·simp only[Bool.not_true,cond_false,Option.bind_some,caseS_l,hap,hw,if_true]
       unfold codeD
       by_cases c9:20<(applyD g.1 (ownL 5 b (l.take n))).length
       ·have d9:decide (((applyD g.1 (ownL 5 b (l.take n))).length:Int) > 20)=true:=by simp;omega
        simp only[d9,cond_true,Option.bind_some,if_pos c9,hw]
       ·have d9:decide (((applyD g.1 (ownL 5 b (l.take n))).length:Int) > 20)=false:=by simp;omega
        simp only[d9,cond_false,Option.bind_some,if_neg c9,hw]
     ·have d5:(k==5)=false:=by simpa using c5
      simp only[d5,cond_false,c5,if_false,Option.bind_some,caseS_r,hw]
   ·have:n=l.length:=by omega
    subst this
    simp only[ψ2H.l0,Int.lt_irrefl,decide_false,cond_false,List.take_length,List.drop_length,regGo])
  (by omega) 0 g0 (Nat.zero_le _) hg
 exact key
theorem spec_Regroup_eq (g:GroupT) (l:List PlaceT) (hl:l.length<10000000) (hg:regInv g):ψ2H.f g l=some (regroup g l):=by
 have hg1:g.1.length<1000000000:=by unfold regInv at hg;split at hg<;>omega
 unfold ψ2H.f
 have hb:decide ((([]:List EntryT).length+g.1.length) * 48≤140737488355328)=true:=by simp only[decide_eq_true_eq];exact lim48' (by omega)
 simp only[hb,cond_true,List.nil_append]
 rw[spec_Regroup_l0 l hl (g.1,g.2) hg,Option.bind_some]
 unfold regroup regEnd
 rw[show ((g.1,g.2):GroupT)=g from rfl]
 simp only
 by_cases c:(regGo [] l g).2.2=0
 ·have d:((regGo [] l g).2.2==0)=true:=by simpa using c
  have ho:=spec_l9Kept_eq l l.length (Nat.le_refl _) 0 (by omega)
  rw[List.take_length] at ho
  simp only[d,cond_true,ho,Option.bind_some]
  by_cases c2:0<(ownL 5 0 l).length
  ·have d2:decide (((ownL 5 0 l).length:Int) > 0)=true:=by simp;omega
   rw[d2,if_pos ⟨c,c2⟩];rfl
  ·have d2:decide (((ownL 5 0 l).length:Int) > 0)=false:=by simp only[decide_eq_false_iff_not];omega
   rw[d2,if_neg (fun z=>c2 z.2)];rfl
 ·have d:((regGo [] l g).2.2==0)=false:=by simpa using c
  simp only[d,cond_false]
  rw[if_neg (fun z=>c z.1)]
def spots:Nat→List RecT→List SpotT
 | _,[]=>[]
 | a,r::rs=>((a:Int),((fr r).length:Int),r)::spots (a+(fr r).length) rs
theorem scanAt_spots:∀(rs:List RecT) (p:List UInt8),(∀r∈rs,recOk r=true)→scanAt (p++txt rs) p.length=(spots p.length rs,p.length+(txt rs).length)
 | [],p,_=>by
  have:p++txt []=p:=by simp[txt]
  rw[this,scanAt_end];simp[txt,spots]
 | r::rs,p,h=>by
  have hs:=showRec_len r
  have hb:=unframe_back (t:=showRec r) (by omega) (txt rs)
  have hd:(p++txt (r::rs)).drop p.length=frame (showRec r)++txt rs:=by rw[List.drop_left];rfl
  have hl:=fr_len r
  have hrr:=readRec_back (h r List.mem_cons_self)
  rw[scanAt_step (n:=(fr r).length) (by rw[hd,hb];rfl) hl.1 (by rw[txt_cons];simp only[List.length_append];omega) (by rw[hd,hb];simp only;rw[hrr])]
  have ih:=scanAt_spots rs (p++fr r) (fun x hx=>h x (List.mem_cons_of_mem _ hx))
  rw[List.append_assoc,List.length_append] at ih
  rw[hd,hb]
  simp only[hrr]
  have e:p++txt (r::rs)=p++(fr r++txt rs):=rfl
  rw[e,ih]
  simp only[spots,txt_cons,List.length_append,Nat.add_assoc]
theorem scan_spots {rs:List RecT} (h:∀r∈rs,recOk r=true):scan (txt rs)=(spots 0 rs,(txt rs).length):=by
 have:=scanAt_spots rs [] h
 simp only[List.nil_append,List.length_nil,Nat.zero_add] at this
 exact this
theorem scanAt_recs:∀(k:Nat) (s:List UInt8) (a:Nat),a≤s.length→s.length - a=k→∃(rs:List RecT) (q:List UInt8),(∀r∈rs,recOk r=true)∧s.drop a=txt rs++q∧scanAt s a=(spots a rs,a+(txt rs).length):=by
 intro k
 induction k using Nat.strongRecOn with
 | ind k ih=>
  intro s a ha hk
  by_cases c:(unframe (s.drop a)).2=0∨(readRec (unframe (s.drop a)).1).2=false
  ·exact ⟨[],s.drop a,by simp,rfl,scanAt_stop ha c⟩
  ·have c1:(unframe (s.drop a)).2≠0:=fun e=>c (.inl e)
   have hr:(readRec (unframe (s.drop a)).1).2=true:=by
    cases e:(readRec (unframe (s.drop a)).1).2 with
    | true=>rfl
    | false=>exact absurd (.inr e) c
   obtain ⟨t,r,e1,e2,e3⟩:=unframe_some c1
   have h5:=frame_pos e2
   have hlen:a+(frame t).length≤s.length:=by
    have:(s.drop a).length=(frame t++r).length:=by rw[←e1]
    rw[List.length_drop,List.length_append] at this;omega
   have hst:=scanAt_step (n:=(frame t).length) (by rw[e3]) h5 hlen hr
   obtain ⟨rs,q,g1,g2,g3⟩:=ih (s.length - (a+(frame t).length)) (by omega) s (a+(frame t).length) hlen rfl
   have hd:s.drop (a+(frame t).length)=r:=by rw[←List.drop_drop,e1,List.drop_left]
   rw[e3] at hr
   rcases readRec_cases t with ⟨z,_⟩ | ⟨x,z,hx⟩
   ·rw[z] at hr;simp at hr
   ·refine ⟨x::rs,q,?_,?_,?_⟩
    ·intro y hy
     rcases List.mem_cons.1 hy with rfl | hy
     ·exact hx.1
     ·exact g1 y hy
    ·rw[e1,txt_cons,←hd,g2]
     show frame t++(txt rs++q)=frame (showRec x)++txt rs++q
     rw[hx.2,List.append_assoc]
    ·rw[hst,g3,e3]
     have hf:(fr x).length=(frame t).length:=by show (frame (showRec x)).length=_;rw[hx.2]
     simp only[z,spots,txt_cons,List.length_append,hf,Nat.add_assoc]
theorem scan_recs (s:List UInt8):∃(rs:List RecT) (q:List UInt8),(∀r∈rs,recOk r=true)∧s=txt rs++q∧scan s=(spots 0 rs,(txt rs).length):=by
 obtain ⟨rs,q,h1,h2,h3⟩:=scanAt_recs s.length s 0 (Nat.zero_le _) (by omega)
 rw[List.drop_zero] at h2
 rw[Nat.zero_add] at h3
 exact ⟨rs,q,h1,h2,h3⟩
theorem scan_cut (s:List UInt8):scan (s.take (scan s).2)=scan s:=by
 obtain ⟨rs,q,h1,h2,h3⟩:=scan_recs s
 rw[h3]
 have:s.take (txt rs).length=txt rs:=by rw[h2,List.take_left]
 rw[this,scan_spots h1]
theorem orphP_len {d:DiskT} (h:diskOk d=true) (v:LiveT):(orphP d v).length≤130:=by
 unfold orphP
 rw[if_neg (by rw[h];simp),List.length_map]
 exact Nat.le_trans (List.length_filter_le _ _) (diskOk_fuel h).2.2
theorem orphP_has {d:DiskT} (h:diskOk d=true) (v:LiveT):∀n∈orphP d v,(fileText d n).2=true:=by
 intro n hn
 unfold orphP at hn
 rw[if_neg (by rw[h];simp)] at hn
 obtain ⟨f,hf,rfl⟩:=List.mem_map.1 hn
 rw[fileText_mem h ((List.mem_filter.1 hf).1)]
theorem orphP_nodup {d:DiskT} (h:diskOk d=true) (v:LiveT):(orphP d v).Nodup:=by
 unfold orphP
 rw[if_neg (by rw[h];simp)]
 have hs:srt d.1:=diskOk_pw h
 exact (List.filter_sublist.map _).nodup (srt_nodup hs)
noncomputable def sweepW (v:LiveT) (d:DiskT):WorkT:=sDrop (orphP d v) (d,0)
theorem dk_sweep {d:DiskT} (h:diskOk d=true) (v:LiveT):diskOk (sweepW v d).1=true:=dk_sDrop _ h
theorem impl_orphans_eq (w:WorkT) (v:LiveT) (h:diskOk w.1=true) (hv:v.2.length<1000000000):ψ1V.f w v=some (wDrop (orphP w.1 v) w):=by
 unfold ψ1V.f
 rw[impl_Orphans_eq w.1 v (dl_lim (dl_dk h) (by omega)) hv,Option.bind_some]
 have hl:=orphP_len h v
 generalize orphP w.1 v=names at hl ⊢
 have key:=fold_loop (step:=ψ1V.l0) names (fun (w:WorkT) n=>wstep (dGone n) w) (fun n (a:WorkT)=>(a,names,(names.length:Int),(n:Int))) (fun a=>a) (fun _ a=>diskOk a.1=true) (by omega)
  (fun rec n a h1 ha=>by
   have hw:=w64_succ (show n+1<9223372036854775808 by omega)
   simp only[ψ1V.l0,Int.ofNat_lt,h1,decide_true,cond_true,inB_nat,rdA_nat,getD_lt h1,w_gone_eq a names[n] (dl_dk ha) (by omega),Option.bind_some,hw])
  (fun n a h1 ha=>dk_wstep (op:=dGone names[n]) ha fun k=>dk_Gone k _)
  (fun rec a ha=>by simp[ψ1V.l0])
  w h
 have key:lp ψ1V.l0 (w,names,(names.length:Int),0)=some (wDrop names w):=key
 rw[key];rfl
theorem gone_is_remove {d:DiskT} {n:List UInt8} (h:(fileText d n).2=true):dGone n d=dRemove n d:=by
 obtain ⟨i,hi,_,_,e⟩:=has_ix h
 unfold dGone
 rw[if_pos (by omega)]
theorem ft_still {d:DiskT} (h:diskOk d=true) {m n:List UInt8} (hne:n≠m) (hn:(fileText d n).2=true):(fileText (dRemove m d).1 n).2=true:=by
 rw[ft_Remove h hne];exact hn
theorem spec_Sweep_eq (d:DiskT) (v:LiveT) (h:diskOk d=true) (hv:v.2.length<1000000000):ψ2f.f d v=some (toldW (sweepW v d)):=by
 unfold ψ2f.f sweepW
 rw[spec_Orphans_eq d v (dl_lim (dl_dk h) (by omega)) hv,Option.bind_some]
 have hl:=orphP_len h v
 have hh:=orphP_has h v
 have hn:=orphP_nodup h v
 generalize orphP d v=names at hl hh hn ⊢
 have key:=lp_up (step:=ψ2f.l0) (fun n (x:DiskT)=>(x,(([],0,0,false):DiskT),names,(n:Int))) names.length
  (fun n x=>if (sDrop (names.drop n) (x,0)).2=0 then .inl ((sDrop (names.drop n) (x,0)).1,([],0,0,false)) else .inr (toldW (sDrop (names.drop n) (x,0))))
  (fun n x=>diskOk x=true∧∀m∈names.drop n,(fileText x m).2=true)
  (fun rec n x hnn hx ih=>by
   rcases Nat.lt_or_ge n names.length with h1 | h1
   ·have hw:=w64_succ (show n+1<9223372036854775808 by omega)
    have hd:names.drop n=names[n]::names.drop (n+1):=List.drop_eq_getElem_cons h1
    have hnd:(names.drop n).Nodup:=(List.drop_sublist n names).nodup hn
    rw[hd,List.nodup_cons] at hnd
    have hin:(fileText x names[n]).2=true:=hx.2 _ (by rw[hd];exact List.mem_cons_self)
    have hg:=gone_is_remove hin
    have hs:sDrop (names.drop n) (x,0)=sDrop (names.drop (n+1)) (dRemove names[n] x):=by
     rw[hd]
     show sDrop (names.drop (n+1)) (sstep (dGone names[n]) (x,0))=_
     rw[sstep_z,hg]
    rw[hs]
    have hr:=spec_Remove_eq x names[n] (dl_lim (dl_dk hx.1) (by omega))
    have hr:ψ2I.f x names[n]=some (dRemove names[n] x):=hr
    simp only[ψ2f.l0,Int.ofNat_lt,h1,decide_true,cond_true,inB_nat,rdA_nat,getD_lt h1,hr,Option.bind_some]
    have ih:=ih (dRemove names[n] x).1 h1 ⟨dk_Remove hx.1 _,fun m hm=>ft_still hx.1 (fun e=>hnd.1 (e ▸ hm)) (hx.2 m (by rw[hd];exact List.mem_cons_of_mem _ hm))⟩
    generalize dRemove names[n] x=p at ih ⊢
    obtain ⟨y,c⟩:=p
    by_cases c0:c=0
    ·subst c0
     simp only[bne_self_eq_false,cond_false,hw,ih]
    ·have d0:(c != 0)=true:=by simpa using c0
     rw[sDrop_ne _ c0]
     simp only[d0,cond_true,spec_l11Code_eq,Option.bind_some]
     rw[if_neg c0];rfl
   ·have:n=names.length:=by omega
    subst this
    rw[List.drop_length]
    simp[ψ2f.l0,sDrop])
  (by omega) 0 d (Nat.zero_le _) ⟨h,by rw[List.drop_zero];exact hh⟩
 have key:lp ψ2f.l0 (d,([],0,0,false),names,0)=_:=key
 rw[key,Option.bind_some,List.drop_zero]
 by_cases c:(sDrop names (d,0)).2=0
 ·rw[if_pos c]
  simp only[caseS_l]
  unfold toldW
  rw[c];rfl
 ·rw[if_neg c]
  simp only[caseS_r]
noncomputable def segPl (d:DiskT) (id:Int):List PlaceT:=(scan (fileText d (segName id)).1).1.map fun x=>((id,x):PlaceT)
theorem txt_le {d:DiskT} (h:diskOk d=true) (n:List UInt8):(fileText d n).1.length≤100000:=by
 have h1:=fileText_len d n (dl_lim (dl_dk h) (by omega))
 have h2:=diskOk_cap h
 omega
theorem segPl_len {d:DiskT} (h:diskOk d=true) (id:Int):(segPl d id).length≤100000:=by
 unfold segPl
 rw[List.length_map]
 exact Nat.le_trans (scan_len _).2 (txt_le h _)
theorem segsPl_len {d:DiskT} (h:diskOk d=true):∀ids:List Int,(ids.flatMap (segPl d)).length≤100000 * ids.length
 | []=>by simp
 | id::r=>by
  have:=segPl_len h id
  have:=segsPl_len h r
  simp only[List.flatMap_cons,List.length_append,List.length_cons];omega
theorem spec_l11Places_eq (id:Int) (t:List UInt8) (ht:t.length<1000000000):ψ2e.f id t=some ((scan t).1.map fun x=>((id,x):PlaceT)):=by
 unfold ψ2e.f
 rw[spec_ScanRecs_eq t ht,Option.bind_some]
 have hl:=(scan_len t).2
 generalize (scan t).1=l at hl ⊢
 have hk:=fold_loop (step:=ψ2e.l0) l (fun (s:List PlaceT) (p:SpotT)=>s++[((id,p):PlaceT)]) (fun n (s:List PlaceT)=>(id,s,l,(n:Int))) (fun s=>s) (fun n s=>s.length≤n) (by omega)
  (fun rec n s h hi=>by
   have hw:=w64_succ (show n+1<9223372036854775808 by omega)
   have hb:(s.length+([((id,l[n]):PlaceT)]:List PlaceT).length) * 88≤140737488355328:=lim88 (by omega)
   simp only[ψ2e.l0,Int.ofNat_lt,h,decide_true,cond_true,inB_nat,rdA_nat,getD_lt h,hb,hw])
  (fun n s h hi=>by simp;omega)
  (fun rec s hi=>by simp[ψ2e.l0]) [] (Nat.le_refl _)
 have hk:lp ψ2e.l0 (id,[],l,0)=_:=hk
 have:∀(l:List SpotT) (s:List PlaceT),l.foldl (fun (s:List PlaceT) (p:SpotT)=>s++[((id,p):PlaceT)]) s=s++l.map (fun x=>((id,x):PlaceT)):=by
  intro l
  induction l with
  | nil=>intro s;simp
  | cons x l ih=>intro s;rw[List.foldl_cons,ih];simp
 simp only
 rw[hk,Option.bind_some,this];rfl
abbrev zStore:StoreT:=((0,[]),[],0,0,0)
abbrev zDisk:DiskT:=([],0,0,false)
theorem sPut_ne (v:LiveT) {d:DiskT} {c:Int} (h:c≠0):sPut v (d,c)=(d,c):=by
 unfold sPut sFile
 simp only[sstep_ne h]
noncomputable def openFirst (d:DiskT):StoreT×DiskT×Int:=
 let w:=sPut (2,[1]) (sstep (dCreate (segName 1)) (sweepW zeroLive d))
 if w.2≠0 then (zStore,w.1,told w.2) else (((2,[1]),[],1,0,0),w.1,0)
theorem live_one:liveOk (2,[1])=true:=by decide
theorem impl_first_eq (d:DiskT) (h:diskOk d=true):∃w:WorkT,ψ1R.f (d,0)=some (((2,[1]),[],1,0,0),w)∧w=toldW (sPut (2,[1]) (sstep (dCreate (segName 1)) (sweepW zeroLive d))):=by
 refine ⟨_,?_,rfl⟩
 unfold ψ1R.f
 have h1:=impl_orphans_eq (d,0) zeroLive h (by show 0<_;omega)
 have e1:wDrop (orphP d zeroLive) (d,0)=toldW (sweepW zeroLive d):=wDrop_told _ (d,0)
 have hd1:=dk_sweep h zeroLive
 have h2:=w_create_eq (toldW (sweepW zeroLive d)) (segName 1) (k:=100001) (dl_dk hd1) (by omega) (by have:=segName_len 1;omega)
 have e2:wstep (dCreate (segName 1)) (toldW (sweepW zeroLive d))=toldW (sstep (dCreate (segName 1)) (sweepW zeroLive d)):=wstep_told _ _
 have hd2:diskOk (sstep (dCreate (segName 1)) (sweepW zeroLive d)).1=true:=dk_sstep hd1 fun k=>dk_Create k _
 have h3:=w_putLive_eq (toldW (sstep (dCreate (segName 1)) (sweepW zeroLive d))) (2,[1]) (k:=100001) (dl_dk hd2) (by omega) (by show 1<_;decide)
 have e3:=wPut_told (2,[1]) (sstep (dCreate (segName 1)) (sweepW zeroLive d))
 have h1:ψ1V.f (d,0) (0,[])=some (toldW (sweepW zeroLive d)):=h1.trans (by rw[e1])
 rw[e2] at h2
 rw[e3] at h3
 simp only[h1,Option.bind_some,impl_SegName_eq,h2,h3]
theorem spec_first_eq (d:DiskT) (h:diskOk d=true):ψ2c.f d=some (openFirst d):=by
 unfold ψ2c.f openFirst
 have hd1:=dk_sweep h zeroLive
 have h1:=spec_Sweep_eq d zeroLive h (by show 0<_;omega)
 have h1:ψ2f.f d (0,[])=some (toldW (sweepW zeroLive d)):=h1
 rw[h1,Option.bind_some]
 generalize sweepW zeroLive d=w1 at hd1 ⊢
 obtain ⟨d1,c1⟩:=w1
 by_cases z1:c1=0
 rotate_left
 ·have t1:(told c1 != 0)=true:=by rw[told_ne];simpa using z1
  rw[sstep_ne z1,sPut_ne _ z1]
  simp only[toldW,t1,cond_true]
  rw[if_pos z1]
 subst z1
 have hd1:diskOk d1=true:=hd1
 have t1:(told 0 != 0)=false:=rfl
 have h2:=spec_Create_eq d1 (segName 1) (dl_lim (dl_dk hd1) (by omega)) (by have:=segName_len 1;omega)
 have h2:ψ1j.f d1 (segName 1)=some (dCreate (segName 1) d1):=h2
 have hd2:=dk_Create hd1 (segName 1)
 simp only[toldW,t1,cond_false,spec_SegName_eq,Option.bind_some,h2,sstep_z]
 generalize dCreate (segName 1) d1=w2 at hd2 ⊢
 obtain ⟨d2,c2⟩:=w2
 by_cases z2:c2=0
 rotate_left
 ·have t2:(c2 != 0)=true:=by simpa using z2
  rw[sPut_ne _ z2]
  simp only[t2,cond_true,spec_l11Code_eq,Option.bind_some]
  rw[if_pos z2]
 subst z2
 have hd2:diskOk d2=true:=hd2
 have h3:=spec_PutLive_eq d2 (2,[1]) (k:=100001) (dl_dk hd2) (by omega) (by show 1<_;decide)
 have h3:ψ27.f d2 (2,[1])=some (toldW (sPut (2,[1]) (d2,0))):=by
  rw[h3];unfold putLive
  rw[if_neg (by rw[hd2,live_one];simp)]
 simp only[bne_self_eq_false,cond_false,h3,Option.bind_some]
 generalize sPut (2,[1]) (d2,0)=w3
 obtain ⟨d3,c3⟩:=w3
 by_cases z3:c3=0
 ·subst z3;simp[toldW,told]
 ·have t3:(told c3 != 0)=true:=by rw[told_ne];simpa using z3
  simp only[toldW,t3,cond_true]
  rw[if_pos z3]
noncomputable def segsHave (d:DiskT):List Int→Bool
 | []=>true
 | id::r=>(fileText d (segName id)).2 && ((r.isEmpty || decide ((scan (fileText d (segName id)).1).2=(fileText d (segName id)).1.length)) && segsHave d r)
noncomputable def lastEnd (d:DiskT):List Int→Int→Int
 | [],z=>z
 | id::r,_=>lastEnd d r ((scan (fileText d (segName id)).1).2:Int)
theorem lastEnd_last (d:DiskT):∀(l:List Int) (z:Int),l≠[]→lastEnd d l z=((scan (fileText d (segName (lastI l))).1).2:Int)
 | [],_,h=>absurd rfl h
 | [x],z,_=>by rw[lastEnd,lastEnd,lastI_one]
 | x::y::l,z,_=>by rw[lastEnd,lastI_cons];exact lastEnd_last d (y::l) _ (by simp)
theorem isEmpty_drop {α:Type} (l:List α) (n:Nat) (h:n<l.length):(l.drop (n+1)).isEmpty=decide (¬n<l.length - 1):=by
 apply Bool.eq_iff_iff.2
 rw[List.isEmpty_iff,List.drop_eq_nil_iff,decide_eq_true_eq];omega
theorem impl_scanAll_eq (w:WorkT) (v:LiveT) (h:diskOk w.1=true) (hv:v.2.length<1000000) :
  ψ1Z.f w v=some (if segsHave w.1 v.2=true then (v.2.map (segPl w.1),lastEnd w.1 v.2 0,true,w) else ([],0,false,w)):=by
 have key:=lp_up (step:=ψ1Z.l0) (fun n (s:List (List PlaceT)×Int)=>(w,v,s.1,s.2,v.2,(v.2.length:Int),(n:Int))) v.2.length
  (fun n s=>if segsHave w.1 (v.2.drop n)=true then .inl (w,s.1++(v.2.drop n).map (segPl w.1),lastEnd w.1 (v.2.drop n) s.2) else .inr (w,[],0,false)) (fun n s=>s.1.length≤n)
  (fun rec n s hn hs ih=>by
   rcases Nat.lt_or_ge n v.2.length with h1 | h1
   ·have hw:=w64_succ (show n+1<9223372036854775808 by omega)
    have hwl:w64 ((v.2.length:Int) - 1)=((v.2.length - 1:Nat):Int):=by rw[w64_id (by omega) (by omega)];omega
    have hd:v.2.drop n=v.2[n]::v.2.drop (n+1):=List.drop_eq_getElem_cons h1
    have htx:=txt_le h (segName v.2[n])
    have hsc:=scan_len (fileText w.1 (segName v.2[n])).1
    have hpl:=impl_placed_eq v.2[n] (scan (fileText w.1 (segName v.2[n])).1).1 (by omega)
    have hb:decide ((s.1.length+([segPl w.1 v.2[n]]:List (List PlaceT)).length) * 24≤140737488355328)=true:=by simp only[decide_eq_true_eq];exact lim24 (by omega)
    have ih:=ih (s.1++[segPl w.1 v.2[n]],((scan (fileText w.1 (segName v.2[n])).1).2:Int)) h1 (by simp only[List.length_append,List.length_singleton];omega)
    have hft:=impl_FileText_eq w.1 (segName v.2[n]) (dl_lim (dl_dk h) (by omega))
    have hsr:=impl_ScanRecs_eq (fileText w.1 (segName v.2[n])).1 (by omega)
    rw[hd]
    simp only[segsHave,lastEnd,List.map_cons,isEmpty_drop v.2 n h1]
    simp only[ψ1Z.l0,Int.ofNat_lt,h1,decide_true,cond_true,inB_nat,rdA_nat,getD_lt h1,impl_SegName_eq,Option.bind_some,hft,hsr,hwl]
    have hpl2:ψ19.f v.2[n] (scan (fileText w.1 (segName v.2[n])).1).1=some (segPl w.1 v.2[n]):=hpl
    have hgo:((ψ19.f v.2[n] (scan (fileText w.1 (segName v.2[n])).1).1).bind fun t5=>bif decide ((s.1.length+[t5].length) * 24≤140737488355328) then rec (w,v,s.1++[t5],((scan (fileText w.1 (segName v.2[n])).1).2:Int),v.2,(v.2.length:Int),w64 ((n:Int)+1)) else none) =
      some (if segsHave w.1 (v.2.drop (n+1))=true then .inl (w,s.1++(segPl w.1 v.2[n]::(v.2.drop (n+1)).map (segPl w.1)),lastEnd w.1 (v.2.drop (n+1)) ((scan (fileText w.1 (segName v.2[n])).1).2:Int)) else .inr (w,[],0,false)):=by
     rw[hpl2,Option.bind_some,hb,cond_true,hw]
     have:s.1++(segPl w.1 v.2[n]::(v.2.drop (n+1)).map (segPl w.1))=s.1++[segPl w.1 v.2[n]]++(v.2.drop (n+1)).map (segPl w.1):=by simp
     rw[this];exact ih
    cases hk:(fileText w.1 (segName v.2[n])).2 with
    | false=>simp only[Bool.not_false,cond_true,Option.bind_some,caseS_r,Bool.false_and,Bool.false_eq_true,if_false]
    | true=>
     simp only[Bool.not_true,cond_false,Bool.true_and]
     by_cases c1:n<v.2.length - 1
     ·simp only[c1,decide_true,cond_true,not_true,decide_false,Bool.false_or]
      by_cases c2:(scan (fileText w.1 (segName v.2[n])).1).2=(fileText w.1 (segName v.2[n])).1.length
      ·rw[len_eq c2,cond_false]
       simp only[Option.bind_some,caseS_l,decide_eq_true c2,Bool.true_and]
       exact hgo
      ·rw[len_ne c2,cond_true]
       simp only[Option.bind_some,caseS_r,decide_eq_false c2,Bool.false_and,Bool.false_eq_true,if_false]
     ·simp only[c1,decide_false,cond_false,not_false_iff,decide_true,Bool.true_or,Bool.true_and,Option.bind_some,caseS_l]
      exact hgo
   ·have:n=v.2.length:=by omega
    subst this
    rw[List.drop_length]
    simp[ψ1Z.l0,segsHave,lastEnd])
  (by omega) 0 ([],0) (Nat.zero_le _) (Nat.le_refl _)
 have key:lp ψ1Z.l0 (w,v,[],0,v.2,(v.2.length:Int),0)=_:=key
 unfold ψ1Z.f
 rw[key,Option.bind_some,List.drop_zero]
 by_cases c:segsHave w.1 v.2=true
 ·rw[if_pos c,if_pos c];simp only[caseS_l,List.nil_append]
 ·rw[if_neg c,if_neg c];simp only[caseS_r]
theorem idsOk_pw {hi:Int}:∀(l:List Int) (p:Option Int),idsOk hi p l=true→l.Pairwise (·<·)∧∀q,p=some q→∀x∈l,q<x
 | [],p,_=>⟨List.Pairwise.nil,by simp⟩
 | x::r,p,h=>by
  simp only[idsOk,Bool.and_eq_true,decide_eq_true_eq] at h
  obtain ⟨h1,h2,h3⟩:=h
  obtain ⟨k1,k2⟩:=idsOk_pw r (some x) h3
  have k2:=k2 x rfl
  refine ⟨List.Pairwise.cons k2 k1,?_⟩
  rintro q rfl y hy
  have h2:q<x:=by simpa using h2
  rcases List.mem_cons.1 hy with rfl | hy
  ·exact h2
  ·exact Int.lt_trans h2 (k2 y hy)
theorem live_pw {v:LiveT} (h:liveOk v=true):v.2.Pairwise (·<·):=(idsOk_pw v.2 none ((liveOk_iff v).1 h).1).1
theorem last_ix {l:List Int} (h:l.Pairwise (·<·)) {n:Nat} (hn:n<l.length):(l[n] != lastI l)=decide (n<l.length - 1):=by
 have hl:l.length - 1<l.length:=by omega
 have hg:lastI l=l[l.length - 1]:=by unfold lastI;rw[getD_lt hl]
 by_cases c:n<l.length - 1
 ·have:=(List.pairwise_iff_getElem.1 h) n (l.length - 1) hn hl c
  rw[decide_eq_true c,hg]
  simpa using (show ¬l[n]=l[l.length - 1] by omega)
 ·have e:n=l.length - 1:=by omega
  rw[decide_eq_false c,hg]
  subst e;simp
theorem spec_Open_l0 (d:DiskT) (v:LiveT) (h:diskOk d=true) (hv:liveOk v=true) :
  lp ψ25.l0 (d,zStore,zDisk,zStore,v,lastI v.2,0)=some (if segsHave d v.2=true then .inl (d,zStore,zDisk,zStore,v,lastI v.2) else .inr (zStore,d,3)):=by
 have hlen:=liveOk_len hv
 have hpw:=live_pw hv
 have key:=lp_up (step:=ψ25.l0) (fun n (_:Unit)=>(d,zStore,zDisk,zStore,v,lastI v.2,(n:Int))) v.2.length
  (fun n _=>if segsHave d (v.2.drop n)=true then .inl (d,zStore,zDisk,zStore,v,lastI v.2) else .inr (zStore,d,3)) (fun _ _=>True)
  (fun rec n s hn hs ih=>by
   rcases Nat.lt_or_ge n v.2.length with h1 | h1
   ·have hw:=w64_succ (show n+1<9223372036854775808 by omega)
    have hd:v.2.drop n=v.2[n]::v.2.drop (n+1):=List.drop_eq_getElem_cons h1
    have htx:=txt_le h (segName v.2[n])
    have hsc:=scan_len (fileText d (segName v.2[n])).1
    have ih:=ih () h1 trivial
    have hft:=spec_FileText_eq d (segName v.2[n]) (dl_lim (dl_dk h) (by omega))
    have hsr:=spec_ScanRecs_eq (fileText d (segName v.2[n])).1 (by omega)
    have hcp:=spec_l3Copy_eq d (by have:=(diskOk_fuel h).2.2;omega)
    rw[hd]
    simp only[segsHave,isEmpty_drop v.2 n h1]
    simp only[ψ25.l0,Int.ofNat_lt,h1,decide_true,cond_true,inB_nat,rdA_nat,getD_lt h1,spec_SegName_eq,Option.bind_some,hft,hsr,last_ix hpw h1]
    cases hk:(fileText d (segName v.2[n])).2 with
    | false=>simp only[Bool.not_false,cond_true,hcp,Option.bind_some,caseS_r,Bool.false_and,Bool.false_eq_true,if_false]
    | true=>
     simp only[Bool.not_true,cond_false,Bool.true_and]
     by_cases c1:n<v.2.length - 1
     ·simp only[c1,decide_true,cond_true,not_true,decide_false,Bool.false_or]
      by_cases c2:(scan (fileText d (segName v.2[n])).1).2=(fileText d (segName v.2[n])).1.length
      ·have c3:decide ((scan (fileText d (segName v.2[n])).1).2<(fileText d (segName v.2[n])).1.length)=false:=decide_eq_false (by omega)
       simp only[c3,cond_false,Option.bind_some,caseS_l,decide_eq_true c2,Bool.true_and,hw,ih]
      ·have c3:decide ((scan (fileText d (segName v.2[n])).1).2<(fileText d (segName v.2[n])).1.length)=true:=decide_eq_true (by omega)
       simp only[c3,cond_true,hcp,Option.bind_some,caseS_r,decide_eq_false c2,Bool.false_and,Bool.false_eq_true,if_false]
     ·simp only[c1,decide_false,cond_false,not_false_iff,decide_true,Bool.true_or,Bool.true_and,Option.bind_some,caseS_l,hw,ih]
   ·have:n=v.2.length:=by omega
    subst this
    rw[List.drop_length]
    simp[ψ25.l0,segsHave])
  (by omega) 0 () (Nat.zero_le _) trivial
 exact key
noncomputable def hintG (d:DiskT) (id:Int):Option GroupT:=
 if (fileText d (hintName id)).2=true∧(readHint (fileText d (hintName id)).1).2=true∧hintFits id (fileText d (segName id)).1 (readHint (fileText d (hintName id)).1).1=true then
  some ((readHint (fileText d (hintName id)).1).1.2.2,(readHint (fileText d (hintName id)).1).1.2.1,0) else none
theorem impl_hinted_eq (w:WorkT) (id:Int) (h:diskOk w.1=true):ψ1U.f w id=some (match hintG w.1 id with | some g=>(g,true,w) | none=>(([],0,0),false,w)):=by
 have hlm:=dl_lim (dl_dk h) (show 100001≤1000000000 by omega)
 have ht:=txt_le h (hintName id)
 have ht2:=txt_le h (segName id)
 unfold ψ1U.f hintG
 simp only[impl_HintName_eq,Option.bind_some,impl_FileText_eq w.1 (hintName id) hlm,impl_ReadHint_eq _ (show (fileText w.1 (hintName id)).1.length<900000000 by omega),impl_SegName_eq,impl_FileText_eq w.1 (segName id) hlm,
  impl_HintFits_eq id (fileText w.1 (segName id)).1 (readHint (fileText w.1 (hintName id)).1).1 (by omega)]
 cases (fileText w.1 (hintName id)).2<;>cases (readHint (fileText w.1 (hintName id)).1).2<;>cases hintFits id (fileText w.1 (segName id)).1 (readHint (fileText w.1 (hintName id)).1).1<;>simp
noncomputable def placesOf (x:DiskT) (ids:List Int):List PlaceT:=ids.flatMap (segPl x)
theorem spec_Open_l2 (x:DiskT) (v:LiveT) (e:Int) (h:diskOk x=true) (hv:liveOk v=true) :
  lp ψ25.l2 (zStore,zDisk,zStore,v,x,(v,[],0,e,0),([],0,0),[],0) =
   some (match hintG x (v.2.getD 0 0) with
    | some g=>(zStore,zDisk,zStore,v,x,(v,[],0,e,v.2.getD 0 0),g,placesOf x (v.2.drop 1))
    | none=>(zStore,zDisk,zStore,v,x,(v,[],0,e,0),([],0,0),placesOf x v.2)):=by
 have hlm:=dl_lim (dl_dk h) (show 100001≤1000000000 by omega)
 have hlen:=liveOk_len hv
 have key:=lp_up (step:=ψ25.l2) (fun n (s:StoreT×GroupT×List PlaceT)=>(zStore,zDisk,zStore,v,x,s.1,s.2.1,s.2.2,(n:Int))) v.2.length
  (fun n s=>if n=0 then (match hintG x (v.2.getD 0 0) with
    | some g=>(zStore,zDisk,zStore,v,x,(s.1.1,s.1.2.1,s.1.2.2.1,s.1.2.2.2.1,v.2.getD 0 0),g,s.2.2++placesOf x (v.2.drop 1))
    | none=>(zStore,zDisk,zStore,v,x,s.1,s.2.1,s.2.2++placesOf x v.2)) else (zStore,zDisk,zStore,v,x,s.1,s.2.1,s.2.2++placesOf x (v.2.drop n)))
  (fun n s=>s.2.2.length≤100000 * n∧(n=0→s.2.1.2.2=0∧0<v.2.length))
  (fun rec n s hn hs ih=>by
   rcases Nat.lt_or_ge n v.2.length with h1 | h1
   ·have hw:=w64_succ (show n+1<9223372036854775808 by omega)
    have hd:v.2.drop n=v.2[n]::v.2.drop (n+1):=List.drop_eq_getElem_cons h1
    have ht:=txt_le h (hintName v.2[n])
    have ht2:=txt_le h (segName v.2[n])
    have hpl:=segPl_len h v.2[n]
    have hb:decide ((s.2.2.length+(segPl x v.2[n]).length) * 88≤140737488355328)=true:=by
     have:=hs.1
     simp only[decide_eq_true_eq];omega
    have hi:(ψ2e.f v.2[n] (fileText x (segName v.2[n])).1)=some (segPl x v.2[n]):=spec_l11Places_eq _ _ (by omega)
    have hpd:placesOf x (v.2.drop n)=segPl x v.2[n]++placesOf x (v.2.drop (n+1)):=by rw[hd];rfl
    have hx:inB (n:Int) v.2.length=true:=by rw[inB_nat,decide_eq_true h1]
    have hr:rdA 0 v.2 (n:Int)=v.2[n]:=by rw[rdA_nat,getD_lt h1]
    have hrh:=spec_ReadHint_eq (fileText x (hintName v.2[n])).1 (show (fileText x (hintName v.2[n])).1.length<900000000 by omega)
    have hhf:=spec_HintFits_eq v.2[n] (fileText x (segName v.2[n])).1 (readHint (fileText x (hintName v.2[n])).1).1 (by omega)
    simp only[ψ25.l2,Int.ofNat_lt,h1,decide_true,cond_true,hx,hr,spec_SegName_eq,Option.bind_some,spec_FileText_eq x _ hlm,spec_HintName_eq,hrh]
    have ih1:=ih (s.1,s.2.1,s.2.2++segPl x v.2[n]) h1 ⟨by simp only[List.length_append];have:=hs.1;omega,by omega⟩
    rw[if_neg (by omega)] at ih1
    simp only[List.append_assoc,←hpd] at ih1
    by_cases c:n=0
    ·subst c
     rw[if_pos rfl]
     have hx0:inB 0 v.2.length=true:=hx
     have hr0:rdA 0 v.2 0=v.2[0]:=hr
     have hg0:v.2.getD 0 0=v.2[0]:=getD_lt h1
     have hn0:(((0:Nat):Int)==0)=true:=rfl
     have hcode:=(hs.2 rfl).1
     have ih2:=ih ((s.1.1,s.1.2.1,s.1.2.2.1,s.1.2.2.2.1,v.2[0]),((readHint (fileText x (hintName v.2[0])).1).1.2.2,(readHint (fileText x (hintName v.2[0])).1).1.2.1,0),s.2.2) h1 ⟨by have:=hs.1;show s.2.2.length≤_;omega,by omega⟩
     rw[if_neg (by omega)] at ih2
     rw[List.drop_zero] at ih1
     simp only[hn0,cond_true,hx0,hr0,hhf,hg0,hcode,Option.bind_some]
     unfold hintG
     cases c1:(fileText x (hintName v.2[0])).2 with
     | false=>simp only[cond_false,Option.bind_some,caseS_l,hx,hr,hi,hb,cond_true,hw,ih1,Bool.false_eq_true,false_and,if_false]
     | true=>
      cases c2:(readHint (fileText x (hintName v.2[0])).1).2 with
      | false=>simp only[cond_true,cond_false,Option.bind_some,caseS_l,hx,hr,hi,hb,hw,ih1,Bool.false_eq_true,false_and,and_false,if_false]
      | true=>
       cases c3:hintFits v.2[0] (fileText x (segName v.2[0])).1 (readHint (fileText x (hintName v.2[0])).1).1 with
       | false=>simp only[cond_true,cond_false,Option.bind_some,caseS_l,hx,hr,hi,hb,hw,ih1,Bool.false_eq_true,false_and,and_false,if_false]
       | true=>simp only[cond_true,Option.bind_some,caseS_r,hw,ih2,and_true,if_true]
    ·rw[if_neg c]
     have hn0:((n:Int)==0)=false:=by simpa using (show ¬(n:Int)=0 by omega)
     simp only[hn0,cond_false,Option.bind_some,caseS_l,hx,hr,hi,hb,cond_true,hw,ih1]
   ·have:n=v.2.length:=by omega
    subst this
    have:¬v.2.length=0:=fun e=>by have:=(hs.2 e).2;omega
    rw[if_neg this,List.drop_length]
    simp[ψ25.l2,placesOf])
  (by omega) 0 ((v,[],0,e,0),([],0,0),[]) (Nat.zero_le _) ⟨Nat.le_refl _,fun _=>⟨rfl,by have:=((liveOk_iff v).1 hv).2.2.1;omega⟩⟩
 have key:lp ψ25.l2 (zStore,zDisk,zStore,v,x,(v,[],0,e,0),([],0,0),[],0)=_:=key
 rw[key,if_pos rfl]
 cases hintG x (v.2.getD 0 0)<;>simp
theorem impl_found_l0 (w:WorkT) (v:LiveT) (S:StoreT) (g:GroupT) (L:List (List PlaceT)) (z:LiveT) (hL:∀l∈L,l.length≤100000) (hl:L.length≤1000) :
  lp ψ1S.l0 (w,zStore,(v.1,[]),S,g,[],L,(L.length:Int),0)=some (w,zStore,(v.1,[]),S,g,L.flatten):=by
 have hk:=fold_loop (step:=ψ1S.l0) L (fun (s:List PlaceT) l=>s++l) (fun n s=>(w,zStore,(v.1,[]),S,g,s,L,(L.length:Int),(n:Int))) (fun s=>(w,zStore,(v.1,[]),S,g,s)) (fun n s=>s.length≤100000 * n) (by omega)
  (fun rec n s h hi=>by
   have hw:=w64_succ (show n+1<9223372036854775808 by omega)
   have h1:=hL _ (List.getElem_mem h)
   have hb:decide ((s.length+L[n].length) * 88≤140737488355328)=true:=by simp only[decide_eq_true_eq];omega
   simp only[ψ1S.l0,Int.ofNat_lt,h,decide_true,cond_true,inB_nat,rdA_nat,getD_lt h,hb,hw])
  (fun n s h hi=>by have h1:=hL _ (List.getElem_mem h);simp only[List.length_append];omega)
  (fun rec s hi=>by simp[ψ1S.l0]) [] (Nat.le_refl _)
 have hk:lp ψ1S.l0 (w,zStore,(v.1,[]),S,g,[],L,(L.length:Int),0)=_:=hk
 rw[hk]
 have:∀(L:List (List PlaceT)) (s:List PlaceT),L.foldl (fun (s:List PlaceT) l=>s++l) s=s++L.flatten:=by
  intro L
  induction L with
  | nil=>intro s;simp
  | cons x L ih=>intro s;rw[List.foldl_cons,ih];simp
 rw[this];rfl
theorem ft_Trunc {d:DiskT} (h:diskOk d=true) {m n:List UInt8} (z:Int) (hne:n≠m):fileText (dTrunc m z d).1 n=fileText d n:=by
 refine ft_files h (dk_Trunc h m z) n fun t=>?_
 unfold actTrunc
 rcases fileIx_cases d.1 m with ⟨e,_⟩ | ⟨i,hi,e,hn⟩
 ·rw[ix_none e]
 ·rw[ix_some e]
  simp only
  split
  ·rw[getD_lt hi]
   constructor
   ·rintro ⟨s,hs⟩;exact ⟨s,(mem_set_ne (f:=(d.1[i].1,d.1[i].2.1.take z.toNat,if z<d.1[i].2.2 then z else d.1[i].2.2)) hi rfl (by rw[hn];exact hne)).2 hs⟩
   ·rintro ⟨s,hs⟩;exact ⟨s,(mem_set_ne (f:=(d.1[i].1,d.1[i].2.1.take z.toNat,if z<d.1[i].2.2 then z else d.1[i].2.2)) hi rfl (by rw[hn];exact hne)).1 hs⟩
  ·exact Iff.rfl
theorem truncTxt {d:DiskT} {n:List UInt8} {z:Int} (h:(dTrunc n z d).2=0):fileText (dTrunc n z d).1 n=((fileText d n).1.take z.toNat,true):=by
 obtain ⟨k,ha,hx⟩:=dstep_zero h
 have hk:diskOk (dTrunc n z d).1=true:=dk_Trunc k n z
 have hx:(dTrunc n z d).1=_:=hx
 unfold actTrunc at ha hx
 rcases fileIx_cases d.1 n with ⟨e,_⟩ | ⟨i,hi,e,hn⟩
 ·rw[ix_none e] at ha;simp at ha
 rw[ix_some e] at ha hx
 simp only at ha hx
 split at ha
 ·rename_i c
  rw[if_pos c,getD_lt hi] at hx
  have e1:=fileText_mem k (List.getElem_mem hi)
  rw[hn] at e1
  have hm:((n,d.1[i].2.1.take z.toNat,if z<d.1[i].2.2 then z else d.1[i].2.2):FileT)∈(dTrunc n z d).1.1:=by
   rw[hx,←hn]
   exact List.mem_iff_getElem.2 ⟨i,by simpa using hi,by simp⟩
  have e2:=fileText_mem hk hm
  rw[e1]
  exact e2
 ·simp at ha
noncomputable def cutN (v:LiveT) (d:DiskT):Nat:=(scan (fileText d (segName (lastI v.2))).1).2
noncomputable def cutW (v:LiveT) (d:DiskT):WorkT:=
 sstep (dSync (segName (lastI v.2))) (if (fileText d (segName (lastI v.2))).1.length=cutN v d then (d,0) else dTrunc (segName (lastI v.2)) (cutN v d:Int) d)
theorem dk_cutW {v:LiveT} {d:DiskT} (h:diskOk d=true):diskOk (cutW v d).1=true:=by
 unfold cutW
 refine dk_sstep ?_ fun k=>dk_Sync k _
 split
 ·exact h
 ·exact dk_Trunc h _ _
theorem cutW_ft {v:LiveT} {d:DiskT} (h:diskOk d=true) (n:List UInt8) (hne:n≠segName (lastI v.2)):fileText (cutW v d).1 n=fileText d n:=by
 unfold cutW
 split
 ·rw[ft_sstep (ft_Sync h _ _)]
 ·have hk:diskOk (dTrunc (segName (lastI v.2)) (cutN v d:Int) d).1=true:=dk_Trunc h _ _
  rw[ft_sstep (ft_Sync hk _ _)]
  exact ft_Trunc h _ hne
theorem cutW_last {v:LiveT} {d:DiskT} (h:diskOk d=true) (hl:(fileText d (segName (lastI v.2))).2=true) (hc:(cutW v d).2=0) :
  fileText (cutW v d).1 (segName (lastI v.2))=((fileText d (segName (lastI v.2))).1.take (cutN v d),true):=by
 unfold cutW at hc ⊢
 have h0:=(sstep_inv hc).1
 split
 ·rename_i c
  rw[ft_sstep (ft_Sync h _ _),←c,List.take_length]
  exact Prod.ext rfl hl
 ·rename_i c
  rw[if_neg c] at h0
  have hk:diskOk (dTrunc (segName (lastI v.2)) (cutN v d:Int) d).1=true:=dk_Trunc h _ _
  rw[ft_sstep (ft_Sync hk _ _),truncTxt h0,Int.toNat_natCast]
theorem cutW_pl {v:LiveT} {d:DiskT} (h:diskOk d=true) (hl:(fileText d (segName (lastI v.2))).2=true) (hc:(cutW v d).2=0) (id:Int):segPl (cutW v d).1 id=segPl d id:=by
 unfold segPl
 by_cases c:segName id=segName (lastI v.2)
 ·rw[c,cutW_last h hl hc]
  show List.map _ (scan ((fileText d (segName (lastI v.2))).1.take (cutN v d))).1=_
  unfold cutN
  rw[scan_cut]
 ·rw[cutW_ft h _ c]
theorem segsHave_last {d:DiskT}:∀(l:List Int),l≠[]→segsHave d l=true→(fileText d (segName (lastI l))).2=true
 | [],h,_=>absurd rfl h
 | [x],_,h=>by
  simp only[segsHave,Bool.and_eq_true] at h
  rw[lastI_one];exact h.1
 | x::y::l,_,h=>by
  rw[lastI_cons]
  have h:segsHave d (x::(y::l))=true:=h
  rw[segsHave,Bool.and_eq_true,Bool.and_eq_true] at h
  exact segsHave_last (y::l) (by simp) h.2.2
noncomputable def openF (v:LiveT) (d:DiskT):StoreT×DiskT×Int:=
 if (cutW v d).2≠0 then (zStore,(cutW v d).1,told (cutW v d).2) else
 let x:=(cutW v d).1
 let g:=match hintG x (v.2.getD 0 0) with
  | some g=>regroup g (placesOf x (v.2.drop 1))
  | none=>regroup ([],0,0) (placesOf x v.2)
 let hinted:=match hintG x (v.2.getD 0 0) with
  | some _=>v.2.getD 0 0
  | none=>0
 if g.2.2≠0 then (zStore,x,3) else
 if (sweepW v x).2≠0 then (zStore,(sweepW v x).1,told (sweepW v x).2) else
 ((v,g.1,w64 (g.2.1+1),(cutN v d:Int),hinted),(sweepW v x).1,0)
noncomputable def openP (d:DiskT):StoreT×DiskT×Int:=
 if diskOk d=false then (zStore,d,4) else if d.2.2.2=true then (zStore,d,1) else
 if (fileText d liveN).2=false then openFirst d else
 if (readLive (fileText d liveN).1).2=false then (zStore,d,3) else
 if segsHave d (readLive (fileText d liveN).1).1.2=false then (zStore,d,3) else openF (readLive (fileText d liveN).1).1 d
theorem hintG_len {x:DiskT} {id:Int} {g:GroupT} (h:hintG x id=some g):g.1.length≤20∧g.2.2=0:=by
 unfold hintG at h
 split at h
 ·rename_i c
  simp only[Option.some.injEq] at h
  subst h
  refine ⟨?_,rfl⟩
  rcases readHint_cases (fileText x (hintName id)).1 with ⟨e,_⟩ | ⟨u,e,hu⟩
  ·rw[e] at c;simp at c
  ·rw[e];exact (hint_in hu.1).2.2.1
 ·simp at h
theorem regInv_hint {x:DiskT} {id:Int} {g:GroupT} (h:hintG x id=some g):regInv g:=by
 obtain ⟨h1,h2⟩:=hintG_len h
 unfold regInv
 rw[if_pos h2];omega
theorem regInv_zero:regInv ([],0,0):=by unfold regInv;simp
theorem placesOf_len {x:DiskT} (h:diskOk x=true) {ids:List Int} (hl:ids.length≤60):(placesOf x ids).length<10000000:=by
 have:=segsPl_len h ids
 unfold placesOf;omega
theorem impl_found_eq (d:DiskT) (t:List UInt8) (h:diskOk d=true) (ht:t.length<1000000000) :
  ∃S w,ψ1S.f (d,0) t=some (S,w) ∧
   (if w.2≠0 then (zStore,w.1,w.2) else (S,w.1,(0:Int))) =
   (if (readLive t).2=false then (zStore,d,3) else if segsHave d (readLive t).1.2=false then (zStore,d,3) else openF (readLive t).1 d):=by
 unfold ψ1S.f
 rw[impl_ReadLive_eq t ht,Option.bind_some]
 rcases readLive_cases t with ⟨e,_⟩ | ⟨v,e,hv⟩
 ·rw[e]
  have hs:=impl_scanAll_eq (d,0) zeroLive h (by show 0<_;omega)
  rw[if_pos (show segsHave d zeroLive.2=true from rfl)] at hs
  simp only[hs,Option.bind_some,Bool.not_false,cond_true,if_true]
  exact ⟨_,_,rfl,by simp⟩
 rw[e]
 have hlen:=liveOk_len hv.1
 have hpos:=((liveOk_iff v).1 hv.1).2.2.1
 have hs:=impl_scanAll_eq (d,0) v h (by omega)
 simp only[hs,Option.bind_some]
 cases hc:segsHave d v.2 with
 | false=>
  simp only[Bool.false_eq_true,if_false,Bool.not_true,cond_false,Bool.not_false,cond_true]
  exact ⟨_,_,rfl,by simp⟩
 | true=>
  have hlast:=segsHave_last v.2 (fun z=>by rw[z] at hpos;simp at hpos) hc
  obtain ⟨l1,l2,l3⟩:=last_rd hpos (by omega)
  have hle:=lastEnd_last d v.2 0 (fun z=>by rw[z] at hpos;simp at hpos)
  have hlm:=dl_lim (dl_dk h) (show 100001≤1000000000 by omega)
  have hT:=impl_Truncate_eq d (segName (lastI v.2)) (cutN v d:Int) hlm
  have hT:ψt.f d (segName (lastI v.2)) (cutN v d:Int)=some (dTrunc (segName (lastI v.2)) (cutN v d:Int) d):=hT
  have hcw:lastEnd d v.2 0=(cutN v d:Int):=hle
  simp only[if_true,Bool.not_true,cond_false,Bool.true_eq_false,if_false,l1,l2,cond_true,l3,impl_SegName_eq,Option.bind_some,impl_FileText_eq d _ hlm,hcw]
  -- cut and kept
  have hmid:∃w0:WorkT,w0=toldW (if (fileText d (segName (lastI v.2))).1.length=cutN v d then (d,0) else dTrunc (segName (lastI v.2)) (cutN v d:Int) d) ∧
    ((bif ((fileText d (segName (lastI v.2))).1.length:Int) != (cutN v d:Int) then
     (ψt.f d (segName (lastI v.2)) (cutN v d:Int)).bind fun (t5_0,t5_1)=>(ψ1b.f (d,0) t5_0 t5_1).bind fun t6=>some (t6,zStore,v,v.2.map (segPl d),(cutN v d:Int),segName (lastI v.2))
     else some ((d,0),zStore,v,v.2.map (segPl d),(cutN v d:Int),segName (lastI v.2)):Option (WorkT×StoreT×LiveT×List (List PlaceT)×Int×List UInt8)))=some (w0,zStore,v,v.2.map (segPl d),(cutN v d:Int),segName (lastI v.2)):=by
   refine ⟨_,rfl,?_⟩
   by_cases c:(fileText d (segName (lastI v.2))).1.length=cutN v d
   ·rw[len_eq c,if_pos c];rfl
   ·rw[len_ne c,if_neg c,cond_true,hT,Option.bind_some]
    generalize dTrunc (segName (lastI v.2)) (cutN v d:Int) d=p
    obtain ⟨p1,p2⟩:=p
    simp only[took_eq,Option.bind_some];rfl
  obtain ⟨w0,ew0,hmid⟩:=hmid
  have hmid:=hmid
  have hsync:ψ1a.f w0 (segName (lastI v.2))=some (toldW (cutW v d)):=by
   have hd0:diskOk w0.1=true:=by
    rw[ew0]
    show diskOk (if (fileText d (segName (lastI v.2))).1.length=cutN v d then (d,(0:Int)) else dTrunc (segName (lastI v.2)) (cutN v d:Int) d).1=true
    split
    ·exact h
    ·exact dk_Trunc h _ _
   rw[w_sync_eq w0 (segName (lastI v.2)) (dl_dk hd0) (by omega),ew0,wstep_told];rfl
  refine (show ∃S w,_∧_ from ?_)
  have hx0:inB 0 v.2.length=true:=by rw[show (0:Int)=((0:Nat):Int) from rfl,inB_nat];simp;omega
  have hr0:rdA 0 v.2 0=v.2.getD 0 0:=by rw[show (0:Int)=((0:Nat):Int) from rfl,rdA_nat]
  have hsl:(decide (0≤(1:Int)) && decide (1≤((v.2.map (segPl d)).length:Int)))=true:=by rw[List.length_map];simp;omega
  have hd1:=dk_cutW (v:=v) h
  have hpl:=fun hc2=>cutW_pl (v:=v) h hlast hc2
  unfold openF
  have hfl:∀ids:List Int,(cutW v d).2=0→(ids.map (segPl d)).flatten=placesOf (cutW v d).1 ids:=fun ids hc2=>by
   unfold placesOf
   rw[List.flatMap_def]
   congr 1
   exact List.map_congr_left fun id _=>(hpl hc2 id).symm
  have hmap:∀(ids:List Int),∀l∈ids.map (segPl d),l.length≤100000:=fun ids l hl=>by
   obtain ⟨id,_,rfl⟩:=List.mem_map.1 hl;exact segPl_len h id
  rw[show (((d,(0:Int)):WorkT).1)=d from rfl] at *
  rw[hmid,Option.bind_some]
  simp only[hsync,Option.bind_some]
  generalize hW:cutW v d=W at *
  obtain ⟨x,c⟩:=W
  by_cases c0:c=0
  rotate_left
  ·have t1:(told c != 0)=true:=by rw[told_ne];simpa using c0
   have t2:told c≠0:=fun z=>c0 ((told_zero c).1 z)
   rw[if_pos c0]
   simp only[toldW,t1,cond_true]
   exact ⟨_,_,rfl,by rw[if_pos t2]⟩
  subst c0
  have hd1:diskOk x=true:=hd1
  rw[if_neg (by simp)]
  have t1:(told 0 != 0)=false:=rfl
  have t0:told 0=0:=rfl
  have hh:=impl_hinted_eq (x,0) (v.2.getD 0 0) hd1
  simp only[toldW,t1,t0,cond_false,hx0,cond_true,hr0,hh,Option.bind_some]
  -- the end,alike for both ways
  have fin:∀(g0:GroupT) (ids:List Int) (hin:Int),regInv g0→ids.length≤60 →
    ∃S w,((lp ψ1S.l0 ((x,0),zStore,(v.1,[]),(v,[],0,(cutN v d:Int),hin),g0,[],ids.map (segPl d),((ids.map (segPl d)).length:Int),0)).bind (fun (x0,x4,x5,x13,x14,x16)=>
     (ψd.f x14 x16).bind fun t10=>
     bif t10.2.2 != 0 then some (zStore,(x0.1,3)) else
     (ψ1V.f x0 (x5.1,x13.1.2)).bind fun t11=>some ((x13.1,t10.1,w64 (t10.2.1+1),x13.2.2.2),t11)):Option (StoreT×WorkT))=some (S,w) ∧
    (if w.2≠0 then (zStore,w.1,w.2) else (S,w.1,(0:Int))) =
     (if (regroup g0 (placesOf x ids)).2.2≠0 then (zStore,x,3) else if (sweepW v x).2≠0 then (zStore,(sweepW v x).1,told (sweepW v x).2) else
      ((v,(regroup g0 (placesOf x ids)).1,w64 ((regroup g0 (placesOf x ids)).2.1+1),(cutN v d:Int),hin),(sweepW v x).1,0)):=by
   intro g0 ids hin hg hi
   rw[impl_found_l0 (x,0) v (v,[],0,(cutN v d:Int),hin) g0 (ids.map (segPl d)) v (hmap ids) (by rw[List.length_map];omega),Option.bind_some]
   have hfl2:=hfl ids rfl
   have hrg:=impl_Regroup_eq g0 (placesOf x ids) (placesOf_len hd1 hi) hg
   have hor:=impl_orphans_eq (x,0) (v.1,v.2) hd1 (by show v.2.length<_;omega)
   have ewd:wDrop (orphP x v) (x,0)=toldW (sweepW v x):=wDrop_told _ (x,0)
   have hor:ψ1V.f (x,0) (v.1,v.2)=some (toldW (sweepW v x)):=hor.trans (by rw[←ewd])
   simp only[hfl2,hrg,Option.bind_some]
   by_cases c1:(regroup g0 (placesOf x ids)).2.2=0
   rotate_left
   ·have d1:((regroup g0 (placesOf x ids)).2.2 != 0)=true:=by simpa using c1
    rw[d1,cond_true,if_pos c1]
    exact ⟨_,_,rfl,by simp⟩
   have d1:((regroup g0 (placesOf x ids)).2.2 != 0)=false:=by simpa using c1
   rw[d1,cond_false,if_neg (fun z=>z c1),hor,Option.bind_some]
   refine ⟨_,_,rfl,?_⟩
   generalize sweepW v x=S2
   obtain ⟨y,c2⟩:=S2
   by_cases c3:c2=0
   ·subst c3;simp[toldW,told]
   ·have t2:told c2≠0:=fun z=>c3 ((told_zero c2).1 z)
    simp[toldW,t2,c3]
  cases hg:hintG x (v.2.getD 0 0) with
  | some g=>
   simp only[cond_true,hx0,hsl,hr0,Option.bind_some]
   have e1:(v.2.map (segPl d)).drop 1=(v.2.drop 1).map (segPl d):=by rw[List.map_drop]
   rw[e1]
   exact fin g (v.2.drop 1) (v.2.getD 0 0) (regInv_hint hg) (by rw[List.length_drop];omega)
  | none=>
   simp only[cond_false,Option.bind_some]
   exact fin ([],0,0) v.2 0 regInv_zero hlen
theorem impl_Open_eq (d:DiskT) (hd:dl 1048577 d):ψT.f d=some (openP d):=by
 have hlm:=dl_lim hd (by omega)
 unfold ψT.f openP
 rw[impl_copyDisk_eq d (by have:=hd.1;omega),Option.bind_some,impl_DiskOk_eq d hlm,Option.bind_some]
 cases h:diskOk d with
 | false=>rfl
 | true=>
  simp only[Bool.not_true,cond_false,Bool.true_eq_false,if_false]
  obtain ⟨fs,cap,fuel,down⟩:=d
  cases hdn:down with
  | true=>rfl
  | false=>
   subst hdn
   simp only[cond_false,Bool.false_eq_true,if_false]
   have hft:=impl_FileText_eq (fs,cap,fuel,false) liveN hlm
   have hft:ψG.f (fs,cap,fuel,false) [108,105,118,101]=_:=hft
   rw[hft,Option.bind_some]
   have htl:=txt_le h liveN
   generalize ((fs,cap,fuel,false):DiskT)=d at *
   generalize fileText d liveN=q at htl ⊢
   obtain ⟨t,b⟩:=q
   cases b with
   | false=>
    simp only[cond_false,if_true]
    obtain ⟨w,e1,e2⟩:=impl_first_eq d h
    simp only[e1,Option.bind_some]
    unfold openFirst
    rw[e2]
    generalize sPut (2,[1]) (sstep (dCreate (segName 1)) (sweepW zeroLive d))=p
    obtain ⟨y,c⟩:=p
    by_cases c0:c=0
    ·subst c0;simp[toldW,told]
    ·have t1:(told c != 0)=true:=by rw[told_ne];simpa using c0
     simp only[toldW,t1,cond_true]
     rw[if_pos c0]
   | true=>
    simp only[cond_true,Bool.true_eq_false,if_false]
    obtain ⟨S,w,e1,e2⟩:=impl_found_eq d t h (by have:t.length≤100000:=htl;omega)
    rw[←e2]
    simp only[e1,Option.bind_some]
    obtain ⟨y,c⟩:=w
    by_cases c0:c=0
    ·subst c0;simp
    ·have t1:(c != 0)=true:=by simpa using c0
     simp only[t1,cond_true]
     rw[if_pos c0]
theorem spec_Open_eq (d:DiskT) (hd:dl 1048577 d):ψ25.f d=some (openP d):=by
 have hlm:=dl_lim hd (by omega)
 unfold ψ25.f openP
 have hcp:=spec_l3Copy_eq d (by have:=hd.1;omega)
 rw[spec_DiskOk_eq d hlm,Option.bind_some]
 cases h:diskOk d with
 | false=>simp only[Bool.not_false,cond_true,hcp,Option.bind_some,if_true]
 | true=>
  simp only[Bool.not_true,cond_false,Bool.true_eq_false,if_false]
  cases hdn:d.2.2.2 with
  | true=>simp only[cond_true,hcp,Option.bind_some,if_true]
  | false=>
   simp only[cond_false,Bool.false_eq_true,if_false]
   have hft:=spec_FileText_eq d liveN hlm
   have hft:ψ1t.f d [108,105,118,101]=_:=hft
   rw[hft,Option.bind_some]
   have htl:=txt_le h liveN
   generalize fileText d liveN=q at htl ⊢
   obtain ⟨t,b⟩:=q
   cases b with
   | false=>simp only[Bool.not_false,cond_true,spec_first_eq d h,Option.bind_some,if_true]
   | true=>
    have htl:t.length≤100000:=htl
    simp only[Bool.not_true,cond_false,Bool.true_eq_false,if_false,spec_ReadLive_eq t (by omega),Option.bind_some]
    rcases readLive_cases t with ⟨e,_⟩ | ⟨v,e,hv⟩
    ·rw[e]
     simp only[Bool.not_false,cond_true,hcp,Option.bind_some,if_true]
    rw[e]
    have hlen:=liveOk_len hv.1
    have hpos:=((liveOk_iff v).1 hv.1).2.2.1
    obtain ⟨l1,l2,l3⟩:=last_rd hpos (by omega)
    have h0:=spec_Open_l0 d v h hv.1
    simp only[Bool.not_true,cond_false,Bool.true_eq_false,if_false,l1,l2,cond_true,l3,h0,Option.bind_some]
    cases hc:segsHave d v.2 with
    | false=>simp only[Bool.false_eq_true,if_false,caseS_r,if_true]
    | true=>
     have hsc:=scan_len (fileText d (segName (lastI v.2))).1
     have htx:=txt_le h (segName (lastI v.2))
     have hT:=spec_Truncate_eq d (segName (lastI v.2)) (cutN v d:Int) hlm
     have hT:ψ2V.f d (segName (lastI v.2)) (cutN v d:Int)=some (dTrunc (segName (lastI v.2)) (cutN v d:Int) d):=hT
     have hsr:=spec_ScanRecs_eq (fileText d (segName (lastI v.2))).1 (by omega)
     have hcn:((scan (fileText d (segName (lastI v.2))).1).2:Int)=(cutN v d:Int):=rfl
     rw[hcn] at hsr
     simp only[if_true,caseS_l,Bool.true_eq_false,if_false,spec_SegName_eq,Option.bind_some,spec_FileText_eq d _ hlm,hsr,hcp]
     have hle:cutN v d≤(fileText d (segName (lastI v.2))).1.length:=hsc.1
     unfold openF
     -- the end,alike for both ways
     have fin:∀(w:WorkT),diskOk w.1=true→w.2=0→cutW v d=sstep (dSync (segName (lastI v.2))) w →
       ((ψ2U.f w.1 (segName (lastI v.2))).bind fun (t25_0,t25_1)=>
        bif t25_1 != 0 then (ψ2a.f t25_1).bind fun t26=>some (zStore,t25_0,t26) else
        (lp ψ25.l2 (zStore,zDisk,zStore,v,t25_0,(v,[],0,(cutN v d:Int),0),([],0,0),([]:List PlaceT),0)).bind (fun (x2,x3,x5,x8,x19,x23,x24,x25)=>
        (ψ2H.f x24 x25).bind fun t35=>
        bif t35.2.2 != 0 then some (x5,x19,3) else
        (ψ2f.f x19 x8).bind fun (t36_0,t36_1)=>
        bif t36_1 != 0 then some (x5,t36_0,t36_1) else some ((x23.1,t35.1,w64 (t35.2.1+1),x23.2.2.2),t36_0,0))) =
       some (if (cutW v d).2≠0 then (zStore,(cutW v d).1,told (cutW v d).2) else
        let x:=(cutW v d).1
        let g:=match hintG x (v.2.getD 0 0) with
         | some g=>regroup g (placesOf x (v.2.drop 1))
         | none=>regroup ([],0,0) (placesOf x v.2)
        let hinted:=match hintG x (v.2.getD 0 0) with
         | some _=>v.2.getD 0 0
         | none=>0
        if g.2.2≠0 then (zStore,x,3) else
        if (sweepW v x).2≠0 then (zStore,(sweepW v x).1,told (sweepW v x).2) else
        ((v,g.1,w64 (g.2.1+1),(cutN v d:Int),hinted),(sweepW v x).1,0)):=by
      intro w hw h0 ecut
      obtain ⟨w1,w2⟩:=w
      have h0:w2=0:=h0
      subst h0
      have hw:diskOk w1=true:=hw
      have hsy:=spec_Sync_eq w1 (segName (lastI v.2)) (dl_lim (dl_dk hw) (by omega))
      have hsy:ψ2U.f w1 (segName (lastI v.2))=some (dSync (segName (lastI v.2)) w1):=hsy
      rw[sstep_z] at ecut
      have hdx:=dk_Sync hw (segName (lastI v.2))
      rw[←ecut] at hsy hdx
      simp only[hsy,Option.bind_some]
      generalize cutW v d=W at hdx ⊢
      obtain ⟨x,c⟩:=W
      have hdx:diskOk x=true:=hdx
      by_cases c0:c=0
      rotate_left
      ·have d0:(c != 0)=true:=by simpa using c0
       rw[if_pos c0]
       simp only[d0,cond_true,spec_l11Code_eq,Option.bind_some]
      subst c0
      rw[if_neg (by simp)]
      have d0:((0:Int) != 0)=false:=rfl
      have h2:=spec_Open_l2 x v (cutN v d:Int) hdx hv.1
      simp only[d0,cond_false,h2,Option.bind_some]
      have fin2:∀(g0:GroupT) (ids:List Int) (hin:Int),regInv g0→ids.length≤60 →
        ((ψ2H.f g0 (placesOf x ids)).bind fun t35=>bif t35.2.2 != 0 then some (zStore,x,3) else (ψ2f.f x v).bind fun (t36_0,t36_1)=>
         bif t36_1 != 0 then some (zStore,t36_0,t36_1) else some ((v,t35.1,w64 (t35.2.1+1),(cutN v d:Int),hin),t36_0,0)) =
        some (if (regroup g0 (placesOf x ids)).2.2≠0 then (zStore,x,3) else if (sweepW v x).2≠0 then (zStore,(sweepW v x).1,told (sweepW v x).2) else
         ((v,(regroup g0 (placesOf x ids)).1,w64 ((regroup g0 (placesOf x ids)).2.1+1),(cutN v d:Int),hin),(sweepW v x).1,0)):=by
       intro g0 ids hin hg hi
       have hrg:=spec_Regroup_eq g0 (placesOf x ids) (placesOf_len hdx hi) hg
       rw[hrg,Option.bind_some]
       by_cases c1:(regroup g0 (placesOf x ids)).2.2=0
       rotate_left
       ·have d1:((regroup g0 (placesOf x ids)).2.2 != 0)=true:=by simpa using c1
        rw[d1,cond_true,if_pos c1]
       have d1:((regroup g0 (placesOf x ids)).2.2 != 0)=false:=by simpa using c1
       rw[d1,cond_false,if_neg (fun z=>z c1),spec_Sweep_eq x v hdx (by omega),Option.bind_some]
       generalize sweepW v x=S2
       obtain ⟨y,c2⟩:=S2
       by_cases c3:c2=0
       ·subst c3;simp[toldW,told]
       ·have t2:(told c2 != 0)=true:=by rw[told_ne];simpa using c3
        simp only[toldW,t2,cond_true]
        rw[if_pos c3]
      cases hg:hintG x (v.2.getD 0 0) with
      | some g=>exact fin2 g (v.2.drop 1) (v.2.getD 0 0) (regInv_hint hg) (by rw[List.length_drop];omega)
      | none=>exact fin2 ([],0,0) v.2 0 regInv_zero hlen
     by_cases c:(fileText d (segName (lastI v.2))).1.length=cutN v d
     ·have d1:decide ((cutN v d:Int)<((fileText d (segName (lastI v.2))).1.length:Int))=false:=decide_eq_false (by omega)
      rw[d1,cond_false,Option.bind_some]
      simp only[caseS_l,spec_SegName_eq,Option.bind_some]
      exact fin (d,0) h rfl (by unfold cutW;rw[if_pos c])
     ·have d1:decide ((cutN v d:Int)<((fileText d (segName (lastI v.2))).1.length:Int))=true:=decide_eq_true (by omega)
      rw[d1,cond_true,hT,Option.bind_some]
      have ecut:cutW v d=sstep (dSync (segName (lastI v.2))) (dTrunc (segName (lastI v.2)) (cutN v d:Int) d):=by unfold cutW;rw[if_neg c]
      have hdt:diskOk (dTrunc (segName (lastI v.2)) (cutN v d:Int) d).1=true:=dk_Trunc h _ _
      generalize dTrunc (segName (lastI v.2)) (cutN v d:Int) d=p at ecut hdt ⊢
      obtain ⟨y,c2⟩:=p
      by_cases c3:c2=0
      ·subst c3
       simp only[show ((0:Int) != 0)=false from rfl,cond_false,Option.bind_some,caseS_l,spec_SegName_eq]
       exact fin (y,0) hdt rfl ecut
      ·have d3:(c2 != 0)=true:=by simpa using c3
       rw[sstep_ne c3] at ecut
       simp only[d3,cond_true,spec_l11Code_eq,Option.bind_some,caseS_r]
       rw[ecut,if_pos c3]
theorem regGo_inv:∀(r pre:List PlaceT) (g:GroupT),regInv g→pre.length+r.length<10000000→regInv (regGo pre r g)
 | [],_,g,h,_=>h
 | p::r,pre,g,h,hl=>by
  unfold regGo
  simp only[List.length_cons] at hl
  split
  ·exact h
  ·rename_i c
   exact regGo_inv r (pre++[p]) _ (regInv_step h (by simpa using c) (by omega)) (by simp only[List.length_append,List.length_singleton];omega)
theorem regroup_len {g:GroupT} {l:List PlaceT} (h:regInv g) (hl:l.length<10000000):(regroup g l).1.length≤11000020:=by
 have:=regGo_inv l [] g h (by simpa using hl)
 unfold regInv at this
 unfold regroup regEnd
 split
 ·show (regGo [] l g).1.length≤_
  split at this<;>omega
 ·split at this<;>omega
noncomputable def openE (v:LiveT) (x:DiskT) (e:Int) (g:GroupT) (hin:Int):StoreT×DiskT×Int:=
 if g.2.2≠0 then (zStore,x,3) else
 if (sweepW v x).2≠0 then (zStore,(sweepW v x).1,told (sweepW v x).2) else
 ((v,g.1,w64 (g.2.1+1),e,hin),(sweepW v x).1,0)
theorem openF_eq (v:LiveT) (d:DiskT):openF v d=if (cutW v d).2≠0 then (zStore,(cutW v d).1,told (cutW v d).2) else
  match hintG (cutW v d).1 (v.2.getD 0 0) with
  | some g=>openE v (cutW v d).1 (cutN v d:Int) (regroup g (placesOf (cutW v d).1 (v.2.drop 1))) (v.2.getD 0 0)
  | none=>openE v (cutW v d).1 (cutN v d:Int) (regroup ([],0,0) (placesOf (cutW v d).1 v.2)) 0:=by
 unfold openF
 by_cases c:(cutW v d).2≠0
 ·rw[if_pos c,if_pos c]
 ·rw[if_neg c,if_neg c]
  simp only
  cases hintG (cutW v d).1 (v.2.getD 0 0)<;>rfl
theorem openE_ok {v:LiveT} {x:DiskT} (e:Int) (g:GroupT) (hin:Int) (h:diskOk x=true) (hl:v.2.length≤60) (hg:g.1.length≤11000020) :
  diskOk (openE v x e g hin).2.1=true∧(openE v x e g hin).1.1.2.length≤60∧(openE v x e g hin).1.2.1.length≤11000020:=by
 unfold openE
 have hs:=dk_sweep h v
 split
 ·exact ⟨h,by simp,by simp⟩
 split
 ·exact ⟨hs,by simp,by simp⟩
 exact ⟨hs,hl,hg⟩
theorem openP_ok {d:DiskT} (h:diskOk d=true):diskOk (openP d).2.1=true∧(openP d).1.1.2.length≤60∧(openP d).1.2.1.length≤11000020:=by
 unfold openP
 rw[if_neg (by rw[h];simp)]
 split
 ·exact ⟨h,by simp,by simp⟩
 split
 ·unfold openFirst
  have h1:diskOk (sPut (2,[1]) (sstep (dCreate (segName 1)) (sweepW zeroLive d))).1=true:=dk_sPut (dk_sstep (dk_sweep h zeroLive) fun k=>dk_Create k _) _
  simp only
  split
  ·exact ⟨h1,by simp,by simp⟩
  ·exact ⟨h1,by simp,by simp⟩
 split
 ·exact ⟨h,by simp,by simp⟩
 rename_i hv
 split
 ·exact ⟨h,by simp,by simp⟩
 rcases readLive_cases (fileText d liveN).1 with ⟨e,_⟩ | ⟨v,e,hlv⟩
 ·rw[e] at hv;simp at hv
 rw[e]
 show diskOk (openF v d).2.1=true∧(openF v d).1.1.2.length≤60∧(openF v d).1.2.1.length≤11000020
 have hlen:=liveOk_len hlv.1
 have hd1:=dk_cutW (v:=v) h
 rw[openF_eq]
 split
 ·exact ⟨hd1,by simp,by simp⟩
 cases hg:hintG (cutW v d).1 (v.2.getD 0 0) with
 | some g=>exact openE_ok _ _ _ hd1 hlen (regroup_len (regInv_hint hg) (placesOf_len hd1 (by rw[List.length_drop];omega)))
 | none=>exact openE_ok _ _ _ hd1 hlen (regroup_len regInv_zero (placesOf_len hd1 hlen))
theorem seg1_eq:segName 1=[115,101,103,49]:=by
 unfold segName nameN
 rw[if_pos (by decide)]
 show _++Lib.decDigits 1=_
 rw[Lib.decDigits_one (by decide)]
 rfl
theorem live1_len:(showLive (2,[1])).length=8:=by
 unfold showLive
 rw[if_neg (by decide)]
 have e2:varT 2=[2]:=by rw[show (2:Int)=((2:Nat):Int) from rfl,varT_nat 2 (by decide),varN_small (by decide)];rfl
 have e1:varT 1=[1]:=by rw[show (1:Int)=((1:Nat):Int) from rfl,varT_nat 1 (by decide),varN_small (by decide)];rfl
 have e:varT (2,[1]).1++varT (((2,[1]):LiveT).2.length:Int)++(((2,[1]):LiveT).2.map varT).flatten=[2,1,1]:=by
  show varT 2++varT 1++(varT 1++[])=_
  rw[e2,e1];rfl
 rw[e]
 obtain ⟨h1,h2⟩:=frame_eq (t:=[2,1,1]) (by decide)
 rw[h1,List.length_append,h2,List.length_append,varN_small (by decide)]
 rfl
theorem dstep_free {d:DiskT} {c:Int} (h:diskOk d=true) (hf:d.2=(c,-1,false)) (act:List FileT→Int×List FileT):dstep d act=(((act d.1).2,c,-1,false),(act d.1).1):=by
 obtain ⟨l,t⟩:=d
 simp only at hf
 subst hf
 unfold dstep tick
 rw[if_neg (by rw[h];simp),if_neg (by simp)]
 simp
def dNew (n:Nat):DiskT:=([(liveN,showLive (2,[1]),8),(segName 1,[],0)],(n:Int),-1,false)
abbrev d0N (n:Nat):DiskT:=([],(n:Int),-1,false)
theorem first_new (n:Nat) (h:n≤100000):∃y,diskOk y=true∧sPut (2,[1]) (sstep (dCreate (segName 1)) (sweepW zeroLive (d0N n)))=if n<8 then (y,2) else (dNew n,0):=by
 have k0:diskOk (d0N n)=true:=dk_new (n:Int) (by omega)
 have hsw:sweepW zeroLive (d0N n)=(d0N n,0):=by
  unfold sweepW orphP
  rw[if_neg (by rw[k0];simp)];rfl
 have hL:=live1_len
 unfold dNew sPut sFile
 generalize showLive (2,[1])=L at hL ⊢
 rw[hsw,sstep_z,seg1_eq]
 -- the segment
 have s1:dCreate [115,101,103,49] (d0N n)=(([([115,101,103,49],[],0)],(n:Int),-1,false),0):=by
  show dstep _ _=_
  rw[dstep_free k0 rfl]
  have:actCreate [115,101,103,49] []=(0,[([115,101,103,49],[],0)]):=by decide
  rw[this]
 have k1:=dk_Create k0 [115,101,103,49]
 rw[s1] at k1 ⊢
 have k1:diskOk (([([115,101,103,49],[],0)],(n:Int),-1,false):DiskT)=true:=k1
 rw[sstep_z]
 have s2:dGone [116,101,109,112] (([([115,101,103,49],[],0)],(n:Int),-1,false):DiskT)=(([([115,101,103,49],[],0)],(n:Int),-1,false),0):=by
  unfold dGone
  rw[if_neg (show ¬fileIx ([([115,101,103,49],[],0)]:List FileT) [116,101,109,112]≥0 by decide)]
 rw[s2,sstep_z]
 have s3:dCreate [116,101,109,112] (([([115,101,103,49],[],0)],(n:Int),-1,false):DiskT)=(([([115,101,103,49],[],0),([116,101,109,112],[],0)],(n:Int),-1,false),0):=by
  show dstep _ _=_
  rw[dstep_free k1 rfl]
  have:actCreate [116,101,109,112] [([115,101,103,49],[],0)]=(0,[([115,101,103,49],[],0),([116,101,109,112],[],0)]):=by decide
  rw[this]
 have k2:=dk_Create k1 [116,101,109,112]
 rw[s3] at k2 ⊢
 have k2:diskOk (([([115,101,103,49],[],0),([116,101,109,112],[],0)],(n:Int),-1,false):DiskT)=true:=k2
 rw[sstep_z]
 have k3:=dk_Append k2 [116,101,109,112] L
 by_cases c:n<8
 ·simp only[if_pos c]
  have s4:dAppend [116,101,109,112] L (([([115,101,103,49],[],0),([116,101,109,112],[],0)],(n:Int),-1,false):DiskT)=(([([115,101,103,49],[],0),([116,101,109,112],[],0)],(n:Int),-1,false),2):=by
   show dstep _ _=_
   rw[dstep_free k2 rfl]
   unfold actAppend
   have:([([115,101,103,49],[],0),([116,101,109,112],[],0)]:List FileT).findIdx? (fun f=>f.1==[116,101,109,112])=some 1:=by decide
   rw[this]
   have hu:usedN ([([115,101,103,49],[],0),([116,101,109,112],[],0)]:List FileT)=0:=by decide
   simp only[hu]
   rw[if_pos (by omega)]
  rw[s4,sstep_ne (show (2:Int)≠0 by decide),sstep_ne (show (2:Int)≠0 by decide)]
  exact ⟨_,k2,rfl⟩
 ·simp only[if_neg c]
  have s4:dAppend [116,101,109,112] L (([([115,101,103,49],[],0),([116,101,109,112],[],0)],(n:Int),-1,false):DiskT)=(([([115,101,103,49],[],0),([116,101,109,112],L,0)],(n:Int),-1,false),0):=by
   show dstep _ _=_
   rw[dstep_free k2 rfl]
   unfold actAppend
   have:([([115,101,103,49],[],0),([116,101,109,112],[],0)]:List FileT).findIdx? (fun f=>f.1==[116,101,109,112])=some 1:=by decide
   rw[this]
   have hu:usedN ([([115,101,103,49],[],0),([116,101,109,112],[],0)]:List FileT)=0:=by decide
   simp only[hu]
   rw[if_neg (by omega)]
   rfl
  rw[s4] at k3 ⊢
  have k3:diskOk (([([115,101,103,49],[],0),([116,101,109,112],L,0)],(n:Int),-1,false):DiskT)=true:=k3
  rw[sstep_z]
  have k4:=dk_Sync k3 [116,101,109,112]
  have s5:dSync [116,101,109,112] (([([115,101,103,49],[],0),([116,101,109,112],L,0)],(n:Int),-1,false):DiskT)=(([([115,101,103,49],[],0),([116,101,109,112],L,8)],(n:Int),-1,false),0):=by
   show dstep _ _=_
   rw[dstep_free k3 rfl]
   unfold actSync
   have:([([115,101,103,49],[],0),([116,101,109,112],L,0)]:List FileT).findIdx? (fun f=>f.1==[116,101,109,112])=some 1:=rfl
   rw[this]
   show ((([([115,101,103,49],[],0),([116,101,109,112],L,(L.length:Int))]:List FileT),(n:Int),-1,false),(0:Int))=_
   rw[hL];rfl
  rw[s5] at k4 ⊢
  have k4:diskOk (([([115,101,103,49],[],0),([116,101,109,112],L,8)],(n:Int),-1,false):DiskT)=true:=k4
  rw[sstep_z]
  have s6:dRename [116,101,109,112] [108,105,118,101] (([([115,101,103,49],[],0),([116,101,109,112],L,8)],(n:Int),-1,false):DiskT)=(([([108,105,118,101],L,8),([115,101,103,49],[],0)],(n:Int),-1,false),0):=by
   show dstep _ _=_
   rw[dstep_free k4 rfl]
   unfold actRename
   have:([([115,101,103,49],[],0),([116,101,109,112],L,8)]:List FileT).findIdx? (fun f=>f.1==[116,101,109,112])=some 1:=rfl
   rw[this,if_neg (by decide)]
   rfl
  rw[s6]
  exact ⟨_,k4,rfl⟩
theorem openP_new (n:Nat) (h:n≤100000):∃y,diskOk y=true∧openP (d0N n)=if n<8 then (zStore,y,2) else (((2,[1]),[],1,0,0),dNew n,0):=by
 have k0:diskOk (d0N n)=true:=dk_new (n:Int) (by omega)
 obtain ⟨y,hy,e⟩:=first_new n h
 refine ⟨y,hy,?_⟩
 have ht:fileText (d0N n) liveN=([],false):=fileText_eq_none fun f hf=>by simp at hf
 unfold openP
 rw[if_neg (by rw[k0];simp),if_neg (by simp),if_pos (by rw[ht])]
 unfold openFirst
 rw[e]
 split
 ·rename_i c;rfl
 ·rename_i c;rfl
theorem hintName_live (i:Int):hintName i≠liveN:=by
 unfold hintName nameN
 split
 ·intro e
  have:=congrArg (fun l=>l.getD 0 0) e
  simp[liveN] at this
 ·simp[liveN]
theorem hintName_temp (i:Int):hintName i≠tempN:=by
 unfold hintName nameN
 split
 ·intro e
  have:=congrArg (fun l=>l.getD 0 0) e
  simp[tempN] at this
 ·simp[tempN]
theorem sub_Gone (n:List UInt8) (d:DiskT):(dGone n d).1.1.Sublist d.1:=by
 unfold dGone
 split
 ·show (dstep d (actRemove n)).1.1.Sublist d.1
  unfold dstep
  split
  ·exact List.Sublist.refl _
  split
  ·exact List.Sublist.refl _
  ·show (actRemove n d.1).2.Sublist d.1
   unfold actRemove
   split
   ·exact remIx_sub _ _
   ·exact List.Sublist.refl _
 ·exact List.Sublist.refl _
theorem sub_sDrop:∀(names:List (List UInt8)) (w:WorkT),(sDrop names w).1.1.Sublist w.1.1
 | [],w=>List.Sublist.refl _
 | n::r,w=>by
  show (sDrop r (sstep (dGone n) w)).1.1.Sublist _
  refine (sub_sDrop r _).trans ?_
  unfold sstep
  split
  ·exact sub_Gone n w.1
  ·exact List.Sublist.refl _
theorem file_has {d:DiskT} (h:diskOk d=true) {f:FileT} (hf:f∈d.1):fileText d f.1=(f.2.1,true):=fileText_mem h hf
theorem has_file {d:DiskT} (h:diskOk d=true) {n:List UInt8} (hn:(fileText d n).2=true):∃s,((n,(fileText d n).1,s):FileT)∈d.1:=by
 obtain ⟨i,hi,_,hx,_⟩:=has_ix hn
 have:=fileText_mem h (List.getElem_mem hi)
 rw[hx] at this
 refine ⟨d.1[i].2.2,?_⟩
 rw[this]
 have e:((n,d.1[i].2.1,d.1[i].2.2):FileT)=d.1[i]:=by rw[←hx]
 rw[show ((n,(d.1[i].2.1,true).1,d.1[i].2.2):FileT)=d.1[i] from e]
 exact List.getElem_mem hi
theorem sweep_left {v:LiveT} {x:DiskT} (h:diskOk x=true) (hc:(sweepW v x).2=0):∀f∈(sweepW v x).1.1,f∈x.1∧orphB v f=false:=by
 intro f hf
 have hs:f∈x.1:=(sub_sDrop (orphP x v) (x,0)).subset hf
 refine ⟨hs,?_⟩
 cases ho:orphB v f with
 | false=>rfl
 | true=>
  exfalso
  have hg:=(sDropGone (orphP x v) (w:=(x,0)) h hc).2.2 f.1 (by
   unfold orphP
   rw[if_neg (by rw[h];simp)]
   exact List.mem_map.2 ⟨f,List.mem_filter.2 ⟨hs,ho⟩,rfl⟩)
  have:=file_has (dk_sweep h v) hf
  have hg:(fileText (sweepW v x).1 f.1).2=false:=hg
  rw[this] at hg;simp at hg
theorem orphP_mem {v:LiveT} {x:DiskT} (h:diskOk x=true) {n:List UInt8} (hn:n∈orphP x v):(∃id,named n id∧id ∉ v.2)∨n=tempN:=by
 unfold orphP at hn
 rw[if_neg (by rw[h];simp)] at hn
 obtain ⟨f,hf,rfl⟩:=List.mem_map.1 hn
 have ho:=(List.mem_filter.1 hf).2
 unfold orphB at ho
 rw[Bool.or_eq_true,Bool.and_eq_true] at ho
 rcases ho with ⟨h1,h2⟩ | h1
 ·left
  refine ⟨(idOf f.1).1,idOf_named (by rw[←h1]),fun hi=>?_⟩
  have:(v.2.any fun i=>i==(idOf f.1).1)=true:=List.any_eq_true.2 ⟨_,hi,by simp⟩
  rw[this] at h2;simp at h2
 ·right;simpa using h1
theorem sweep_ft {v:LiveT} {x:DiskT} (h:diskOk x=true) {n:List UInt8} (hn:∀id,named n id→id∈v.2) (ht:n≠tempN):fileText (sweepW v x).1 n=fileText x n:=by
 refine ft_sDrop (orphP x v) (w:=(x,0)) h fun m hm e=>?_
 subst e
 rcases orphP_mem h hm with ⟨id,hid,hno⟩ | e
 ·exact hno (hn id hid)
 ·exact ht e
theorem named_seg {id:Int} (h:1≤id∧id≤100000):named (segName id) id:=⟨h,.inl rfl⟩
theorem live_range {v:LiveT} (h:liveOk v=true) {id:Int} (hi:id∈v.2):1≤id∧id≤100000∧id<v.1:=by
 obtain ⟨k1,k2,k3,k4⟩:=(liveOk_iff v).1 h
 rw[w64_id (by omega) (by omega)] at k1
 have:=idsOk_mem _ _ k1 id hi
 omega
structure Opened (s:StoreT) (y:DiskT):Prop where
 dk:diskOk y=true
 lv:liveOk s.1=true
 seg:∀id∈s.1.2,(fileText y (segName id)).2=true
 cnt:∀f∈y.1,∀id,named f.1 id→id∈s.1.2
 tmp:∀f∈y.1,f.1≠tempN
theorem orphB_false {v:LiveT} {f:FileT} (h:orphB v f=false):(∀id,named f.1 id→id∈v.2)∧f.1≠tempN:=by
 unfold orphB at h
 rw[Bool.or_eq_false_iff] at h
 refine ⟨fun id hid=>?_,fun e=>?_⟩
 ·rw[idOf_yes hid] at h
  have:=h.1
  simp only[Bool.true_and,Bool.not_eq_false'] at this
  obtain ⟨x,hx,e⟩:=List.any_eq_true.1 this
  have:x=id:=by simpa using e
  subst this;exact hx
 ·rw[e] at h;simp at h
theorem sPut_inv {v:LiveT} {w:WorkT} (h:(sPut v w).2=0):w.2=0:=by
 unfold sPut sFile at h
 exact (sstep_inv (sstep_inv (sstep_inv (sstep_inv (sstep_inv h).1).1).1).1).1
theorem first_opened {d:DiskT} (h:diskOk d=true) (hc:(sPut (2,[1]) (sstep (dCreate (segName 1)) (sweepW zeroLive d))).2=0) :
  Opened ((2,[1]),[],1,0,0) (sPut (2,[1]) (sstep (dCreate (segName 1)) (sweepW zeroLive d))).1:=by
 have h1:=dk_sweep h zeroLive
 have c2:=sPut_inv hc
 obtain ⟨c1,c2',e2⟩:=sstep_inv c2
 have h2:diskOk (sstep (dCreate (segName 1)) (sweepW zeroLive d)).1=true:=dk_sstep h1 fun k=>dk_Create k _
 have h3:=dk_sPut (v:=(2,[1])) h2
 have t2:fileText (sstep (dCreate (segName 1)) (sweepW zeroLive d)).1 (segName 1)=([],true):=by rw[e2];exact createTxt c2'
 have hft:∀n,n≠tempN→n≠liveN→n≠segName 1→fileText (sPut (2,[1]) (sstep (dCreate (segName 1)) (sweepW zeroLive d))).1 n=fileText (sweepW zeroLive d).1 n:=fun n k1 k2 k3=>by
  rw[ft_sPut h2 _ k1 k2,e2]
  exact ft_Create h1 k3
 refine ⟨h3,live_one,?_,?_,?_⟩
 ·intro id hid
  have hid:id=1:=by simpa using hid
  subst hid
  rw[ft_sPut h2 _ (segName_temp 1) (segName_live 1),t2]
 ·intro f hf id hid
  have n1:f.1≠tempN:=by
   rcases hid.2 with e | e
   ·rw[e];exact segName_temp id
   ·rw[e];exact hintName_temp id
  have n2:f.1≠liveN:=by
   rcases hid.2 with e | e
   ·rw[e];exact segName_live id
   ·rw[e];exact hintName_live id
  by_cases n3:f.1=segName 1
  ·have:named f.1 1:=⟨by decide,.inl n3⟩
   have:=named_inj hid this
   subst this;simp
  ·exfalso
   have e:=hft f.1 n1 n2 n3
   rw[file_has h3 hf] at e
   obtain ⟨s,hs⟩:=has_file h1 (n:=f.1) (by rw[←e])
   have:=(orphB_false (sweep_left h c1 _ hs).2).1 id hid
   simp[zeroLive] at this
 ·-- temp was given the name live
  intro f hf e
  have hl:(fileText (sPut (2,[1]) (sstep (dCreate (segName 1)) (sweepW zeroLive d))).1 tempN).2=false:=sPut_temp h2 hc
  have:=file_has h3 hf
  rw[e] at this
  rw[this] at hl;simp at hl
where
 sPut_temp {v:LiveT} {w:WorkT} (h:diskOk w.1=true) (hc:(sPut v w).2=0):(fileText (sPut v w).1 tempN).2=false:=by
  unfold sPut at hc ⊢
  obtain ⟨c1,c2,e⟩:=sstep_inv hc
  rw[e]
  exact rename_from c2
 rename_from {d:DiskT} (h:(dRename [116,101,109,112] [108,105,118,101] d).2=0):(fileText (dRename [116,101,109,112] [108,105,118,101] d).1 tempN).2=false:=by
  obtain ⟨k,ha,hx⟩:=dstep_zero h
  have hx:(dRename [116,101,109,112] [108,105,118,101] d).1=_:=hx
  unfold actRename at ha hx
  rw[if_neg (by decide)] at ha hx
  rcases fileIx_cases d.1 tempN with ⟨e,_⟩ | ⟨i,hi,e,hn⟩
  ·rw[ix_none e] at ha;simp at ha
  ·rw[ix_some e] at hx
   simp only at hx
   rw[if_neg (show ¬([116,101,109,112]:List UInt8)=[108,105,118,101] by decide)] at hx
   have hp:=diskOk_pw k
   rw[hx]
   rw[show fileText _ tempN=([],false) from fileText_eq_none fun f hf e2=>?_]
   have hf:f∈insB (dropF (remIx d.1 i) [108,105,118,101]) ([108,105,118,101],(d.1.getD i ([],[],0)).2):=hf
   rw[mem_insB] at hf
   rcases hf with hf | hf
   ·rw[hf] at e2;exact absurd (show ([108,105,118,101]:List UInt8)=tempN from e2) (by decide)
   ·have:f∈remIx d.1 i:=(dropF_sub _ _).subset hf
    exact remIx_ne hi hp f this (e2.trans hn.symm)
theorem openP_opened {d y:DiskT} {s:StoreT} (h:openP d=(s,y,0)):Opened s y∧diskOk d=true:=by
 unfold openP at h
 split at h
 ·simp at h
 rename_i hk
 have hk:diskOk d=true:=by simpa using hk
 refine ⟨?_,hk⟩
 split at h
 ·simp at h
 split at h
 ·unfold openFirst at h
  simp only at h
  split at h
  ·rename_i c
   simp only[Prod.mk.injEq] at h
   exact absurd ((told_zero _).1 h.2.2) c
  ·rename_i c
   simp only[Prod.mk.injEq,and_true] at h
   rw[←h.1,←h.2]
   exact first_opened hk (by simpa using c)
 split at h
 ·simp at h
 rename_i hv
 split at h
 ·simp at h
 rename_i hsg
 rcases readLive_cases (fileText d liveN).1 with ⟨e,_⟩ | ⟨v,e,hlv⟩
 ·rw[e] at hv;simp at hv
 rw[e] at h hsg
 have hsg:segsHave d v.2=true:=by simpa using hsg
 have h:openF v d=(s,y,0):=h
 rw[openF_eq] at h
 split at h
 ·rename_i c
  simp only[Prod.mk.injEq] at h
  exact absurd ((told_zero _).1 h.2.2) c
 rename_i c
 have hd1:=dk_cutW (v:=v) hk
 have hpos:=((liveOk_iff v).1 hlv.1).2.2.1
 have key:∀e g hin,openE v (cutW v d).1 e g hin=(s,y,0)→Opened s y:=by
  intro e g hin he
  unfold openE at he
  split at he
  ·simp at he
  split at he
  ·rename_i c2
   simp only[Prod.mk.injEq] at he
   exact absurd ((told_zero _).1 he.2.2) c2
  rename_i c2
  have c2:(sweepW v (cutW v d).1).2=0:=by simpa using c2
  simp only[Prod.mk.injEq,and_true] at he
  obtain ⟨rfl,rfl⟩:=he
  refine ⟨dk_sweep hd1 v,hlv.1,?_,?_,?_⟩
  ·intro id hid
   have hr:=live_range hlv.1 hid
   rw[sweep_ft hd1 (fun j hj=>by rw[named_inj hj (named_seg ⟨hr.1,hr.2.1⟩)];exact hid) (segName_temp id)]
   have hone:∀l:List Int,segsHave d l=true→∀j∈l,(fileText d (segName j)).2=true:=by
    intro l
    induction l with
    | nil=>intro _ j hj;simp at hj
    | cons z l ih=>
     intro hl j hj
     rw[segsHave,Bool.and_eq_true,Bool.and_eq_true] at hl
     rcases List.mem_cons.1 hj with rfl | hj
     ·exact hl.1
     ·exact ih hl.2.2 j hj
   have h1:=hone v.2 hsg id hid
   by_cases cl:segName id=segName (lastI v.2)
   ·rw[cl] at h1 ⊢
    rw[cutW_last hk h1 (by simpa using c)]
   ·rw[cutW_ft hk _ cl];exact h1
  ·intro f hf id hid
   exact (orphB_false (sweep_left hd1 c2 f hf).2).1 id hid
  ·intro f hf
   exact (orphB_false (sweep_left hd1 c2 f hf).2).2
 cases hg:hintG (cutW v d).1 (v.2.getD 0 0) with
 | some g=>rw[hg] at h;exact key _ _ _ h
 | none=>rw[hg] at h;exact key _ _ _ h
def Free (d:DiskT):Prop:=d.2.2=(-1,false)
theorem insB_end {α:Type} {l:List (List UInt8×α)} {p:List UInt8×α} (h:∀x∈l,Op.bytesLess x.1 p.1=true):insB l p=l++[p]:=by
 have e:l.takeWhile (fun x=>leK x.1 p.1)=l:=by
  induction l with
  | nil=>rfl
  | cons x l ih=>
   have h1:=h x (by simp)
   rw[List.takeWhile_cons_of_pos (by unfold leK;simp[h1]),ih fun y hy=>h y (by simp[hy])]
 unfold insB
 rw[e]
 show l.take l.length++[p]++l.drop l.length=_
 rw[List.take_length,List.drop_length,List.append_nil]
theorem dropK_end {α:Type} {l:List (List UInt8×α)} {k:List UInt8} (h:∀x∈l,Op.bytesLess x.1 k=true):dropK l k=l:=by
 unfold dropK
 refine List.filter_eq_self.2 fun x hx=>?_
 have:=less_ne (h x hx)
 simpa using this
theorem applyD_rise (id:Int):∀(l:List SpotT) (dir:List EntryT),(∀x∈l,x.2.2.1=4)→srt (dir++l.map (entS id))→applyD dir (l.map fun x=>((id,x):PlaceT))=dir++l.map (entS id)
 | [],dir,_,_=>by simp[applyD]
 | x::l,dir,h4,hs=>by
  have hx:=h4 x (by simp)
  have hlt:∀y∈dir,Op.bytesLess y.1 (entS id x).1=true:=fun y hy=>by
   have:=(List.pairwise_append.1 hs).2.2 y hy (entS id x) (by simp)
   exact this
  have hp:putD dir ((id,x):PlaceT)=dir++[entS id x]:=by
   unfold putD
   rw[if_neg (by rw[hx];decide)]
   show insB (dropK dir (entS id x).1) (entS id x)=_
   rw[dropK_end hlt,insB_end hlt]
  show applyD (putD dir (id,x)) (l.map fun x=>((id,x):PlaceT))=_
  rw[hp,applyD_rise id l _ (fun y hy=>h4 y (by simp[hy])) (by simpa using hs)]
  simp
theorem ownL_kept (id b:Int):∀(l:List SpotT) (acc:List PlaceT),(∀x∈l,x.2.2.1=4)→(l.map fun x=>((id,x):PlaceT)).foldl (ownStep 5 b) acc=acc++l.map fun x=>((id,x):PlaceT)
 | [],acc,_=>by simp
 | x::l,acc,h=>by
  have hx:=h x (by simp)
  have e:ownStep 5 b acc ((id,x):PlaceT)=acc++[((id,x):PlaceT)]:=by
   unfold ownStep
   rw[if_neg (by simp),if_neg (by rw[hx];decide),if_pos (.inr ⟨rfl,hx⟩)]
  rw[List.map_cons,List.foldl_cons,e,ownL_kept id b l _ fun y hy=>h y (by simp[hy])]
  simp
theorem own3_none (id b:Int):∀(l:List SpotT) (acc:List PlaceT),(∀x∈l,x.2.2.1=4∨x.2.2.1=5)→(l.map fun x=>((id,x):PlaceT)).foldl (ownStep 3 b) acc=acc
 | [],acc,_=>by simp
 | x::l,acc,h=>by
  have hx:=h x (by simp)
  have e:ownStep 3 b acc ((id,x):PlaceT)=acc:=by
   unfold ownStep
   split
   ·rfl
   ·rw[if_neg (by rcases hx with e | e<;>rw[e]<;>decide),if_neg (by rcases hx with e | e<;>rw[e]<;>simp)]
  rw[List.map_cons,List.foldl_cons,e,own3_none id b l _ fun y hy=>h y (by simp[hy])]
theorem regGo_app:∀(A B pre:List PlaceT) (g:GroupT),(regGo pre A g).2.2=0→regGo pre (A++B) g=regGo (pre++A) B (regGo pre A g)
 | [],B,pre,g,h=>by simp[regGo]
 | p::A,B,pre,g,h=>by
  rw[regGo] at h
  rw[List.cons_append,regGo,regGo]
  by_cases c:g.2.2≠0
  ·rw[if_pos c] at h;exact absurd h c
  rw[if_neg c] at h ⊢
  rw[if_neg c,regGo_app A B _ _ h]
  simp
theorem regGo_pre {A:List PlaceT} (hA:∀k b,k=3∨k=5→ownL k b A=[]):∀(B pre:List PlaceT) (g:GroupT),regGo (A++pre) B g=regGo pre B g
 | [],pre,g=>rfl
 | p::B,pre,g=>by
  rw[regGo,regGo]
  by_cases c:g.2.2≠0
  ·rw[if_pos c,if_pos c]
  rw[if_neg c,if_neg c,List.append_assoc,regGo_pre hA B]
  congr 1
  have e:∀k b,k=3∨k=5→ownL k b (A++pre)=ownL k b pre:=fun k b hk=>by
   have:=hA k b hk
   unfold ownL at *
   rw[List.foldl_append,this]
  unfold regStep
  simp only
  by_cases c2:p.2.2.2.1=3∨p.2.2.2.1=5
  ·rw[if_pos c2,if_pos c2,e _ _ c2]
  ·rw[if_neg c2,if_neg c2]
theorem regGo_kept (id mark:Int):∀(l:List SpotT) (pre:List PlaceT) (z:Int),(∀x∈l,x.2.2.1=4∧x.2.2.2.1≤mark)→z≤mark→∃z',z'≤mark∧regGo pre (l.map fun x=>((id,x):PlaceT)) ([],z,0)=([],z',0)
 | [],pre,z,_,hz=>⟨z,hz,rfl⟩
 | x::l,pre,z,h,hz=>by
  obtain ⟨h4,hb⟩:=h x (by simp)
  rw[List.map_cons,regGo,if_neg (by simp)]
  have e:regStep pre ((id,x):PlaceT) ([],z,0)=([],if x.2.2.2.1 > z then x.2.2.2.1 else z,0):=by
   unfold regStep
   simp only
   rw[if_neg (by rw[h4];decide)]
  rw[e]
  refine regGo_kept id mark l _ _ (fun y hy=>h y (by simp[hy])) ?_
  split<;>omega
theorem riseS_kinds {mark:Int}:∀(l:List SpotT) (p:Option (List UInt8)),riseS mark p l=true→∀x∈l,x.2.2.1=4∧x.2.2.2.1≤mark
 | [],_,_,x,hx=>by simp at hx
 | y::l,p,h,x,hx=>by
  simp only[riseS,Bool.and_eq_true,beq_iff_eq,Bool.not_eq_true',decide_eq_false_iff_not] at h
  rcases List.mem_cons.1 hx with rfl | hx
  ·exact ⟨h.1,by omega⟩
  ·exact riseS_kinds l _ h.2.2.2 x hx
theorem hintOf_parts {id:Int} {t:List UInt8} {h:HintT} (k:hintOf id t=(h,true)):∃(l:List SpotT) (z:SpotT),(scan t).1=l++[z]∧z.2.2.1=5∧fitsR z.2.2 (l.map (·.2.2))=true∧(∀x∈l,x.2.2.1=4∧x.2.2.2.1≤z.2.2.2.1)∧h=((t.length:Int),z.2.2.2.1,l.map (entS id))∧(scan t).2=t.length∧(1≤id∧id≤100000):=by
 unfold hintOf at k
 simp only at k
 split at k
 ·simp at k
 rename_i c
 simp only[not_or,Bool.not_eq_false,ne_eq,Decidable.not_not] at c
 obtain ⟨c1,c2,c3,c4,c5,c6⟩:=c
 generalize (scan t).1=L at *
 have hl:L.length - 1<L.length:=by omega
 have hL:L=L.take (L.length - 1)++[L.getD (L.length - 1) zSpot]:=by
  rw[getD_lt hl]
  have:=List.take_succ_eq_append_getElem hl
  rw[show L.length - 1+1=L.length by omega,List.take_length] at this
  exact this
 simp only[Prod.mk.injEq,and_true] at k
 exact ⟨L.take (L.length - 1),L.getD (L.length - 1) zSpot,hL,c4,c5,riseS_kinds _ _ c6,k.symm,c2,c3⟩
theorem hint_group {id:Int} {t:List UInt8} {h:HintT} (k:hintOf id t=(h,true)) (hd:dirOk h.2.2=true) (h0:0≤h.2.1) (B:List PlaceT):regroup ([],0,0) (((scan t).1.map fun x=>((id,x):PlaceT))++B)=regroup (h.2.2,h.2.1,0) B:=by
 obtain ⟨l,z,e,z5,hf,hk,hh,_,_⟩:=hintOf_parts k
 have hsrt:srt ([]++l.map (entS id)):=by have:=dirOk_srt hd;rw[hh] at this;simpa using this
 have hlen:(l.map (entS id)).length≤20:=by
  unfold dirOk at hd
  rw[hh] at hd
  simp only[Bool.and_eq_true,decide_eq_true_eq] at hd
  exact hd.2
 rw[hh] at h0
 have h0:0≤z.2.2.2.1:=h0
 rw[e,hh]
 -- over the segment itself
 obtain ⟨z',hz',eg⟩:=regGo_kept id z.2.2.2.1 l [] 0 hk h0
 have e1:regGo [] ((l++[z]).map fun x=>((id,x):PlaceT)) ([],0,0)=(l.map (entS id),z.2.2.2.1,0):=by
  rw[List.map_append,regGo_app _ _ _ _ (by rw[eg]),eg,List.nil_append,List.map_singleton,regGo,if_neg (by simp)]
  have eo:ownL z.2.2.1 z.2.2.2.1 (l.map fun x=>((id,x):PlaceT))=l.map fun x=>((id,x):PlaceT):=by
   rw[z5];unfold ownL;rw[ownL_kept id _ l [] fun x hx=>(hk x hx).1];rfl
  have ea:applyD [] (l.map fun x=>((id,x):PlaceT))=l.map (entS id):=by
   rw[applyD_rise id l [] (fun x hx=>(hk x hx).1) hsrt];rfl
  have er:(l.map fun x=>((id,x):PlaceT)).map (·.2.2.2)=l.map (·.2.2):=by rw[List.map_map];rfl
  have es:regStep (l.map fun x=>((id,x):PlaceT)) ((id,z):PlaceT) ([],z',0)=(l.map (entS id),z.2.2.2.1,0):=by
   unfold regStep
   simp only
   have el:(if z.2.2.2.1 > z' then z.2.2.2.1 else z')=z.2.2.2.1:=by split<;>omega
   rw[if_pos (.inr z5),eo,er,if_pos hf,ea,el]
   unfold codeD
   rw[if_neg (Nat.not_lt.2 hlen)]
  rw[es];rfl
 have hA:∀k b,k=3∨k=5→ownL k b ((l++[z]).map fun x=>((id,x):PlaceT))=[]:=fun k b hk2=>by
  rcases hk2 with rfl | rfl
  ·unfold ownL
   exact own3_none id b (l++[z]) [] fun x hx=>by
    rcases List.mem_append.1 hx with hx | hx
    ·exact .inl (hk x hx).1
    ·rw[List.mem_singleton.1 hx];exact .inr z5
  ·unfold ownL
   rw[List.map_append,List.foldl_append,List.map_singleton,List.foldl_cons,List.foldl_nil]
   unfold ownStep
   rw[if_neg (by simp),if_pos z5]
 unfold regroup
 rw[regGo_app _ _ _ _ (by rw[e1]),e1]
 have:=regGo_pre hA B [] (l.map (entS id),z.2.2.2.1,0)
 rw[List.append_nil] at this
 rw[List.nil_append,this]
 unfold regEnd
 have eo:ownL 5 0 (((l++[z]).map fun x=>((id,x):PlaceT))++B)=ownL 5 0 B:=by
  have:=hA 5 0 (.inr rfl)
  unfold ownL at *
  rw[List.foldl_append,this]
 rw[eo]
theorem step_free {d:DiskT} {act:List FileT→Int×List FileT} (h:diskOk d=true) (hf:Free d):dstep d act=(((act d.1).2,d.2),(act d.1).1):=by
 have:=dstep_free (d:=d) (c:=d.2.1) h (by rw[show d.2=(d.2.1,d.2.2) from rfl,show d.2.2=(-1,false) from hf]) act
 rw[this]
 congr 2
 rw[show d.2=(d.2.1,d.2.2) from rfl,show d.2.2=(-1,false) from hf]
theorem Free.up {d:DiskT} (h:Free d):d.2.2.2=false:=by rw[show d.2.2=(-1,false) from h]
def noH (l:List FileT):List FileT:=l.filter fun f=>!hintB f.1
theorem noHints_eq {d:DiskT} (h:diskOk d=true):noHints d=(noH d.1,d.2):=by
 unfold noHints
 rw[if_neg (by rw[h];simp)]
 rfl
theorem dk_files {d:DiskT} (h:diskOk d=true) {l:List FileT} (hs:l.Sublist d.1):diskOk (l,d.2)=true:=by
 obtain ⟨h1,h2,h3,h4,h5,h6⟩:=(diskOk_iff d).1 h
 have hl:=hs.length_le
 have hu:usedN l≤usedN d.1:=sumN_sub _ hs
 rw[diskOk_iff]
 exact ⟨h1,h2,by show l.length≤_;omega,by show (usedN l:Int)≤d.2.1;omega,fun f hf=>h5 f (hs.subset hf),h6.sublist hs⟩
theorem dk_noH {d:DiskT} (h:diskOk d=true):diskOk (noH d.1,d.2)=true:=dk_files h List.filter_sublist
theorem ft_noH {d:DiskT} (h:diskOk d=true) {n:List UInt8} (hn:hintB n=false):fileText (noH d.1,d.2) n=fileText d n:=
 ft_same h (dk_noH h) n fun t=>by
  show _↔∃s,((n,t,s):FileT)∈noH d.1
  unfold noH
  simp[List.mem_filter,hn]
theorem ft_noH_hint {d:DiskT} {n:List UInt8} (hn:hintB n=true):fileText (noH d.1,d.2) n=([],false):=
 fileText_eq_none fun f hf e=>by
  have hf:f∈noH d.1:=hf
  have:=(List.mem_filter.1 hf).2
  rw[e,hn] at this
  simp at this
theorem srt_ne {l:List FileT} (hp:l.Pairwise fun a b=>Op.bytesLess a.1 b.1=true) {i:Nat} (hi:i<l.length):∀j,(hj:j<l.length)→j≠i→l[j].1≠l[i].1:=fun j hj hne e=>by
 rcases Nat.lt_or_gt_of_ne hne with h | h
 ·have:=List.pairwise_iff_getElem.1 hp j i hj hi h
  rw[e,less_irrefl] at this;simp at this
 ·have:=List.pairwise_iff_getElem.1 hp i j hi hj h
  rw[e,less_irrefl] at this;simp at this
theorem set_map {l:List FileT} (hp:l.Pairwise fun a b=>Op.bytesLess a.1 b.1=true) {i:Nat} (hi:i<l.length) {n:List UInt8} (hn:l[i].1=n) (g:FileT→FileT):l.set i (g l[i])=l.map fun f=>if f.1=n then g f else f:=by
 refine List.ext_getElem (by simp) fun j h1 h2=>?_
 rw[List.getElem_map,List.getElem_set]
 have hj:j<l.length:=by simpa using h1
 by_cases c:i=j
 ·subst c;rw[if_pos rfl,if_pos hn]
 ·rw[if_neg c,if_neg]
  intro e
  exact srt_ne hp hi j hj (fun e2=>c e2.symm) (e.trans hn.symm)
theorem rem_filter {l:List FileT} (hp:l.Pairwise fun a b=>Op.bytesLess a.1 b.1=true) {i:Nat} (hi:i<l.length) {n:List UInt8} (hn:l[i].1=n):remIx l i=l.filter fun f=>!(f.1==n):=by
 induction l generalizing i with
 | nil=>simp at hi
 | cons x l ih=>
  obtain ⟨h1,h2⟩:=List.pairwise_cons.1 hp
  cases i with
  | zero=>
   have hx:x.1=n:=hn
   have e:l.filter (fun f=>!(f.1==n))=l:=List.filter_eq_self.2 fun f hf=>by
    have:=less_ne (h1 f hf)
    simp only[Bool.not_eq_true',beq_eq_false_iff_ne,ne_eq]
    intro e;exact this (hx.trans e.symm)
   rw[List.filter_cons_of_neg (by simp[hx]),e]
   simp[remIx]
  | succ i=>
   have hi':i<l.length:=by simpa using hi
   have hx:x.1≠n:=fun e=>by
    have:=h1 l[i] (List.getElem_mem hi')
    have hn:l[i].1=n:=hn
    rw[e,hn,less_irrefl] at this;simp at this
   rw[List.filter_cons_of_pos (by simpa using hx),←ih h2 hi' hn]
   simp[remIx]
def syncF (f:FileT):FileT:=(f.1,f.2.1,(f.2.1.length:Int))
def truncF (z:Int) (f:FileT):FileT:=(f.1,f.2.1.take z.toNat,if z<f.2.2 then z else f.2.2)
def onF (n:List UInt8) (g:FileT→FileT) (l:List FileT):List FileT:=l.map fun f=>if f.1=n then g f else f
theorem sync_at {d:DiskT} (h:diskOk d=true) (hf:Free d) {n:List UInt8} (hn:(fileText d n).2=true):dSync n d=((onF n syncF d.1,d.2),0):=by
 obtain ⟨i,hi,e,hx,_⟩:=has_ix hn
 show dstep d (actSync n)=_
 rw[step_free h hf]
 unfold actSync
 rw[e]
 simp only[getD_lt hi]
 congr 2
 exact set_map (diskOk_pw h) hi hx syncF
theorem trunc_at {d:DiskT} (h:diskOk d=true) (hf:Free d) {n:List UInt8} (hn:(fileText d n).2=true) {z:Nat} (hz:z≤(fileText d n).1.length):dTrunc n (z:Int) d=((onF n (truncF (z:Int)) d.1,d.2),0):=by
 obtain ⟨i,hi,e,hx,_⟩:=has_ix hn
 have ht:=fileText_mem h (List.getElem_mem hi)
 rw[hx] at ht
 rw[ht] at hz
 show dstep d (actTrunc n (z:Int))=_
 rw[step_free h hf]
 unfold actTrunc
 rw[e]
 simp only[getD_lt hi]
 rw[if_pos ⟨Int.natCast_nonneg z,by simp only at hz;omega⟩]
 congr 2
 exact set_map (diskOk_pw h) hi hx (truncF (z:Int))
theorem gone_at {d:DiskT} (h:diskOk d=true) (hf:Free d) (n:List UInt8):dGone n d=((d.1.filter (fun f=>!(f.1==n)),d.2),0):=by
 unfold dGone
 rcases fileIx_cases d.1 n with ⟨e,hno⟩ | ⟨i,hi,e,hx⟩
 ·rw[e,if_neg (by simp)]
  have:d.1.filter (fun f=>!(f.1==n))=d.1:=List.filter_eq_self.2 fun f hf=>by simpa using hno f hf
  rw[this]
 ·rw[e,if_pos (by omega)]
  show dstep d (actRemove n)=_
  rw[step_free h hf]
  unfold actRemove
  rw[ix_some e]
  simp only
  rw[rem_filter (diskOk_pw h) hi hx]
theorem sDrop_at:∀(names:List (List UInt8)) {d:DiskT},diskOk d=true→Free d→sDrop names (d,0)=((d.1.filter (fun f=>!(names.any fun n=>f.1==n)),d.2),0)
 | [],d,_,_=>by
  show (d,(0:Int))=_
  have:d.1.filter (fun f=>!(([]:List (List UInt8)).any fun n=>f.1==n))=d.1:=List.filter_eq_self.2 fun f hf=>by simp
  rw[this]
 | n::names,d,h,hf=>by
  show sDrop names (sstep (dGone n) (d,0))=_
  have e:sstep (dGone n) (d,0)=dGone n d:=by unfold sstep;rw[if_pos rfl]
  rw[e,gone_at h hf,sDrop_at names (dk_files h List.filter_sublist) hf]
  simp only[List.filter_filter]
  congr 2
  refine List.filter_congr fun f _=>?_
  simp[Bool.not_or,Bool.and_comm]
theorem sweep_at {d:DiskT} (h:diskOk d=true) (hf:Free d) (v:LiveT):sweepW v d=((d.1.filter (fun f=>!orphB v f),d.2),0):=by
 unfold sweepW
 rw[sDrop_at _ h hf]
 congr 2
 refine List.filter_congr fun f hf=>?_
 unfold orphP
 rw[if_neg (by rw[h];simp)]
 congr 1
 have hB:∀g:FileT,g.1=f.1→orphB v g=orphB v f:=fun g e=>by unfold orphB;rw[e]
 cases ho:orphB v f with
 | true=>
  refine List.any_eq_true.2 ⟨f.1,List.mem_map.2 ⟨f,List.mem_filter.2 ⟨hf,ho⟩,rfl⟩,by simp⟩
 | false=>
  refine List.any_eq_false.2 fun n hn=>?_
  obtain ⟨g,hg,rfl⟩:=List.mem_map.1 hn
  intro e
  have e:f.1=g.1:=by simpa using e
  have:=hB g e.symm
  rw[(List.mem_filter.1 hg).2,ho] at this
  simp at this
theorem noH_onF (n:List UInt8) (g:FileT→FileT) (hg:∀f,(g f).1=f.1) (l:List FileT):noH (onF n g l)=onF n g (noH l):=by
 unfold noH onF
 rw[List.filter_map]
 congr 1
 refine List.filter_congr fun f _=>?_
 show (!hintB (if f.1=n then g f else f).1)=!hintB f.1
 split
 ·rw[hg]
 ·rfl
def NmL (nm:List UInt8→Prop) (l:List FileT):Prop:=∀f∈l,nm f.1
theorem nm_step {nm:List UInt8→Prop} {d:DiskT} {act:List FileT→Int×List FileT} (ha:NmL nm d.1→NmL nm (act d.1).2) (h:NmL nm d.1):NmL nm (dstep d act).1.1:=by
 unfold dstep
 split
 ·exact h
 ·split
  ·exact h
  ·exact ha h
theorem nm_set {nm:List UInt8→Prop} {l:List FileT} (h:NmL nm l) {i:Nat} {f:FileT} (hf:f.1=(l.getD i ([],[],0)).1):NmL nm (l.set i f):=by
 intro g hg
 rcases Nat.lt_or_ge i l.length with hi | hi
 ·rcases List.mem_or_eq_of_mem_set hg with hg | rfl
  ·exact h g hg
  ·rw[hf,getD_lt hi];exact h _ (List.getElem_mem hi)
 ·rw[List.set_eq_of_length_le hi] at hg;exact h g hg
theorem nm_Remove {nm:List UInt8→Prop} {d:DiskT} (h:NmL nm d.1) (n:List UInt8):NmL nm (dRemove n d).1.1:=nm_step (fun h=>by
 unfold actRemove
 split
 ·exact fun f hf=>h f ((remIx_sub _ _).subset hf)
 ·exact h) h
theorem nm_Gone {nm:List UInt8→Prop} {d:DiskT} (h:NmL nm d.1) (n:List UInt8):NmL nm (dGone n d).1.1:=by
 unfold dGone
 split
 ·exact nm_Remove h n
 ·exact h
theorem nm_Sync {nm:List UInt8→Prop} {d:DiskT} (h:NmL nm d.1) (n:List UInt8):NmL nm (dSync n d).1.1:=nm_step (fun h=>by
 unfold actSync
 split
 ·exact nm_set h rfl
 ·exact h) h
theorem nm_Append {nm:List UInt8→Prop} {d:DiskT} (h:NmL nm d.1) (n t:List UInt8):NmL nm (dAppend n t d).1.1:=nm_step (fun h=>by
 unfold actAppend
 split
 ·split
  ·exact h
  ·exact nm_set h rfl
 ·exact h) h
theorem nm_Create {nm:List UInt8→Prop} {d:DiskT} (h:NmL nm d.1) {n:List UInt8} (hn:nm n):NmL nm (dCreate n d).1.1:=nm_step (fun h=>by
 unfold actCreate
 split
 ·exact h
 ·split
  ·exact h
  ·split
   ·exact h
   ·intro f hf
    rcases (mem_insB _ _ _).1 hf with rfl | hf
    ·exact hn
    ·exact h f hf) h
theorem nm_Rename {nm:List UInt8→Prop} {d:DiskT} (h:NmL nm d.1) (a:List UInt8) {b:List UInt8} (hn:nm b):NmL nm (dRename a b d).1.1:=nm_step (fun h=>by
 unfold actRename
 split
 ·exact h
 ·split
  ·simp only
   split
   ·exact h
   ·intro f hf
    rcases (mem_insB _ _ _).1 hf with rfl | hf
    ·exact hn
    ·exact h f ((remIx_sub _ _).subset ((dropF_sub _ _).subset hf))
  ·exact h) h
theorem nm_sstep {nm:List UInt8→Prop} {op:DiskT→DiskT×Int} (ho:∀d:DiskT,NmL nm d.1→NmL nm (op d).1.1) {w:WorkT} (h:NmL nm w.1.1):NmL nm (sstep op w).1.1:=by
 unfold sstep
 split
 ·exact ho _ h
 ·exact h
theorem nm_sNew {nm:List UInt8→Prop} {n:List UInt8} (hn:nm n) {w:WorkT} (h:NmL nm w.1.1):NmL nm (sNew n w).1.1:=
 nm_sstep (fun d k=>nm_Create k hn) (nm_sstep (fun d k=>nm_Gone k n) h)
theorem nm_sFile {nm:List UInt8→Prop} {n:List UInt8} (hn:nm n) (t:List UInt8) {w:WorkT} (h:NmL nm w.1.1):NmL nm (sFile n t w).1.1:=
 nm_sstep (fun d k=>nm_Sync k n) (nm_sstep (fun d k=>nm_Append k n t) (nm_sNew hn h))
theorem nm_sPut {nm:List UInt8→Prop} (ht:nm tempN) (hl:nm liveN) (v:LiveT) {w:WorkT} (h:NmL nm w.1.1):NmL nm (sPut v w).1.1:=
 nm_sstep (fun d k=>nm_Rename k tempN hl) (nm_sFile ht _ h)
theorem nm_sApp {nm:List UInt8→Prop} (n:List UInt8):∀(recs:List RecT) {w:WorkT},NmL nm w.1.1→NmL nm (sApp n recs w).1.1
 | [],w,h=>h
 | r::recs,w,h=>nm_sApp n recs (w:=sstep (dAppend n (frame (showRec r))) w) (nm_sstep (fun d k=>nm_Append k n _) h)
theorem nm_sWM {nm:List UInt8→Prop} {m:Int} (hn:nm (segName m)) (recs:List RecT) {w:WorkT} (h:NmL nm w.1.1):NmL nm (sWM m recs w).1.1:=
 nm_sstep (fun d k=>nm_Sync k _) (nm_sApp _ recs (nm_sNew hn h))
theorem nm_sDrop {nm:List UInt8→Prop}:∀(names:List (List UInt8)) {w:WorkT},NmL nm w.1.1→NmL nm (sDrop names w).1.1
 | [],w,h=>h
 | n::names,w,h=>nm_sDrop names (w:=sstep (dGone n) w) (nm_sstep (fun d k=>nm_Gone k n) h)
theorem nm_sOld {nm:List UInt8→Prop}:∀(ids:List Int) {w:WorkT},NmL nm w.1.1→NmL nm (sOld ids w).1.1
 | [],w,h=>h
 | i::ids,w,h=>nm_sOld ids (w:=sDrop [segName i,hintName i] w) (nm_sDrop _ h)
theorem nm_hintStep {nm:List UInt8→Prop} {m:Int} (hn:nm (hintName m)) {d:DiskT} (h:NmL nm d.1):NmL nm (hintStep m d).1.1:=by
 unfold hintStep
 simp only
 have:=nm_sFile hn (showHint (hintOf m (fileText d (segName m)).1).1) (w:=(d,0)) h
 split
 ·exact nm_Gone this _
 ·exact this
theorem nm_cleanW {nm:List UInt8→Prop} (names:List (List UInt8)) {w:WorkT} (h:NmL nm w.1.1):NmL nm (cleanW names w).1.1:=by
 have:=nm_sDrop (nm:=nm) names (w:=(w.1,0)) h
 unfold cleanW
 split
 ·split
  ·exact this
  ·exact this
 ·exact h
theorem nm_rotP {nm:List UInt8→Prop} (ht:nm tempN) (hl:nm liveN) (hs:∀i,nm (segName i)) {s:StoreT} {d:DiskT} (h:NmL nm d.1):NmL nm (rotP s d).2.1.1:=by
 have h1:=nm_Sync h (actN s)
 have h2:NmL nm (sstep (dCreate (segName s.1.1)) (dGone (segName s.1.1) (dSync (actN s) d).1)).1.1:=nm_sstep (fun d k=>nm_Create k (hs _)) (nm_Gone h1 _)
 have h3:NmL nm (toldW (sPut (s.1.1+1,s.1.2++[s.1.1]) ((sstep (dCreate (segName s.1.1)) (dGone (segName s.1.1) (dSync (actN s) d).1)).1,0))).1.1:=nm_sPut ht hl _ h2
 unfold rotP
 split
 ·exact h
 split
 ·exact h1
 simp only
 split
 ·exact h2
 split
 ·exact nm_cleanW _ h3
 ·exact h3
theorem nm_addP {nm:List UInt8→Prop} (ht:nm tempN) (hl:nm liveN) (hs:∀i,nm (segName i)) {s:StoreT} {d:DiskT} (h:NmL nm d.1) (r:RecT):NmL nm (addP s d r).2.1.1:=by
 have h1:NmL nm (addR s d (frame (showRec r))).2.1.1:=by
  unfold addR
  split
  ·exact nm_rotP ht hl hs h
  ·exact h
 unfold addP
 simp only
 split
 ·exact h1
 ·split
  ·exact nm_Append h1 _ _
  ·exact nm_Append h1 _ _
theorem nm_commitG {nm:List UInt8→Prop} (ht:nm tempN) (hl:nm liveN) (hs:∀i,nm (segName i)):∀(rs:List RecT) (s:StoreT) (d:DiskT),NmL nm d.1→NmL nm (commitG rs s d).2.1.1
 | [],s,d,h=>h
 | r::rs,s,d,h=>by
  have h1:=nm_addP ht hl hs (s:=s) h r
  unfold commitG
  split
  ·exact h1
  ·exact nm_commitG ht hl hs rs _ _ h1
theorem nm_commitF {nm:List UInt8→Prop} (ht:nm tempN) (hl:nm liveN) (hs:∀i,nm (segName i)) {s:StoreT} {d:DiskT} (h:NmL nm d.1) (l:List PutT):NmL nm (commitF s d l).2.1.1:=by
 unfold commitF
 split
 ·exact h
 split
 ·exact h
 split
 ·exact h
 have:=nm_commitG ht hl hs (recsOf s.2.2.1 l) (s.1,s.2.1,s.2.2.1+1,s.2.2.2) d h
 unfold commitP
 simp only
 split
 ·exact this
 ·split
  ·exact nm_Sync this _
  ·exact nm_Sync this _
theorem nm_mergeF {nm:List UInt8→Prop} (ht:nm tempN) (hl:nm liveN) (hs:∀i,nm (segName i)) (hh:∀i,nm (hintName i)) {s:StoreT} {d:DiskT} (h:NmL nm d.1):NmL nm (mergeF s d).2.1.1:=by
 unfold mergeF
 split
 ·exact h
 split
 ·exact h
 generalize (dumpP s d).1=l
 have h1:NmL nm (sNew (segName (s.1.1+1)) (sWM s.1.1 (keepsOf l (s.2.2.1 - 1)) (d,0))).1.1:=nm_sNew (hs _) (nm_sWM (hs _) _ h)
 unfold mergeP
 simp only
 generalize sNew (segName (s.1.1+1)) (sWM s.1.1 (keepsOf l (s.2.2.1 - 1)) (d,0))=w1 at *
 have h2:NmL nm (sHint s.1.1 w1).1.1:=by
  unfold sHint
  split
  ·exact h1
  ·exact nm_hintStep (hh _) h1
 generalize sHint s.1.1 w1=w2 at *
 have h3:NmL nm (if w2.2=0 then toldW (sPut (s.1.1+2,[s.1.1,s.1.1+1]) w2) else toldW w2).1.1:=by
  split
  ·exact nm_sPut ht hl _ h2
  ·exact h2
 generalize (if w2.2=0 then toldW (sPut (s.1.1+2,[s.1.1,s.1.1+1]) w2) else toldW w2)=w3 at *
 split
 ·exact nm_cleanW _ h3
 ·exact nm_sOld (nm:=nm) s.1.2 (w:=(w3.1,0)) h3
def nmP (n:List UInt8):Prop:=hintB n=true→∃id,named n id
theorem nm_no {n:List UInt8} (h:hintB n=false):nmP n:=fun k=>by rw[h] at k;simp at k
theorem hint1_eq:hintName 1=[104,105,110,116,49]:=by rw[hint_pre (by decide)];rw[show (1:Int).toNat=1 from rfl,Lib.decDigits];rfl
theorem y_hint {l:List UInt8}:hintB (121::l)=false:=by
 unfold hintB
 cases l with
 | nil=>rfl
 | cons a l=>simp
theorem hintB_seg (i:Int):hintB (segName i)=false:=by
 by_cases h:1≤i∧i≤100000
 ·rw[seg_pre h];unfold hintB;simp
 ·unfold segName nameN;rw[if_neg h];rfl
theorem hintB_hint {i:Int} (h:1≤i∧i≤100000):hintB (hintName i)=true:=by
 rw[hint_pre h];unfold hintB;simp
theorem nm_seg (i:Int):nmP (segName i):=nm_no (hintB_seg i)
theorem nm_hint (i:Int):nmP (hintName i):=fun k=>by
 by_cases h:1≤i∧i≤100000
 ·exact ⟨i,h,.inr rfl⟩
 ·unfold hintName nameN at k;rw[if_neg h] at k;simp[hintB] at k
theorem nm_temp:nmP tempN:=nm_no (by decide)
theorem nm_live:nmP liveN:=nm_no (by decide)
theorem l3Name_nm {c:CurT} (h:Cur c):∃x c',ψ38.f c=some (x,c')∧(x.length≤5∧nmP x)∧Cur c':=by
 obtain ⟨x,c',e,hx,h'⟩:=l1Pick_ok h ([[108,105,118,101],[115,101,103,49],[115,101,103,50],[115,101,103,51],[116,101,109,112],[104,105,110,116,49],[120],[97,57]]:List (List UInt8)) (by decide)
 unfold ψ38.f
 rw[e]
 refine ⟨x,c',rfl,?_,h'⟩
 simp only[List.mem_cons,List.not_mem_nil,or_false] at hx
 rcases hx with rfl | rfl | rfl | rfl | rfl | rfl | rfl | rfl
 ·exact ⟨by decide,nm_no (by decide)⟩
 ·exact ⟨by decide,nm_no (by decide)⟩
 ·exact ⟨by decide,nm_no (by decide)⟩
 ·exact ⟨by decide,nm_no (by decide)⟩
 ·exact ⟨by decide,nm_no (by decide)⟩
 ·exact ⟨by decide,fun _=>⟨1,by decide,.inr hint1_eq.symm⟩⟩
 ·exact ⟨by decide,nm_no (by decide)⟩
 ·exact ⟨by decide,nm_no (by decide)⟩
theorem l3Disk_nm {c:CurT} (h:Cur c):∃d c',ψ35.f c=some (d,c')∧(diskOk d=true∧NmL nmP d.1)∧Cur c':=by
 obtain ⟨n,c1,e1,a1,b1,_,h1⟩:=l1Below_ok h 12
 have b1:=b1 (by omega)
 obtain ⟨m,rfl⟩:∃m:Nat,n=(m:Int):=⟨n.toNat,by omega⟩
 have e0:ψ1p.f 200=some (([],200,-1,false):DiskT):=by
  unfold ψ1p.f
  rw[spec_l1In_eq];rfl
 have hd0:diskOk (([],200,-1,false):DiskT)=true:=by rw[diskOk_iff];exact ⟨by decide,by decide,by decide,by decide,by simp,List.Pairwise.nil⟩
 have key:=down_ok (step:=ψ35.l0) (fun k (s:CurT×DiskT)=>(s.1,([],0,0,false),s.2,(k:Int))) (fun k s=>Cur s.1∧(diskOk s.2=true∧NmL nmP s.2.1)∧k≤m) (fun b=>Cur b.1∧(diskOk b.2.2=true∧NmL nmP b.2.2.1))
  (fun rec s hi=>⟨(s.1,([],0,0,false),s.2),by simp[ψ35.l0],hi.1,hi.2.1⟩)
  (fun rec k s hi=>by
   obtain ⟨s,d⟩:=s
   obtain ⟨hi1,⟨hi2,hiN⟩,hi3⟩:=hi
   simp only at hi1 hi2 hi3 hiN
   obtain ⟨nm,c2,f1,⟨g1,gN⟩,h2⟩:=l3Name_nm hi1
   obtain ⟨v,c3,f2,_,_,_,h3⟩:=l1Below_ok h2 6
   have e0:((k+1:Nat):Int) > 0:=by omega
   have hw:=down1 (show k<2 ^ 60 by omega)
   have hd:dlim d:=dl_lim (dl_dk hi2) (by omega)
   have ec:ψ1j.f d nm=some (dCreate nm d):=spec_Create_eq d nm hd (by omega)
   have ey:ψ2U.f d nm=some (dSync nm d):=spec_Sync_eq d nm hd
   simp only[ψ35.l0,e0,decide_true,cond_true,f1,f2,Option.bind_some]
   cases d0:(v==0)
   rotate_left
   ·simp only[cond_true,Option.bind_some,ec,hw]
    exact ⟨(c3,(dCreate nm d).1),⟨h3,⟨dk_Create hi2 nm,nm_Create hiN gN⟩,by omega⟩,rfl⟩
   cases d1:(v==1)
   rotate_left
   ·simp only[cond_true,cond_false,Option.bind_some,ec,hw]
    exact ⟨(c3,(dCreate nm d).1),⟨h3,⟨dk_Create hi2 nm,nm_Create hiN gN⟩,by omega⟩,rfl⟩
   have ap:∃t c4,ψ31.f c3 9=some (t,c4)∧Cur c4∧ψ1g.f d nm t=some (dAppend nm t d):=by
    obtain ⟨t,c4,f3,g3,h4⟩:=l1Text_ok h3 9 (by omega) (by omega)
    exact ⟨t,c4,f3,h4,spec_Append_eq d nm t hd (by omega)⟩
   obtain ⟨t,c4,f3,h4,ea⟩:=ap
   simp only[cond_false,Option.bind_some]
   cases d2:(v==2)
   rotate_left
   ·simp only[cond_true,cond_false,Option.bind_some,f3,ea,hw]
    exact ⟨(c4,(dAppend nm t d).1),⟨h4,⟨dk_Append hi2 nm t,nm_Append hiN nm t⟩,by omega⟩,rfl⟩
   simp only[cond_false]
   cases d3:(v==3)
   rotate_left
   ·simp only[cond_true,cond_false,Option.bind_some,f3,ea,hw]
    exact ⟨(c4,(dAppend nm t d).1),⟨h4,⟨dk_Append hi2 nm t,nm_Append hiN nm t⟩,by omega⟩,rfl⟩
   simp only[cond_false,Option.bind_some]
   cases d4:(v==4)
   rotate_left
   ·simp only[cond_true,cond_false,Option.bind_some,ey,hw]
    exact ⟨(c3,(dSync nm d).1),⟨h3,⟨dk_Sync hi2 nm,nm_Sync hiN nm⟩,by omega⟩,rfl⟩
   ·obtain ⟨n2,c5,f5,⟨g5,gN2⟩,h5⟩:=l3Name_nm h3
    have er:ψ2J.f d nm n2=some (dRename nm n2 d):=spec_Rename_eq d nm n2 hd (by omega)
    simp only[cond_false,Option.bind_some,f5,er,hw]
    exact ⟨(c5,(dRename nm n2 d).1),⟨h5,⟨dk_Rename hi2 nm n2,nm_Rename hiN nm gN2⟩,by omega⟩,rfl⟩)
  m (c1,([],200,-1,false)) ⟨h1,⟨hd0,fun f hf=>by simp at hf⟩,Nat.le_refl _⟩ (by omega)
 obtain ⟨⟨c5,z,d⟩,e5,h5,hd⟩:=key
 have e5:lp ψ35.l0 (c1,([],0,0,false),([],200,-1,false),(m:Int))=some (c5,z,d):=e5
 unfold ψ35.f
 simp only[e0,e1,Option.bind_some,e5]
 exact ⟨d,c5,rfl,hd,h5⟩
theorem l3Any_nm {c:CurT} (h:Cur c):∃d c',ψ32.f c=some (d,c')∧(dSmall d∧NmL nmP d.1)∧Cur c':=by
 obtain ⟨d,c1,e1,⟨hd,hN⟩,h1⟩:=l3Disk_nm h
 obtain ⟨x,c2,e2,_,_,_,h2⟩:=l1Below_ok h1 14
 have hdl:=dl_dk hd
 have hsm:∀y:Int×Int×Bool,dSmall (d.1,y):=fun y=>⟨by have:=hdl.1;show d.1.length<_;omega,by have:=hdl.2.1;show usedN d.1<_;omega,fun f hf=>by have:=hdl.2.2 f hf;omega⟩
 have hl:=dl_lim hdl (by omega)
 unfold ψ32.f
 simp only[e1,e2,Option.bind_some]
 cases d0:(x==0)
 rotate_left
 ·obtain ⟨v,c3,f3,_,h3⟩:=l1PickInt_ok h2 [0,1,(-2),(-1)] (by decide)
  simp only[cond_true,f3,Option.bind_some]
  exact ⟨_,_,rfl,⟨hsm _,hN⟩,h3⟩
 cases d1:(x==1)
 rotate_left
 ·simp only[cond_true,cond_false]
  exact ⟨_,_,rfl,⟨hsm _,hN⟩,h2⟩
 cases d2:(x==2)
 rotate_left
 ·have hu:=spec_l3Used_eq d (by have:=hl.1;omega) (by have:=hl.2.1;omega)
  obtain ⟨v,c3,f3,_,h3⟩:=l1PickInt_ok h2 [(-1),5,(usedN d.1:Int),w64 ((usedN d.1:Int)+3),100000,100001] (by simp)
  simp only[cond_true,cond_false,hu,f3,Option.bind_some]
  exact ⟨_,_,rfl,⟨hsm _,hN⟩,h3⟩
 have hset:∀(f:FileT),0<d.1.length→f.1.length≤20→nmP f.1→f.2.1=(d.1.getD 0 ([],[],0)).2.1→dSmall (d.1.set 0 f,d.2)∧NmL nmP (d.1.set 0 f):=by
  intro f h0 hf1 hfN hf2
  refine ⟨?_,fun g hg=>by
   rcases List.mem_or_eq_of_mem_set hg with hg | e
   ·exact hN g hg
   ·rw[e];exact hfN⟩
  have hu:=usedN_set2 d.1 0 f h0
  rw[getD_lt h0] at hf2
  refine ⟨by show (d.1.set 0 f).length<_;rw[List.length_set];have:=hdl.1;omega,by show usedN (d.1.set 0 f)<_;rw[hf2] at hu;have:=hdl.2.1;omega,fun g hg=>?_⟩
  rcases List.mem_or_eq_of_mem_set hg with hg | e
  ·have:=hdl.2.2 g hg;omega
  ·rw[e];omega
 have hb0:0<d.1.length→inB 0 d.1.length=true∧rdA ([],[],0) d.1 0=d.1.getD 0 ([],[],0):=fun h0=>by
  rw[show (0:Int)=((0:Nat):Int) from rfl]
  exact ⟨by rw[inB_nat];simpa using h0,rdA_nat ..⟩
 have hn:∀y∈d.1,y.1.length≤12:=fun y hy=>by
  have:=((diskOk_iff d).1 hd).2.2.2.2.1 y hy
  unfold fileOk at this
  simp only[Bool.and_eq_true] at this
  exact nameOk_len this.1
 cases d3:(x==3)
 rotate_left
 ·rcases Nat.eq_zero_or_pos d.1.length with h0 | h0
  ·have:decide ((d.1.length:Int) > 0)=false:=by rw[h0];rfl
   simp only[cond_true,cond_false,this]
   exact ⟨_,_,rfl,⟨hsm _,hN⟩,h2⟩
  ·have:decide ((d.1.length:Int) > 0)=true:=by simp;omega
   obtain ⟨v,c3,f3,_,_,_,h3⟩:=l1Below_ok h2 9
   obtain ⟨b1,b2⟩:=hb0 h0
   simp only[cond_true,cond_false,this,f3,Option.bind_some,b1,b2,Int.toNat_zero]
   refine ⟨_,_,rfl,hset _ h0 ?_ ?_ rfl,h3⟩
   ·rw[getD_lt h0];have:=hn _ (List.getElem_mem h0);simp only;omega
   ·rw[getD_lt h0];exact (show nmP (d.1[0]).1 from hN _ (List.getElem_mem h0))
 cases d4:(x==4)
 rotate_left
 ·rcases Nat.eq_zero_or_pos d.1.length with h0 | h0
  ·have:decide ((d.1.length:Int) > 0)=false:=by rw[h0];rfl
   simp only[cond_true,cond_false,this]
   exact ⟨_,_,rfl,⟨hsm _,hN⟩,h2⟩
  ·have:decide ((d.1.length:Int) > 0)=true:=by simp;omega
   obtain ⟨v,c3,f3,hv,h3⟩:=l1Pick_ok h2 ([[],[65],[122,122],[116,111,111,108,111,110,103,97,110,97,109,101,49]]:List (List UInt8)) (by decide)
   obtain ⟨b1,b2⟩:=hb0 h0
   simp only[cond_true,cond_false,this,f3,Option.bind_some,b1,b2,Int.toNat_zero]
   refine ⟨_,_,rfl,hset _ h0 ?_ ?_ rfl,h3⟩
   ·simp only[List.mem_cons,List.not_mem_nil,or_false] at hv
    show v.length≤20
    rcases hv with rfl | rfl | rfl | rfl<;>decide
   ·simp only[List.mem_cons,List.not_mem_nil,or_false] at hv
    show nmP v
    rcases hv with rfl | rfl | rfl | rfl<;>exact nm_no (by decide)
 cases d5:(x==5)
 ·simp only[cond_false]
  exact ⟨_,_,rfl,⟨hsm _,hN⟩,h2⟩
 simp only[cond_true,cond_false]
 have hlen:d.1.length≤130:=((diskOk_iff d).1 hd).2.2.1
 have key:=lp_ok (step:=ψ32.l1) (a:=(c2,([],0,0,false),d,((0:Nat):Int))) (fun a=>Cur a.1∧a.2.1=([],0,0,false)∧usedN a.2.2.1.1<200000∧(∀f∈a.2.2.1.1,f.1.length<200000∧nmP f.1)∧a.2.2.1.1.length≤131∧∃i:Nat,a.2.2.2=(i:Int)∧i≤131) (fun a=>200 - a.2.2.1.1.length) (fun b=>Cur b.1∧(dSmall b.2.2∧NmL nmP b.2.2.1))
  (fun rec a ha=>by
   obtain ⟨c3,z,D,i⟩:=a
   obtain ⟨h3,hz,hu,hf,hl3,j,hj,hj2⟩:=ha
   simp only at h3 hz hu hf hl3 hj
   subst hz;subst hj
   obtain ⟨y,c4,e4,a4,b4,_,h4⟩:=l1Below_ok h3 3
   have b4:=b4 (by omega)
   have hw:w64 (129+y)=129+y:=w64_id (by omega) (by omega)
   by_cases q1:(j:Int)<129+y
   rotate_left
   ·left
    exact ⟨(c4,([],0,0,false),D),by simp only[ψ32.l1,e4,Option.bind_some,hw,q1,decide_false,cond_false],h4,⟨by show D.1.length<_;omega,hu,fun f h=>(hf f h).1⟩,fun f h=>(hf f h).2⟩
   by_cases q2:(D.1.length:Int)<131
   rotate_left
   ·left
    exact ⟨(c4,([],0,0,false),D),by simp only[ψ32.l1,e4,Option.bind_some,hw,q1,q2,decide_false,decide_true,cond_true,cond_false],h4,⟨by show D.1.length<_;omega,hu,fun f h=>(hf f h).1⟩,fun f h=>(hf f h).2⟩
   right
   have e5:w64 (100+(j:Int))=((100+j:Nat):Int):=by rw[w64_id (by omega) (by omega)];omega
   have e6:=spec_Dec_eq (100+j) (by omega)
   have hdl2:=digits_len 3 (100+j) (by show _<10000;omega)
   have hb1:([121]:List UInt8).length+(Lib.decDigits (100+j)).length≤9223372036854775807:=by show 1+_≤_;omega
   have hb2:∀{α:Type} (x:α),decide ((D.1.length+[x].length) * 40≤140737488355328)=true:=fun x=>decide_eq_true (lim40 (by omega))
   have hw3:=w64_succ (show j+1<9223372036854775808 by omega)
   refine ⟨(c4,([],0,0,false),(D.1++[([121]++Lib.decDigits (100+j),[],0)],D.2),((j+1:Nat):Int)),⟨h4,rfl,?_,?_,?_,j+1,rfl,by omega⟩,?_,?_⟩
   ·show usedN (D.1++[_])<_
    unfold usedN
    rw[sumN_snoc]
    exact hu
   ·intro f hf2
    rcases List.mem_append.1 hf2 with hf2 | hf2
    ·exact hf f hf2
    ·rw[List.mem_singleton.1 hf2]
     exact ⟨by show (121::Lib.decDigits (100+j)).length<_;simp only[List.length_cons];omega,nm_no y_hint⟩
   ·simp only[List.length_append,List.length_singleton];omega
   ·simp only[List.length_append,List.length_singleton];omega
   ·simp only[ψ32.l1,e4,Option.bind_some,hw,q1,q2,decide_true,cond_true,e5,e6,hb1,hb2,hw3])
  ⟨h2,rfl,by have:=hdl.2.1;simp only;omega,fun f hf=>⟨by have:=hdl.2.2 f hf;omega,hN f hf⟩,by simp only;omega,0,rfl,by omega⟩ (by simp only;omega)
 obtain ⟨⟨c3,z,D⟩,e3,h3,hD⟩:=key
 have e3:lp ψ32.l1 (c2,([],0,0,false),d,0)=some (c3,z,D):=e3
 simp only[e3,Option.bind_some]
 exact ⟨_,_,rfl,hD,h3⟩
theorem spec_Commit_F {s:StoreT} {d:DiskT} (h:SmallS s d) (l:List PutT) (hl:l.length≤1000):ψ1h.f s d l=some (commitF s d l):=by
 obtain ⟨hd,hu⟩:=h.lim
 have h1:=h.ids
 have h2:=h.dir
 have h3:=h.sm.1
 unfold ψ1h.f commitF
 simp only[spec_StoreOk_eq s d hd hu (show s.1.2.length<1000000000 by omega) (show s.2.1.length<1000000000 by omega),spec_l12Copy_eq s (show s.1.2.length<1000000000 by omega) (show s.2.1.length<1000000000 by omega),spec_l3Copy_eq d (show d.1.length<1000000000000 by omega),spec_PutsOk_eq l (show l.length<2 ^ 62 by omega),spec_l12After_eq s.2.1 l (show s.2.1.length<100000000 by omega) (show l.length<100000000 by omega),Option.bind_some]
 cases hk:storeOk s d with
 | false=>simp
 | true=>
  obtain ⟨q1,q2,q3,q4,q5⟩:=storeOk_parts hk
  have hg:=storeOk_good hk
  have hd20:s.2.1.length≤20:=(dirOk_mem q3).1
  cases hp:putsOk l with
  | false=>simp
  | true=>
   have hl8:l.length≤8:=by
    unfold putsOk at hp
    simp only[Bool.and_eq_true,decide_eq_true_eq] at hp
    exact hp.1
   simp only[Bool.not_true,cond_false,Bool.true_eq_false,or_self,if_false]
   by_cases e1:l.length=0
   ·have d1:((l.length:Int)==0)=true:=by rw[e1];rfl
    simp only[d1,cond_true]
    rw[if_pos e1]
   have d1:((l.length:Int)==0)=false:=by
    have:¬(l.length:Int)=0:=by omega
    simpa using this
   simp only[d1,cond_false]
   rw[if_neg e1]
   by_cases e2:(keysP s.2.1 l:Int) > 20
   ·simp only[e2,decide_true,cond_true]
    rw[if_pos (.inl (by omega))]
   simp only[e2,decide_false,cond_false]
   by_cases e3:s.2.2.1 > 1000000
   ·simp only[e3,decide_true,cond_true]
    rw[if_pos (.inr trivial)]
   rw[if_neg (by omega)]
   simp only[e3,decide_false,cond_false,spec_commit_eq hg (by omega) l (by omega) hp (by omega) (by omega),Option.bind_some]
theorem StoreI.small {s:StoreT} {d:DiskT} (h:StoreI s d):SmallS s d:=⟨dl_mono (dl_dk h.dk) (by omega),by have:=h.ids;omega,by have:=h.dir;omega⟩
theorem open_new_nm {v:Int} (hv:v∈([100000,100000,400,250]:List Int)):∃s d k,ψ25.f (([],v,-1,false):DiskT)=some (s,d,k)∧NmL nmP d.1:=by
 have:∃n:Nat,v=(n:Int)∧n≤100000∧8≤n:=by
  simp only[List.mem_cons,List.not_mem_nil,or_false] at hv
  exact ⟨v.toNat,by omega,by omega,by omega⟩
 obtain ⟨n,rfl,h1,h2⟩:=this
 obtain ⟨y,_,ho⟩:=openP_new n h1
 rw[if_neg (by omega)] at ho
 have hk:diskOk (d0N n)=true:=by rw[diskOk_iff];exact ⟨⟨by show (0:Int)≤(n:Int);omega,by show (n:Int)≤100000;omega⟩,⟨by show (-1:Int)≤-1;omega,by show (-1:Int)≤100000;omega⟩,by show 0≤130;decide,by show (0:Int)≤(n:Int);omega,by simp,List.Pairwise.nil⟩
 have e:=spec_Open_eq (d0N n) (dl_mono (dl_dk hk) (by omega))
 rw[ho] at e
 refine ⟨_,_,_,e,fun f hf=>?_⟩
 simp only[dNew,List.mem_cons,List.not_mem_nil,or_false] at hf
 rcases hf with rfl | rfl
 ·exact nm_live
 ·exact nm_seg 1
theorem l12Store_nm {c:CurT} (h:Cur c):∃s d c',ψ2o.f c=some (s,d,c')∧(StoreI s d∧NmL nmP d.1)∧Cur c':=by
 obtain ⟨v,c1,e1,hv0,h1⟩:=l1PickInt_ok h [100000,100000,400,250] (by decide)
 have hv:0≤v∧v≤100000:=by
  simp only[List.mem_cons,List.not_mem_nil,or_false] at hv0
  omega
 have e2:ψ1p.f v=some (([],v,-1,false):DiskT):=by
  unfold ψ1p.f
  rw[spec_l1In_eq];simp[hv]
 obtain ⟨s,d,k,e3,h3⟩:=spec_Open_new2 v hv
 have hN:NmL nmP d.1:=by
  obtain ⟨s',d',k',e3',hN⟩:=open_new_nm hv0
  rw[e3] at e3'
  simp only[Option.some.injEq,Prod.mk.injEq] at e3'
  rw[e3'.2.1];exact hN
 obtain ⟨n,c4,e4,a4,b4,_,h4⟩:=l1Below_ok h1 7
 have b4:=b4 (by omega)
 obtain ⟨m,rfl⟩:∃m:Nat,n=(m:Int):=⟨n.toNat,by omega⟩
 have key:=lp_ok (step:=ψ2o.l0) (a:=(c4,((0,[]),[],0,0,0),([],0,0,false),s,d,(m:Int))) (fun a=>Cur a.1∧((StoreI a.2.2.2.1 a.2.2.2.2.1∧StoreN a.2.2.2.1 a.2.2.2.2.1)∧NmL nmP a.2.2.2.2.1.1)∧∃k:Nat,a.2.2.2.2.2=(k:Int)∧k≤10) (fun a=>a.2.2.2.2.2.toNat) (fun b=>match b with | .inl x=>Cur x.1∧(StoreI x.2.2.2.1 x.2.2.2.2∧NmL nmP x.2.2.2.2.1) | .inr x=>Cur x.1∧(StoreI x.2.1 x.2.2∧NmL nmP x.2.2.1))
  (fun rec a ha=>by
   obtain ⟨c5,z1,z2,S,D,i⟩:=a
   obtain ⟨h5,⟨hS,hNm⟩,k,hk,hk10⟩:=ha
   simp only at h5 hS hk hNm
   subst hk
   by_cases k0:k=0
   ·left
    subst k0
    exact ⟨.inl (c5,z1,z2,S,D),by simp[ψ2o.l0],h5,hS.1,hNm⟩
   have e0:(k:Int) > 0:=by omega
   have hw:w64 ((k:Int) - 1)=((k - 1:Nat):Int):=by rw[w64_id (by omega) (by omega)];omega
   simp only[ψ2o.l0,e0,decide_true,cond_true]
   cases d0:((S.1.2.length:Int)==0)
   rotate_left
   ·left
    simp only[cond_true,Option.bind_some,caseS_r]
    exact ⟨_,rfl,h5,hS.1,hNm⟩
   right
   obtain ⟨o,c6,e6,h6⟩:=l1Once_ok h5 6
   simp only[cond_false,e6,Option.bind_some]
   cases o
   ·obtain ⟨l,c7,e7,hl,_,h7⟩:=l12Puts_ok h6
    obtain ⟨S',D',q,e8,h8⟩:=spec_Commit_inv2 hS.1 hS.2 l hl
    have hn8:NmL nmP D'.1:=by
     have:=spec_Commit_F hS.1.small l (by omega)
     rw[e8] at this
     have hc:=nm_commitF nm_temp nm_live nm_seg (s:=S) hNm l
     rw[←Option.some.inj this] at hc
     exact hc
    simp only[cond_false,e7,e8,Option.bind_some,caseS_l,hw]
    exact ⟨(c7,z1,z2,S',D',((k - 1:Nat):Int)),⟨h7,⟨h8,hn8⟩,k - 1,rfl,by omega⟩,by simp only[Int.toNat_natCast];omega,rfl⟩
   ·obtain ⟨S',D',q,e8,h8⟩:=spec_Merge_inv2 hS.1 hS.2
    have hn8:NmL nmP D'.1:=by
     have:=(Merge_F hS.1.small).2
     rw[e8] at this
     have hc:=nm_mergeF nm_temp nm_live nm_seg nm_hint (s:=S) hNm
     rw[←Option.some.inj this] at hc
     exact hc
    simp only[cond_true,e8,Option.bind_some,caseS_l,hw]
    exact ⟨(c6,z1,z2,S',D',((k - 1:Nat):Int)),⟨h6,⟨h8,hn8⟩,k - 1,rfl,by omega⟩,by simp only[Int.toNat_natCast];omega,rfl⟩)
  ⟨h4,⟨h3,hN⟩,m,rfl,by omega⟩ (by simp only[Int.toNat_natCast];omega)
 obtain ⟨b,eb,hb⟩:=key
 unfold ψ2o.f
 simp only[e1,e2,e3,e4,Option.bind_some,eb]
 cases b with
 | inl x=>simp only[caseS_l];exact ⟨_,_,_,rfl,hb.2,hb.1⟩
 | inr x=>simp only[caseS_r];exact ⟨_,_,_,rfl,hb.2,hb.1⟩
theorem l12Any_nm {c:CurT} (h:Cur c):∃s d c',ψ2j.f c=some (s,d,c')∧(dSmall d∧NmL nmP d.1)∧Cur c':=by
 obtain ⟨s,d,c1,e1,⟨hs,hN⟩,h1⟩:=l12Store_nm h
 obtain ⟨x,c2,e2,_,_,_,h2⟩:=l1Below_ok h1 16
 have hdl:=dl_dk hs.dk
 have hsm:∀y:Int×Int×Bool,dSmall (d.1,y):=fun y=>⟨by have:=hdl.1;show d.1.length<_;omega,by have:=hdl.2.1;show usedN d.1<_;omega,fun f hf=>by have:=hdl.2.2 f hf;omega⟩
 unfold ψ2j.f
 simp only[e1,e2,Option.bind_some]
 cases d0:(x==0)
 rotate_left
 ·simp only[cond_true]
  exact ⟨_,_,_,rfl,⟨hsm _,hN⟩,h2⟩
 cases d1:(x==1)
 rotate_left
 ·obtain ⟨l,c3,e3,hl,h3⟩:=l8Dir_ok h2
  simp only[cond_true,cond_false,e3,Option.bind_some]
  exact ⟨_,_,_,rfl,⟨hsm _,hN⟩,h3⟩
 cases d2:(x==2)
 rotate_left
 ·obtain ⟨v,c3,e3,_,h3⟩:=l1PickInt_ok h2 [0,1000000,1000001,1000002,1] (by decide)
  simp only[cond_true,cond_false,e3,Option.bind_some]
  exact ⟨_,_,_,rfl,⟨hsm _,hN⟩,h3⟩
 cases d3:(x==3)
 rotate_left
 ·obtain ⟨D,c3,e3,hD3,h3⟩:=l3Any_nm h2
  simp only[cond_true,cond_false,e3,Option.bind_some]
  exact ⟨_,_,_,rfl,hD3,h3⟩
 obtain ⟨v,c3,e3,_,_,_,h3⟩:=l1Below_ok h2 12
 simp only[cond_false]
 cases d4:(x==4)
 rotate_left
 ·simp only[cond_true,Option.bind_some,e3]
  exact ⟨_,_,_,rfl,⟨hsm _,hN⟩,h3⟩
 simp only[cond_false,Option.bind_some]
 cases d5:(x==5)
 rotate_left
 ·simp only[cond_true,e3,Option.bind_some]
  exact ⟨_,_,_,rfl,⟨hsm _,hN⟩,h3⟩
 simp only[cond_false]
 cases d6:(x==6)
 ·simp only[cond_false]
  exact ⟨_,_,_,rfl,⟨hsm _,hN⟩,h2⟩
 ·simp only[cond_true]
  exact ⟨_,_,_,rfl,⟨hsm _,hN⟩,h2⟩
abbrev noHd (d:DiskT):DiskT:=(noH d.1,d.2)
theorem first_id {v:LiveT} (h:liveOk v=true):∃r,v.2=v.2.getD 0 0::r∧v.2.drop 1=r∧(1≤v.2.getD 0 0∧v.2.getD 0 0≤100000):=by
 have hr:=fun id=>live_range (id:=id) h
 obtain ⟨k1,k2,k3,k4⟩:=(liveOk_iff v).1 h
 obtain ⟨a,l⟩:=v
 cases l with
 | nil=>simp at k3
 | cons i r=>
  have:=hr i (by simp)
  exact ⟨r,rfl,rfl,this.1,this.2.1⟩
theorem cutN_noH {v:LiveT} {d:DiskT} (h:diskOk d=true):cutN v (noHd d)=cutN v d:=by
 unfold cutN
 rw[ft_noH h (hintB_seg _)]
theorem segsHave_noH {d:DiskT} (h:diskOk d=true):∀l:List Int,segsHave (noHd d) l=segsHave d l
 | []=>rfl
 | id::r=>by
  rw[segsHave,segsHave,segsHave_noH h r,ft_noH h (hintB_seg _)]
theorem placesOf_noH {d:DiskT} (h:diskOk d=true) (ids:List Int):placesOf (noHd d) ids=placesOf d ids:=by
 unfold placesOf
 congr 1
 funext id
 unfold segPl
 rw[ft_noH h (hintB_seg _)]
theorem placesOf_cut {v:LiveT} {d:DiskT} (h:diskOk d=true) (hl:(fileText d (segName (lastI v.2))).2=true) (hc:(cutW v d).2=0) (ids:List Int):placesOf (cutW v d).1 ids=placesOf d ids:=by
 unfold placesOf
 congr 1
 funext id
 exact cutW_pl h hl hc id
theorem openF_G {v:LiveT} {d:DiskT} (h:diskOk d=true) (hv:liveOk v=true) (hl:(fileText d (segName (lastI v.2))).2=true) (hc:(cutW v d).2=0) :
  ∃hin,openF v d=openE v (cutW v d).1 (cutN v d:Int) (regroup ([],0,0) (placesOf d v.2)) hin∧(hintG (cutW v d).1 (v.2.getD 0 0)=none→hin=0):=by
 rw[openF_eq,if_neg (by rw[hc];simp)]
 obtain ⟨r,er,ed,hr⟩:=first_id hv
 cases hg:hintG (cutW v d).1 (v.2.getD 0 0) with
 | none=>
  refine ⟨0,?_,fun _=>rfl⟩
  simp only
  rw[placesOf_cut h hl hc]
 | some g=>
  refine ⟨v.2.getD 0 0,?_,fun e=>by simp at e⟩
  simp only
  congr 1
  have e1:=placesOf_cut h hl hc v.2
  unfold hintG at hg
  split at hg
  ·rename_i c
   obtain ⟨_,c2,c3⟩:=c
   rcases readHint_cases (fileText (cutW v d).1 (hintName (v.2.getD 0 0))).1 with ⟨e,_⟩ | ⟨H,e,hH⟩
   ·rw[e] at c2;simp at c2
   rw[e] at hg c3
   simp only[Option.some.injEq] at hg
   have c3:hintOf (v.2.getD 0 0) (fileText (cutW v d).1 (segName (v.2.getD 0 0))).1=(H,true):=by
    unfold hintFits at c3
    simpa using c3
   have hok:=hH.1
   unfold hintOk at hok
   simp only[Bool.and_eq_true,decide_eq_true_eq] at hok
   have:=hint_group c3 hok.2.2.2 hok.2.2.1.1 (placesOf (cutW v d).1 (v.2.drop 1))
   rw[←hg,←this,←e1]
   conv=>rhs;rw[er]
   rw[ed]
   rfl
  ·simp at hg
theorem hint_gone {v:LiveT} {d:DiskT} (h:diskOk d=true) (hv:liveOk v=true):hintG (cutW v (noHd d)).1 (v.2.getD 0 0)=none:=by
 obtain ⟨r,er,ed,hr⟩:=first_id hv
 have hl:=live_last hv
 unfold hintG
 rw[if_neg]
 rw[cutW_ft (dk_noH h) _ (fun e=>segName_hint _ _ (by omega) e.symm),ft_noH_hint (hintB_hint hr)]
 simp
theorem openE_zero {v:LiveT} {x y:DiskT} {e:Int} {g:GroupT} {hin:Int} {s:StoreT} (h:openE v x e g hin=(s,y,0)):g.2.2=0∧(sweepW v x).2=0∧y=(sweepW v x).1∧s=(v,g.1,w64 (g.2.1+1),e,hin):=by
 unfold openE at h
 split at h
 ·simp at h
 rename_i c
 split at h
 ·rename_i c2
  simp only[Prod.mk.injEq] at h
  exact absurd ((told_zero _).1 h.2.2) c2
 rename_i c2
 simp only[Prod.mk.injEq,and_true] at h
 exact ⟨by simpa using c,by simpa using c2,h.2.symm,h.1.symm⟩
theorem first_store {d y:DiskT} {s:StoreT} (h:openFirst d=(s,y,0)):s=((2,[1]),[],1,0,0):=by
 unfold openFirst at h
 simp only at h
 split at h
 ·rename_i c
  simp only[Prod.mk.injEq] at h
  exact absurd ((told_zero _).1 h.2.2) c
 ·simp only[Prod.mk.injEq,and_true] at h
  exact h.1.symm
theorem hints_store {d x y:DiskT} {s t:StoreT} (h:diskOk d=true) (h1:openP d=(s,x,0)) (h2:openP (noHd d)=(t,y,0)):t=(s.1,s.2.1,s.2.2.1,s.2.2.2.1,0):=by
 have hk:=dk_noH h
 unfold openP at h1 h2
 rw[if_neg (by rw[h];simp)] at h1
 rw[if_neg (by rw[hk];simp)] at h2
 by_cases c1:d.2.2.2=true
 ·rw[if_pos c1] at h1;simp at h1
 rw[if_neg c1] at h1 h2
 rw[ft_noH h (show hintB liveN=false by decide)] at h2
 by_cases c2:(fileText d liveN).2=false
 ·rw[if_pos c2] at h1 h2
  rw[first_store h1,first_store h2]
 rw[if_neg c2] at h1 h2
 by_cases c3:(readLive (fileText d liveN).1).2=false
 ·rw[if_pos c3] at h1;simp at h1
 rw[if_neg c3] at h1 h2
 rw[segsHave_noH h] at h2
 by_cases c4:segsHave d (readLive (fileText d liveN).1).1.2=false
 ·rw[if_pos c4] at h1;simp at h1
 rw[if_neg c4] at h1 h2
 rcases readLive_cases (fileText d liveN).1 with ⟨e,_⟩ | ⟨v,e,hlv⟩
 ·rw[e] at c3;simp at c3
 rw[e] at h1 h2 c4
 simp only at h1 h2 c4
 have hlast:(fileText d (segName (lastI v.2))).2=true:=segsHave_last v.2 (live_ne hlv.1) (by simpa using c4)
 have cut:∀{D:DiskT} {a:StoreT} {b:DiskT},openF v D=(a,b,0)→(cutW v D).2=0:=fun {D a b} hh=>by
  rw[openF_eq] at hh
  by_cases c:(cutW v D).2=0
  ·exact c
  ·rw[if_pos c] at hh
   simp only[Prod.mk.injEq] at hh
   exact absurd ((told_zero _).1 hh.2.2) c
 obtain ⟨hin,e1,_⟩:=openF_G h hlv.1 hlast (cut h1)
 obtain ⟨hin2,e2,z2⟩:=openF_G hk hlv.1 (by rw[ft_noH h (hintB_seg _)];exact hlast) (cut h2)
 rw[e1] at h1
 rw[e2,z2 (hint_gone h hlv.1),placesOf_noH h,cutN_noH h] at h2
 obtain ⟨_,_,_,r1⟩:=openE_zero h1
 obtain ⟨_,_,_,r2⟩:=openE_zero h2
 rw[r1,r2]
theorem onF_onF (n:List UInt8) (g1 g2:FileT→FileT) (h:∀f,(g2 f).1=f.1) (l:List FileT):onF n g1 (onF n g2 l)=onF n (fun f=>g1 (g2 f)) l:=by
 unfold onF
 rw[List.map_map]
 refine List.map_congr_left fun f _=>?_
 show (if (if f.1=n then g2 f else f).1=n then g1 (if f.1=n then g2 f else f) else (if f.1=n then g2 f else f))=_
 by_cases c:f.1=n
 ·rw[if_pos c,if_pos c,if_pos (by rw[h];exact c)]
 ·rw[if_neg c,if_neg c,if_neg c]
theorem cut_at {v:LiveT} {d:DiskT} (h:diskOk d=true) (hf:Free d) (hl:(fileText d (segName (lastI v.2))).2=true) :
  cutW v d=((onF (segName (lastI v.2)) (if (fileText d (segName (lastI v.2))).1.length=cutN v d then syncF else fun f=>syncF (truncF (cutN v d:Int) f)) d.1,d.2),0):=by
 unfold cutW
 by_cases c:(fileText d (segName (lastI v.2))).1.length=cutN v d
 ·rw[if_pos c,if_pos c]
  have:sstep (dSync (segName (lastI v.2))) (d,0)=dSync (segName (lastI v.2)) d:=by unfold sstep;rw[if_pos rfl]
  rw[this,sync_at h hf hl]
 ·rw[if_neg c,if_neg c]
  have hle:cutN v d≤(fileText d (segName (lastI v.2))).1.length:=(scan_len _).1
  have ht:=trunc_at h hf hl hle
  have hk:diskOk (dTrunc (segName (lastI v.2)) (cutN v d:Int) d).1=true:=dk_Trunc h _ _
  have htx:=truncTxt (d:=d) (n:=segName (lastI v.2)) (z:=(cutN v d:Int)) (by rw[ht])
  rw[ht] at hk htx ⊢
  have:sstep (dSync (segName (lastI v.2))) ((onF (segName (lastI v.2)) (truncF (cutN v d:Int)) d.1,d.2),0)=dSync (segName (lastI v.2)) (onF (segName (lastI v.2)) (truncF (cutN v d:Int)) d.1,d.2):=by unfold sstep;rw[if_pos rfl]
  rw[this,sync_at hk hf (by rw[htx])]
  show ((onF _ syncF (onF _ (truncF _) d.1),d.2),(0:Int))=_
  rw[onF_onF _ syncF (truncF (cutN v d:Int)) fun f=>rfl]
theorem noH_filter (p:FileT→Bool) (l:List FileT):noH (l.filter p)=(noH l).filter p:=by
 unfold noH
 rw[List.filter_filter,List.filter_filter]
 refine List.filter_congr fun f _=>Bool.and_comm _ _
theorem noH_none {l:List FileT} (h:NmL (fun n=>hintB n=false) l):noH l=l:=List.filter_eq_self.2 fun f hf=>by rw[h f hf];rfl
theorem hints_free {d x y:DiskT} {s t:StoreT} {c e:Int} (h:diskOk d=true) (hf:Free d) (hN:NmL nmP d.1) (h1:openP d=(s,x,c)) (h2:openP (noHd d)=(t,y,e)):c=e∧(c=0→(noH x.1,x.2)=y):=by
 have hk:=dk_noH h
 have hf2:Free (noHd d):=hf
 unfold openP at h1 h2
 rw[if_neg (by rw[h];simp),if_neg (by rw[hf.up];simp)] at h1
 rw[if_neg (by rw[hk];simp),if_neg (by rw[hf2.up];simp),ft_noH h (show hintB liveN=false by decide)] at h2
 have same:∀{S:StoreT} {k:Int},k≠0→(S,d,k)=(s,x,c)→(S,noHd d,k)=(t,y,e)→c=e∧(c=0→(noH x.1,x.2)=y):=fun {S k} hk2 e1 e2=>by
  simp only[Prod.mk.injEq] at e1 e2
  obtain ⟨_,_,rfl⟩:=e1
  obtain ⟨_,_,rfl⟩:=e2
  exact ⟨rfl,fun e=>absurd e hk2⟩
 by_cases c2:(fileText d liveN).2=false
 ·rw[if_pos c2] at h1 h2
  have hor:∀f∈d.1,hintB f.1=true→orphB zeroLive f=true:=fun f hf hh=>by
   obtain ⟨id,hid⟩:=hN f hf hh
   unfold orphB
   rw[idOf_yes hid]
   simp[zeroLive]
  have e1:sweepW zeroLive (noHd d)=sweepW zeroLive d:=by
   rw[sweep_at hk hf2,sweep_at h hf]
   congr 2
   show (noH d.1).filter _=_
   unfold noH
   rw[List.filter_filter]
   refine List.filter_congr fun f hf=>?_
   cases hh:hintB f.1 with
   | false=>simp
   | true=>rw[hor f hf hh];rfl
  have e2:openFirst (noHd d)=openFirst d:=by unfold openFirst;rw[e1]
  rw[e2,h1] at h2
  simp only[Prod.mk.injEq] at h2
  obtain ⟨_,rfl,rfl⟩:=h2
  refine ⟨rfl,fun e=>?_⟩
  subst e
  have hx:x=(sPut (2,[1]) (sstep (dCreate (segName 1)) (sweepW zeroLive d))).1:=by
   unfold openFirst at h1
   simp only at h1
   split at h1
   ·simp only[Prod.mk.injEq] at h1;exact h1.2.1.symm
   ·simp only[Prod.mk.injEq] at h1;exact h1.2.1.symm
  have hno:NmL (fun n=>hintB n=false) x.1:=by
   rw[hx]
   refine nm_sPut (by decide) (by decide) _ (nm_sstep (fun D k=>nm_Create k (hintB_seg 1)) ?_)
   rw[sweep_at h hf]
   intro f hf
   obtain ⟨f1,f2⟩:=List.mem_filter.1 hf
   cases hh:hintB f.1 with
   | false=>rfl
   | true=>rw[hor f f1 hh] at f2;simp at f2
  rw[noH_none hno]
 rw[if_neg c2] at h1 h2
 by_cases c3:(readLive (fileText d liveN).1).2=false
 ·rw[if_pos c3] at h1 h2;exact same (by decide) h1 h2
 rw[if_neg c3] at h1 h2
 rw[segsHave_noH h] at h2
 by_cases c4:segsHave d (readLive (fileText d liveN).1).1.2=false
 ·rw[if_pos c4] at h1 h2;exact same (by decide) h1 h2
 rw[if_neg c4] at h1 h2
 rcases readLive_cases (fileText d liveN).1 with ⟨e,_⟩ | ⟨v,e,hlv⟩
 ·rw[e] at c3;simp at c3
 rw[e] at h1 h2 c4
 simp only at h1 h2 c4
 have hlast:(fileText d (segName (lastI v.2))).2=true:=segsHave_last v.2 (live_ne hlv.1) (by simpa using c4)
 have hlast2:(fileText (noHd d) (segName (lastI v.2))).2=true:=by rw[ft_noH h (hintB_seg _)];exact hlast
 have w1:=cut_at h hf hlast
 have w2:=cut_at hk hf2 hlast2
 rw[ft_noH h (hintB_seg _),cutN_noH h] at w2
 obtain ⟨hin,e1,_⟩:=openF_G h hlv.1 hlast (by rw[w1])
 obtain ⟨hin2,e2,_⟩:=openF_G hk hlv.1 hlast2 (by rw[w2])
 rw[e1] at h1
 rw[e2,placesOf_noH h,cutN_noH h] at h2
 have k1:diskOk (cutW v d).1=true:=dk_cutW h
 have k2:diskOk (cutW v (noHd d)).1=true:=dk_cutW hk
 rw[w1] at h1 k1
 rw[w2] at h2 k2
 unfold openE at h1 h2
 by_cases g:(regroup ([],0,0) (placesOf d v.2)).2.2=0
 rotate_left
 ·rw[if_pos g] at h1 h2
  simp only[Prod.mk.injEq] at h1 h2
  obtain ⟨_,_,rfl⟩:=h1
  obtain ⟨_,_,rfl⟩:=h2
  exact ⟨rfl,fun e=>by simp at e⟩
 rw[if_neg (by rw[g];simp),sweep_at k1 hf,if_neg (by simp)] at h1
 rw[if_neg (by rw[g];simp),sweep_at k2 hf,if_neg (by simp)] at h2
 simp only[Prod.mk.injEq] at h1 h2
 obtain ⟨_,hx,rfl⟩:=h1
 obtain ⟨_,hy,rfl⟩:=h2
 refine ⟨rfl,fun _=>?_⟩
 rw[←hx,←hy]
 show (noH (List.filter _ (onF _ _ d.1)),d.2)=(List.filter _ (onF _ _ (noH d.1)),d.2)
 rw[noH_filter,noH_onF]
 intro f
 split<;>rfl
theorem drawDropHints_ok (l:List Int) (hl:l.length<2 ^ 60):∃d,ψ1r.f l=some d∧dSmall d∧NmL nmP d.1:=by
 obtain ⟨c,e0,h0⟩:=l1New_ok l hl
 obtain ⟨s,d,c1,e1,hd,h1⟩:=l12Any_nm h0
 obtain ⟨o,c2,e2,h2⟩:=l1Once_ok h1 4
 unfold ψ1r.f
 simp only[e0,e1,e2,Option.bind_some]
 cases o
 ·simp only[cond_false]
  exact ⟨d,rfl,hd⟩
 ·obtain ⟨D,c3,e3,hD,h3⟩:=l3Any_nm h2
  simp only[cond_true,e3,Option.bind_some]
  exact ⟨D,rfl,hD⟩
theorem FnHintsUnseen_true (x0:List Int) (w0:wfD (.sl false (.int .u8)) x0):ψ1e.f x0=some true:=by
 unfold ψ1e.f
 rw[big_eq,Option.bind_some]
 by_cases cb:(x0.length:Int) > 1048576
 ·simp[cb]
 simp only[cb,decide_false,cond_false]
 obtain ⟨d,e1,hd,hN⟩:=drawDropHints_ok x0 (by omega)
 have hd':dl 1048577 d:=dl_mono hd (by omega)
 have hlim:=dl_lim hd (by omega)
 cases hk:diskOk d with
 | false=>
  have ho:openP d=(zStore,d,4):=by unfold openP;rw[if_pos hk]
  have hn:noHints d=d:=by unfold noHints;rw[if_pos hk]
  have hss:=sameStore_self zStore (by simp) (by simp)
  have z4:((4:Int)==0)=false:=by decide
  simp only[e1,Option.bind_some,impl_Open_eq d hd',spec_Open_eq d hd',ho,bne_self_eq_false,cond_false,hss,Bool.not_true,z4,caseS,impl_DropHints_eq d hlim,hn,spec_DiskOk_eq d hlim,hk,Bool.not_false,cond_true]
  cases decide (d.2.2.1≥0)<;>rfl
 | true=>
  have hn:=noHints_eq hk
  have hk2:=dk_noH hk
  obtain ⟨s,x,c,ho⟩:∃s x c,openP d=(s,x,c):=⟨_,_,_,rfl⟩
  obtain ⟨t,y,e,ho2⟩:∃t y e,openP (noHd d)=(t,y,e):=⟨_,_,_,rfl⟩
  have hok:=openP_ok hk
  have hok2:=openP_ok hk2
  rw[ho] at hok
  rw[ho2] at hok2
  simp only at hok hok2
  have hss:=sameStore_self s (by omega) (by omega)
  have hst:=sameStore_self t (by omega) (by omega)
  have hlx:=dl_lim (dl_dk hok.1) (show 100001≤1000000000 by omega)
  have hx:c=0→((x.1.length:Int)==0)=false:=fun hc=>by
   subst hc
   obtain ⟨hop,_⟩:=openP_opened ho
   have hne:=live_ne hop.lv
   obtain ⟨z,hz⟩:=has_file hop.dk (hop.seg _ (lastI_mem hne))
   have:=List.length_pos_of_mem hz
   simp;intro h;rw[h] at this;simp at this
  have hcode:d.2.2.1<0→c=e∧(c=0→(noH x.1,x.2)=y):=fun hf=>by
   cases hdn:d.2.2.2 with
   | true=>
    have a1:openP d=(zStore,d,1):=by unfold openP;rw[if_neg (by rw[hk];simp),if_pos hdn]
    have a2:openP (noHd d)=(zStore,noHd d,1):=by unfold openP;rw[if_neg (by rw[hk2];simp),if_pos hdn]
    rw[a1] at ho;rw[a2] at ho2
    simp only[Prod.mk.injEq] at ho ho2
    exact ⟨ho.2.2.symm.trans ho2.2.2,fun hc=>by rw[←ho.2.2] at hc;simp at hc⟩
   | false=>
    have hF:Free d:=by
     have:=(diskOk_fuel hk).1
     show d.2.2=(-1,false)
     rw[show d.2.2=(d.2.2.1,d.2.2.2) from rfl,hdn]
     have:d.2.2.1=-1:=by omega
     rw[this]
    exact hints_free hk hF hN ho ho2
  have e5:ψE.f d=some (noHd d):=by rw[impl_DropHints_eq d hlim,hn]
  have e6:ψT.f (noHd d)=some (t,y,e):=by rw[impl_Open_eq (noHd d) (dl_mono (dl_dk hk2) (by omega)),ho2]
  have e7:ψ1q.f d=some true:=by rw[spec_DiskOk_eq d hlim,hk]
  simp only[e1,Option.bind_some,impl_Open_eq d hd',spec_Open_eq d hd',ho,bne_self_eq_false,cond_false,hss,Bool.not_true]
  by_cases hc:c=0
  ·have z1:=hx hc
   subst hc
   simp only[beq_self_eq_true,cond_true,z1,cond_false,Option.bind_some,caseS,e5,e6,e7,Bool.not_true]
   by_cases he:e=0
   ·subst he
    have ht:=hints_store hk ho ho2
    have z2:(t.2.2.2.2==0)=true:=by rw[ht];rfl
    have z3:((s.1,s.2.1,s.2.2.1,s.2.2.2.1,t.2.2.2.2):StoreT)=t:=by rw[ht]
    simp only[beq_self_eq_true,cond_true,z2,z3,hst,Option.bind_some]
    by_cases hf:d.2.2.1≥0
    ·simp only[hf,decide_true,cond_true]
    ·have hy:=(hcode (by omega)).2 rfl
     have hy2:noHints x=y:=by rw[noHints_eq hok.1];exact hy
     simp only[hf,decide_false,cond_false,impl_DropHints_eq x hlx,hy2,Option.bind_some,spec_SameDisk_self y (by have:=(diskOk_fuel hok2.1).2.2;omega)]
   ·have z2:(e==0)=false:=by simpa using he
    simp only[z2,cond_false]
    by_cases hf:d.2.2.1≥0
    ·simp only[hf,decide_true,cond_true]
    ·have:=(hcode (by omega)).1
     exact absurd this.symm he
  ·have z1:(c==0)=false:=by simpa using hc
   simp only[z1,cond_false,Option.bind_some,caseS,e5,e6,e7,Bool.not_true]
   by_cases hf:d.2.2.1≥0
   ·simp only[hf,decide_true,cond_true]
   ·have:=(hcode (by omega)).1
    subst this
    simp only[hf,decide_false,cond_false,beq_self_eq_true]
end Go.Rf.G
