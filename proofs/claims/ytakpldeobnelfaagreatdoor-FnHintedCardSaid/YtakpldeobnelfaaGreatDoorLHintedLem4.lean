import Derived.Test.YtakpldeobnelfaaGreatDoorLHintedLem3
namespace Go.Rf.G
open Go Go.Rf
set_option linter.unusedVariables false
set_option linter.unusedSimpArgs false
set_option synthInstance.maxSize 4000
theorem impl_ownOf_eq (l:List PlaceT) (r:RecT) (hl:l.length<1000000000):ψ17.f l r=some (ownL r.1 r.2.1 l):=by
 have hk:=fold_loop (step:=ψ17.l0) l (ownStep r.1 r.2.1) (fun n (s:List PlaceT)=>(r,s,l,(l.length:Int),(n:Int))) (fun s=>s) (fun n s=>s.length≤n) (by omega)
  (fun rec n s h hi=>by
   have hw:=w64_succ (show n+1<9223372036854775808 by omega)
   have hb:(s.length+([l[n]]:List PlaceT).length) * 88≤140737488355328:=lim88 (by omega)
   have hb2:decide ((s.length+1) * 88≤140737488355328)=true:=by simp only[decide_eq_true_eq];omega
   unfold ownStep
   simp only[ψ17.l0,Int.ofNat_lt,h,decide_true,cond_true,inB_nat,rdA_nat,getD_lt h]
   generalize l[n]=p at *
   obtain ⟨sg,at_,ln,k,b,key,v,c,z⟩:=p
   obtain ⟨rk,rb,rr⟩:=r
   simp only at hb ⊢
   by_cases c1:rk=3
   ·subst c1
    simp only[beq_self_eq_true,cond_true,true_and,show ¬((3:Int)=5) by decide,false_and,or_false]
    by_cases c2:b=rb
    ·subst c2
     simp only[bne_self_eq_false,cond_false,ne_eq,not_true,if_false]
     by_cases c3:k=3
     ·subst c3;simp[hw]
     ·have d3:(k==3)=false:=by simpa using c3
      simp only[d3,cond_false,c3,if_false]
      by_cases c4:k=1
      ·subst c4;simp[hw,hb2]
      ·have d4:(k==1)=false:=by simpa using c4
       simp only[d4,cond_false,c4,false_or]
       by_cases c5:k=2
       ·subst c5;simp[hw,hb2]
       ·have d5:(k==2)=false:=by simpa using c5
        have d6:((3:Int)==5)=false:=rfl
        simp[d5,c5,d6,hw]
    ·have d2:(b != rb)=true:=by simpa using c2
     simp[d2,c2,hw]
   ·have d1:(rk==3)=false:=by simpa using c1
    simp only[d1,cond_false,c1,false_and,if_false,false_or]
    by_cases c3:k=rk
    ·have d3:(k==rk)=true:=by simpa using c3
     simp[d3,c3,hw]
    ·have d3:(k==rk)=false:=by simpa using c3
     simp only[d3,cond_false,c3,if_false]
     by_cases c4:rk=5
     ·subst c4
      simp only[beq_self_eq_true,cond_true,true_and]
      by_cases c5:k=4
      ·subst c5;simp[hw,hb2]
      ·have d5:(k==4)=false:=by simpa using c5
       simp[d5,c5,hw]
     ·have d4:(rk==5)=false:=by simpa using c4
      simp[d4,c4,hw])
  (fun n s h hi=>by have:=ownStep_len r.1 r.2.1 s l[n];omega)
  (fun rec s hi=>by simp[ψ17.l0]) [] (Nat.le_refl _)
 have hk:lp ψ17.l0 (r,[],l,(l.length:Int),0)=_:=hk
 unfold ψ17.f
 rw[hk];rfl
def putD (dir:List EntryT) (p:PlaceT):List EntryT:=
 if p.2.2.2.1=2 then dropK dir p.2.2.2.2.2.1 else insB (dropK dir p.2.2.2.2.2.1) (p.2.2.2.2.2.1,p.1,p.2.1,p.2.2.1,p.2.2.2.2.1)
def applyD (dir:List EntryT) (own:List PlaceT):List EntryT:=own.foldl putD dir
theorem putD_len (dir:List EntryT) (p:PlaceT):(putD dir p).length≤dir.length+1:=by
 unfold putD
 have:=dropK_len dir p.2.2.2.2.2.1
 split
 ·omega
 ·rw[insB_len];omega
theorem applyD_len (own:List PlaceT):∀dir,(applyD dir own).length≤dir.length+own.length:=by
 unfold applyD
 induction own with
 | nil=>intro dir;simp
 | cons x l ih=>intro dir;have:=ih (putD dir x);have:=putD_len dir x;simp only[List.foldl_cons,List.length_cons];omega
def codeD (dir:List EntryT) (c:Int):Int:=if 20<dir.length then 2 else c
theorem impl_apply_eq (g:GroupT) (own:List PlaceT) (hg:g.1.length<100000000) (ho:own.length<100000000):ψJ.f g own=some (applyD g.1 own,g.2.1,codeD (applyD g.1 own) g.2.2):=by
 have hk:=fold_loop (step:=ψJ.l0) own putD (fun n (s:List EntryT)=>((s,g.2),own,(own.length:Int),(n:Int))) (fun s=>(s,g.2)) (fun n s=>s.length≤g.1.length+n) (by omega)
  (fun rec n s h hi=>by
   have hw:=w64_succ (show n+1<9223372036854775808 by omega)
   unfold putD
   simp only[ψJ.l0,Int.ofNat_lt,h,decide_true,cond_true,inB_nat,rdA_nat,getD_lt h]
   by_cases c:own[n].2.2.2.1=2
   ·have d:(own[n].2.2.2.1==2)=true:=by simpa using c
    rw[if_pos c]
    simp only[d,cond_true,impl_DirDrop_eq s own[n].2.2.2.2.2.1 (by omega),Option.bind_some,hw]
   ·have d:(own[n].2.2.2.1==2)=false:=by simpa using c
    rw[if_neg c]
    simp only[d,cond_false,impl_DirPut_eq s (own[n].2.2.2.2.2.1,own[n].1,own[n].2.1,own[n].2.2.1,own[n].2.2.2.2.1) (by omega),Option.bind_some,hw])
  (fun n s h hi=>by have:=putD_len s own[n];omega)
  (fun rec s hi=>by simp[ψJ.l0]) g.1 (Nat.le_refl _)
 have hk:lp ψJ.l0 (g,own,(own.length:Int),0)=some (applyD g.1 own,g.2):=hk
 unfold ψJ.f codeD
 rw[hk,Option.bind_some]
 simp only
 by_cases c:20<(applyD g.1 own).length
 ·have d:decide (((applyD g.1 own).length:Int) > 20)=true:=by simp;omega
  rw[d,if_pos c];rfl
 ·have d:decide (((applyD g.1 own).length:Int) > 20)=false:=by simp;omega
  rw[d,if_neg c];rfl
def regStep (pre:List PlaceT) (p:PlaceT) (g:GroupT):GroupT:=
 let last:=if p.2.2.2.2.1 > g.2.1 then p.2.2.2.2.1 else g.2.1
 if p.2.2.2.1=3∨p.2.2.2.1=5 then
  let own:=ownL p.2.2.2.1 p.2.2.2.2.1 pre
  if fitsR p.2.2.2 (own.map (·.2.2.2))=true then (applyD g.1 own,last,codeD (applyD g.1 own) g.2.2)
  else if p.2.2.2.1=5 then (g.1,last,1) else (g.1,last,g.2.2)
 else (g.1,last,g.2.2)
def regGo:List PlaceT→List PlaceT→GroupT→GroupT
 | _,[],g=>g
 | pre,p::r,g=>if g.2.2≠0 then g else regGo (pre++[p]) r (regStep pre p g)
def regEnd (l:List PlaceT) (g:GroupT):GroupT:=if g.2.2=0∧0<(ownL 5 0 l).length then (g.1,g.2.1,1) else g
def regroup (g:GroupT) (l:List PlaceT):GroupT:=regEnd l (regGo [] l g)
theorem regStep_len (pre:List PlaceT) (p:PlaceT) (g:GroupT):(regStep pre p g).1.length≤g.1.length+pre.length:=by
 unfold regStep
 have h1:=applyD_len (ownL p.2.2.2.1 p.2.2.2.2.1 pre) g.1
 have h2:=ownL_len p.2.2.2.1 p.2.2.2.2.1 pre
 simp only
 split
 ·split
  ·show (applyD g.1 (ownL p.2.2.2.1 p.2.2.2.2.1 pre)).length≤_;omega
  ·split<;>exact Nat.le_add_right _ _
 ·exact Nat.le_add_right _ _
theorem regStep_code (pre:List PlaceT) (p:PlaceT) (g:GroupT) (h:g.2.2=0) (hc:(regStep pre p g).2.2=0):(regStep pre p g).1.length≤max g.1.length 20:=by
 unfold regStep at hc ⊢
 simp only at hc ⊢
 split
 ·rename_i c
  rw[if_pos c] at hc
  split
  ·rename_i c2
   rw[if_pos c2] at hc
   have hc:codeD (applyD g.1 (ownL p.2.2.2.1 p.2.2.2.2.1 pre)) g.2.2=0:=hc
   show (applyD g.1 (ownL p.2.2.2.1 p.2.2.2.2.1 pre)).length≤_
   unfold codeD at hc
   split at hc
   ·simp at hc
   ·omega
  ·split<;>exact Nat.le_max_left _ _
 ·exact Nat.le_max_left _ _
def regF (l:List PlaceT):List PlaceT→List PlaceT→GroupT→(List PlaceT×GroupT×GroupT) ⊕ GroupT
 | _,[],g=>.inl (l,([],0,0),g)
 | pre,p::r,g=>if g.2.2≠0 then .inr g else regF l (pre++[p]) r (regStep pre p g)
theorem regF_go (l:List PlaceT):∀(r pre:List PlaceT) (g:GroupT),regF l pre r g=.inl (l,([],0,0),regGo pre r g)∨(regF l pre r g=.inr (regGo pre r g)∧(regGo pre r g).2.2≠0)
 | [],pre,g=>.inl rfl
 | p::r,pre,g=>by
  unfold regF regGo
  by_cases c:g.2.2≠0
  ·rw[if_pos c,if_pos c];exact .inr ⟨rfl,c⟩
  ·rw[if_neg c,if_neg c];exact regF_go l r _ _
def regInv (g:GroupT):Prop:=g.1.length≤(if g.2.2=0 then 1000020 else 11000020)
theorem regInv_step {pre:List PlaceT} {p:PlaceT} {g:GroupT} (h:regInv g) (hc:g.2.2=0) (hp:pre.length<10000000):regInv (regStep pre p g):=by
 unfold regInv at h ⊢
 rw[if_pos hc] at h
 split
 ·rename_i c
  have:=regStep_code pre p g hc c
  omega
 ·have:=regStep_len pre p g
  omega
theorem impl_Regroup_l0 (l:List PlaceT) (hl:l.length<10000000) (g0:GroupT) (hg:regInv g0) :
  lp ψc.l0 (l,([],0,0),g0,l,(l.length:Int),0)=some (regF l [] l g0):=by
 have key:=lp_up (step:=ψc.l0) (fun n (g:GroupT)=>(l,(([],0,0):GroupT),g,l,(l.length:Int),(n:Int))) l.length (fun n g=>regF l (l.take n) (l.drop n) g) (fun _ g=>regInv g)
  (fun rec n g hn hi ih=>by
   rcases Nat.lt_or_ge n l.length with h | h
   ·have hw:=w64_succ (show n+1<9223372036854775808 by omega)
    have htl:(l.take n).length=n:=by rw[List.length_take];omega
    rw[List.drop_eq_getElem_cons h]
    unfold regF
    obtain ⟨⟨sg,at_,ln,k,b,key,v,c,z⟩,hp⟩:∃p,l[n]=p:=⟨_,rfl⟩
    have hr:rdA zPlace l (n:Int)=(sg,at_,ln,k,b,key,v,c,z):=by rw[rdA_nat,getD_lt h,hp]
    have hx:inB (n:Int) l.length=true:=by rw[inB_nat,decide_eq_true h]
    have ht:l.take n++[(sg,at_,ln,k,b,key,v,c,z)]=l.take (n+1):=by rw[←hp];exact (List.take_succ_eq_append_getElem h).symm
    by_cases c0:g.2.2=0
    rotate_left
    ·rw[if_pos c0]
     have d0:(g.2.2 != 0)=true:=by simpa using c0
     simp only[ψc.l0,Int.ofNat_lt,h,decide_true,cond_true,hx,d0,Option.bind_some,caseS_r]
    rw[if_neg (fun z=>z c0),hp]
    have d0:(g.2.2 != 0)=false:=by simpa using c0
    have hs:=ih (regStep (l.take n) (sg,at_,ln,k,b,key,v,c,z) g) h (regInv_step hi c0 (by omega))
    rw[ht]
    rw[←hs]
    have hg1:g.1.length<100000000:=by unfold regInv at hi;rw[if_pos c0] at hi;omega
    have hin:(decide (0≤(n:Int)) && decide ((n:Int)≤(l.length:Int)))=true:=by simp only[Bool.and_eq_true,decide_eq_true_eq];omega
    have how:=impl_ownOf_eq (l.take n) (k,b,key,v,c,z) (by omega)
    have hol:=ownL_len k b (l.take n)
    have hft:=impl_fits_eq (k,b,key,v,c,z) (ownL k b (l.take n)) (by omega)
    have hap:=fun last=>impl_apply_eq (g.1,last,g.2.2) (ownL k b (l.take n)) hg1 (by omega)
    simp only[ψc.l0,Int.ofNat_lt,h,decide_true,cond_true,hx,hr,d0,cond_false]
    unfold regStep
    simp only
    by_cases c3:k=3
    ·subst c3
     simp only[bne_self_eq_false,cond_false,Option.bind_some,caseS_l,hin,cond_true,Int.toNat_natCast,how,hft,true_or,if_true,show ¬((3:Int)=5) by decide,if_false,show ((3:Int)==5)=false from rfl]
     cases fitsR (3,b,key,v,c,z) ((ownL 3 b (l.take n)).map (·.2.2.2))
     ·simp only[cond_false,Option.bind_some,caseS_l,hw,Bool.false_eq_true,if_false]
     ·simp only[cond_true,hap,Option.bind_some,caseS_l,hw,if_true]
    ·have d3:(k != 3)=true:=by simpa using c3
     simp only[d3,cond_true,c3,false_or]
     by_cases c5:k=5
     ·subst c5
      simp only[bne_self_eq_false,cond_false,Option.bind_some,caseS_l,hin,cond_true,Int.toNat_natCast,how,hft,if_true,beq_self_eq_true]
      cases fitsR (5,b,key,v,c,z) ((ownL 5 b (l.take n)).map (·.2.2.2))
      ·simp only[cond_false,Option.bind_some,caseS_l,hw,Bool.false_eq_true,if_false]
      ·simp only[cond_true,hap,Option.bind_some,caseS_l,hw,if_true]
     ·have d5:(k != 5)=true:=by simpa using c5
      simp only[d5,cond_true,c5,if_false,Option.bind_some,caseS_r,caseS_l,hw]
   ·have:n=l.length:=by omega
    subst this
    simp only[ψc.l0,Int.lt_irrefl,decide_false,cond_false,List.take_length,List.drop_length,regF])
  (by omega) 0 g0 (Nat.zero_le _) hg
 exact key
theorem impl_Regroup_eq (g:GroupT) (l:List PlaceT) (hl:l.length<10000000) (hg:regInv g):ψc.f g l=some (regroup g l):=by
 have hg1:g.1.length<1000000000:=by unfold regInv at hg;split at hg<;>omega
 unfold ψc.f
 rw[impl_copyDir_eq g.1 hg1,Option.bind_some,impl_Regroup_l0 l hl (g.1,g.2) hg,Option.bind_some]
 unfold regroup regEnd
 rcases regF_go l l [] g with e | ⟨e,hc⟩
 ·rw[show ((g.1,g.2):GroupT)=g from rfl,e]
  simp only[caseS_l]
  by_cases c:(regGo [] l g).2.2=0
  ·have d:((regGo [] l g).2.2==0)=true:=by simpa using c
   have ho:=impl_ownOf_eq l (5,0,[],[],0,0) (by omega)
   simp only[d,cond_true,ho,Option.bind_some]
   by_cases c2:0<(ownL 5 0 l).length
   ·have d2:decide (((ownL 5 0 l).length:Int) > 0)=true:=by simp;omega
    rw[d2,if_pos ⟨c,c2⟩];rfl
   ·have d2:decide (((ownL 5 0 l).length:Int) > 0)=false:=by simp only[decide_eq_false_iff_not];omega
    rw[d2,if_neg (fun z=>c2 z.2)];rfl
  ·have d:((regGo [] l g).2.2==0)=false:=by simpa using c
   simp only[d,cond_false]
   rw[if_neg (fun z=>c z.1)]
 ·rw[show ((g.1,g.2):GroupT)=g from rfl,e]
  simp only[caseS_r]
  rw[if_neg (fun z=>hc z.1)]
def spots:Nat→List RecT→List SpotT
 | _,[]=>[]
 | a,r::rs=>((a:Int),((fr r).length:Int),r)::spots (a+(fr r).length) rs
theorem spots_recs:∀(rs:List RecT) (a:Nat),(spots a rs).map (·.2.2)=rs
 | [],_=>rfl
 | r::rs,a=>by simp[spots,spots_recs rs]
theorem spots_app:∀(rs qs:List RecT) (a:Nat),spots a (rs++qs)=spots a rs++spots (a+(txt rs).length) qs
 | [],qs,a=>by simp[spots,txt]
 | r::rs,qs,a=>by
  rw[List.cons_append,spots,spots,spots_app rs qs,txt_cons,List.length_append,List.cons_append,Nat.add_assoc]
theorem scanAt_spots:∀(rs:List RecT) (p:List UInt8),(∀r∈rs,recOk r=true)→scanAt (p++txt rs) p.length=(spots p.length rs,p.length+(txt rs).length)
 | [],p,_=>by
  have:p++txt []=p:=by simp[txt]
  rw[this,scanAt_end];simp[txt,spots]
 | r::rs,p,h=>by
  have hs:=showRec_len r
  have hb:=unframe_back (t:=showRec r) (by omega) (txt rs)
  have hd:(p++txt (r::rs)).drop p.length=frame (showRec r)++txt rs:=by rw[List.drop_left];rfl
  have hl:=fr_len r
  have hrr:=readRec_back (h r List.mem_cons_self)
  rw[scanAt_step (n:=(fr r).length) (by rw[hd,hb];rfl) hl.1 (by rw[txt_cons];simp only[List.length_append];omega) (by rw[hd,hb];simp only;rw[hrr])]
  have ih:=scanAt_spots rs (p++fr r) (fun x hx=>h x (List.mem_cons_of_mem _ hx))
  rw[List.append_assoc,List.length_append] at ih
  rw[hd,hb]
  simp only[hrr]
  have e:p++txt (r::rs)=p++(fr r++txt rs):=rfl
  rw[e,ih]
  simp only[spots,txt_cons,List.length_append,Nat.add_assoc]
theorem scan_spots {rs:List RecT} (h:∀r∈rs,recOk r=true):scan (txt rs)=(spots 0 rs,(txt rs).length):=by
 have:=scanAt_spots rs [] h
 simp only[List.nil_append,List.length_nil,Nat.zero_add] at this
 exact this
theorem scanAt_recs:∀(k:Nat) (s:List UInt8) (a:Nat),a≤s.length→s.length - a=k→∃(rs:List RecT) (q:List UInt8),(∀r∈rs,recOk r=true)∧s.drop a=txt rs++q∧scanAt s a=(spots a rs,a+(txt rs).length):=by
 intro k
 induction k using Nat.strongRecOn with
 | ind k ih=>
  intro s a ha hk
  by_cases c:(unframe (s.drop a)).2=0∨(readRec (unframe (s.drop a)).1).2=false
  ·exact ⟨[],s.drop a,by simp,rfl,scanAt_stop ha c⟩
  ·have c1:(unframe (s.drop a)).2≠0:=fun e=>c (.inl e)
   have hr:(readRec (unframe (s.drop a)).1).2=true:=by
    cases e:(readRec (unframe (s.drop a)).1).2 with
    | true=>rfl
    | false=>exact absurd (.inr e) c
   obtain ⟨t,r,e1,e2,e3⟩:=unframe_some c1
   have h5:=frame_pos e2
   have hlen:a+(frame t).length≤s.length:=by
    have:(s.drop a).length=(frame t++r).length:=by rw[←e1]
    rw[List.length_drop,List.length_append] at this;omega
   have hst:=scanAt_step (n:=(frame t).length) (by rw[e3]) h5 hlen hr
   obtain ⟨rs,q,g1,g2,g3⟩:=ih (s.length - (a+(frame t).length)) (by omega) s (a+(frame t).length) hlen rfl
   have hd:s.drop (a+(frame t).length)=r:=by rw[←List.drop_drop,e1,List.drop_left]
   rw[e3] at hr
   rcases readRec_cases t with ⟨z,_⟩ | ⟨x,z,hx⟩
   ·rw[z] at hr;simp at hr
   ·refine ⟨x::rs,q,?_,?_,?_⟩
    ·intro y hy
     rcases List.mem_cons.1 hy with rfl | hy
     ·exact hx.1
     ·exact g1 y hy
    ·rw[e1,txt_cons,←hd,g2]
     show frame t++(txt rs++q)=frame (showRec x)++txt rs++q
     rw[hx.2,List.append_assoc]
    ·rw[hst,g3,e3]
     have hf:(fr x).length=(frame t).length:=by show (frame (showRec x)).length=_;rw[hx.2]
     simp only[z,spots,txt_cons,List.length_append,hf,Nat.add_assoc]
theorem scan_recs (s:List UInt8):∃(rs:List RecT) (q:List UInt8),(∀r∈rs,recOk r=true)∧s=txt rs++q∧scan s=(spots 0 rs,(txt rs).length):=by
 obtain ⟨rs,q,h1,h2,h3⟩:=scanAt_recs s.length s 0 (Nat.zero_le _) (by omega)
 rw[List.drop_zero] at h2
 rw[Nat.zero_add] at h3
 exact ⟨rs,q,h1,h2,h3⟩
theorem scan_cut (s:List UInt8):scan (s.take (scan s).2)=scan s:=by
 obtain ⟨rs,q,h1,h2,h3⟩:=scan_recs s
 rw[h3]
 have:s.take (txt rs).length=txt rs:=by rw[h2,List.take_left]
 rw[this,scan_spots h1]
theorem orphP_len {d:DiskT} (h:diskOk d=true) (v:LiveT):(orphP d v).length≤130:=by
 unfold orphP
 rw[if_neg (by rw[h];simp),List.length_map]
 exact Nat.le_trans (List.length_filter_le _ _) (diskOk_fuel h).2.2
noncomputable def sweepW (v:LiveT) (d:DiskT):WorkT:=sDrop (orphP d v) (d,0)
theorem dk_sweep {d:DiskT} (h:diskOk d=true) (v:LiveT):diskOk (sweepW v d).1=true:=dk_sDrop _ h
theorem impl_orphans_eq (w:WorkT) (v:LiveT) (h:diskOk w.1=true) (hv:v.2.length<1000000000):ψ1U.f w v=some (wDrop (orphP w.1 v) w):=by
 unfold ψ1U.f
 rw[impl_Orphans_eq w.1 v (dl_lim (dl_dk h) (by omega)) hv,Option.bind_some]
 have hl:=orphP_len h v
 generalize orphP w.1 v=names at hl ⊢
 have key:=fold_loop (step:=ψ1U.l0) names (fun (w:WorkT) n=>wstep (dGone n) w) (fun n (a:WorkT)=>(a,names,(names.length:Int),(n:Int))) (fun a=>a) (fun _ a=>diskOk a.1=true) (by omega)
  (fun rec n a h1 ha=>by
   have hw:=w64_succ (show n+1<9223372036854775808 by omega)
   simp only[ψ1U.l0,Int.ofNat_lt,h1,decide_true,cond_true,inB_nat,rdA_nat,getD_lt h1,w_gone_eq a names[n] (dl_dk ha) (by omega),Option.bind_some,hw])
  (fun n a h1 ha=>dk_wstep (op:=dGone names[n]) ha fun k=>dk_Gone k _)
  (fun rec a ha=>by simp[ψ1U.l0])
  w h
 have key:lp ψ1U.l0 (w,names,(names.length:Int),0)=some (wDrop names w):=key
 rw[key];rfl
noncomputable def segPl (d:DiskT) (id:Int):List PlaceT:=(scan (fileText d (segName id)).1).1.map fun x=>((id,x):PlaceT)
theorem txt_le {d:DiskT} (h:diskOk d=true) (n:List UInt8):(fileText d n).1.length≤100000:=by
 have h1:=fileText_len d n (dl_lim (dl_dk h) (by omega))
 have h2:=diskOk_cap h
 omega
theorem segPl_len {d:DiskT} (h:diskOk d=true) (id:Int):(segPl d id).length≤100000:=by
 unfold segPl
 rw[List.length_map]
 exact Nat.le_trans (scan_len _).2 (txt_le h _)
theorem segsPl_len {d:DiskT} (h:diskOk d=true):∀ids:List Int,(ids.flatMap (segPl d)).length≤100000 * ids.length
 | []=>by simp
 | id::r=>by
  have:=segPl_len h id
  have:=segsPl_len h r
  simp only[List.flatMap_cons,List.length_append,List.length_cons];omega
abbrev zStore:StoreT:=((0,[]),[],0,0,0)
noncomputable def openFirst (d:DiskT):StoreT×DiskT×Int:=
 let w:=sPut (2,[1]) (sstep (dCreate (segName 1)) (sweepW zeroLive d))
 if w.2≠0 then (zStore,w.1,told w.2) else (((2,[1]),[],1,0,0),w.1,0)
theorem impl_first_eq (d:DiskT) (h:diskOk d=true):∃w:WorkT,ψ1Q.f (d,0)=some (((2,[1]),[],1,0,0),w)∧w=toldW (sPut (2,[1]) (sstep (dCreate (segName 1)) (sweepW zeroLive d))):=by
 refine ⟨_,?_,rfl⟩
 unfold ψ1Q.f
 have h1:=impl_orphans_eq (d,0) zeroLive h (by show 0<_;omega)
 have e1:wDrop (orphP d zeroLive) (d,0)=toldW (sweepW zeroLive d):=wDrop_told _ (d,0)
 have hd1:=dk_sweep h zeroLive
 have h2:=w_create_eq (toldW (sweepW zeroLive d)) (segName 1) (k:=100001) (dl_dk hd1) (by omega) (by have:=segName_len 1;omega)
 have e2:wstep (dCreate (segName 1)) (toldW (sweepW zeroLive d))=toldW (sstep (dCreate (segName 1)) (sweepW zeroLive d)):=wstep_told _ _
 have hd2:diskOk (sstep (dCreate (segName 1)) (sweepW zeroLive d)).1=true:=dk_sstep hd1 fun k=>dk_Create k _
 have h3:=w_putLive_eq (toldW (sstep (dCreate (segName 1)) (sweepW zeroLive d))) (2,[1]) (k:=100001) (dl_dk hd2) (by omega) (by show 1<_;decide)
 have e3:=wPut_told (2,[1]) (sstep (dCreate (segName 1)) (sweepW zeroLive d))
 have h1:ψ1U.f (d,0) (0,[])=some (toldW (sweepW zeroLive d)):=h1.trans (by rw[e1])
 rw[e2] at h2
 rw[e3] at h3
 simp only[h1,Option.bind_some,impl_SegName_eq,h2,h3]
noncomputable def segsHave (d:DiskT):List Int→Bool
 | []=>true
 | id::r=>(fileText d (segName id)).2 && ((r.isEmpty || decide ((scan (fileText d (segName id)).1).2=(fileText d (segName id)).1.length)) && segsHave d r)
noncomputable def lastEnd (d:DiskT):List Int→Int→Int
 | [],z=>z
 | id::r,_=>lastEnd d r ((scan (fileText d (segName id)).1).2:Int)
theorem lastEnd_last (d:DiskT):∀(l:List Int) (z:Int),l≠[]→lastEnd d l z=((scan (fileText d (segName (lastI l))).1).2:Int)
 | [],_,h=>absurd rfl h
 | [x],z,_=>by rw[lastEnd,lastEnd,lastI_one]
 | x::y::l,z,_=>by rw[lastEnd,lastI_cons];exact lastEnd_last d (y::l) _ (by simp)
theorem isEmpty_drop {α:Type} (l:List α) (n:Nat) (h:n<l.length):(l.drop (n+1)).isEmpty=decide (¬n<l.length - 1):=by
 apply Bool.eq_iff_iff.2
 rw[List.isEmpty_iff,List.drop_eq_nil_iff,decide_eq_true_eq];omega
theorem impl_scanAll_eq (w:WorkT) (v:LiveT) (h:diskOk w.1=true) (hv:v.2.length<1000000) :
  ψ1Y.f w v=some (if segsHave w.1 v.2=true then (v.2.map (segPl w.1),lastEnd w.1 v.2 0,true,w) else ([],0,false,w)):=by
 have key:=lp_up (step:=ψ1Y.l0) (fun n (s:List (List PlaceT)×Int)=>(w,v,s.1,s.2,v.2,(v.2.length:Int),(n:Int))) v.2.length
  (fun n s=>if segsHave w.1 (v.2.drop n)=true then .inl (w,s.1++(v.2.drop n).map (segPl w.1),lastEnd w.1 (v.2.drop n) s.2) else .inr (w,[],0,false)) (fun n s=>s.1.length≤n)
  (fun rec n s hn hs ih=>by
   rcases Nat.lt_or_ge n v.2.length with h1 | h1
   ·have hw:=w64_succ (show n+1<9223372036854775808 by omega)
    have hwl:w64 ((v.2.length:Int) - 1)=((v.2.length - 1:Nat):Int):=by rw[w64_id (by omega) (by omega)];omega
    have hd:v.2.drop n=v.2[n]::v.2.drop (n+1):=List.drop_eq_getElem_cons h1
    have htx:=txt_le h (segName v.2[n])
    have hsc:=scan_len (fileText w.1 (segName v.2[n])).1
    have hpl:=impl_placed_eq v.2[n] (scan (fileText w.1 (segName v.2[n])).1).1 (by omega)
    have hb:decide ((s.1.length+([segPl w.1 v.2[n]]:List (List PlaceT)).length) * 24≤140737488355328)=true:=by simp only[decide_eq_true_eq];exact lim24 (by omega)
    have ih:=ih (s.1++[segPl w.1 v.2[n]],((scan (fileText w.1 (segName v.2[n])).1).2:Int)) h1 (by simp only[List.length_append,List.length_singleton];omega)
    have hft:=impl_FileText_eq w.1 (segName v.2[n]) (dl_lim (dl_dk h) (by omega))
    have hsr:=impl_ScanRecs_eq (fileText w.1 (segName v.2[n])).1 (by omega)
    rw[hd]
    simp only[segsHave,lastEnd,List.map_cons,isEmpty_drop v.2 n h1]
    simp only[ψ1Y.l0,Int.ofNat_lt,h1,decide_true,cond_true,inB_nat,rdA_nat,getD_lt h1,impl_SegName_eq,Option.bind_some,hft,hsr,hwl]
    have hpl2:ψ18.f v.2[n] (scan (fileText w.1 (segName v.2[n])).1).1=some (segPl w.1 v.2[n]):=hpl
    have hgo:((ψ18.f v.2[n] (scan (fileText w.1 (segName v.2[n])).1).1).bind fun t5=>bif decide ((s.1.length+[t5].length) * 24≤140737488355328) then rec (w,v,s.1++[t5],((scan (fileText w.1 (segName v.2[n])).1).2:Int),v.2,(v.2.length:Int),w64 ((n:Int)+1)) else none) =
      some (if segsHave w.1 (v.2.drop (n+1))=true then .inl (w,s.1++(segPl w.1 v.2[n]::(v.2.drop (n+1)).map (segPl w.1)),lastEnd w.1 (v.2.drop (n+1)) ((scan (fileText w.1 (segName v.2[n])).1).2:Int)) else .inr (w,[],0,false)):=by
     rw[hpl2,Option.bind_some,hb,cond_true,hw]
     have:s.1++(segPl w.1 v.2[n]::(v.2.drop (n+1)).map (segPl w.1))=s.1++[segPl w.1 v.2[n]]++(v.2.drop (n+1)).map (segPl w.1):=by simp
     rw[this];exact ih
    cases hk:(fileText w.1 (segName v.2[n])).2 with
    | false=>simp only[Bool.not_false,cond_true,Option.bind_some,caseS_r,Bool.false_and,Bool.false_eq_true,if_false]
    | true=>
     simp only[Bool.not_true,cond_false,Bool.true_and]
     by_cases c1:n<v.2.length - 1
     ·simp only[c1,decide_true,cond_true,not_true,decide_false,Bool.false_or]
      by_cases c2:(scan (fileText w.1 (segName v.2[n])).1).2=(fileText w.1 (segName v.2[n])).1.length
      ·rw[len_eq c2,cond_false]
       simp only[Option.bind_some,caseS_l,decide_eq_true c2,Bool.true_and]
       exact hgo
      ·rw[len_ne c2,cond_true]
       simp only[Option.bind_some,caseS_r,decide_eq_false c2,Bool.false_and,Bool.false_eq_true,if_false]
     ·simp only[c1,decide_false,cond_false,not_false_iff,decide_true,Bool.true_or,Bool.true_and,Option.bind_some,caseS_l]
      exact hgo
   ·have:n=v.2.length:=by omega
    subst this
    rw[List.drop_length]
    simp[ψ1Y.l0,segsHave,lastEnd])
  (by omega) 0 ([],0) (Nat.zero_le _) (Nat.le_refl _)
 have key:lp ψ1Y.l0 (w,v,[],0,v.2,(v.2.length:Int),0)=_:=key
 unfold ψ1Y.f
 rw[key,Option.bind_some,List.drop_zero]
 by_cases c:segsHave w.1 v.2=true
 ·rw[if_pos c,if_pos c];simp only[caseS_l,List.nil_append]
 ·rw[if_neg c,if_neg c];simp only[caseS_r]
noncomputable def hintG (d:DiskT) (id:Int):Option GroupT:=
 if (fileText d (hintName id)).2=true∧(readHint (fileText d (hintName id)).1).2=true∧hintFits id (fileText d (segName id)).1 (readHint (fileText d (hintName id)).1).1=true then
  some ((readHint (fileText d (hintName id)).1).1.2.2,(readHint (fileText d (hintName id)).1).1.2.1,0) else none
theorem impl_hinted_eq (w:WorkT) (id:Int) (h:diskOk w.1=true):ψ1T.f w id=some (match hintG w.1 id with | some g=>(g,true,w) | none=>(([],0,0),false,w)):=by
 have hlm:=dl_lim (dl_dk h) (show 100001≤1000000000 by omega)
 have ht:=txt_le h (hintName id)
 have ht2:=txt_le h (segName id)
 unfold ψ1T.f hintG
 simp only[impl_HintName_eq,Option.bind_some,impl_FileText_eq w.1 (hintName id) hlm,impl_ReadHint_eq _ (show (fileText w.1 (hintName id)).1.length<900000000 by omega),impl_SegName_eq,impl_FileText_eq w.1 (segName id) hlm,
  impl_HintFits_eq id (fileText w.1 (segName id)).1 (readHint (fileText w.1 (hintName id)).1).1 (by omega)]
 cases (fileText w.1 (hintName id)).2<;>cases (readHint (fileText w.1 (hintName id)).1).2<;>cases hintFits id (fileText w.1 (segName id)).1 (readHint (fileText w.1 (hintName id)).1).1<;>simp
noncomputable def placesOf (x:DiskT) (ids:List Int):List PlaceT:=ids.flatMap (segPl x)
theorem impl_found_l0 (w:WorkT) (v:LiveT) (S:StoreT) (g:GroupT) (L:List (List PlaceT)) (z:LiveT) (hL:∀l∈L,l.length≤100000) (hl:L.length≤1000) :
  lp ψ1R.l0 (w,zStore,(v.1,[]),S,g,[],L,(L.length:Int),0)=some (w,zStore,(v.1,[]),S,g,L.flatten):=by
 have hk:=fold_loop (step:=ψ1R.l0) L (fun (s:List PlaceT) l=>s++l) (fun n s=>(w,zStore,(v.1,[]),S,g,s,L,(L.length:Int),(n:Int))) (fun s=>(w,zStore,(v.1,[]),S,g,s)) (fun n s=>s.length≤100000 * n) (by omega)
  (fun rec n s h hi=>by
   have hw:=w64_succ (show n+1<9223372036854775808 by omega)
   have h1:=hL _ (List.getElem_mem h)
   have hb:decide ((s.length+L[n].length) * 88≤140737488355328)=true:=by simp only[decide_eq_true_eq];omega
   simp only[ψ1R.l0,Int.ofNat_lt,h,decide_true,cond_true,inB_nat,rdA_nat,getD_lt h,hb,hw])
  (fun n s h hi=>by have h1:=hL _ (List.getElem_mem h);simp only[List.length_append];omega)
  (fun rec s hi=>by simp[ψ1R.l0]) [] (Nat.le_refl _)
 have hk:lp ψ1R.l0 (w,zStore,(v.1,[]),S,g,[],L,(L.length:Int),0)=_:=hk
 rw[hk]
 have:∀(L:List (List PlaceT)) (s:List PlaceT),L.foldl (fun (s:List PlaceT) l=>s++l) s=s++L.flatten:=by
  intro L
  induction L with
  | nil=>intro s;simp
  | cons x L ih=>intro s;rw[List.foldl_cons,ih];simp
 rw[this];rfl
theorem ft_Trunc {d:DiskT} (h:diskOk d=true) {m n:List UInt8} (z:Int) (hne:n≠m):fileText (dTrunc m z d).1 n=fileText d n:=by
 refine ft_files h (dk_Trunc h m z) n fun t=>?_
 unfold actTrunc
 rcases fileIx_cases d.1 m with ⟨e,_⟩ | ⟨i,hi,e,hn⟩
 ·rw[ix_none e]
 ·rw[ix_some e]
  simp only
  split
  ·rw[getD_lt hi]
   constructor
   ·rintro ⟨s,hs⟩;exact ⟨s,(mem_set_ne (f:=(d.1[i].1,d.1[i].2.1.take z.toNat,if z<d.1[i].2.2 then z else d.1[i].2.2)) hi rfl (by rw[hn];exact hne)).2 hs⟩
   ·rintro ⟨s,hs⟩;exact ⟨s,(mem_set_ne (f:=(d.1[i].1,d.1[i].2.1.take z.toNat,if z<d.1[i].2.2 then z else d.1[i].2.2)) hi rfl (by rw[hn];exact hne)).1 hs⟩
  ·exact Iff.rfl
theorem truncTxt {d:DiskT} {n:List UInt8} {z:Int} (h:(dTrunc n z d).2=0):fileText (dTrunc n z d).1 n=((fileText d n).1.take z.toNat,true):=by
 obtain ⟨k,ha,hx⟩:=dstep_zero h
 have hk:diskOk (dTrunc n z d).1=true:=dk_Trunc k n z
 have hx:(dTrunc n z d).1=_:=hx
 unfold actTrunc at ha hx
 rcases fileIx_cases d.1 n with ⟨e,_⟩ | ⟨i,hi,e,hn⟩
 ·rw[ix_none e] at ha;simp at ha
 rw[ix_some e] at ha hx
 simp only at ha hx
 split at ha
 ·rename_i c
  rw[if_pos c,getD_lt hi] at hx
  have e1:=fileText_mem k (List.getElem_mem hi)
  rw[hn] at e1
  have hm:((n,d.1[i].2.1.take z.toNat,if z<d.1[i].2.2 then z else d.1[i].2.2):FileT)∈(dTrunc n z d).1.1:=by
   rw[hx,←hn]
   exact List.mem_iff_getElem.2 ⟨i,by simpa using hi,by simp⟩
  have e2:=fileText_mem hk hm
  rw[e1]
  exact e2
 ·simp at ha
noncomputable def cutN (v:LiveT) (d:DiskT):Nat:=(scan (fileText d (segName (lastI v.2))).1).2
noncomputable def cutW (v:LiveT) (d:DiskT):WorkT:=
 sstep (dSync (segName (lastI v.2))) (if (fileText d (segName (lastI v.2))).1.length=cutN v d then (d,0) else dTrunc (segName (lastI v.2)) (cutN v d:Int) d)
theorem dk_cutW {v:LiveT} {d:DiskT} (h:diskOk d=true):diskOk (cutW v d).1=true:=by
 unfold cutW
 refine dk_sstep ?_ fun k=>dk_Sync k _
 split
 ·exact h
 ·exact dk_Trunc h _ _
theorem cutW_ft {v:LiveT} {d:DiskT} (h:diskOk d=true) (n:List UInt8) (hne:n≠segName (lastI v.2)):fileText (cutW v d).1 n=fileText d n:=by
 unfold cutW
 split
 ·rw[ft_sstep (ft_Sync h _ _)]
 ·have hk:diskOk (dTrunc (segName (lastI v.2)) (cutN v d:Int) d).1=true:=dk_Trunc h _ _
  rw[ft_sstep (ft_Sync hk _ _)]
  exact ft_Trunc h _ hne
theorem cutW_last {v:LiveT} {d:DiskT} (h:diskOk d=true) (hl:(fileText d (segName (lastI v.2))).2=true) (hc:(cutW v d).2=0) :
  fileText (cutW v d).1 (segName (lastI v.2))=((fileText d (segName (lastI v.2))).1.take (cutN v d),true):=by
 unfold cutW at hc ⊢
 have h0:=(sstep_inv hc).1
 split
 ·rename_i c
  rw[ft_sstep (ft_Sync h _ _),←c,List.take_length]
  exact Prod.ext rfl hl
 ·rename_i c
  rw[if_neg c] at h0
  have hk:diskOk (dTrunc (segName (lastI v.2)) (cutN v d:Int) d).1=true:=dk_Trunc h _ _
  rw[ft_sstep (ft_Sync hk _ _),truncTxt h0,Int.toNat_natCast]
theorem cutW_pl {v:LiveT} {d:DiskT} (h:diskOk d=true) (hl:(fileText d (segName (lastI v.2))).2=true) (hc:(cutW v d).2=0) (id:Int):segPl (cutW v d).1 id=segPl d id:=by
 unfold segPl
 by_cases c:segName id=segName (lastI v.2)
 ·rw[c,cutW_last h hl hc]
  show List.map _ (scan ((fileText d (segName (lastI v.2))).1.take (cutN v d))).1=_
  unfold cutN
  rw[scan_cut]
 ·rw[cutW_ft h _ c]
theorem segsHave_last {d:DiskT}:∀(l:List Int),l≠[]→segsHave d l=true→(fileText d (segName (lastI l))).2=true
 | [],h,_=>absurd rfl h
 | [x],_,h=>by
  simp only[segsHave,Bool.and_eq_true] at h
  rw[lastI_one];exact h.1
 | x::y::l,_,h=>by
  rw[lastI_cons]
  have h:segsHave d (x::(y::l))=true:=h
  rw[segsHave,Bool.and_eq_true,Bool.and_eq_true] at h
  exact segsHave_last (y::l) (by simp) h.2.2
noncomputable def openF (v:LiveT) (d:DiskT):StoreT×DiskT×Int:=
 if (cutW v d).2≠0 then (zStore,(cutW v d).1,told (cutW v d).2) else
 let x:=(cutW v d).1
 let g:=match hintG x (v.2.getD 0 0) with
  | some g=>regroup g (placesOf x (v.2.drop 1))
  | none=>regroup ([],0,0) (placesOf x v.2)
 let hinted:=match hintG x (v.2.getD 0 0) with
  | some _=>v.2.getD 0 0
  | none=>0
 if g.2.2≠0 then (zStore,x,3) else
 if (sweepW v x).2≠0 then (zStore,(sweepW v x).1,told (sweepW v x).2) else
 ((v,g.1,w64 (g.2.1+1),(cutN v d:Int),hinted),(sweepW v x).1,0)
noncomputable def openP (d:DiskT):StoreT×DiskT×Int:=
 if diskOk d=false then (zStore,d,4) else if d.2.2.2=true then (zStore,d,1) else
 if (fileText d liveN).2=false then openFirst d else
 if (readLive (fileText d liveN).1).2=false then (zStore,d,3) else
 if segsHave d (readLive (fileText d liveN).1).1.2=false then (zStore,d,3) else openF (readLive (fileText d liveN).1).1 d
theorem hintG_len {x:DiskT} {id:Int} {g:GroupT} (h:hintG x id=some g):g.1.length≤20∧g.2.2=0:=by
 unfold hintG at h
 split at h
 ·rename_i c
  simp only[Option.some.injEq] at h
  subst h
  refine ⟨?_,rfl⟩
  rcases readHint_cases (fileText x (hintName id)).1 with ⟨e,_⟩ | ⟨u,e,hu⟩
  ·rw[e] at c;simp at c
  ·rw[e];exact (hint_in hu.1).2.2.1
 ·simp at h
theorem regInv_hint {x:DiskT} {id:Int} {g:GroupT} (h:hintG x id=some g):regInv g:=by
 obtain ⟨h1,h2⟩:=hintG_len h
 unfold regInv
 rw[if_pos h2];omega
theorem regInv_zero:regInv ([],0,0):=by unfold regInv;simp
theorem placesOf_len {x:DiskT} (h:diskOk x=true) {ids:List Int} (hl:ids.length≤60):(placesOf x ids).length<10000000:=by
 have:=segsPl_len h ids
 unfold placesOf;omega
theorem impl_found_eq (d:DiskT) (t:List UInt8) (h:diskOk d=true) (ht:t.length<1000000000) :
  ∃S w,ψ1R.f (d,0) t=some (S,w) ∧
   (if w.2≠0 then (zStore,w.1,w.2) else (S,w.1,(0:Int))) =
   (if (readLive t).2=false then (zStore,d,3) else if segsHave d (readLive t).1.2=false then (zStore,d,3) else openF (readLive t).1 d):=by
 unfold ψ1R.f
 rw[impl_ReadLive_eq t ht,Option.bind_some]
 rcases readLive_cases t with ⟨e,_⟩ | ⟨v,e,hv⟩
 ·rw[e]
  have hs:=impl_scanAll_eq (d,0) zeroLive h (by show 0<_;omega)
  rw[if_pos (show segsHave d zeroLive.2=true from rfl)] at hs
  simp only[hs,Option.bind_some,Bool.not_false,cond_true,if_true]
  exact ⟨_,_,rfl,by simp⟩
 rw[e]
 have hlen:=liveOk_len hv.1
 have hpos:=((liveOk_iff v).1 hv.1).2.2.1
 have hs:=impl_scanAll_eq (d,0) v h (by omega)
 simp only[hs,Option.bind_some]
 cases hc:segsHave d v.2 with
 | false=>
  simp only[Bool.false_eq_true,if_false,Bool.not_true,cond_false,Bool.not_false,cond_true]
  exact ⟨_,_,rfl,by simp⟩
 | true=>
  have hlast:=segsHave_last v.2 (fun z=>by rw[z] at hpos;simp at hpos) hc
  obtain ⟨l1,l2,l3⟩:=last_rd hpos (by omega)
  have hle:=lastEnd_last d v.2 0 (fun z=>by rw[z] at hpos;simp at hpos)
  have hlm:=dl_lim (dl_dk h) (show 100001≤1000000000 by omega)
  have hT:=impl_Truncate_eq d (segName (lastI v.2)) (cutN v d:Int) hlm
  have hT:ψs.f d (segName (lastI v.2)) (cutN v d:Int)=some (dTrunc (segName (lastI v.2)) (cutN v d:Int) d):=hT
  have hcw:lastEnd d v.2 0=(cutN v d:Int):=hle
  simp only[if_true,Bool.not_true,cond_false,Bool.true_eq_false,if_false,l1,l2,cond_true,l3,impl_SegName_eq,Option.bind_some,impl_FileText_eq d _ hlm,hcw]
  -- cut and kept
  have hmid:∃w0:WorkT,w0=toldW (if (fileText d (segName (lastI v.2))).1.length=cutN v d then (d,0) else dTrunc (segName (lastI v.2)) (cutN v d:Int) d) ∧
    ((bif ((fileText d (segName (lastI v.2))).1.length:Int) != (cutN v d:Int) then
     (ψs.f d (segName (lastI v.2)) (cutN v d:Int)).bind fun (t5_0,t5_1)=>(ψ1a.f (d,0) t5_0 t5_1).bind fun t6=>some (t6,zStore,v,v.2.map (segPl d),(cutN v d:Int),segName (lastI v.2))
     else some ((d,0),zStore,v,v.2.map (segPl d),(cutN v d:Int),segName (lastI v.2)):Option (WorkT×StoreT×LiveT×List (List PlaceT)×Int×List UInt8)))=some (w0,zStore,v,v.2.map (segPl d),(cutN v d:Int),segName (lastI v.2)):=by
   refine ⟨_,rfl,?_⟩
   by_cases c:(fileText d (segName (lastI v.2))).1.length=cutN v d
   ·rw[len_eq c,if_pos c];rfl
   ·rw[len_ne c,if_neg c,cond_true,hT,Option.bind_some]
    generalize dTrunc (segName (lastI v.2)) (cutN v d:Int) d=p
    obtain ⟨p1,p2⟩:=p
    simp only[took_eq,Option.bind_some];rfl
  obtain ⟨w0,ew0,hmid⟩:=hmid
  have hmid:=hmid
  have hsync:ψ1Z.f w0 (segName (lastI v.2))=some (toldW (cutW v d)):=by
   have hd0:diskOk w0.1=true:=by
    rw[ew0]
    show diskOk (if (fileText d (segName (lastI v.2))).1.length=cutN v d then (d,(0:Int)) else dTrunc (segName (lastI v.2)) (cutN v d:Int) d).1=true
    split
    ·exact h
    ·exact dk_Trunc h _ _
   rw[w_sync_eq w0 (segName (lastI v.2)) (dl_dk hd0) (by omega),ew0,wstep_told];rfl
  refine (show ∃S w,_∧_ from ?_)
  have hx0:inB 0 v.2.length=true:=by rw[show (0:Int)=((0:Nat):Int) from rfl,inB_nat];simp;omega
  have hr0:rdA 0 v.2 0=v.2.getD 0 0:=by rw[show (0:Int)=((0:Nat):Int) from rfl,rdA_nat]
  have hsl:(decide (0≤(1:Int)) && decide (1≤((v.2.map (segPl d)).length:Int)))=true:=by rw[List.length_map];simp;omega
  have hd1:=dk_cutW (v:=v) h
  have hpl:=fun hc2=>cutW_pl (v:=v) h hlast hc2
  unfold openF
  have hfl:∀ids:List Int,(cutW v d).2=0→(ids.map (segPl d)).flatten=placesOf (cutW v d).1 ids:=fun ids hc2=>by
   unfold placesOf
   rw[List.flatMap_def]
   congr 1
   exact List.map_congr_left fun id _=>(hpl hc2 id).symm
  have hmap:∀(ids:List Int),∀l∈ids.map (segPl d),l.length≤100000:=fun ids l hl=>by
   obtain ⟨id,_,rfl⟩:=List.mem_map.1 hl;exact segPl_len h id
  rw[show (((d,(0:Int)):WorkT).1)=d from rfl] at *
  rw[hmid,Option.bind_some]
  simp only[hsync,Option.bind_some]
  generalize hW:cutW v d=W at *
  obtain ⟨x,c⟩:=W
  by_cases c0:c=0
  rotate_left
  ·have t1:(told c != 0)=true:=by rw[told_ne];simpa using c0
   have t2:told c≠0:=fun z=>c0 ((told_zero c).1 z)
   rw[if_pos c0]
   simp only[toldW,t1,cond_true]
   exact ⟨_,_,rfl,by rw[if_pos t2]⟩
  subst c0
  have hd1:diskOk x=true:=hd1
  rw[if_neg (by simp)]
  have t1:(told 0 != 0)=false:=rfl
  have t0:told 0=0:=rfl
  have hh:=impl_hinted_eq (x,0) (v.2.getD 0 0) hd1
  simp only[toldW,t1,t0,cond_false,hx0,cond_true,hr0,hh,Option.bind_some]
  -- the end,alike for both ways
  have fin:∀(g0:GroupT) (ids:List Int) (hin:Int),regInv g0→ids.length≤60 →
    ∃S w,((lp ψ1R.l0 ((x,0),zStore,(v.1,[]),(v,[],0,(cutN v d:Int),hin),g0,[],ids.map (segPl d),((ids.map (segPl d)).length:Int),0)).bind (fun (x0,x4,x5,x13,x14,x16)=>
     (ψc.f x14 x16).bind fun t10=>
     bif t10.2.2 != 0 then some (zStore,(x0.1,3)) else
     (ψ1U.f x0 (x5.1,x13.1.2)).bind fun t11=>some ((x13.1,t10.1,w64 (t10.2.1+1),x13.2.2.2),t11)):Option (StoreT×WorkT))=some (S,w) ∧
    (if w.2≠0 then (zStore,w.1,w.2) else (S,w.1,(0:Int))) =
     (if (regroup g0 (placesOf x ids)).2.2≠0 then (zStore,x,3) else if (sweepW v x).2≠0 then (zStore,(sweepW v x).1,told (sweepW v x).2) else
      ((v,(regroup g0 (placesOf x ids)).1,w64 ((regroup g0 (placesOf x ids)).2.1+1),(cutN v d:Int),hin),(sweepW v x).1,0)):=by
   intro g0 ids hin hg hi
   rw[impl_found_l0 (x,0) v (v,[],0,(cutN v d:Int),hin) g0 (ids.map (segPl d)) v (hmap ids) (by rw[List.length_map];omega),Option.bind_some]
   have hfl2:=hfl ids rfl
   have hrg:=impl_Regroup_eq g0 (placesOf x ids) (placesOf_len hd1 hi) hg
   have hor:=impl_orphans_eq (x,0) (v.1,v.2) hd1 (by show v.2.length<_;omega)
   have ewd:wDrop (orphP x v) (x,0)=toldW (sweepW v x):=wDrop_told _ (x,0)
   have hor:ψ1U.f (x,0) (v.1,v.2)=some (toldW (sweepW v x)):=hor.trans (by rw[←ewd])
   simp only[hfl2,hrg,Option.bind_some]
   by_cases c1:(regroup g0 (placesOf x ids)).2.2=0
   rotate_left
   ·have d1:((regroup g0 (placesOf x ids)).2.2 != 0)=true:=by simpa using c1
    rw[d1,cond_true,if_pos c1]
    exact ⟨_,_,rfl,by simp⟩
   have d1:((regroup g0 (placesOf x ids)).2.2 != 0)=false:=by simpa using c1
   rw[d1,cond_false,if_neg (fun z=>z c1),hor,Option.bind_some]
   refine ⟨_,_,rfl,?_⟩
   generalize sweepW v x=S2
   obtain ⟨y,c2⟩:=S2
   by_cases c3:c2=0
   ·subst c3;simp[toldW,told]
   ·have t2:told c2≠0:=fun z=>c3 ((told_zero c2).1 z)
    simp[toldW,t2,c3]
  cases hg:hintG x (v.2.getD 0 0) with
  | some g=>
   simp only[cond_true,hx0,hsl,hr0,Option.bind_some]
   have e1:(v.2.map (segPl d)).drop 1=(v.2.drop 1).map (segPl d):=by rw[List.map_drop]
   rw[e1]
   exact fin g (v.2.drop 1) (v.2.getD 0 0) (regInv_hint hg) (by rw[List.length_drop];omega)
  | none=>
   simp only[cond_false,Option.bind_some]
   exact fin ([],0,0) v.2 0 regInv_zero hlen
theorem impl_Open_eq (d:DiskT) (hd:dl 1048577 d):ψS.f d=some (openP d):=by
 have hlm:=dl_lim hd (by omega)
 unfold ψS.f openP
 rw[impl_copyDisk_eq d (by have:=hd.1;omega),Option.bind_some,impl_DiskOk_eq d hlm,Option.bind_some]
 cases h:diskOk d with
 | false=>rfl
 | true=>
  simp only[Bool.not_true,cond_false,Bool.true_eq_false,if_false]
  obtain ⟨fs,cap,fuel,down⟩:=d
  cases hdn:down with
  | true=>rfl
  | false=>
   subst hdn
   simp only[cond_false,Bool.false_eq_true,if_false]
   have hft:=impl_FileText_eq (fs,cap,fuel,false) liveN hlm
   have hft:ψF.f (fs,cap,fuel,false) [108,105,118,101]=_:=hft
   rw[hft,Option.bind_some]
   have htl:=txt_le h liveN
   generalize ((fs,cap,fuel,false):DiskT)=d at *
   generalize fileText d liveN=q at htl ⊢
   obtain ⟨t,b⟩:=q
   cases b with
   | false=>
    simp only[cond_false,if_true]
    obtain ⟨w,e1,e2⟩:=impl_first_eq d h
    simp only[e1,Option.bind_some]
    unfold openFirst
    rw[e2]
    generalize sPut (2,[1]) (sstep (dCreate (segName 1)) (sweepW zeroLive d))=p
    obtain ⟨y,c⟩:=p
    by_cases c0:c=0
    ·subst c0;simp[toldW,told]
    ·have t1:(told c != 0)=true:=by rw[told_ne];simpa using c0
     simp only[toldW,t1,cond_true]
     rw[if_pos c0]
   | true=>
    simp only[cond_true,Bool.true_eq_false,if_false]
    obtain ⟨S,w,e1,e2⟩:=impl_found_eq d t h (by have:t.length≤100000:=htl;omega)
    rw[←e2]
    simp only[e1,Option.bind_some]
    obtain ⟨y,c⟩:=w
    by_cases c0:c=0
    ·subst c0;simp
    ·have t1:(c != 0)=true:=by simpa using c0
     simp only[t1,cond_true]
     rw[if_pos c0]
noncomputable def openE (v:LiveT) (x:DiskT) (e:Int) (g:GroupT) (hin:Int):StoreT×DiskT×Int:=
 if g.2.2≠0 then (zStore,x,3) else
 if (sweepW v x).2≠0 then (zStore,(sweepW v x).1,told (sweepW v x).2) else
 ((v,g.1,w64 (g.2.1+1),e,hin),(sweepW v x).1,0)
theorem openF_eq (v:LiveT) (d:DiskT):openF v d=if (cutW v d).2≠0 then (zStore,(cutW v d).1,told (cutW v d).2) else
  match hintG (cutW v d).1 (v.2.getD 0 0) with
  | some g=>openE v (cutW v d).1 (cutN v d:Int) (regroup g (placesOf (cutW v d).1 (v.2.drop 1))) (v.2.getD 0 0)
  | none=>openE v (cutW v d).1 (cutN v d:Int) (regroup ([],0,0) (placesOf (cutW v d).1 v.2)) 0:=by
 unfold openF
 by_cases c:(cutW v d).2≠0
 ·rw[if_pos c,if_pos c]
 ·rw[if_neg c,if_neg c]
  simp only
  cases hintG (cutW v d).1 (v.2.getD 0 0)<;>rfl
theorem dstep_free {d:DiskT} {c:Int} (h:diskOk d=true) (hf:d.2=(c,-1,false)) (act:List FileT→Int×List FileT):dstep d act=(((act d.1).2,c,-1,false),(act d.1).1):=by
 obtain ⟨l,t⟩:=d
 simp only at hf
 subst hf
 unfold dstep tick
 rw[if_neg (by rw[h];simp),if_neg (by simp)]
 simp
theorem readLive_is {s:List UInt8} {v:LiveT} (h:isLive s v) (hl:s.length<1000000000):readLive s=(v,true):=by
 have h1:=spec_ReadLive_back h
 rw[spec_ReadLive_eq s hl] at h1
 exact Option.some.inj h1
theorem readHint_is {s:List UInt8} {v:HintT} (h:isHint s v) (hl:s.length<900000000):readHint s=(v,true):=by
 have h1:=spec_ReadHint_back h
 rw[spec_ReadHint_eq s hl] at h1
 exact Option.some.inj h1
theorem hintName_live (i:Int):hintName i≠liveN:=by
 unfold hintName nameN
 split
 ·intro e
  have:=congrArg (fun l=>l.getD 0 0) e
  simp[liveN] at this
 ·simp[liveN]
theorem hintName_temp (i:Int):hintName i≠tempN:=by
 unfold hintName nameN
 split
 ·intro e
  have:=congrArg (fun l=>l.getD 0 0) e
  simp[tempN] at this
 ·simp[tempN]
def Free (d:DiskT):Prop:=d.2.2=(-1,false)
theorem free_step {d:DiskT} {act:List FileT→Int×List FileT} (h:Free d):Free (dstep d act).1:=by
 unfold dstep
 split
 ·exact h
 ·split
  ·rename_i c
   rw[show d.2.2=(-1,false) from h] at c
   simp at c
  ·show (tick d).2.2=_
   unfold tick
   rw[if_neg]
   ·exact h
   ·rw[show d.2.2=(-1,false) from h];simp
theorem dstep_up {d:DiskT} {act:List FileT→Int×List FileT} (h:(dstep d act).2=0):d.2.2.2=false:=by
 unfold dstep at h
 split at h
 ·simp at h
 split at h
 ·simp at h
 rename_i c
 cases hd:d.2.2.2 with
 | false=>rfl
 | true=>exact absurd (.inl hd) c
theorem down_step {d:DiskT} {act:List FileT→Int×List FileT} (h:d.2.2.2=true):(dstep d act).1.2.2.2=true:=by
 unfold dstep
 split
 ·exact h
 ·rw[if_pos (.inl h)]
theorem cl_gone {P:DiskT→Prop} (hP:∀(d:DiskT) (act:List FileT→Int×List FileT),P d→P (dstep d act).1) (n:List UInt8) {d:DiskT} (h:P d):P (dGone n d).1:=by
 unfold dGone
 split
 ·exact hP d _ h
 ·exact h
theorem cl_sstep {P:DiskT→Prop} (hP:∀(d:DiskT) (act:List FileT→Int×List FileT),P d→P (dstep d act).1) {op:DiskT→DiskT×Int} (ho:∀d,P d→P (op d).1) {w:WorkT} (h:P w.1):P (sstep op w).1:=by
 unfold sstep
 split
 ·exact ho _ h
 ·exact h
theorem cl_sNew {P:DiskT→Prop} (hP:∀(d:DiskT) (act:List FileT→Int×List FileT),P d→P (dstep d act).1) (n:List UInt8) {w:WorkT} (h:P w.1):P (sNew n w).1:=
 cl_sstep hP (fun d k=>hP d _ k) (cl_sstep hP (fun d k=>cl_gone hP n k) h)
theorem cl_sFile {P:DiskT→Prop} (hP:∀(d:DiskT) (act:List FileT→Int×List FileT),P d→P (dstep d act).1) (n t:List UInt8) {w:WorkT} (h:P w.1):P (sFile n t w).1:=
 cl_sstep hP (fun d k=>hP d _ k) (cl_sstep hP (fun d k=>hP d _ k) (cl_sstep hP (fun d k=>hP d _ k) (cl_sstep hP (fun d k=>cl_gone hP n k) h)))
theorem cl_sPut {P:DiskT→Prop} (hP:∀(d:DiskT) (act:List FileT→Int×List FileT),P d→P (dstep d act).1) (v:LiveT) {w:WorkT} (h:P w.1):P (sPut v w).1:=
 cl_sstep hP (fun d k=>hP d _ k) (cl_sFile hP _ _ h)
theorem cl_sApp {P:DiskT→Prop} (hP:∀(d:DiskT) (act:List FileT→Int×List FileT),P d→P (dstep d act).1) (n:List UInt8):∀(recs:List RecT) {w:WorkT},P w.1→P (sApp n recs w).1
 | [],w,h=>h
 | r::recs,w,h=>cl_sApp hP n recs (w:=sstep (dAppend n (frame (showRec r))) w) (cl_sstep hP (fun d k=>hP d _ k) h)
theorem cl_sWM {P:DiskT→Prop} (hP:∀(d:DiskT) (act:List FileT→Int×List FileT),P d→P (dstep d act).1) (m:Int) (recs:List RecT) {w:WorkT} (h:P w.1):P (sWM m recs w).1:=
 cl_sstep hP (fun d k=>hP d _ k) (cl_sApp hP _ recs (cl_sNew hP _ h))
theorem cl_sDrop {P:DiskT→Prop} (hP:∀(d:DiskT) (act:List FileT→Int×List FileT),P d→P (dstep d act).1):∀(names:List (List UInt8)) {w:WorkT},P w.1→P (sDrop names w).1
 | [],w,h=>h
 | n::names,w,h=>cl_sDrop hP names (w:=sstep (dGone n) w) (cl_sstep hP (fun d k=>cl_gone hP n k) h)
theorem cl_sOld {P:DiskT→Prop} (hP:∀(d:DiskT) (act:List FileT→Int×List FileT),P d→P (dstep d act).1):∀(ids:List Int) {w:WorkT},P w.1→P (sOld ids w).1
 | [],w,h=>h
 | i::ids,w,h=>cl_sOld hP ids (w:=sDrop [segName i,hintName i] w) (cl_sDrop hP _ h)
theorem cl_hintStep {P:DiskT→Prop} (hP:∀(d:DiskT) (act:List FileT→Int×List FileT),P d→P (dstep d act).1) (m:Int) {d:DiskT} (h:P d):P (hintStep m d).1:=by
 unfold hintStep
 simp only
 have:=cl_sFile hP (hintName m) (showHint (hintOf m (fileText d (segName m)).1).1) (w:=(d,0)) h
 split
 ·exact cl_gone hP _ this
 ·exact this
theorem sFileTxt {n t:List UInt8} {w:WorkT} (h:(sFile n t w).2=0):w.2=0∧fileText (sFile n t w).1 n=(t,true):=by
 unfold sFile at h ⊢
 obtain ⟨h1,h2,h3⟩:=sstep_inv (op:=dSync n) h
 obtain ⟨h4,h5,h6⟩:=sstep_inv (op:=dAppend n t) h1
 have h4:(sNew n w).2=0:=h4
 obtain ⟨h7,h8⟩:=sNewTxt h4
 obtain ⟨a1,a2⟩:=appendTxt h5
 have a2:fileText (dAppend n t (sNew n w).1).1 n=((fileText (sNew n w).1 n).1++t,true):=a2
 rw[h3,h6]
 obtain ⟨k,_,_⟩:=dstep_zero h2
 rw[h6] at k
 refine ⟨h7,?_⟩
 rw[ft_Sync k n n]
 show fileText (dAppend n t (sNew n w).1).1 n=_
 rw[a2,h8];rfl
theorem sPutTxt {v:LiveT} {w:WorkT} (h:(sPut v w).2=0):w.2=0∧fileText (sPut v w).1 liveN=(showLive v,true):=by
 unfold sPut at h ⊢
 obtain ⟨h1,h2,h3⟩:=sstep_inv h
 obtain ⟨h4,h5⟩:=sFileTxt h1
 refine ⟨h4,?_⟩
 rw[h3]
 show fileText (dRename [116,101,109,112] [108,105,118,101] (sFile [116,101,109,112] (showLive v) w).1).1 liveN=_
 rw[renameTxt h2,h5]
theorem mergeP_way {s:StoreT} {d:DiskT} (l:List PairT) (h:diskOk d=true) (hc:(mergeP s d l).2.2=0):∃w1 w2:WorkT,
  w1=sNew (segName (s.1.1+1)) (sWM s.1.1 (keepsOf l (s.2.2.1 - 1)) (d,0))∧w1.2=0∧diskOk w1.1=true∧w2=hintStep s.1.1 w1.1∧w2.2=0∧diskOk w2.1=true ∧
  (sPut (s.1.1+2,[s.1.1,s.1.1+1]) w2).2=0∧(mergeP s d l).2.1=(sOld s.1.2 ((sPut (s.1.1+2,[s.1.1,s.1.1+1]) w2).1,0)).1:=by
 have g1:=dk_sWM s.1.1 (keepsOf l (s.2.2.1 - 1)) (w:=(d,0)) h
 have g2:=dk_sNew g1 (segName (s.1.1+1))
 unfold mergeP at hc ⊢
 simp only at hc ⊢
 generalize hw1:sNew (segName (s.1.1+1)) (sWM s.1.1 (keepsOf l (s.2.2.1 - 1)) (d,0))=w1 at *
 have g3:diskOk (sHint s.1.1 w1).1=true:=by
  unfold sHint;split
  ·exact g2
  ·exact dk_hintStep _ g2
 by_cases z:(if (sHint s.1.1 w1).2=0 then toldW (sPut (s.1.1+2,[s.1.1,s.1.1+1]) (sHint s.1.1 w1)) else toldW (sHint s.1.1 w1)).2=0
 rotate_left
 ·rw[if_pos z] at hc
  exfalso
  revert hc
  generalize (if (sHint s.1.1 w1).2=0 then toldW (sPut (s.1.1+2,[s.1.1,s.1.1+1]) (sHint s.1.1 w1)) else toldW (sHint s.1.1 w1))=w3 at *
  unfold cleanW
  split
  ·split
   ·simp
   ·rename_i c4;exact c4
  ·exact z
 have z2:(sHint s.1.1 w1).2=0:=by
  by_cases c:(sHint s.1.1 w1).2=0
  ·exact c
  ·rw[if_neg c] at z;exact (told_zero _).1 z
 rw[if_pos z2] at z hc
 rw[if_pos z2]
 have z3:(sPut (s.1.1+2,[s.1.1,s.1.1+1]) (sHint s.1.1 w1)).2=0:=(told_zero _).1 z
 have z1:w1.2=0:=by
  unfold sHint at z2
  split at z2
  ·exact z2
  ·rename_i c;simpa using c
 have zh:sHint s.1.1 w1=hintStep s.1.1 w1.1:=by
  unfold sHint;rw[if_neg (by simpa using z1)]
 rw[if_neg (by simpa using z)]
 rw[zh] at z2 z3 g3 ⊢
 exact ⟨w1,hintStep s.1.1 w1.1,rfl,z1,g2,rfl,z2,g3,z3,rfl⟩
structure MergedF (s:StoreT) (d:DiskT) (l:List PairT) (S:StoreT) (y:DiskT):Prop extends Merged s d l S y where
 liv:fileText y liveN=(showLive (s.1.1+2,[s.1.1,s.1.1+1]),true)
 hin:(fileText y (hintName s.1.1)).2=false∨fileText y (hintName s.1.1)=(showHint (hintOf s.1.1 (txt (keepsOf l (s.2.2.1 - 1)))).1,true)
 fre:0 > d.2.2.1→Free y
theorem mergeP_full {s:StoreT} {d:DiskT} (l:List PairT) (h:diskOk d=true) (hv:liveOk s.1=true) (h2:s.1.1+2≤100000) (hc:(mergeP s d l).2.2=0):MergedF s d l (mergeP s d l).1 (mergeP s d l).2.1:=by
 have hM:=mergeP_new l h hv h2 hc
 refine ⟨hM,?_,?_,?_⟩
 all_goals
  obtain ⟨w1,w2,hw1,z1,g1,hw2,z2,g2,z3,hy⟩:=mergeP_way l h hc
  obtain ⟨k1,k2,k3,k4⟩:=(liveOk_iff s.1).1 hv
  rw[w64_id (by omega) (by omega)] at k1
  have hids:=idsOk_mem _ _ k1
  have g3:diskOk (sPut (s.1.1+2,[s.1.1,s.1.1+1]) w2).1=true:=dk_sPut (v:=(s.1.1+2,[s.1.1,s.1.1+1])) g2
 ·rw[hy,ft_sOld s.1.2 (w:=((sPut (s.1.1+2,[s.1.1,s.1.1+1]) w2).1,0)) g3 (fun id hid=>⟨(segName_live id).symm,(hintName_live id).symm⟩)]
  exact (sPutTxt z3).2
 ·have e1:∀n,n≠tempN→n≠liveN→(∀id∈s.1.2,n≠segName id∧n≠hintName id)→fileText (mergeP s d l).2.1 n=fileText w2.1 n:=fun n q1 q2 q3=>by
   rw[hy,ft_sOld s.1.2 (w:=((sPut (s.1.1+2,[s.1.1,s.1.1+1]) w2).1,0)) g3 q3]
   exact ft_sPut g2 _ q1 q2
  have e2:fileText (mergeP s d l).2.1 (hintName s.1.1)=fileText w2.1 (hintName s.1.1):=e1 _ (hintName_temp _) (hintName_live _) fun id hid=>by
   have:=hids id hid
   refine ⟨fun e=>segName_hint id s.1.1 (by omega) e.symm,fun e=>?_⟩
   have:=hintName_inj (by omega) (by omega) e
   omega
  have hf:=dk_sFile (w:=(w1.1,0)) g1 (hintName s.1.1) (showHint (hintOf s.1.1 (fileText w1.1 (segName s.1.1)).1).1)
  have e3:fileText (mergeP s d l).2.1 (segName s.1.1)=fileText w1.1 (segName s.1.1):=by
   rw[e1 _ (segName_temp _) (segName_live _) fun id hid=>by
    have:=hids id hid
    refine ⟨fun e=>?_,segName_hint _ _ (by omega)⟩
    have:=segName_inj (by omega) (by omega) e
    omega]
   rw[hw2]
   unfold hintStep
   simp only
   split
   ·rw[ft_Gone hf (segName_hint _ _ (by omega)),ft_sFile (w:=(w1.1,0)) g1 (segName_hint _ _ (by omega))]
   ·rw[ft_sFile (w:=(w1.1,0)) g1 (segName_hint _ _ (by omega))]
  rw[hM.one] at e3
  rw[e2]
  rw[←e3] at hf
  rw[hw2] at z2 ⊢
  unfold hintStep at z2 ⊢
  rw[←e3] at z2 ⊢
  simp only at z2 hf ⊢
  split
  ·rename_i c
   rw[if_pos c] at z2
   exact .inl (goneTxt z2)
  ·rename_i c
   rw[if_neg c] at z2
   exact .inr (sFileTxt z2).2
 ·intro hfu
  have hup:d.2.2.2=false:=by
   cases hd:d.2.2.2 with
   | false=>rfl
   | true=>
    have q1:w1.1.2.2.2=true:=by rw[hw1];exact cl_sNew (P:=fun d=>d.2.2.2=true) (fun d act k=>down_step k) _ (cl_sWM (P:=fun d=>d.2.2.2=true) (fun d act k=>down_step k) _ _ hd)
    have q2:w2.1.2.2.2=true:=by rw[hw2];exact cl_hintStep (P:=fun d=>d.2.2.2=true) (fun d act k=>down_step k) _ q1
    have q3:=cl_sFile (P:=fun d=>d.2.2.2=true) (fun d act k=>down_step k) [116,101,109,112] (showLive (s.1.1+2,[s.1.1,s.1.1+1])) (w:=w2) q2
    unfold sPut at z3
    have:=dstep_up (sstep_inv z3).2.1
    rw[q3] at this
    simp at this
  have hfr:Free d:=by
   have:=(diskOk_fuel h).1
   show d.2.2=(-1,false)
   rw[show d.2.2=(d.2.2.1,d.2.2.2) from rfl,hup]
   have:d.2.2.1=-1:=by omega
   rw[this]
  have q1:Free w1.1:=by rw[hw1];exact cl_sNew (P:=Free) (fun d act k=>free_step k) _ (cl_sWM (P:=Free) (fun d act k=>free_step k) _ _ hfr)
  have q2:Free w2.1:=by rw[hw2];exact cl_hintStep (P:=Free) (fun d act k=>free_step k) _ q1
  rw[hy]
  exact cl_sOld (P:=Free) (fun d act k=>free_step k) s.1.2 (cl_sPut (P:=Free) (fun d act k=>free_step k) _ q2)
theorem insB_end {α:Type} {l:List (List UInt8×α)} {p:List UInt8×α} (h:∀x∈l,Op.bytesLess x.1 p.1=true):insB l p=l++[p]:=by
 have e:l.takeWhile (fun x=>leK x.1 p.1)=l:=by
  induction l with
  | nil=>rfl
  | cons x l ih=>
   have h1:=h x (by simp)
   rw[List.takeWhile_cons_of_pos (by unfold leK;simp[h1]),ih fun y hy=>h y (by simp[hy])]
 unfold insB
 rw[e]
 show l.take l.length++[p]++l.drop l.length=_
 rw[List.take_length,List.drop_length,List.append_nil]
theorem dropK_end {α:Type} {l:List (List UInt8×α)} {k:List UInt8} (h:∀x∈l,Op.bytesLess x.1 k=true):dropK l k=l:=by
 unfold dropK
 refine List.filter_eq_self.2 fun x hx=>?_
 have:=less_ne (h x hx)
 simpa using this
theorem applyD_rise (id:Int):∀(l:List SpotT) (dir:List EntryT),(∀x∈l,x.2.2.1=4)→srt (dir++l.map (entS id))→applyD dir (l.map fun x=>((id,x):PlaceT))=dir++l.map (entS id)
 | [],dir,_,_=>by simp[applyD]
 | x::l,dir,h4,hs=>by
  have hx:=h4 x (by simp)
  have hlt:∀y∈dir,Op.bytesLess y.1 (entS id x).1=true:=fun y hy=>by
   have:=(List.pairwise_append.1 hs).2.2 y hy (entS id x) (by simp)
   exact this
  have hp:putD dir ((id,x):PlaceT)=dir++[entS id x]:=by
   unfold putD
   rw[if_neg (by rw[hx];decide)]
   show insB (dropK dir (entS id x).1) (entS id x)=_
   rw[dropK_end hlt,insB_end hlt]
  show applyD (putD dir (id,x)) (l.map fun x=>((id,x):PlaceT))=_
  rw[hp,applyD_rise id l _ (fun y hy=>h4 y (by simp[hy])) (by simpa using hs)]
  simp
theorem ownL_kept (id b:Int):∀(l:List SpotT) (acc:List PlaceT),(∀x∈l,x.2.2.1=4)→(l.map fun x=>((id,x):PlaceT)).foldl (ownStep 5 b) acc=acc++l.map fun x=>((id,x):PlaceT)
 | [],acc,_=>by simp
 | x::l,acc,h=>by
  have hx:=h x (by simp)
  have e:ownStep 5 b acc ((id,x):PlaceT)=acc++[((id,x):PlaceT)]:=by
   unfold ownStep
   rw[if_neg (by simp),if_neg (by rw[hx];decide),if_pos (.inr ⟨rfl,hx⟩)]
  rw[List.map_cons,List.foldl_cons,e,ownL_kept id b l _ fun y hy=>h y (by simp[hy])]
  simp
theorem own3_none (id b:Int):∀(l:List SpotT) (acc:List PlaceT),(∀x∈l,x.2.2.1=4∨x.2.2.1=5)→(l.map fun x=>((id,x):PlaceT)).foldl (ownStep 3 b) acc=acc
 | [],acc,_=>by simp
 | x::l,acc,h=>by
  have hx:=h x (by simp)
  have e:ownStep 3 b acc ((id,x):PlaceT)=acc:=by
   unfold ownStep
   split
   ·rfl
   ·rw[if_neg (by rcases hx with e | e<;>rw[e]<;>decide),if_neg (by rcases hx with e | e<;>rw[e]<;>simp)]
  rw[List.map_cons,List.foldl_cons,e,own3_none id b l _ fun y hy=>h y (by simp[hy])]
theorem regGo_app:∀(A B pre:List PlaceT) (g:GroupT),(regGo pre A g).2.2=0→regGo pre (A++B) g=regGo (pre++A) B (regGo pre A g)
 | [],B,pre,g,h=>by simp[regGo]
 | p::A,B,pre,g,h=>by
  rw[regGo] at h
  rw[List.cons_append,regGo,regGo]
  by_cases c:g.2.2≠0
  ·rw[if_pos c] at h;exact absurd h c
  rw[if_neg c] at h ⊢
  rw[if_neg c,regGo_app A B _ _ h]
  simp
theorem regGo_pre {A:List PlaceT} (hA:∀k b,k=3∨k=5→ownL k b A=[]):∀(B pre:List PlaceT) (g:GroupT),regGo (A++pre) B g=regGo pre B g
 | [],pre,g=>rfl
 | p::B,pre,g=>by
  rw[regGo,regGo]
  by_cases c:g.2.2≠0
  ·rw[if_pos c,if_pos c]
  rw[if_neg c,if_neg c,List.append_assoc,regGo_pre hA B]
  congr 1
  have e:∀k b,k=3∨k=5→ownL k b (A++pre)=ownL k b pre:=fun k b hk=>by
   have:=hA k b hk
   unfold ownL at *
   rw[List.foldl_append,this]
  unfold regStep
  simp only
  by_cases c2:p.2.2.2.1=3∨p.2.2.2.1=5
  ·rw[if_pos c2,if_pos c2,e _ _ c2]
  ·rw[if_neg c2,if_neg c2]
theorem regGo_kept (id mark:Int):∀(l:List SpotT) (pre:List PlaceT) (z:Int),(∀x∈l,x.2.2.1=4∧x.2.2.2.1≤mark)→z≤mark→∃z',z'≤mark∧regGo pre (l.map fun x=>((id,x):PlaceT)) ([],z,0)=([],z',0)
 | [],pre,z,_,hz=>⟨z,hz,rfl⟩
 | x::l,pre,z,h,hz=>by
  obtain ⟨h4,hb⟩:=h x (by simp)
  rw[List.map_cons,regGo,if_neg (by simp)]
  have e:regStep pre ((id,x):PlaceT) ([],z,0)=([],if x.2.2.2.1 > z then x.2.2.2.1 else z,0):=by
   unfold regStep
   simp only
   rw[if_neg (by rw[h4];decide)]
  rw[e]
  refine regGo_kept id mark l _ _ (fun y hy=>h y (by simp[hy])) ?_
  split<;>omega
theorem riseS_kinds {mark:Int}:∀(l:List SpotT) (p:Option (List UInt8)),riseS mark p l=true→∀x∈l,x.2.2.1=4∧x.2.2.2.1≤mark
 | [],_,_,x,hx=>by simp at hx
 | y::l,p,h,x,hx=>by
  simp only[riseS,Bool.and_eq_true,beq_iff_eq,Bool.not_eq_true',decide_eq_false_iff_not] at h
  rcases List.mem_cons.1 hx with rfl | hx
  ·exact ⟨h.1,by omega⟩
  ·exact riseS_kinds l _ h.2.2.2 x hx
theorem hintOf_parts {id:Int} {t:List UInt8} {h:HintT} (k:hintOf id t=(h,true)):∃(l:List SpotT) (z:SpotT),(scan t).1=l++[z]∧z.2.2.1=5∧fitsR z.2.2 (l.map (·.2.2))=true∧(∀x∈l,x.2.2.1=4∧x.2.2.2.1≤z.2.2.2.1)∧h=((t.length:Int),z.2.2.2.1,l.map (entS id))∧(scan t).2=t.length∧(1≤id∧id≤100000):=by
 unfold hintOf at k
 simp only at k
 split at k
 ·simp at k
 rename_i c
 simp only[not_or,Bool.not_eq_false,ne_eq,Decidable.not_not] at c
 obtain ⟨c1,c2,c3,c4,c5,c6⟩:=c
 generalize (scan t).1=L at *
 have hl:L.length - 1<L.length:=by omega
 have hL:L=L.take (L.length - 1)++[L.getD (L.length - 1) zSpot]:=by
  rw[getD_lt hl]
  have:=List.take_succ_eq_append_getElem hl
  rw[show L.length - 1+1=L.length by omega,List.take_length] at this
  exact this
 simp only[Prod.mk.injEq,and_true] at k
 exact ⟨L.take (L.length - 1),L.getD (L.length - 1) zSpot,hL,c4,c5,riseS_kinds _ _ c6,k.symm,c2,c3⟩
theorem hint_group {id:Int} {t:List UInt8} {h:HintT} (k:hintOf id t=(h,true)) (hd:dirOk h.2.2=true) (h0:0≤h.2.1) (B:List PlaceT):regroup ([],0,0) (((scan t).1.map fun x=>((id,x):PlaceT))++B)=regroup (h.2.2,h.2.1,0) B:=by
 obtain ⟨l,z,e,z5,hf,hk,hh,_,_⟩:=hintOf_parts k
 have hsrt:srt ([]++l.map (entS id)):=by have:=dirOk_srt hd;rw[hh] at this;simpa using this
 have hlen:(l.map (entS id)).length≤20:=by
  unfold dirOk at hd
  rw[hh] at hd
  simp only[Bool.and_eq_true,decide_eq_true_eq] at hd
  exact hd.2
 rw[hh] at h0
 have h0:0≤z.2.2.2.1:=h0
 rw[e,hh]
 -- over the segment itself
 obtain ⟨z',hz',eg⟩:=regGo_kept id z.2.2.2.1 l [] 0 hk h0
 have e1:regGo [] ((l++[z]).map fun x=>((id,x):PlaceT)) ([],0,0)=(l.map (entS id),z.2.2.2.1,0):=by
  rw[List.map_append,regGo_app _ _ _ _ (by rw[eg]),eg,List.nil_append,List.map_singleton,regGo,if_neg (by simp)]
  have eo:ownL z.2.2.1 z.2.2.2.1 (l.map fun x=>((id,x):PlaceT))=l.map fun x=>((id,x):PlaceT):=by
   rw[z5];unfold ownL;rw[ownL_kept id _ l [] fun x hx=>(hk x hx).1];rfl
  have ea:applyD [] (l.map fun x=>((id,x):PlaceT))=l.map (entS id):=by
   rw[applyD_rise id l [] (fun x hx=>(hk x hx).1) hsrt];rfl
  have er:(l.map fun x=>((id,x):PlaceT)).map (·.2.2.2)=l.map (·.2.2):=by rw[List.map_map];rfl
  have es:regStep (l.map fun x=>((id,x):PlaceT)) ((id,z):PlaceT) ([],z',0)=(l.map (entS id),z.2.2.2.1,0):=by
   unfold regStep
   simp only
   have el:(if z.2.2.2.1 > z' then z.2.2.2.1 else z')=z.2.2.2.1:=by split<;>omega
   rw[if_pos (.inr z5),eo,er,if_pos hf,ea,el]
   unfold codeD
   rw[if_neg (Nat.not_lt.2 hlen)]
  rw[es];rfl
 have hA:∀k b,k=3∨k=5→ownL k b ((l++[z]).map fun x=>((id,x):PlaceT))=[]:=fun k b hk2=>by
  rcases hk2 with rfl | rfl
  ·unfold ownL
   exact own3_none id b (l++[z]) [] fun x hx=>by
    rcases List.mem_append.1 hx with hx | hx
    ·exact .inl (hk x hx).1
    ·rw[List.mem_singleton.1 hx];exact .inr z5
  ·unfold ownL
   rw[List.map_append,List.foldl_append,List.map_singleton,List.foldl_cons,List.foldl_nil]
   unfold ownStep
   rw[if_neg (by simp),if_pos z5]
 unfold regroup
 rw[regGo_app _ _ _ _ (by rw[e1]),e1]
 have:=regGo_pre hA B [] (l.map (entS id),z.2.2.2.1,0)
 rw[List.append_nil] at this
 rw[List.nil_append,this]
 unfold regEnd
 have eo:ownL 5 0 (((l++[z]).map fun x=>((id,x):PlaceT))++B)=ownL 5 0 B:=by
  have:=hA 5 0 (.inr rfl)
  unfold ownL at *
  rw[List.foldl_append,this]
 rw[eo]
theorem step_free {d:DiskT} {act:List FileT→Int×List FileT} (h:diskOk d=true) (hf:Free d):dstep d act=(((act d.1).2,d.2),(act d.1).1):=by
 have:=dstep_free (d:=d) (c:=d.2.1) h (by rw[show d.2=(d.2.1,d.2.2) from rfl,show d.2.2=(-1,false) from hf]) act
 rw[this]
 congr 2
 rw[show d.2=(d.2.1,d.2.2) from rfl,show d.2.2=(-1,false) from hf]
theorem sync_free {d:DiskT} (h:diskOk d=true) (hf:Free d) {n:List UInt8} (hn:(fileText d n).2=true):(dSync n d).2=0:=by
 obtain ⟨i,hi,e,_⟩:=has_ix hn
 show (dstep d (actSync n)).2=0
 rw[step_free h hf]
 unfold actSync
 rw[e]
theorem gone_free {d:DiskT} (h:diskOk d=true) (hf:Free d) (n:List UInt8):(dGone n d).2=0:=by
 unfold dGone
 split
 ·rename_i c
  show (dstep d (actRemove n)).2=0
  rw[step_free h hf]
  unfold actRemove
  rcases fileIx_cases d.1 n with ⟨e,_⟩ | ⟨i,hi,e,_⟩
  ·rw[e] at c;simp at c
  ·rw[ix_some e]
 ·rfl
theorem sDrop_free:∀(names:List (List UInt8)) {w:WorkT},diskOk w.1=true→Free w.1→w.2=0→(sDrop names w).2=0
 | [],w,_,_,h=>h
 | n::names,w,hk,hf,h=>by
  have e:sstep (dGone n) w=dGone n w.1:=by unfold sstep;rw[if_pos h]
  show (sDrop names (sstep (dGone n) w)).2=0
  rw[e]
  exact sDrop_free names (dk_Gone hk n) (cl_gone (P:=Free) (fun d act k=>free_step k) n hf) (gone_free hk hf n)
theorem riseS_of {id mark:Int}:∀(l:List SpotT) (p:Option (List UInt8)),(∀x∈l,x.2.2.1=4∧x.2.2.2.1≤mark)→srt (l.map (entS id))→(∀q,p=some q→∀x∈l,Op.bytesLess q x.2.2.2.2.1=true)→riseS mark p l=true
 | [],_,_,_,_=>rfl
 | x::l,p,h,hs,hp=>by
  obtain ⟨h4,hb⟩:=h x (by simp)
  obtain ⟨s1,s2⟩:=List.pairwise_cons.1 hs
  simp only[riseS,Bool.and_eq_true,beq_iff_eq,Bool.not_eq_true',decide_eq_false_iff_not]
  refine ⟨h4,by omega,?_,riseS_of l _ (fun y hy=>h y (by simp[hy])) s2 fun q hq y hy=>?_⟩
  ·cases p with
   | none=>rfl
   | some q=>exact hp q rfl x (by simp)
  ·simp only[Option.some.injEq] at hq
   subst hq
   exact s1 (entS id y) (List.mem_map.2 ⟨y,hy,rfl⟩)
theorem hintOf_mk {id:Int} {t:List UInt8} {l:List SpotT} {z:SpotT} (hs:scan t=(l++[z],t.length)) (hi:1≤id∧id≤100000) (z5:z.2.2.1=5) (hf:fitsR z.2.2 (l.map (·.2.2))=true) (hr:riseS z.2.2.2.1 none l=true) :
  hintOf id t=(((t.length:Int),z.2.2.2.1,l.map (entS id)),true):=by
 unfold hintOf
 have e1:(l++[z]).length - 1=l.length:=by simp
 have e2:(l++[z]).getD l.length zSpot=z:=by simp
 have e3:(l++[z]).take l.length=l:=by simp
 simp only[hs,e1,e2,e3]
 rw[if_neg]
 simp only[not_or,Bool.not_eq_false,ne_eq,Decidable.not_not]
 exact ⟨by simp,trivial,hi,z5,hf,hr⟩
theorem entsG_spots (m:Int):∀(recs:List RecT) (a:Nat),(∀r∈recs,r.1=4)→entsG m (a:Int) recs=(spots a recs).map (entS m)
 | [],_,_=>rfl
 | r::recs,a,h=>by
  have h4:=h r (by simp)
  have ih:=entsG_spots m recs (a+(fr r).length) fun x hx=>h x (by simp[hx])
  rw[entsG,if_pos h4,spots,List.map_cons,←ih]
  have:((a+(fr r).length:Nat):Int)=(a:Int)+((frame (showRec r)).length:Int):=by simp only[fr];omega
  rw[this]
  rfl
theorem spots_kind {p:RecT→Prop}:∀(recs:List RecT) (a:Nat),(∀r∈recs,p r)→∀x∈spots a recs,p x.2.2
 | [],_,_,x,hx=>by simp[spots] at hx
 | r::recs,a,h,x,hx=>by
  rw[spots] at hx
  rcases List.mem_cons.1 hx with rfl | hx
  ·exact h r (by simp)
  ·exact spots_kind recs _ (fun y hy=>h y (by simp[hy])) x hx
theorem spots_pos:∀(recs:List RecT) (a:Nat),∀x∈spots a recs,x.1≤((a+(txt recs).length:Nat):Int)
 | [],_,x,hx=>by simp[spots] at hx
 | r::recs,a,x,hx=>by
  rw[spots] at hx
  rw[txt_cons,List.length_append]
  rcases List.mem_cons.1 hx with rfl | hx
  ·show (a:Int)≤_
   omega
  ·have:=spots_pos recs _ x hx
   omega
theorem hint_merged {s S:StoreT} {d y:DiskT} (h:storeOk s d=true) (h2:s.1.1+2≤100000) (hM:Merged s d (dumpP s d).1 S y) :
  hintOf s.1.1 (txt (keepsOf (dumpP s d).1 (s.2.2.1 - 1)))=((((txt (keepsOf (dumpP s d).1 (s.2.2.1 - 1))).length:Int),s.2.2.1 - 1,S.2.1),true)∧hintOk (((txt (keepsOf (dumpP s d).1 (s.2.2.1 - 1))).length:Int),s.2.2.1 - 1,S.2.1)=true:=by
 obtain ⟨m1,m2,m3,m4⟩:=merge_right h h2 hM
 obtain ⟨q1,q2,q3,q4,q5,q6⟩:=storeOk_iff.1 h
 obtain ⟨k1,k2,k3,k4⟩:=(liveOk_iff s.1).1 q2
 have hkeep:=keep_ok h
 have hbat:=dump_bat h
 have hl20:(dumpP s d).1.length≤20:=by have:=dumpP_len s d;have:=(dirOk_mem q3).1;omega
 have hdir:=(storeOk_iff.1 m1).2.2.1
 have hone:=hM.one
 have htl:=txt_le hM.dk (segName s.1.1)
 rw[hone] at htl
 have hst:=hM.st
 generalize (dumpP s d).1=l at *
 have hents:S.2.1=(spots 0 (l.map keepOf)).map (entS s.1.1):=by
  rw[hst]
  show entsG s.1.1 0 (keepsOf l (s.2.2.1 - 1))=_
  have e:entsG s.1.1 0 (keepsOf l (s.2.2.1 - 1))=entsG s.1.1 0 (l.map keepOf):=entsG_snoc s.1.1 _ (show (5:Int)≠4 by decide) _ _
  rw[e]
  exact entsG_spots s.1.1 (l.map keepOf) 0 fun r hr=>(hkeep r hr).2
 have hmk:recOk (5,s.2.2.1 - 1,[],[],(l.length:Int),sumOf (l.map keepOf))=true:=mark_ok (by omega) (by omega) (crcT_range _)
 have hall:∀r∈keepsOf l (s.2.2.1 - 1),recOk r=true:=fun r hr=>by
  unfold keepsOf at hr
  rcases List.mem_append.1 hr with hr | hr
  ·exact (hkeep r hr).1
  ·rw[List.mem_singleton.1 hr];exact hmk
 have hsc:=scan_spots hall
 have hk:∀x∈spots 0 (l.map keepOf),x.2.2.1=4∧x.2.2.2.1≤s.2.2.1 - 1:=spots_kind (p:=fun r=>r.1=4∧r.2.1≤s.2.2.1 - 1) (l.map keepOf) 0 fun r hr=>by
  refine ⟨(hkeep r hr).2,?_⟩
  obtain ⟨p,hp,rfl⟩:=List.mem_map.1 hr
  have:=hbat p hp
  show p.2.2≤_
  omega
 have hsrt:srt ((spots 0 (l.map keepOf)).map (entS s.1.1)):=by rw[←hents];exact dirOk_srt hdir
 refine ⟨?_,?_⟩
 ·rw[hents]
  refine hintOf_mk (id:=s.1.1) (l:=spots 0 (l.map keepOf)) (z:=(((0+(txt (l.map keepOf)).length:Nat):Int),((fr (5,s.2.2.1 - 1,[],[],(l.length:Int),sumOf (l.map keepOf))).length:Int),(5,s.2.2.1 - 1,[],[],(l.length:Int),sumOf (l.map keepOf)))) ?_ ⟨by omega,by omega⟩ rfl ?_ ?_
  ·rw[hsc]
   unfold keepsOf
   rw[spots_app]
   rfl
  ·rw[spots_recs]
   unfold fitsR
   simp
  ·exact riseS_of (id:=s.1.1) _ none hk hsrt fun q hq=>by simp at hq
 ·unfold hintOk
  simp only[Bool.and_eq_true,decide_eq_true_eq]
  have hlen:((txt (keepsOf l (s.2.2.1 - 1))).length:Int)≤100000:=by simp only at htl;omega
  refine ⟨List.all_eq_true.2 fun e he=>?_,⟨Int.natCast_nonneg _,hlen⟩,⟨by show 0≤s.2.2.1 - 1;omega,by show s.2.2.1 - 1≤1000000;omega⟩,hdir⟩
  have he:e∈S.2.1:=he
  have hseg:∀e∈S.2.1,e.2.1=s.1.1∧e.2.2.1≤100000:=fun e he=>by
   rw[hents] at he
   obtain ⟨x,hx,rfl⟩:=List.mem_map.1 he
   refine ⟨rfl,?_⟩
   have:=spots_pos (l.map keepOf) 0 x hx
   have hle:(txt (l.map keepOf)).length≤(txt (keepsOf l (s.2.2.1 - 1))).length:=by
    unfold keepsOf;rw[txt_app,List.length_append];omega
   show x.1≤100000
   omega
  have hpos:=List.length_pos_of_mem he
  have hg:(S.2.1.getD 0 ([],0,0,0,0)).2.1=s.1.1:=by
   rw[getD_lt hpos];exact (hseg _ (List.getElem_mem hpos)).1
  unfold sameSeg
  simp only
  rw[hg,(hseg e he).1]
  have:=(hseg e he).2
  simp;omega
theorem regroup_nil (g:GroupT):regroup g []=g:=by
 unfold regroup regEnd
 rw[if_neg (by simp[ownL])]
 rfl
theorem Free.up {d:DiskT} (h:Free d):d.2.2.2=false:=by rw[show d.2.2=(-1,false) from h]
theorem openP_merged {s S:StoreT} {d y:DiskT} (h:storeOk s d=true) (h2:s.1.1+2≤100000) (hM:MergedF s d (dumpP s d).1 S y) (hf:0 > d.2.2.1) :
  ∃x,openP y=(((s.1.1+2,[s.1.1,s.1.1+1]),S.2.1,w64 (s.2.2.1 - 1+1),0,if (fileText y (hintName s.1.1)).2=true then s.1.1 else 0),x,0):=by
 obtain ⟨k,ok⟩:=hint_merged h h2 hM.toMerged
 obtain ⟨q1,q2,q3,q4,q5,q6⟩:=storeOk_iff.1 h
 obtain ⟨k1,k2,k3,k4⟩:=(liveOk_iff s.1).1 q2
 have hy:=hM.dk
 have hF:=hM.fre hf
 have hone:=hM.one
 have htwo:=hM.two
 have hliv:=hM.liv
 have hlv:=live_two s.1.1 k2.1 h2
 have hl1:=showLive_len (s.1.1+2,[s.1.1,s.1.1+1])
 have hrl:readLive (showLive (s.1.1+2,[s.1.1,s.1.1+1]))=((s.1.1+2,[s.1.1,s.1.1+1]),true):=readLive_is ⟨hlv,rfl⟩ (by omega)
 have hlast:lastI [s.1.1,s.1.1+1]=s.1.1+1:=rfl
 have hwhole:=(hintOf_parts k).choose_spec.choose_spec.2.2.2.2.2.1
 have hsh:segsHave y [s.1.1,s.1.1+1]=true:=by
  simp only[segsHave,hone,htwo,scan_nil]
  rw[hwhole];simp
 have hcut:cutW (s.1.1+2,[s.1.1,s.1.1+1]) y=dSync (segName (s.1.1+1)) y:=by
  unfold cutW cutN
  simp only[hlast,htwo,scan_nil]
  rw[if_pos (show ([]:List UInt8).length=0 from rfl)]
  rfl
 have hcn:cutN (s.1.1+2,[s.1.1,s.1.1+1]) y=0:=by
  unfold cutN
  simp only[hlast,htwo,scan_nil]
 have hs0:(dSync (segName (s.1.1+1)) y).2=0:=sync_free hy hF (by rw[htwo])
 have hx:=dk_Sync hy (segName (s.1.1+1))
 have hxF:Free (dSync (segName (s.1.1+1)) y).1:=free_step hF
 have hft:∀n,fileText (dSync (segName (s.1.1+1)) y).1 n=fileText y n:=fun n=>ft_Sync hy _ n
 have hsw:∀v,(sweepW v (dSync (segName (s.1.1+1)) y).1).2=0:=fun v=>sDrop_free _ (w:=((dSync (segName (s.1.1+1)) y).1,0)) hx hxF rfl
 have hm0:([s.1.1,s.1.1+1]:List Int).getD 0 0=s.1.1:=rfl
 have hp2:placesOf (dSync (segName (s.1.1+1)) y).1 [s.1.1+1]=[]:=by
  unfold placesOf segPl
  simp[hft,htwo,scan_nil]
 have hp1:placesOf (dSync (segName (s.1.1+1)) y).1 [s.1.1,s.1.1+1]=((scan (txt (keepsOf (dumpP s d).1 (s.2.2.1 - 1)))).1.map fun x=>((s.1.1,x):PlaceT))++[]:=by
  unfold placesOf segPl
  simp[hft,hone,htwo,scan_nil]
 have hok2:=ok
 unfold hintOk at hok2
 simp only[Bool.and_eq_true,decide_eq_true_eq] at hok2
 have hgrp:=hint_group k hok2.2.2.2 hok2.2.2.1.1 []
 rw[regroup_nil] at hgrp
 have hE:∀hin,openE (s.1.1+2,[s.1.1,s.1.1+1]) (dSync (segName (s.1.1+1)) y).1 0 (S.2.1,s.2.2.1 - 1,0) hin=(((s.1.1+2,[s.1.1,s.1.1+1]),S.2.1,w64 (s.2.2.1 - 1+1),0,hin),(sweepW (s.1.1+2,[s.1.1,s.1.1+1]) (dSync (segName (s.1.1+1)) y).1).1,0):=fun hin=>by
  unfold openE
  rw[if_neg (by simp),if_neg (by rw[hsw];simp)]
 refine ⟨(sweepW (s.1.1+2,[s.1.1,s.1.1+1]) (dSync (segName (s.1.1+1)) y).1).1,?_⟩
 unfold openP
 rw[if_neg (by rw[hy];simp),if_neg (by rw[hF.up];simp),hliv,if_neg (by simp),hrl,if_neg (by simp),if_neg (by rw[hsh];simp),openF_eq,hcut,if_neg (by rw[hs0];simp),hcn,hm0]
 have hT:((hintOf s.1.1 (txt (keepsOf (dumpP s d).1 (s.2.2.1 - 1)))).1)=(((txt (keepsOf (dumpP s d).1 (s.2.2.1 - 1))).length:Int),s.2.2.1 - 1,S.2.1):=by rw[k]
 rcases hM.hin with hi | hi
 ·have hg:hintG (dSync (segName (s.1.1+1)) y).1 s.1.1=none:=by
   unfold hintG
   rw[if_neg]
   rw[hft,hi];simp
  rw[hg,hi,if_neg (by simp)]
  simp only
  rw[hp1,hgrp]
  exact hE 0
 ·have hrh:readHint (showHint (((txt (keepsOf (dumpP s d).1 (s.2.2.1 - 1))).length:Int),s.2.2.1 - 1,S.2.1))=((((txt (keepsOf (dumpP s d).1 (s.2.2.1 - 1))).length:Int),s.2.2.1 - 1,S.2.1),true):=
   readHint_is ⟨ok,rfl⟩ (by have:=showHint_len (((txt (keepsOf (dumpP s d).1 (s.2.2.1 - 1))).length:Int),s.2.2.1 - 1,S.2.1);omega)
  rw[hT] at hi
  have hg:hintG (dSync (segName (s.1.1+1)) y).1 s.1.1=some (S.2.1,s.2.2.1 - 1,0):=by
   unfold hintG
   rw[hft,hi,hft,hone]
   simp only[hrh]
   rw[if_pos ⟨trivial,trivial,by unfold hintFits;rw[k];simp⟩]
  rw[hg,hi,if_pos rfl]
  simp only[List.drop_succ_cons,List.drop_zero]
  rw[hp2,regroup_nil]
  exact hE s.1.1
theorem FnHinted_true (x0:List Int) (w0:wfD (.sl false (.int .u8)) x0):ψ1d.f x0=some true:=by
 unfold ψ1d.f
 rw[big_eq,Option.bind_some]
 by_cases cb:(x0.length:Int) > 1048576
 ·simp[cb]
 simp only[cb,decide_false,cond_false]
 obtain ⟨c0,e0,h0⟩:=l1New_ok x0 (by omega)
 obtain ⟨s,d,c1,e1,⟨hs,hlt⟩,h1⟩:=l12Any_ok3 h0
 have ed:ψ1q.f x0=some (s,d):=by
  unfold ψ1q.f
  simp only[e0,e1,Option.bind_some]
 have hS:SmallS s d:=⟨hs.sm,by have:=hs.ids;omega,by have:=hs.dir;omega⟩
 obtain ⟨eI,eS⟩:=Merge_F hS
 simp only[ed,Option.bind_some,eI]
 by_cases hc:(mergeF s d).2.2=0
 rotate_left
 ·have z:((mergeF s d).2.2 != 0)=true:=by simpa using hc
  simp only[z,cond_true]
 have z:((mergeF s d).2.2 != 0)=false:=by simpa using hc
 simp only[z,cond_false]
 by_cases hf:d.2.2.1≥0
 ·simp only[hf,decide_true,cond_true]
 simp only[hf,decide_false,cond_false]
 cases hk:storeOk s d with
 | false=>
  have e:mergeF s d=(s,d,4):=by unfold mergeF;rw[if_pos hk]
  rw[e] at hc;simp at hc
 | true=>
  obtain ⟨q1,q2,q3,q4,q5⟩:=storeOk_parts hk
  by_cases e1:s.1.1+2 > 100000
  ·have e:mergeF s d=(s,d,5):=by unfold mergeF;rw[if_neg (by rw[hk];simp),if_pos e1]
   rw[e] at hc;simp at hc
  have e:mergeF s d=mergeP s d (dumpP s d).1:=by unfold mergeF;rw[if_neg (by rw[hk];simp),if_neg e1]
  rw[e] at hc ⊢
  have hM:=mergeP_full (dumpP s d).1 q1 q2 (by omega) hc
  obtain ⟨m1,_,_,_⟩:=merge_right hk (by omega) hM.toMerged
  obtain ⟨x,ho⟩:=openP_merged hk (by omega) hM (by omega)
  have hst:=hM.st
  generalize mergeP s d (dumpP s d).1=M at *
  obtain ⟨S,y,c⟩:=M
  simp only at hc hM m1 ho hst ⊢
  have hdl:=dl_dk hM.dk
  have hlim:=dl_lim hdl (by omega)
  have hI:S.1.2=[s.1.1,s.1.1+1]:=by rw[hst]
  have hlen:S.1.2.length=2:=by rw[hI];rfl
  have z1:((S.1.2.length:Int) != 2)=false:=by rw[hlen];rfl
  have z2:inB 0 S.1.2.length=true:=by rw[hlen];rfl
  have z3:rdA 0 S.1.2 0=s.1.1:=by rw[hI];rfl
  have hD:=(ok_small m1).dir
  have hss:=sameStore_self S (by omega) (by omega)
  have hk1:1≤s.1.1:=by have:=(liveOk_iff s.1).1 q2;omega
  simp only[z1,cond_false,impl_Open_eq y (dl_mono hdl (by omega)),ho,Option.bind_some,z2,cond_true,z3,spec_HintName_eq,spec_FileText_eq y _ hlim,bne_self_eq_false]
  have hfin:(((S.1.1,[s.1.1,s.1.1+1]),S.2.1,S.2.2.1,0,S.2.2.2.2):StoreT)=S:=by rw[hst]
  cases hh:(fileText y (hintName s.1.1)).2 with
  | true=>
   simp only[if_true,beq_self_eq_true,Bool.not_true,cond_false,Option.bind_some,caseS,hfin,hss]
  | false=>
   have z4:((0:Int)==s.1.1)=false:=by simp;omega
   simp only[Bool.false_eq_true,if_false,z4,beq_self_eq_true,Bool.not_true,Bool.not_false,cond_true,cond_false,bne_self_eq_false,Option.bind_some,caseS,hfin,hss]
end Go.Rf.G
