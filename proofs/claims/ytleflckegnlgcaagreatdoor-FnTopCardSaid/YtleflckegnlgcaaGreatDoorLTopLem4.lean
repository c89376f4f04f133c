import Derived.Test.YtleflckegnlgcaaGreatDoorLTopLem3
open Option renaming bind_some→bS
open List renaming length_append→lA,append_assoc→aA,mem_cons_of_mem→mC,mem_append→mA,mem_append_right→mR,mem_append_left→mL,mem_cons→mc,drop_eq_getElem_cons→dG,length_take→lT,length_drop→lD,mem_map→mM,length_map→lM,length_cons→lC,length_nil→lN,getElem_mem→gM,map_append→mp,mem_singleton→mZ,mem_cons_self→κ0,take_succ_eq_append_getElem→κ1,map_cons→κ5,append_nil→κ7,nil_append→κ8,length_singleton→κA,drop_zero→κC,take_append_drop→κE,cons_append→κF,replicate→κH,flatMap_append→κJ,foldl_cons→κL,nodup_append→κM,take_length→κN,drop_left→κQ,all_eq_true→κR,nodup_cons→κS,range'→κT,foldl_append→κX,pairwise_cons→κY,mem_or_eq_of_mem_set→κc,pairwise_append→κd,mem_of_mem_take→κe
open Bool renaming and_eq_true→bA,eq_false_or_eq_true→bE,not_true→nZ,not_false→nF,true_and→tA,not_not→nn,false_eq_true→κ3,true_eq_false→κ9,false_and→κD,or_eq_false_iff→κI,not_eq_true'→κO,and_true→κP,false_or→κU,or_eq_true→κW
open Int renaming toNat_natCast→tN,ofNat_lt→oL,le_refl→κK
open Nat renaming lt_or_ge→κ2,zero_le→κ4,le_refl→κ6,eq_of_beq_eq_true→κB,lt_of_lt_of_le→κG,zero_add→κV,pow_succ→κZ,mod_eq_of_lt→κb,le_trans→κf
open Array renaming length_toList→κa
set_option linter.unusedVariables false
set_option linter.unusedSimpArgs false
namespace Go.Rf.G
open Go Go.Rf
set_option synthInstance.maxSize 4000
theorem φIg {s:List UInt8} {h:φ1H} (k:φ4O s h):ψk.f s=some (h,true):=by
 obtain ⟨es,h4⟩:=φKB k
 obtain ⟨n1,n2,n3,n4⟩:=φD6 k.1
 have hbl:=φ8i k.1
 have hsh:=k.2
 have hok:=k.1
 obtain ⟨z,m,l⟩:=h
 simp only at n1 n2 n3 n4
 have hcnt:φ1M (l.length:Int):=⟨by omega,by omega⟩
 have hbd:φ1w (z,m,l)=varT z++(varT m++(varT (l.length:Int)++(l.map entT).flatten)):=by unfold φ1w;simp only[aA]
 have hbl2:=hbl
 rw[hbd] at hbl2
 simp only[lA] at hbl2
 have b0:=φ6I (fix4 (crcT (φ1w (z,m,l)))) (φ1w (z,m,l))
 rw[←es,h4,hbd] at b0
 have b0:ψ1j.f (s,false) 4=_:=b0
 have m1:=φ2X n1 (varT m++(varT (l.length:Int)++(l.map entT).flatten)) (by simp only[lA];omega)
 have m2:=φ2X n2 (varT (l.length:Int)++(l.map entT).flatten) (by simp only[lA];omega)
 have m3:=φ2X hcnt (l.map entT).flatten (by simp only[lA];omega)
 have hfl:∀n,((l.drop n).map entT).flatten.length≤43 * (l.drop n).length:=fun n=>φBz (fun x hx=>(n4 x (List.mem_of_mem_drop hx)).1)
 have key:=φg (step:=ψk.l0) (fun n (_:Unit)=>(s,((0,0,[]):φ1H),(((l.drop n).map entT).flatten,false),((z,m,l.take n):φ1H),(l.length:Int),(n:Int))) l.length (fun _ _=>(s,(0,0,[]),([],false),(z,m,l))) (fun _ _=>True)
  (fun rec n _ hn _ ih=>by
   rcases κ2 n l.length with h1 | h1
   ·have hw:=φM (show n+1<9223372036854775808 by omega)
    obtain ⟨k0,k1,k2,k3,k5⟩:=n4 _ (gM h1)
    have hk0:φ1M (l[n].1.length:Int):=⟨by omega,by omega⟩
    have hd:((l.drop n).map entT).flatten=entT l[n]++((l.drop (n+1)).map entT).flatten:=by
     rw[dG h1];rfl
    have hlen:=hfl n
    rw[hd,φDB] at hlen
    rw[lD] at hlen
    simp only[lA] at hlen
    have t0:=φ8h l[n].1 (varT l[n].2.1++(varT l[n].2.2.1++(varT l[n].2.2.2.1++(varT l[n].2.2.2.2++((l.drop (n+1)).map entT).flatten)))) hk0 (by simp only[lA];omega)
    have t1:=φ2X k1 (varT l[n].2.2.1++(varT l[n].2.2.2.1++(varT l[n].2.2.2.2++((l.drop (n+1)).map entT).flatten))) (by simp only[lA];omega)
    have t2:=φ2X k2 (varT l[n].2.2.2.1++(varT l[n].2.2.2.2++((l.drop (n+1)).map entT).flatten)) (by simp only[lA];omega)
    have t3:=φ2X k3 (varT l[n].2.2.2.2++((l.drop (n+1)).map entT).flatten) (by simp only[lA];omega)
    have t4:=φ2X k5 ((l.drop (n+1)).map entT).flatten (by simp only[lA];omega)
    have hb:((l.take n).length+([l[n]]:List φC).length) * 48≤140737488355328:=φDN (by rw[lT];omega)
    have hi:l.take n++[l[n]]=l.take (n+1):=(κ1 h1).symm
    have hp:((l[n].1,l[n].2.1,l[n].2.2.1,l[n].2.2.2.1,l[n].2.2.2.2):φC)=l[n]:=rfl
    simp only[ψk.l0,oL,h1,dT,cT,hd,φDB,nF,t0,t1,t2,t3,t4,bS,hp,hb,hw,hi,ih () h1 trivial]
   ·have:n=l.length:=by omega
    subst this
    simp[ψk.l0])
  (by omega) 0 () (κ4 _) trivial
 have key:lp ψk.l0 (s,(0,0,[]),((l.map entT).flatten,false),(z,m,[]),(l.length:Int),0)=_:=key
 unfold ψk.f
 simp only[b0,m1,m2,m3,bS,key,cF,φ9u (z,m,l) (show l.length<1000000000 by omega),hok,nZ,φAZ (z,m,l) (show l.length<1000000000 by omega),hsh,beq_self_eq_true]
noncomputable def φ3T (s:List UInt8):φ1H×Bool:=@dite (φ1H×Bool) (∃v,φ4O s v) (Classical.propDecidable _) (fun h=>(h.choose,true)) (fun _=>(φ5r,false))
theorem φMq {s:List UInt8} {o:Option (φ1H×Bool)} (h1:∀v,φ4O s v→o=some (v,true)) (h2:∃res:φ1H×Bool,o=some res∧(res=(φ5r,false)∨∃v,res=(v,true)∧φ4O s v)):o=some (φ3T s):=by
 unfold φ3T
 by_cases h:∃v,φ4O s v
 ·rw[dif_pos h];exact h1 _ h.choose_spec
 ·rw[dif_neg h]
  obtain ⟨res,e,k | ⟨v,_,hv⟩⟩:=h2
  ·rw[e,k]
  ·exact absurd ⟨v,hv⟩ h
theorem φNx (s:List UInt8) (hl:s.length<900000000):ψk.f s=some (φ3T s):=φMq (fun _ h=>φIg h) (φMV s hl)
theorem φH4 (s:List UInt8):φ3T s=(φ5r,false)∧(¬∃v,φ4O s v)∨∃v,φ3T s=(v,true)∧φ4O s v:=by
 unfold φ3T
 by_cases h:∃v,φ4O s v
 ·rw[dif_pos h];exact .inr ⟨_,rfl,h.choose_spec⟩
 ·rw[dif_neg h];exact .inl ⟨rfl,h⟩
theorem φKN (x y:φC):(x.1==y.1 && (x.2.1==y.2.1 && (x.2.2.1==y.2.2.1 && (x.2.2.2.1==y.2.2.2.1 && x.2.2.2.2==y.2.2.2.2))))=decide (x=y):=by
 obtain ⟨a,b,c,d,e⟩:=x
 obtain ⟨a',b',c',d',e'⟩:=y
 apply Bool.eq_iff_iff.2
 simp
theorem φMr (a b:List φC) (ha:a.length<2 ^ 62):ψw.f a b=some (decide (a=b)):=by
 unfold ψw.f
 by_cases hl:a.length=b.length
 rotate_left
 ·rw[φ6J hl]
  have:¬a=b:=fun e=>hl (by rw[e])
  rw[decide_eq_false this];rfl
 rw[φ61 hl,cF]
 have key:=φ3z (step:=ψw.l0) (List.range a.length) (fun i=>decide (a.getD i ([],0,0,0,0)=b.getD i ([],0,0,0,0))) (fun n=>(a,b,(a.length:Int),(n:Int))) () (by simpa using ha)
  (fun rec n h=>by
   have h1:n<a.length:=by simpa using h
   have h2:n<b.length:=by omega
   have hw:=φM (show n+1<9223372036854775808 by omega)
   have hr:(List.range a.length)[n]=n:=by simp
   simp only[ψw.l0,oL,h1,dT,cT,φF,h2,φJ,φKN,hw,hr]
   cases decide (a.getD n ([],0,0,0,0)=b.getD n ([],0,0,0,0))<;>simp)
  (fun rec=>by simp[ψw.l0])
 have key:lp ψw.l0 (a,b,(a.length:Int),0)=_:=key
 rw[key,bS]
 have hall:(List.range a.length).all (fun i=>decide (a.getD i ([],0,0,0,0)=b.getD i ([],0,0,0,0)))=decide (a=b):=by
  apply Bool.eq_iff_iff.2
  rw[κR,decide_eq_true_eq]
  constructor
  ·intro h
   apply List.ext_getElem hl
   intro i h1 h2
   have:=h i (by simpa using h1)
   simp only[decide_eq_true_eq] at this
   rwa [φ9 h1,φ9 h2] at this
  ·rintro rfl i _;simp
 rw[hall]
 by_cases e:a=b
 ·rw[decide_eq_true e];simp[φf]
 ·rw[decide_eq_false e];simp[φp]
noncomputable def φ7r (id:Int) (t:List UInt8) (h:φ1H):Bool:=decide (φ16 id t=(h,true))
theorem φIR (x:φ1H×Bool) (h:φ1H):(bif x.2 then bif x.1.1==h.1 then bif x.1.2.1==h.2.1 then decide (x.1.2.2=h.2.2) else false else false else false)=decide (x=(h,true)):=by
 obtain ⟨⟨a,b,c⟩,d⟩:=x
 obtain ⟨a',b',c'⟩:=h
 apply Bool.eq_iff_iff.2
 cases d
 ·simp
 ·simp only[cT,decide_eq_true_eq,Prod.mk.injEq,and_true]
  by_cases e1:a=a'
  ·by_cases e2:b=b'
   ·simp[e1,e2]
   ·have:(b==b')=false:=by simpa using e2
    simp[e1,e2,this]
  ·have:(a==a')=false:=by simpa using e1
   simp[e1,this]
theorem φNZ (id:Int) (t:List UInt8) (h:φ1H) (ht:t.length<100000000):ψU.f id t h=some (φ7r id t h):=by
 unfold ψU.f φ7r
 rw[φHI id t ht,bS,←φIR]
 have hl:=φHg id t
 generalize φ16 id t=x at hl ⊢
 obtain ⟨⟨a,b,c⟩,d⟩:=x
 simp only[φMr c h.2.2 (show c.length<2 ^ 62 by have:c.length≤t.length:=hl;omega),bS]
 cases d<;>simp only[cT,cF]
 cases (a==h.1)<;>cases (b==h.2.1)<;>rfl
abbrev φ18:=List φC×Int×Int
abbrev φK0:φG:=(0,0,0,0,0,[],[],0,0)
def φ1f (k b:Int) (acc:List φG) (p:φG):List φG:=
 if k=3∧p.2.2.2.2.1≠b then acc
 else if p.2.2.2.1=k then []
 else if (k=3∧(p.2.2.2.1=1∨p.2.2.2.1=2))∨(k=5∧p.2.2.2.1=4) then acc++[p] else acc
def ownL (k b:Int) (l:List φG):List φG:=l.foldl (φ1f k b) []
theorem φEG (k b:Int) (acc:List φG) (p:φG):(φ1f k b acc p).length≤acc.length+1:=by
 unfold φ1f
 split
 ·omega
 ·split
  ·simp
  ·split
   ·simp
   ·omega
theorem φGz (k b:Int) (l:List φG):(ownL k b l).length≤l.length:=by
 have:∀(l acc:List φG),(l.foldl (φ1f k b) acc).length≤acc.length+l.length:=by
  intro l
  induction l with
  | nil=>intro acc;simp
  | cons x l ih=>intro acc;have:=ih (φ1f k b acc x);have:=φEG k b acc x;simp only[κL,lC];omega
 have:=this l []
 unfold ownL
 simpa using this
theorem φKX {a:Nat} (h:a<1000000000001):(a+1) * 88≤140737488355328:=by omega
theorem φGq (l:List φG) (r:RecT) (hl:l.length<1000000000):ψ1e.f l r=some (ownL r.1 r.2.1 l):=by
 have hk:=φ3M (step:=ψ1e.l0) l (φ1f r.1 r.2.1) (fun n (s:List φG)=>(r,s,l,(l.length:Int),(n:Int))) (fun s=>s) (fun n s=>s.length≤n) (by omega)
  (fun rec n s h hi=>by
   have hw:=φM (show n+1<9223372036854775808 by omega)
   have hb:(s.length+([l[n]]:List φG).length) * 88≤140737488355328:=φKX (by omega)
   have hb2:decide ((s.length+1) * 88≤140737488355328)=true:=by simp only[decide_eq_true_eq];omega
   unfold φ1f
   simp only[ψ1e.l0,oL,h,dT,cT,φF,φJ,φ9 h]
   generalize l[n]=p at *
   obtain ⟨sg,at_,ln,k,b,key,v,c,z⟩:=p
   obtain ⟨rk,rb,rr⟩:=r
   simp only at hb ⊢
   by_cases c1:rk=3
   ·subst c1
    simp only[beq_self_eq_true,cT,true_and,show ¬((3:Int)=5) by decide,false_and,or_false]
    by_cases c2:b=rb
    ·subst c2
     simp only[bne_self_eq_false,cF,ne_eq,not_true,if_false]
     by_cases c3:k=3
     ·subst c3;simp[hw]
     ·have d3:(k==3)=false:=by simpa using c3
      simp only[d3,cF,c3,if_false]
      by_cases c4:k=1
      ·subst c4;simp[hw,hb2]
      ·have d4:(k==1)=false:=by simpa using c4
       simp only[d4,cF,c4,false_or]
       by_cases c5:k=2
       ·subst c5;simp[hw,hb2]
       ·have d5:(k==2)=false:=by simpa using c5
        have d6:((3:Int)==5)=false:=rfl
        simp[d5,c5,d6,hw]
    ·have d2:(b != rb)=true:=by simpa using c2
     simp[d2,c2,hw]
   ·have d1:(rk==3)=false:=by simpa using c1
    simp only[d1,cF,c1,false_and,if_false,false_or]
    by_cases c3:k=rk
    ·have d3:(k==rk)=true:=by simpa using c3
     simp[d3,c3,hw]
    ·have d3:(k==rk)=false:=by simpa using c3
     simp only[d3,cF,c3,if_false]
     by_cases c4:rk=5
     ·subst c4
      simp only[beq_self_eq_true,cT,true_and]
      by_cases c5:k=4
      ·subst c5;simp[hw,hb2]
      ·have d5:(k==4)=false:=by simpa using c5
       simp[d5,c5,hw]
     ·have d4:(rk==5)=false:=by simpa using c4
      simp[d4,c4,hw])
  (fun n s h hi=>by have:=φEG r.1 r.2.1 s l[n];omega)
  (fun rec s hi=>by simp[ψ1e.l0]) [] (κ6 _)
 have hk:lp ψ1e.l0 (r,[],l,(l.length:Int),0)=_:=hk
 unfold ψ1e.f
 rw[hk];rfl
def putD (dir:List φC) (p:φG):List φC:=
 if p.2.2.2.1=2 then φk dir p.2.2.2.2.2.1 else insB (φk dir p.2.2.2.2.2.1) (p.2.2.2.2.2.1,p.1,p.2.1,p.2.2.1,p.2.2.2.2.1)
def φ26 (dir:List φC) (own:List φG):List φC:=own.foldl putD dir
theorem φE3 (dir:List φC) (p:φG):(putD dir p).length≤dir.length+1:=by
 unfold putD
 have:=φ7m dir p.2.2.2.2.2.1
 split
 ·omega
 ·rw[φ5s];omega
theorem φLt (own:List φG):∀dir,(φ26 dir own).length≤dir.length+own.length:=by
 unfold φ26
 induction own with
 | nil=>intro dir;simp
 | cons x l ih=>intro dir;have:=ih (putD dir x);have:=φE3 dir x;simp only[κL,lC];omega
def φ57 (dir:List φC) (c:Int):Int:=if 20<dir.length then 2 else c
theorem φKh (g:φ18) (own:List φG) (hg:g.1.length<100000000) (ho:own.length<100000000):ψT.f g own=some (φ26 g.1 own,g.2.1,φ57 (φ26 g.1 own) g.2.2):=by
 have hk:=φ3M (step:=ψT.l0) own putD (fun n (s:List φC)=>((s,g.2),own,(own.length:Int),(n:Int))) (fun s=>(s,g.2)) (fun n s=>s.length≤g.1.length+n) (by omega)
  (fun rec n s h hi=>by
   have hw:=φM (show n+1<9223372036854775808 by omega)
   unfold putD
   simp only[ψT.l0,oL,h,dT,cT,φF,φJ,φ9 h]
   by_cases c:own[n].2.2.2.1=2
   ·have d:(own[n].2.2.2.1==2)=true:=by simpa using c
    rw[if_pos c]
    simp only[d,cT,φAL s own[n].2.2.2.2.2.1 (by omega),bS,hw]
   ·have d:(own[n].2.2.2.1==2)=false:=by simpa using c
    rw[if_neg c]
    simp only[d,cF,φD4 s (own[n].2.2.2.2.2.1,own[n].1,own[n].2.1,own[n].2.2.1,own[n].2.2.2.2.1) (by omega),bS,hw])
  (fun n s h hi=>by have:=φE3 s own[n];omega)
  (fun rec s hi=>by simp[ψT.l0]) g.1 (κ6 _)
 have hk:lp ψT.l0 (g,own,(own.length:Int),0)=some (φ26 g.1 own,g.2):=hk
 unfold ψT.f φ57
 rw[hk,bS]
 simp only
 by_cases c:20<(φ26 g.1 own).length
 ·have d:decide (((φ26 g.1 own).length:Int) > 20)=true:=by simp;omega
  rw[d,if_pos c];rfl
 ·have d:decide (((φ26 g.1 own).length:Int) > 20)=false:=by simp;omega
  rw[d,if_neg c];rfl
def φ1e (pre:List φG) (p:φG) (g:φ18):φ18:=
 let last:=if p.2.2.2.2.1 > g.2.1 then p.2.2.2.2.1 else g.2.1
 if p.2.2.2.1=3∨p.2.2.2.1=5 then
  let own:=ownL p.2.2.2.1 p.2.2.2.2.1 pre
  if φ3e p.2.2.2 (own.map (·.2.2.2))=true then (φ26 g.1 own,last,φ57 (φ26 g.1 own) g.2.2)
  else if p.2.2.2.1=5 then (g.1,last,1) else (g.1,last,g.2.2)
 else (g.1,last,g.2.2)
def φq:List φG→List φG→φ18→φ18
 | _,[],g=>g
 | pre,p::r,g=>if g.2.2≠0 then g else φq (pre++[p]) r (φ1e pre p g)
def φ7L (l:List φG) (g:φ18):φ18:=if g.2.2=0∧0<(ownL 5 0 l).length then (g.1,g.2.1,1) else g
def φ2H (g:φ18) (l:List φG):φ18:=φ7L l (φq [] l g)
theorem φOP (pre:List φG) (p:φG) (g:φ18):(φ1e pre p g).1.length≤g.1.length+pre.length:=by
 unfold φ1e
 have h1:=φLt (ownL p.2.2.2.1 p.2.2.2.2.1 pre) g.1
 have h2:=φGz p.2.2.2.1 p.2.2.2.2.1 pre
 simp only
 split
 ·split
  ·show (φ26 g.1 (ownL p.2.2.2.1 p.2.2.2.2.1 pre)).length≤_;omega
  ·split<;>exact Nat.le_add_right _ _
 ·exact Nat.le_add_right _ _
theorem φNV (pre:List φG) (p:φG) (g:φ18) (h:g.2.2=0) (hc:(φ1e pre p g).2.2=0):(φ1e pre p g).1.length≤max g.1.length 20:=by
 unfold φ1e at hc ⊢
 simp only at hc ⊢
 split
 ·rename_i c
  rw[if_pos c] at hc
  split
  ·rename_i c2
   rw[if_pos c2] at hc
   have hc:φ57 (φ26 g.1 (ownL p.2.2.2.1 p.2.2.2.2.1 pre)) g.2.2=0:=hc
   show (φ26 g.1 (ownL p.2.2.2.1 p.2.2.2.2.1 pre)).length≤_
   unfold φ57 at hc
   split at hc
   ·simp at hc
   ·omega
  ·split<;>exact Nat.le_max_left _ _
 ·exact Nat.le_max_left _ _
def regF (l:List φG):List φG→List φG→φ18→(List φG×φ18×φ18) ⊕ φ18
 | _,[],g=>.inl (l,([],0,0),g)
 | pre,p::r,g=>if g.2.2≠0 then .inr g else regF l (pre++[p]) r (φ1e pre p g)
theorem φFf (l:List φG):∀(r pre:List φG) (g:φ18),regF l pre r g=.inl (l,([],0,0),φq pre r g)∨(regF l pre r g=.inr (φq pre r g)∧(φq pre r g).2.2≠0)
 | [],pre,g=>.inl rfl
 | p::r,pre,g=>by
  unfold regF φq
  by_cases c:g.2.2≠0
  ·rw[if_pos c,if_pos c];exact .inr ⟨rfl,c⟩
  ·rw[if_neg c,if_neg c];exact φFf l r _ _
def φ2i (g:φ18):Prop:=g.1.length≤(if g.2.2=0 then 1000020 else 11000020)
theorem φI2 {pre:List φG} {p:φG} {g:φ18} (h:φ2i g) (hc:g.2.2=0) (hp:pre.length<10000000):φ2i (φ1e pre p g):=by
 unfold φ2i at h ⊢
 rw[if_pos hc] at h
 split
 ·rename_i c
  have:=φNV pre p g hc c
  omega
 ·have:=φOP pre p g
  omega
theorem φK7 (l:List φG) (hl:l.length<10000000) (g0:φ18) (hg:φ2i g0) :
  lp ψq.l0 (l,([],0,0),g0,l,(l.length:Int),0)=some (regF l [] l g0):=by
 have key:=φg (step:=ψq.l0) (fun n (g:φ18)=>(l,(([],0,0):φ18),g,l,(l.length:Int),(n:Int))) l.length (fun n g=>regF l (l.take n) (l.drop n) g) (fun _ g=>φ2i g)
  (fun rec n g hn hi ih=>by
   rcases κ2 n l.length with h | h
   ·have hw:=φM (show n+1<9223372036854775808 by omega)
    have htl:(l.take n).length=n:=by rw[lT];omega
    rw[dG h]
    unfold regF
    obtain ⟨⟨sg,at_,ln,k,b,key,v,c,z⟩,hp⟩:∃p,l[n]=p:=⟨_,rfl⟩
    have hr:rdA φK0 l (n:Int)=(sg,at_,ln,k,b,key,v,c,z):=by rw[φJ,φ9 h,hp]
    have hx:inB (n:Int) l.length=true:=by rw[φF,decide_eq_true h]
    have ht:l.take n++[(sg,at_,ln,k,b,key,v,c,z)]=l.take (n+1):=by rw[←hp];exact (κ1 h).symm
    by_cases c0:g.2.2=0
    rotate_left
    ·rw[if_pos c0]
     have d0:(g.2.2 != 0)=true:=by simpa using c0
     simp only[ψq.l0,oL,h,dT,cT,hx,d0,bS,φp]
    rw[if_neg (fun z=>z c0),hp]
    have d0:(g.2.2 != 0)=false:=by simpa using c0
    have hs:=ih (φ1e (l.take n) (sg,at_,ln,k,b,key,v,c,z) g) h (φI2 hi c0 (by omega))
    rw[ht]
    rw[←hs]
    have hg1:g.1.length<100000000:=by unfold φ2i at hi;rw[if_pos c0] at hi;omega
    have hin:(decide (0≤(n:Int)) && decide ((n:Int)≤(l.length:Int)))=true:=by simp only[bA,decide_eq_true_eq];omega
    have how:=φGq (l.take n) (k,b,key,v,c,z) (by omega)
    have hol:=φGz k b (l.take n)
    have hft:=φGD (k,b,key,v,c,z) (ownL k b (l.take n)) (by omega)
    have hap:=fun last=>φKh (g.1,last,g.2.2) (ownL k b (l.take n)) hg1 (by omega)
    simp only[ψq.l0,oL,h,dT,cT,hx,hr,d0,cF]
    unfold φ1e
    simp only
    by_cases c3:k=3
    ·subst c3
     simp only[bne_self_eq_false,cF,bS,φf,hin,cT,tN,how,hft,true_or,if_true,show ¬((3:Int)=5) by decide,if_false,show ((3:Int)==5)=false from rfl]
     cases φ3e (3,b,key,v,c,z) ((ownL 3 b (l.take n)).map (·.2.2.2))
     ·simp only[cF,bS,φf,hw,κ3,if_false]
     ·simp only[cT,hap,bS,φf,hw,if_true]
    ·have d3:(k != 3)=true:=by simpa using c3
     simp only[d3,cT,c3,false_or]
     by_cases c5:k=5
     ·subst c5
      simp only[bne_self_eq_false,cF,bS,φf,hin,cT,tN,how,hft,if_true,beq_self_eq_true]
      cases φ3e (5,b,key,v,c,z) ((ownL 5 b (l.take n)).map (·.2.2.2))
      ·simp only[cF,bS,φf,hw,κ3,if_false]
      ·simp only[cT,hap,bS,φf,hw,if_true]
     ·have d5:(k != 5)=true:=by simpa using c5
      simp only[d5,cT,c5,if_false,bS,φp,φf,hw]
   ·have:n=l.length:=by omega
    subst this
    simp only[ψq.l0,Int.lt_irrefl,dF,cF,κN,List.drop_length,regF])
  (by omega) 0 g0 (κ4 _) hg
 exact key
theorem φM6 (g:φ18) (l:List φG) (hl:l.length<10000000) (hg:φ2i g):ψq.f g l=some (φ2H g l):=by
 have hg1:g.1.length<1000000000:=by unfold φ2i at hg;split at hg<;>omega
 unfold ψq.f
 rw[φBK g.1 hg1,bS,φK7 l hl (g.1,g.2) hg,bS]
 unfold φ2H φ7L
 rcases φFf l l [] g with e | ⟨e,hc⟩
 ·rw[show ((g.1,g.2):φ18)=g from rfl,e]
  simp only[φf]
  by_cases c:(φq [] l g).2.2=0
  ·have d:((φq [] l g).2.2==0)=true:=by simpa using c
   have ho:=φGq l (5,0,[],[],0,0) (by omega)
   simp only[d,cT,ho,bS]
   by_cases c2:0<(ownL 5 0 l).length
   ·have d2:decide (((ownL 5 0 l).length:Int) > 0)=true:=by simp;omega
    rw[d2,if_pos ⟨c,c2⟩];rfl
   ·have d2:decide (((ownL 5 0 l).length:Int) > 0)=false:=by simp only[decide_eq_false_iff_not];omega
    rw[d2,if_neg (fun z=>c2 z.2)];rfl
  ·have d:((φq [] l g).2.2==0)=false:=by simpa using c
   simp only[d,cF]
   rw[if_neg (fun z=>c z.1)]
 ·rw[show ((g.1,g.2):φ18)=g from rfl,e]
  simp only[φp]
  rw[if_neg (fun z=>hc z.1)]
def φ1T:Nat→List RecT→List φ1p
 | _,[]=>[]
 | a,r::rs=>((a:Int),((fr r).length:Int),r)::φ1T (a+(fr r).length) rs
theorem φEZ:∀(rs:List RecT) (a:Nat),(φ1T a rs).map (·.2.2)=rs
 | [],_=>rfl
 | r::rs,a=>by simp[φ1T,φEZ rs]
theorem φAW:∀(rs qs:List RecT) (a:Nat),φ1T a (rs++qs)=φ1T a rs++φ1T (a+(txt rs).length) qs
 | [],qs,a=>by simp[φ1T,txt]
 | r::rs,qs,a=>by
  rw[κF,φ1T,φ1T,φAW rs qs,φ3P,lA,κF,Nat.add_assoc]
theorem φGA:∀(rs:List RecT) (p:List UInt8),(∀r∈rs,φa r=true)→φ2O (p++txt rs) p.length=(φ1T p.length rs,p.length+(txt rs).length)
 | [],p,_=>by
  have:p++txt []=p:=by simp[txt]
  rw[this,φ8A];simp[txt,φ1T]
 | r::rs,p,h=>by
  have hs:=φ3Y r
  have hb:=φ7e (t:=φ7 r) (by omega) (txt rs)
  have hd:(p++txt (r::rs)).drop p.length=frame (φ7 r)++txt rs:=by rw[κQ];rfl
  have hl:=φ4Z r
  have hrr:=φCH (h r κ0)
  rw[φ5n (n:=(fr r).length) (by rw[hd,hb];rfl) hl.1 (by rw[φ3P];simp only[lA];omega) (by rw[hd,hb];simp only;rw[hrr])]
  have ih:=φGA rs (p++fr r) (fun x hx=>h x (mC _ hx))
  rw[aA,lA] at ih
  rw[hd,hb]
  simp only[hrr]
  have e:p++txt (r::rs)=p++(fr r++txt rs):=rfl
  rw[e,ih]
  simp only[φ1T,φ3P,lA,Nat.add_assoc]
theorem φ9f {rs:List RecT} (h:∀r∈rs,φa r=true):scan (txt rs)=(φ1T 0 rs,(txt rs).length):=by
 have:=φGA rs [] h
 simp only[κ8,lN,κV] at this
 exact this
theorem φJx:∀(k:Nat) (s:List UInt8) (a:Nat),a≤s.length→s.length - a=k→∃(rs:List RecT) (q:List UInt8),(∀r∈rs,φa r=true)∧s.drop a=txt rs++q∧φ2O s a=(φ1T a rs,a+(txt rs).length):=by
 intro k
 induction k using Nat.strongRecOn with
 | ind k ih=>
  intro s a ha hk
  by_cases c:(φP (s.drop a)).2=0∨(φ1S (φP (s.drop a)).1).2=false
  ·exact ⟨[],s.drop a,by simp,rfl,φ4x ha c⟩
  ·have c1:(φP (s.drop a)).2≠0:=fun e=>c (.inl e)
   have hr:(φ1S (φP (s.drop a)).1).2=true:=by
    cases e:(φ1S (φP (s.drop a)).1).2 with
    | true=>rfl
    | false=>exact absurd (.inr e) c
   obtain ⟨t,r,e1,e2,e3⟩:=φBi c1
   have h5:=φ8O e2
   have hlen:a+(frame t).length≤s.length:=by
    have:(s.drop a).length=(frame t++r).length:=by rw[←e1]
    rw[lD,lA] at this;omega
   have hst:=φ5n (n:=(frame t).length) (by rw[e3]) h5 hlen hr
   obtain ⟨rs,q,g1,g2,g3⟩:=ih (s.length - (a+(frame t).length)) (by omega) s (a+(frame t).length) hlen rfl
   have hd:s.drop (a+(frame t).length)=r:=by rw[←List.drop_drop,e1,κQ]
   rw[e3] at hr
   rcases φ7h t with ⟨z,_⟩ | ⟨x,z,hx⟩
   ·rw[z] at hr;simp at hr
   ·refine ⟨x::rs,q,?_,?_,?_⟩
    ·intro y hy
     rcases mc.1 hy with rfl | hy
     ·exact hx.1
     ·exact g1 y hy
    ·rw[e1,φ3P,←hd,g2]
     show frame t++(txt rs++q)=frame (φ7 x)++txt rs++q
     rw[hx.2,aA]
    ·rw[hst,g3,e3]
     have hf:(fr x).length=(frame t).length:=by show (frame (φ7 x)).length=_;rw[hx.2]
     simp only[z,φ1T,φ3P,lA,hf,Nat.add_assoc]
theorem φM8 (s:List UInt8):∃(rs:List RecT) (q:List UInt8),(∀r∈rs,φa r=true)∧s=txt rs++q∧scan s=(φ1T 0 rs,(txt rs).length):=by
 obtain ⟨rs,q,h1,h2,h3⟩:=φJx s.length s 0 (κ4 _) (by omega)
 rw[κC] at h2
 rw[κV] at h3
 exact ⟨rs,q,h1,h2,h3⟩
theorem φIv (s:List UInt8):scan (s.take (scan s).2)=scan s:=by
 obtain ⟨rs,q,h1,h2,h3⟩:=φM8 s
 rw[h3]
 have:s.take (txt rs).length=txt rs:=by rw[h2,List.take_left]
 rw[this,φ9f h1]
theorem φLa {d:φ1} (h:φ3 d=true) (v:φQ):(φ3O d v).length≤130:=by
 unfold φ3O
 rw[if_neg (by rw[h];simp),lM]
 exact κf (List.length_filter_le _ _) (φ8T h).2.2
noncomputable def φt (v:φQ) (d:φ1):φE:=φo (φ3O d v) (d,0)
theorem φ8q {d:φ1} (h:φ3 d=true) (v:φQ):φ3 (φt v d).1=true:=φ4e _ h
theorem φH9 (w:φE) (v:φQ) (h:φ3 w.1=true) (hv:v.2.length<1000000000):ψ25.f w v=some (φ50 (φ3O w.1 v) w):=by
 unfold ψ25.f
 rw[φJF w.1 v (φ1X (φ13 h) (by omega)) hv,bS]
 have hl:=φLa h v
 generalize φ3O w.1 v=names at hl ⊢
 have key:=φ3M (step:=ψ25.l0) names (fun (w:φE) n=>φ1A (φD n) w) (fun n (a:φE)=>(a,names,(names.length:Int),(n:Int))) (fun a=>a) (fun _ a=>φ3 a.1=true) (by omega)
  (fun rec n a h1 ha=>by
   have hw:=φM (show n+1<9223372036854775808 by omega)
   simp only[ψ25.l0,oL,h1,dT,cT,φF,φJ,φ9 h1,φ5A a names[n] (φ13 ha) (by omega),bS,hw])
  (fun n a h1 ha=>φ8D (op:=φD names[n]) ha fun k=>φ2Y k _)
  (fun rec a ha=>by simp[ψ25.l0])
  w h
 have key:lp ψ25.l0 (w,names,(names.length:Int),0)=some (φ50 names w):=key
 rw[key];rfl
noncomputable def φ12 (d:φ1) (id:Int):List φG:=(scan (φ2 d (φ0 id)).1).1.map fun x=>((id,x):φG)
theorem φ6L {d:φ1} (h:φ3 d=true) (n:List UInt8):(φ2 d n).1.length≤100000:=by
 have h1:=φ4k d n (φ1X (φ13 h) (by omega))
 have h2:=φ8K h
 omega
theorem φD8 {d:φ1} (h:φ3 d=true) (id:Int):(φ12 d id).length≤100000:=by
 unfold φ12
 rw[lM]
 exact κf (φ6C _).2 (φ6L h _)
theorem φFR {d:φ1} (h:φ3 d=true):∀ids:List Int,(ids.flatMap (φ12 d)).length≤100000 * ids.length
 | []=>by simp
 | id::r=>by
  have:=φD8 h id
  have:=φFR h r
  simp only[List.flatMap_cons,lA,lC];omega
abbrev φ1W:φ8:=((0,[]),[],0,0,0)
noncomputable def φ8L (d:φ1):φ8×φ1×Int:=
 let w:=sPut (2,[1]) (φA (φW (φ0 1)) (φt φ1F d))
 if w.2≠0 then (φ1W,w.1,told w.2) else (((2,[1]),[],1,0,0),w.1,0)
theorem φNa:φm (2,[1])=true:=by decide
theorem φMu (d:φ1) (h:φ3 d=true):∃w:φE,ψ21.f (d,0)=some (((2,[1]),[],1,0,0),w)∧w=φB (sPut (2,[1]) (φA (φW (φ0 1)) (φt φ1F d))):=by
 refine ⟨_,?_,rfl⟩
 unfold ψ21.f
 have h1:=φH9 (d,0) φ1F h (by show 0<_;omega)
 have e1:φ50 (φ3O d φ1F) (d,0)=φB (φt φ1F d):=φBX _ (d,0)
 have hd1:=φ8q h φ1F
 have h2:=φ9N (φB (φt φ1F d)) (φ0 1) (k:=100001) (φ13 hd1) (by omega) (by have:=φ4H 1;omega)
 have e2:φ1A (φW (φ0 1)) (φB (φt φ1F d))=φB (φA (φW (φ0 1)) (φt φ1F d)):=φ2q _ _
 have hd2:φ3 (φA (φW (φ0 1)) (φt φ1F d)).1=true:=φ1t hd1 fun k=>φ33 k _
 have h3:=φBp (φB (φA (φW (φ0 1)) (φt φ1F d))) (2,[1]) (k:=100001) (φ13 hd2) (by omega) (by show 1<_;decide)
 have e3:=φCO (2,[1]) (φA (φW (φ0 1)) (φt φ1F d))
 have h1:ψ25.f (d,0) (0,[])=some (φB (φt φ1F d)):=h1.trans (by rw[e1])
 rw[e2] at h2
 rw[e3] at h3
 simp only[h1,bS,φ3E,h2,h3]
noncomputable def φ2b (d:φ1):List Int→Bool
 | []=>true
 | id::r=>(φ2 d (φ0 id)).2 && ((r.isEmpty || decide ((scan (φ2 d (φ0 id)).1).2=(φ2 d (φ0 id)).1.length)) && φ2b d r)
noncomputable def φ43 (d:φ1):List Int→Int→Int
 | [],z=>z
 | id::r,_=>φ43 d r ((scan (φ2 d (φ0 id)).1).2:Int)
theorem φH3 (d:φ1):∀(l:List Int) (z:Int),l≠[]→φ43 d l z=((scan (φ2 d (φ0 (φO l))).1).2:Int)
 | [],_,h=>absurd rfl h
 | [x],z,_=>by rw[φ43,φ43,φ8H]
 | x::y::l,z,_=>by rw[φ43,φ8f];exact φH3 d (y::l) _ (by simp)
theorem φLA {α:Type} (l:List α) (n:Nat) (h:n<l.length):(l.drop (n+1)).isEmpty=decide (¬n<l.length - 1):=by
 apply Bool.eq_iff_iff.2
 rw[List.isEmpty_iff,List.drop_eq_nil_iff,decide_eq_true_eq];omega
theorem φE6 (w:φE) (v:φQ) (h:φ3 w.1=true) (hv:v.2.length<1000000) :
  ψ29.f w v=some (if φ2b w.1 v.2=true then (v.2.map (φ12 w.1),φ43 w.1 v.2 0,true,w) else ([],0,false,w)):=by
 have key:=φg (step:=ψ29.l0) (fun n (s:List (List φG)×Int)=>(w,v,s.1,s.2,v.2,(v.2.length:Int),(n:Int))) v.2.length
  (fun n s=>if φ2b w.1 (v.2.drop n)=true then .inl (w,s.1++(v.2.drop n).map (φ12 w.1),φ43 w.1 (v.2.drop n) s.2) else .inr (w,[],0,false)) (fun n s=>s.1.length≤n)
  (fun rec n s hn hs ih=>by
   rcases κ2 n v.2.length with h1 | h1
   ·have hw:=φM (show n+1<9223372036854775808 by omega)
    have hwl:w64 ((v.2.length:Int) - 1)=((v.2.length - 1:Nat):Int):=by rw[φI (by omega) (by omega)];omega
    have hd:v.2.drop n=v.2[n]::v.2.drop (n+1):=dG h1
    have htx:=φ6L h (φ0 v.2[n])
    have hsc:=φ6C (φ2 w.1 (φ0 v.2[n])).1
    have hpl:=φHL v.2[n] (scan (φ2 w.1 (φ0 v.2[n])).1).1 (by omega)
    have hb:decide ((s.1.length+([φ12 w.1 v.2[n]]:List (List φG)).length) * 24≤140737488355328)=true:=by simp only[decide_eq_true_eq];exact φBZ (by omega)
    have ih:=ih (s.1++[φ12 w.1 v.2[n]],((scan (φ2 w.1 (φ0 v.2[n])).1).2:Int)) h1 (by simp only[lA,κA];omega)
    have hft:=φ4j w.1 (φ0 v.2[n]) (φ1X (φ13 h) (by omega))
    have hsr:=φBG (φ2 w.1 (φ0 v.2[n])).1 (by omega)
    rw[hd]
    simp only[φ2b,φ43,κ5,φLA v.2 n h1]
    simp only[ψ29.l0,oL,h1,dT,cT,φF,φJ,φ9 h1,φ3E,bS,hft,hsr,hwl]
    have hpl2:ψ1f.f v.2[n] (scan (φ2 w.1 (φ0 v.2[n])).1).1=some (φ12 w.1 v.2[n]):=hpl
    have hgo:((ψ1f.f v.2[n] (scan (φ2 w.1 (φ0 v.2[n])).1).1).bind fun t5=>bif decide ((s.1.length+[t5].length) * 24≤140737488355328) then rec (w,v,s.1++[t5],((scan (φ2 w.1 (φ0 v.2[n])).1).2:Int),v.2,(v.2.length:Int),w64 ((n:Int)+1)) else none) =
      some (if φ2b w.1 (v.2.drop (n+1))=true then .inl (w,s.1++(φ12 w.1 v.2[n]::(v.2.drop (n+1)).map (φ12 w.1)),φ43 w.1 (v.2.drop (n+1)) ((scan (φ2 w.1 (φ0 v.2[n])).1).2:Int)) else .inr (w,[],0,false)):=by
     rw[hpl2,bS,hb,cT,hw]
     have:s.1++(φ12 w.1 v.2[n]::(v.2.drop (n+1)).map (φ12 w.1))=s.1++[φ12 w.1 v.2[n]]++(v.2.drop (n+1)).map (φ12 w.1):=by simp
     rw[this];exact ih
    cases hk:(φ2 w.1 (φ0 v.2[n])).2 with
    | false=>simp only[nF,cT,bS,φp,κD,κ3,if_false]
    | true=>
     simp only[nZ,cF,tA]
     by_cases c1:n<v.2.length - 1
     ·simp only[c1,dT,cT,not_true,dF,κU]
      by_cases c2:(scan (φ2 w.1 (φ0 v.2[n])).1).2=(φ2 w.1 (φ0 v.2[n])).1.length
      ·rw[φ61 c2,cF]
       simp only[bS,φf,decide_eq_true c2,tA]
       exact hgo
      ·rw[φ6J c2,cT]
       simp only[bS,φp,decide_eq_false c2,κD,κ3,if_false]
     ·simp only[c1,dF,cF,not_false_iff,dT,Bool.true_or,tA,bS,φf]
      exact hgo
   ·have:n=v.2.length:=by omega
    subst this
    rw[List.drop_length]
    simp[ψ29.l0,φ2b,φ43])
  (by omega) 0 ([],0) (κ4 _) (κ6 _)
 have key:lp ψ29.l0 (w,v,[],0,v.2,(v.2.length:Int),0)=_:=key
 unfold ψ29.f
 rw[key,bS,κC]
 by_cases c:φ2b w.1 v.2=true
 ·rw[if_pos c,if_pos c];simp only[φf,κ8]
 ·rw[if_neg c,if_neg c];simp only[φp]
theorem φEs {hi:Int}:∀(l:List Int) (p:Option Int),φ1c hi p l=true→l.Pairwise (·<·)∧∀q,p=some q→∀x∈l,q<x
 | [],p,_=>⟨List.Pairwise.nil,by simp⟩
 | x::r,p,h=>by
  simp only[φ1c,bA,decide_eq_true_eq] at h
  obtain ⟨h1,h2,h3⟩:=h
  obtain ⟨k1,k2⟩:=φEs r (some x) h3
  have k2:=k2 x rfl
  refine ⟨List.Pairwise.cons k2 k1,?_⟩
  rintro q rfl y hy
  have h2:q<x:=by simpa using h2
  rcases mc.1 hy with rfl | hy
  ·exact h2
  ·exact Int.lt_trans h2 (k2 y hy)
theorem φNd {v:φQ} (h:φm v=true):v.2.Pairwise (·<·):=(φEs v.2 none ((φ14 v).1 h).1).1
noncomputable def φ3K (d:φ1) (id:Int):Option φ18:=
 if (φ2 d (φL id)).2=true∧(φ3T (φ2 d (φL id)).1).2=true∧φ7r id (φ2 d (φ0 id)).1 (φ3T (φ2 d (φL id)).1).1=true then
  some ((φ3T (φ2 d (φL id)).1).1.2.2,(φ3T (φ2 d (φL id)).1).1.2.1,0) else none
theorem φOY (w:φE) (id:Int) (h:φ3 w.1=true):ψ24.f w id=some (match φ3K w.1 id with | some g=>(g,true,w) | none=>(([],0,0),false,w)):=by
 have hlm:=φ1X (φ13 h) (show 100001≤1000000000 by omega)
 have ht:=φ6L h (φL id)
 have ht2:=φ6L h (φ0 id)
 unfold ψ24.f φ3K
 simp only[φ8P,bS,φ4j w.1 (φL id) hlm,φNx _ (show (φ2 w.1 (φL id)).1.length<900000000 by omega),φ3E,φ4j w.1 (φ0 id) hlm,
  φNZ id (φ2 w.1 (φ0 id)).1 (φ3T (φ2 w.1 (φL id)).1).1 (by omega)]
 cases (φ2 w.1 (φL id)).2<;>cases (φ3T (φ2 w.1 (φL id)).1).2<;>cases φ7r id (φ2 w.1 (φ0 id)).1 (φ3T (φ2 w.1 (φL id)).1).1<;>simp
noncomputable def φR (x:φ1) (ids:List Int):List φG:=ids.flatMap (φ12 x)
theorem φOc (w:φE) (v:φQ) (S:φ8) (g:φ18) (L:List (List φG)) (z:φQ) (hL:∀l∈L,l.length≤100000) (hl:L.length≤1000) :
  lp ψ22.l0 (w,φ1W,(v.1,[]),S,g,[],L,(L.length:Int),0)=some (w,φ1W,(v.1,[]),S,g,L.flatten):=by
 have hk:=φ3M (step:=ψ22.l0) L (fun (s:List φG) l=>s++l) (fun n s=>(w,φ1W,(v.1,[]),S,g,s,L,(L.length:Int),(n:Int))) (fun s=>(w,φ1W,(v.1,[]),S,g,s)) (fun n s=>s.length≤100000 * n) (by omega)
  (fun rec n s h hi=>by
   have hw:=φM (show n+1<9223372036854775808 by omega)
   have h1:=hL _ (gM h)
   have hb:decide ((s.length+L[n].length) * 88≤140737488355328)=true:=by simp only[decide_eq_true_eq];omega
   simp only[ψ22.l0,oL,h,dT,cT,φF,φJ,φ9 h,hb,hw])
  (fun n s h hi=>by have h1:=hL _ (gM h);simp only[lA];omega)
  (fun rec s hi=>by simp[ψ22.l0]) [] (κ6 _)
 have hk:lp ψ22.l0 (w,φ1W,(v.1,[]),S,g,[],L,(L.length:Int),0)=_:=hk
 rw[hk]
 have:∀(L:List (List φG)) (s:List φG),L.foldl (fun (s:List φG) l=>s++l) s=s++L.flatten:=by
  intro L
  induction L with
  | nil=>intro s;simp
  | cons x L ih=>intro s;rw[κL,ih];simp
 rw[this];rfl
theorem φOM {d:φ1} (h:φ3 d=true) {m n:List UInt8} (z:Int) (hne:n≠m):φ2 (φ3U m z d).1 n=φ2 d n:=by
 refine φ6k h (φ5z h m z) n fun t=>?_
 unfold φ40
 rcases φw d.1 m with ⟨e,_⟩ | ⟨i,hi,e,hn⟩
 ·rw[φ1C e]
 ·rw[φ17 e]
  simp only
  split
  ·rw[φ9 hi]
   constructor
   ·rintro ⟨s,hs⟩;exact ⟨s,(φ6A (f:=(d.1[i].1,d.1[i].2.1.take z.toNat,if z<d.1[i].2.2 then z else d.1[i].2.2)) hi rfl (by rw[hn];exact hne)).2 hs⟩
   ·rintro ⟨s,hs⟩;exact ⟨s,(φ6A (f:=(d.1[i].1,d.1[i].2.1.take z.toNat,if z<d.1[i].2.2 then z else d.1[i].2.2)) hi rfl (by rw[hn];exact hne)).1 hs⟩
  ·exact Iff.rfl
theorem φLZ {d:φ1} {n:List UInt8} {z:Int} (h:(φ3U n z d).2=0):φ2 (φ3U n z d).1 n=((φ2 d n).1.take z.toNat,true):=by
 obtain ⟨k,ha,hx⟩:=φ5v h
 have hk:φ3 (φ3U n z d).1=true:=φ5z k n z
 have hx:(φ3U n z d).1=_:=hx
 unfold φ40 at ha hx
 rcases φw d.1 n with ⟨e,_⟩ | ⟨i,hi,e,hn⟩
 ·rw[φ1C e] at ha;simp at ha
 rw[φ17 e] at ha hx
 simp only at ha hx
 split at ha
 ·rename_i c
  rw[if_pos c,φ9 hi] at hx
  have e1:=φ2l k (gM hi)
  rw[hn] at e1
  have hm:((n,d.1[i].2.1.take z.toNat,if z<d.1[i].2.2 then z else d.1[i].2.2):φ6)∈(φ3U n z d).1.1:=by
   rw[hx,←hn]
   exact List.mem_iff_getElem.2 ⟨i,by simpa using hi,by simp⟩
  have e2:=φ2l hk hm
  rw[e1]
  exact e2
 ·simp at ha
noncomputable def cutN (v:φQ) (d:φ1):Nat:=(scan (φ2 d (φ0 (φO v.2))).1).2
noncomputable def cutW (v:φQ) (d:φ1):φE:=
 φA (φH (φ0 (φO v.2))) (if (φ2 d (φ0 (φO v.2))).1.length=cutN v d then (d,0) else φ3U (φ0 (φO v.2)) (cutN v d:Int) d)
theorem φFW {v:φQ} {d:φ1} (h:φ3 d=true):φ3 (cutW v d).1=true:=by
 unfold cutW
 refine φ1t ?_ fun k=>φ3I k _
 split
 ·exact h
 ·exact φ5z h _ _
theorem φLf {v:φQ} {d:φ1} (h:φ3 d=true) (n:List UInt8) (hne:n≠φ0 (φO v.2)):φ2 (cutW v d).1 n=φ2 d n:=by
 unfold cutW
 split
 ·rw[φ2r (φ2R h _ _)]
 ·have hk:φ3 (φ3U (φ0 (φO v.2)) (cutN v d:Int) d).1=true:=φ5z h _ _
  rw[φ2r (φ2R hk _ _)]
  exact φOM h _ hne
theorem φKi {v:φQ} {d:φ1} (h:φ3 d=true) (hl:(φ2 d (φ0 (φO v.2))).2=true) (hc:(cutW v d).2=0) :
  φ2 (cutW v d).1 (φ0 (φO v.2))=((φ2 d (φ0 (φO v.2))).1.take (cutN v d),true):=by
 unfold cutW at hc ⊢
 have h0:=(φ46 hc).1
 split
 ·rename_i c
  rw[φ2r (φ2R h _ _),←c,κN]
  exact Prod.ext rfl hl
 ·rename_i c
  rw[if_neg c] at h0
  have hk:φ3 (φ3U (φ0 (φO v.2)) (cutN v d:Int) d).1=true:=φ5z h _ _
  rw[φ2r (φ2R hk _ _),φLZ h0,tN]
theorem φH1 {v:φQ} {d:φ1} (h:φ3 d=true) (hl:(φ2 d (φ0 (φO v.2))).2=true) (hc:(cutW v d).2=0) (id:Int):φ12 (cutW v d).1 id=φ12 d id:=by
 unfold φ12
 by_cases c:φ0 id=φ0 (φO v.2)
 ·rw[c,φKi h hl hc]
  show List.map _ (scan ((φ2 d (φ0 (φO v.2))).1.take (cutN v d))).1=_
  unfold cutN
  rw[φIv]
 ·rw[φLf h _ c]
theorem φFm {d:φ1}:∀(l:List Int),l≠[]→φ2b d l=true→(φ2 d (φ0 (φO l))).2=true
 | [],h,_=>absurd rfl h
 | [x],_,h=>by
  simp only[φ2b,bA] at h
  rw[φ8H];exact h.1
 | x::y::l,_,h=>by
  rw[φ8f]
  have h:φ2b d (x::(y::l))=true:=h
  rw[φ2b,bA,bA] at h
  exact φFm (y::l) (by simp) h.2.2
noncomputable def φ4n (v:φQ) (d:φ1):φ8×φ1×Int:=
 if (cutW v d).2≠0 then (φ1W,(cutW v d).1,told (cutW v d).2) else
 let x:=(cutW v d).1
 let g:=match φ3K x (v.2.getD 0 0) with
  | some g=>φ2H g (φR x (v.2.drop 1))
  | none=>φ2H ([],0,0) (φR x v.2)
 let hinted:=match φ3K x (v.2.getD 0 0) with
  | some _=>v.2.getD 0 0
  | none=>0
 if g.2.2≠0 then (φ1W,x,3) else
 if (φt v x).2≠0 then (φ1W,(φt v x).1,told (φt v x).2) else
 ((v,g.1,w64 (g.2.1+1),(cutN v d:Int),hinted),(φt v x).1,0)
noncomputable def φ2G (d:φ1):φ8×φ1×Int:=
 if φ3 d=false then (φ1W,d,4) else if d.2.2.2=true then (φ1W,d,1) else
 if (φ2 d φb).2=false then φ8L d else
 if (φ3B (φ2 d φb).1).2=false then (φ1W,d,3) else
 if φ2b d (φ3B (φ2 d φb).1).1.2=false then (φ1W,d,3) else φ4n (φ3B (φ2 d φb).1).1 d
theorem φMQ {x:φ1} {id:Int} {g:φ18} (h:φ3K x id=some g):g.1.length≤20∧g.2.2=0:=by
 unfold φ3K at h
 split at h
 ·rename_i c
  simp only[Option.some.injEq] at h
  subst h
  refine ⟨?_,rfl⟩
  rcases φH4 (φ2 x (φL id)).1 with ⟨e,_⟩ | ⟨u,e,hu⟩
  ·rw[e] at c;simp at c
  ·rw[e];exact (φD6 hu.1).2.2.1
 ·simp at h
theorem φDv {x:φ1} {id:Int} {g:φ18} (h:φ3K x id=some g):φ2i g:=by
 obtain ⟨h1,h2⟩:=φMQ h
 unfold φ2i
 rw[if_pos h2];omega
theorem φFr:φ2i ([],0,0):=by unfold φ2i;simp
theorem φBM {x:φ1} (h:φ3 x=true) {ids:List Int} (hl:ids.length≤60):(φR x ids).length<10000000:=by
 have:=φFR h ids
 unfold φR;omega
theorem φN0 (d:φ1) (t:List UInt8) (h:φ3 d=true) (ht:t.length<1000000000) :
  ∃S w,ψ22.f (d,0) t=some (S,w) ∧
   (if w.2≠0 then (φ1W,w.1,w.2) else (S,w.1,(0:Int))) =
   (if (φ3B t).2=false then (φ1W,d,3) else if φ2b d (φ3B t).1.2=false then (φ1W,d,3) else φ4n (φ3B t).1 d):=by
 unfold ψ22.f
 rw[φOS t ht,bS]
 rcases φGQ t with ⟨e,_⟩ | ⟨v,e,hv⟩
 ·rw[e]
  have hs:=φE6 (d,0) φ1F h (by show 0<_;omega)
  rw[if_pos (show φ2b d φ1F.2=true from rfl)] at hs
  simp only[hs,bS,nF,cT,if_true]
  exact ⟨_,_,rfl,by simp⟩
 rw[e]
 have hlen:=φ8l hv.1
 have hpos:=((φ14 v).1 hv.1).2.2.1
 have hs:=φE6 (d,0) v h (by omega)
 simp only[hs,bS]
 cases hc:φ2b d v.2 with
 | false=>
  simp only[κ3,if_false,nZ,cF,nF,cT]
  exact ⟨_,_,rfl,by simp⟩
 | true=>
  have hlast:=φFm v.2 (fun z=>by rw[z] at hpos;simp at hpos) hc
  obtain ⟨l1,l2,l3⟩:=φCV hpos (by omega)
  have hle:=φH3 d v.2 0 (fun z=>by rw[z] at hpos;simp at hpos)
  have hlm:=φ1X (φ13 h) (show 100001≤1000000000 by omega)
  have hT:=φIh d (φ0 (φO v.2)) (cutN v d:Int) hlm
  have hT:ψ1B.f d (φ0 (φO v.2)) (cutN v d:Int)=some (φ3U (φ0 (φO v.2)) (cutN v d:Int) d):=hT
  have hcw:φ43 d v.2 0=(cutN v d:Int):=hle
  simp only[if_true,nZ,cF,κ9,if_false,l1,l2,cT,l3,φ3E,bS,φ4j d _ hlm,hcw]
  -- cut and kept
  have hmid:∃w0:φE,w0=φB (if (φ2 d (φ0 (φO v.2))).1.length=cutN v d then (d,0) else φ3U (φ0 (φO v.2)) (cutN v d:Int) d) ∧
    ((bif ((φ2 d (φ0 (φO v.2))).1.length:Int) != (cutN v d:Int) then
     (ψ1B.f d (φ0 (φO v.2)) (cutN v d:Int)).bind fun (t5_0,t5_1)=>(ψ2B.f (d,0) t5_0 t5_1).bind fun t6=>some (t6,φ1W,v,v.2.map (φ12 d),(cutN v d:Int),φ0 (φO v.2))
     else some ((d,0),φ1W,v,v.2.map (φ12 d),(cutN v d:Int),φ0 (φO v.2)):Option (φE×φ8×φQ×List (List φG)×Int×List UInt8)))=some (w0,φ1W,v,v.2.map (φ12 d),(cutN v d:Int),φ0 (φO v.2)):=by
   refine ⟨_,rfl,?_⟩
   by_cases c:(φ2 d (φ0 (φO v.2))).1.length=cutN v d
   ·rw[φ61 c,if_pos c];rfl
   ·rw[φ6J c,if_neg c,cT,hT,bS]
    generalize φ3U (φ0 (φO v.2)) (cutN v d:Int) d=p
    obtain ⟨p1,p2⟩:=p
    simp only[φ6T,bS];rfl
  obtain ⟨w0,ew0,hmid⟩:=hmid
  have hmid:=hmid
  have hsync:ψ2A.f w0 (φ0 (φO v.2))=some (φB (cutW v d)):=by
   have hd0:φ3 w0.1=true:=by
    rw[ew0]
    show φ3 (if (φ2 d (φ0 (φO v.2))).1.length=cutN v d then (d,(0:Int)) else φ3U (φ0 (φO v.2)) (cutN v d:Int) d).1=true
    split
    ·exact h
    ·exact φ5z h _ _
   rw[φ7M w0 (φ0 (φO v.2)) (φ13 hd0) (by omega),ew0,φ2q];rfl
  refine (show ∃S w,_∧_ from ?_)
  have hx0:inB 0 v.2.length=true:=by rw[show (0:Int)=((0:Nat):Int) from rfl,φF];simp;omega
  have hr0:rdA 0 v.2 0=v.2.getD 0 0:=by rw[show (0:Int)=((0:Nat):Int) from rfl,φJ]
  have hsl:(decide (0≤(1:Int)) && decide (1≤((v.2.map (φ12 d)).length:Int)))=true:=by rw[lM];simp;omega
  have hd1:=φFW (v:=v) h
  have hpl:=fun hc2=>φH1 (v:=v) h hlast hc2
  unfold φ4n
  have hfl:∀ids:List Int,(cutW v d).2=0→(ids.map (φ12 d)).flatten=φR (cutW v d).1 ids:=fun ids hc2=>by
   unfold φR
   rw[List.flatMap_def]
   congr 1
   exact List.map_congr_left fun id _=>(hpl hc2 id).symm
  have hmap:∀(ids:List Int),∀l∈ids.map (φ12 d),l.length≤100000:=fun ids l hl=>by
   obtain ⟨id,_,rfl⟩:=mM.1 hl;exact φD8 h id
  rw[show (((d,(0:Int)):φE).1)=d from rfl] at *
  rw[hmid,bS]
  simp only[hsync,bS]
  generalize hW:cutW v d=W at *
  obtain ⟨x,c⟩:=W
  by_cases c0:c=0
  rotate_left
  ·have t1:(told c != 0)=true:=by rw[φ6P];simpa using c0
   have t2:told c≠0:=fun z=>c0 ((φ1B c).1 z)
   rw[if_pos c0]
   simp only[φB,t1,cT]
   exact ⟨_,_,rfl,by rw[if_pos t2]⟩
  subst c0
  have hd1:φ3 x=true:=hd1
  rw[if_neg (by simp)]
  have t1:(told 0 != 0)=false:=rfl
  have t0:told 0=0:=rfl
  have hh:=φOY (x,0) (v.2.getD 0 0) hd1
  simp only[φB,t1,t0,cF,hx0,cT,hr0,hh,bS]
  -- the end,alike for both ways
  have fin:∀(g0:φ18) (ids:List Int) (hin:Int),φ2i g0→ids.length≤60 →
    ∃S w,((lp ψ22.l0 ((x,0),φ1W,(v.1,[]),(v,[],0,(cutN v d:Int),hin),g0,[],ids.map (φ12 d),((ids.map (φ12 d)).length:Int),0)).bind (fun (x0,x4,x5,x13,x14,x16)=>
     (ψq.f x14 x16).bind fun t10=>
     bif t10.2.2 != 0 then some (φ1W,(x0.1,3)) else
     (ψ25.f x0 (x5.1,x13.1.2)).bind fun t11=>some ((x13.1,t10.1,w64 (t10.2.1+1),x13.2.2.2),t11)):Option (φ8×φE))=some (S,w) ∧
    (if w.2≠0 then (φ1W,w.1,w.2) else (S,w.1,(0:Int))) =
     (if (φ2H g0 (φR x ids)).2.2≠0 then (φ1W,x,3) else if (φt v x).2≠0 then (φ1W,(φt v x).1,told (φt v x).2) else
      ((v,(φ2H g0 (φR x ids)).1,w64 ((φ2H g0 (φR x ids)).2.1+1),(cutN v d:Int),hin),(φt v x).1,0)):=by
   intro g0 ids hin hg hi
   rw[φOc (x,0) v (v,[],0,(cutN v d:Int),hin) g0 (ids.map (φ12 d)) v (hmap ids) (by rw[lM];omega),bS]
   have hfl2:=hfl ids rfl
   have hrg:=φM6 g0 (φR x ids) (φBM hd1 hi) hg
   have hor:=φH9 (x,0) (v.1,v.2) hd1 (by show v.2.length<_;omega)
   have ewd:φ50 (φ3O x v) (x,0)=φB (φt v x):=φBX _ (x,0)
   have hor:ψ25.f (x,0) (v.1,v.2)=some (φB (φt v x)):=hor.trans (by rw[←ewd])
   simp only[hfl2,hrg,bS]
   by_cases c1:(φ2H g0 (φR x ids)).2.2=0
   rotate_left
   ·have d1:((φ2H g0 (φR x ids)).2.2 != 0)=true:=by simpa using c1
    rw[d1,cT,if_pos c1]
    exact ⟨_,_,rfl,by simp⟩
   have d1:((φ2H g0 (φR x ids)).2.2 != 0)=false:=by simpa using c1
   rw[d1,cF,if_neg (fun z=>z c1),hor,bS]
   refine ⟨_,_,rfl,?_⟩
   generalize φt v x=S2
   obtain ⟨y,c2⟩:=S2
   by_cases c3:c2=0
   ·subst c3;simp[φB,told]
   ·have t2:told c2≠0:=fun z=>c3 ((φ1B c2).1 z)
    simp[φB,t2,c3]
  cases hg:φ3K x (v.2.getD 0 0) with
  | some g=>
   simp only[cT,hx0,hsl,hr0,bS]
   have e1:(v.2.map (φ12 d)).drop 1=(v.2.drop 1).map (φ12 d):=by rw[List.map_drop]
   rw[e1]
   exact fin g (v.2.drop 1) (v.2.getD 0 0) (φDv hg) (by rw[lD];omega)
  | none=>
   simp only[cF,bS]
   exact fin ([],0,0) v.2 0 φFr hlen
theorem φEY (d:φ1) (hd:dl 1048577 d):ψd.f d=some (φ2G d):=by
 have hlm:=φ1X hd (by omega)
 unfold ψd.f φ2G
 rw[φ5R d (by have:=hd.1;omega),bS,φ5q d hlm,bS]
 cases h:φ3 d with
 | false=>rfl
 | true=>
  simp only[nZ,cF,κ9,if_false]
  obtain ⟨fs,cap,fuel,down⟩:=d
  cases hdn:down with
  | true=>rfl
  | false=>
   subst hdn
   simp only[cF,κ3,if_false]
   have hft:=φ4j (fs,cap,fuel,false) φb hlm
   have hft:ψP.f (fs,cap,fuel,false) [108,105,118,101]=_:=hft
   rw[hft,bS]
   have htl:=φ6L h φb
   generalize ((fs,cap,fuel,false):φ1)=d at *
   generalize φ2 d φb=q at htl ⊢
   obtain ⟨t,b⟩:=q
   cases b with
   | false=>
    simp only[cF,if_true]
    obtain ⟨w,e1,e2⟩:=φMu d h
    simp only[e1,bS]
    unfold φ8L
    rw[e2]
    generalize sPut (2,[1]) (φA (φW (φ0 1)) (φt φ1F d))=p
    obtain ⟨y,c⟩:=p
    by_cases c0:c=0
    ·subst c0;simp[φB,told]
    ·have t1:(told c != 0)=true:=by rw[φ6P];simpa using c0
     simp only[φB,t1,cT]
     rw[if_pos c0]
   | true=>
    simp only[cT,κ9,if_false]
    obtain ⟨S,w,e1,e2⟩:=φN0 d t h (by have:t.length≤100000:=htl;omega)
    rw[←e2]
    simp only[e1,bS]
    obtain ⟨y,c⟩:=w
    by_cases c0:c=0
    ·subst c0;simp
    ·have t1:(c != 0)=true:=by simpa using c0
     simp only[t1,cT]
     rw[if_pos c0]
theorem φDX:∀(r pre:List φG) (g:φ18),φ2i g→pre.length+r.length<10000000→φ2i (φq pre r g)
 | [],_,g,h,_=>h
 | p::r,pre,g,h,hl=>by
  unfold φq
  simp only[lC] at hl
  split
  ·exact h
  ·rename_i c
   exact φDX r (pre++[p]) _ (φI2 h (by simpa using c) (by omega)) (by simp only[lA,κA];omega)
theorem φGu {g:φ18} {l:List φG} (h:φ2i g) (hl:l.length<10000000):(φ2H g l).1.length≤11000020:=by
 have:=φDX l [] g h (by simpa using hl)
 unfold φ2i at this
 unfold φ2H φ7L
 split
 ·show (φq [] l g).1.length≤_
  split at this<;>omega
 ·split at this<;>omega
noncomputable def φ4w (v:φQ) (x:φ1) (e:Int) (g:φ18) (hin:Int):φ8×φ1×Int:=
 if g.2.2≠0 then (φ1W,x,3) else
 if (φt v x).2≠0 then (φ1W,(φt v x).1,told (φt v x).2) else
 ((v,g.1,w64 (g.2.1+1),e,hin),(φt v x).1,0)
theorem φHi (v:φQ) (d:φ1):φ4n v d=if (cutW v d).2≠0 then (φ1W,(cutW v d).1,told (cutW v d).2) else
  match φ3K (cutW v d).1 (v.2.getD 0 0) with
  | some g=>φ4w v (cutW v d).1 (cutN v d:Int) (φ2H g (φR (cutW v d).1 (v.2.drop 1))) (v.2.getD 0 0)
  | none=>φ4w v (cutW v d).1 (cutN v d:Int) (φ2H ([],0,0) (φR (cutW v d).1 v.2)) 0:=by
 unfold φ4n
 by_cases c:(cutW v d).2≠0
 ·rw[if_pos c,if_pos c]
 ·rw[if_neg c,if_neg c]
  simp only
  cases φ3K (cutW v d).1 (v.2.getD 0 0)<;>rfl
theorem φHq {v:φQ} {x:φ1} (e:Int) (g:φ18) (hin:Int) (h:φ3 x=true) (hl:v.2.length≤60) (hg:g.1.length≤11000020) :
  φ3 (φ4w v x e g hin).2.1=true∧(φ4w v x e g hin).1.1.2.length≤60∧(φ4w v x e g hin).1.2.1.length≤11000020:=by
 unfold φ4w
 have hs:=φ8q h v
 split
 ·exact ⟨h,by simp,by simp⟩
 split
 ·exact ⟨hs,by simp,by simp⟩
 exact ⟨hs,hl,hg⟩
theorem φLQ {d:φ1} (h:φ3 d=true):φ3 (φ2G d).2.1=true∧(φ2G d).1.1.2.length≤60∧(φ2G d).1.2.1.length≤11000020:=by
 unfold φ2G
 rw[if_neg (by rw[h];simp)]
 split
 ·exact ⟨h,by simp,by simp⟩
 split
 ·unfold φ8L
  have h1:φ3 (sPut (2,[1]) (φA (φW (φ0 1)) (φt φ1F d))).1=true:=φ3i (φ1t (φ8q h φ1F) fun k=>φ33 k _) _
  simp only
  split
  ·exact ⟨h1,by simp,by simp⟩
  ·exact ⟨h1,by simp,by simp⟩
 split
 ·exact ⟨h,by simp,by simp⟩
 rename_i hv
 split
 ·exact ⟨h,by simp,by simp⟩
 rcases φGQ (φ2 d φb).1 with ⟨e,_⟩ | ⟨v,e,hlv⟩
 ·rw[e] at hv;simp at hv
 rw[e]
 show φ3 (φ4n v d).2.1=true∧(φ4n v d).1.1.2.length≤60∧(φ4n v d).1.2.1.length≤11000020
 have hlen:=φ8l hlv.1
 have hd1:=φFW (v:=v) h
 rw[φHi]
 split
 ·exact ⟨hd1,by simp,by simp⟩
 cases hg:φ3K (cutW v d).1 (v.2.getD 0 0) with
 | some g=>exact φHq _ _ _ hd1 hlen (φGu (φDv hg) (φBM hd1 (by rw[lD];omega)))
 | none=>exact φHq _ _ _ hd1 hlen (φGu φFr (φBM hd1 hlen))
theorem φLm:φ0 1=[115,101,103,49]:=by
 unfold φ0 φ2K
 rw[if_pos (by decide)]
 show _++Lib.decDigits 1=_
 rw[Lib.decDigits_one (by decide)]
 rfl
theorem φMM:(φn (2,[1])).length=8:=by
 unfold φn
 rw[if_neg (by decide)]
 have e2:varT 2=[2]:=by rw[show (2:Int)=((2:Nat):Int) from rfl,φ54 2 (by decide),φ5m (by decide)];rfl
 have e1:varT 1=[1]:=by rw[show (1:Int)=((1:Nat):Int) from rfl,φ54 1 (by decide),φ5m (by decide)];rfl
 have e:varT (2,[1]).1++varT (((2,[1]):φQ).2.length:Int)++(((2,[1]):φQ).2.map varT).flatten=[2,1,1]:=by
  show varT 2++varT 1++(varT 1++[])=_
  rw[e2,e1];rfl
 rw[e]
 obtain ⟨h1,h2⟩:=φ9Y (t:=[2,1,1]) (by decide)
 rw[h1,lA,h2,lA,φ5m (by decide)]
 rfl
theorem φ5Z {d:φ1} {c:Int} (h:φ3 d=true) (hf:d.2=(c,-1,false)) (act:List φ6→Int×List φ6):φT d act=(((act d.1).2,c,-1,false),(act d.1).1):=by
 obtain ⟨l,t⟩:=d
 simp only at hf
 subst hf
 unfold φT tick
 rw[if_neg (by rw[h];simp),if_neg (by simp)]
 simp
def dNew (n:Nat):φ1:=([(φb,φn (2,[1]),8),(φ0 1,[],0)],(n:Int),-1,false)
abbrev d0N (n:Nat):φ1:=([],(n:Int),-1,false)
theorem φMK (n:Nat) (h:n≤100000):∃y,φ3 y=true∧sPut (2,[1]) (φA (φW (φ0 1)) (φt φ1F (d0N n)))=if n<8 then (y,2) else (dNew n,0):=by
 have k0:φ3 (d0N n)=true:=φ7f (n:Int) (by omega)
 have hsw:φt φ1F (d0N n)=(d0N n,0):=by
  unfold φt φ3O
  rw[if_neg (by rw[k0];simp)];rfl
 have hL:=φMM
 unfold dNew sPut φ1O
 generalize φn (2,[1])=L at hL ⊢
 rw[hsw,φ2V,φLm]
 -- the segment
 have s1:φW [115,101,103,49] (d0N n)=(([([115,101,103,49],[],0)],(n:Int),-1,false),0):=by
  show φT _ _=_
  rw[φ5Z k0 rfl]
  have:φ2g [115,101,103,49] []=(0,[([115,101,103,49],[],0)]):=by decide
  rw[this]
 have k1:=φ33 k0 [115,101,103,49]
 rw[s1] at k1 ⊢
 have k1:φ3 (([([115,101,103,49],[],0)],(n:Int),-1,false):φ1)=true:=k1
 rw[φ2V]
 have s2:φD [116,101,109,112] (([([115,101,103,49],[],0)],(n:Int),-1,false):φ1)=(([([115,101,103,49],[],0)],(n:Int),-1,false),0):=by
  unfold φD
  rw[if_neg (show ¬φ1j ([([115,101,103,49],[],0)]:List φ6) [116,101,109,112]≥0 by decide)]
 rw[s2,φ2V]
 have s3:φW [116,101,109,112] (([([115,101,103,49],[],0)],(n:Int),-1,false):φ1)=(([([115,101,103,49],[],0),([116,101,109,112],[],0)],(n:Int),-1,false),0):=by
  show φT _ _=_
  rw[φ5Z k1 rfl]
  have:φ2g [116,101,109,112] [([115,101,103,49],[],0)]=(0,[([115,101,103,49],[],0),([116,101,109,112],[],0)]):=by decide
  rw[this]
 have k2:=φ33 k1 [116,101,109,112]
 rw[s3] at k2 ⊢
 have k2:φ3 (([([115,101,103,49],[],0),([116,101,109,112],[],0)],(n:Int),-1,false):φ1)=true:=k2
 rw[φ2V]
 have k3:=φ3N k2 [116,101,109,112] L
 by_cases c:n<8
 ·simp only[if_pos c]
  have s4:φN [116,101,109,112] L (([([115,101,103,49],[],0),([116,101,109,112],[],0)],(n:Int),-1,false):φ1)=(([([115,101,103,49],[],0),([116,101,109,112],[],0)],(n:Int),-1,false),2):=by
   show φT _ _=_
   rw[φ5Z k2 rfl]
   unfold φ2T
   have:([([115,101,103,49],[],0),([116,101,109,112],[],0)]:List φ6).findIdx? (fun f=>f.1==[116,101,109,112])=some 1:=by decide
   rw[this]
   have hu:φK ([([115,101,103,49],[],0),([116,101,109,112],[],0)]:List φ6)=0:=by decide
   simp only[hu]
   rw[if_pos (by omega)]
  rw[s4,φ2s (show (2:Int)≠0 by decide),φ2s (show (2:Int)≠0 by decide)]
  exact ⟨_,k2,rfl⟩
 ·simp only[if_neg c]
  have s4:φN [116,101,109,112] L (([([115,101,103,49],[],0),([116,101,109,112],[],0)],(n:Int),-1,false):φ1)=(([([115,101,103,49],[],0),([116,101,109,112],L,0)],(n:Int),-1,false),0):=by
   show φT _ _=_
   rw[φ5Z k2 rfl]
   unfold φ2T
   have:([([115,101,103,49],[],0),([116,101,109,112],[],0)]:List φ6).findIdx? (fun f=>f.1==[116,101,109,112])=some 1:=by decide
   rw[this]
   have hu:φK ([([115,101,103,49],[],0),([116,101,109,112],[],0)]:List φ6)=0:=by decide
   simp only[hu]
   rw[if_neg (by omega)]
   rfl
  rw[s4] at k3 ⊢
  have k3:φ3 (([([115,101,103,49],[],0),([116,101,109,112],L,0)],(n:Int),-1,false):φ1)=true:=k3
  rw[φ2V]
  have k4:=φ3I k3 [116,101,109,112]
  have s5:φH [116,101,109,112] (([([115,101,103,49],[],0),([116,101,109,112],L,0)],(n:Int),-1,false):φ1)=(([([115,101,103,49],[],0),([116,101,109,112],L,8)],(n:Int),-1,false),0):=by
   show φT _ _=_
   rw[φ5Z k3 rfl]
   unfold φ28
   have:([([115,101,103,49],[],0),([116,101,109,112],L,0)]:List φ6).findIdx? (fun f=>f.1==[116,101,109,112])=some 1:=rfl
   rw[this]
   show ((([([115,101,103,49],[],0),([116,101,109,112],L,(L.length:Int))]:List φ6),(n:Int),-1,false),(0:Int))=_
   rw[hL];rfl
  rw[s5] at k4 ⊢
  have k4:φ3 (([([115,101,103,49],[],0),([116,101,109,112],L,8)],(n:Int),-1,false):φ1)=true:=k4
  rw[φ2V]
  have s6:φ2Z [116,101,109,112] [108,105,118,101] (([([115,101,103,49],[],0),([116,101,109,112],L,8)],(n:Int),-1,false):φ1)=(([([108,105,118,101],L,8),([115,101,103,49],[],0)],(n:Int),-1,false),0):=by
   show φT _ _=_
   rw[φ5Z k4 rfl]
   unfold φ2L
   have:([([115,101,103,49],[],0),([116,101,109,112],L,8)]:List φ6).findIdx? (fun f=>f.1==[116,101,109,112])=some 1:=rfl
   rw[this,if_neg (by decide)]
   rfl
  rw[s6]
  exact ⟨_,k4,rfl⟩
theorem φDw (n:Nat) (h:n≤100000):∃y,φ3 y=true∧φ2G (d0N n)=if n<8 then (φ1W,y,2) else (((2,[1]),[],1,0,0),dNew n,0):=by
 have k0:φ3 (d0N n)=true:=φ7f (n:Int) (by omega)
 obtain ⟨y,hy,e⟩:=φMK n h
 refine ⟨y,hy,?_⟩
 have ht:φ2 (d0N n) φb=([],false):=φ7x fun f hf=>by simp at hf
 unfold φ2G
 rw[if_neg (by rw[k0];simp),if_neg (by simp),if_pos (by rw[ht])]
 unfold φ8L
 rw[e]
 split
 ·rename_i c;rfl
 ·rename_i c;rfl
theorem φFk (n:Nat) (h:n≤100000) (h8:8≤n):φ3 (dNew n)=true:=by
 have k0:φ3 (d0N n)=true:=φ7f (n:Int) (by omega)
 obtain ⟨y,hy,e⟩:=φDw n h
 rw[if_neg (by omega)] at e
 have:=(φLQ k0).1
 rw[e] at this
 exact this
theorem φBJ (n:Nat) (h:n≤100000) (h8:8≤n):φ2 (dNew n) φb=(φn (2,[1]),true)∧φ2 (dNew n) (φ0 1)=([],true)∧∀m,m≠φb→m≠φ0 1→φ2 (dNew n) m=([],false):=by
 have hk:=φFk n h h8
 refine ⟨φ2l hk (f:=(φb,φn (2,[1]),8)) (by simp[dNew]),φ2l hk (f:=(φ0 1,[],0)) (by simp[dNew]),fun m h1 h2=>φ7x fun f hf=>?_⟩
 simp only[dNew,mc,List.not_mem_nil,or_false] at hf
 rcases hf with rfl | rfl
 ·exact Ne.symm h1
 ·exact Ne.symm h2
theorem φL2 {s:List UInt8} {v:φQ} (h:φ3Q s v) (hl:s.length<1000000000):φ3B s=(v,true):=by
 have h1:=φI0 h
 rw[φNE s hl] at h1
 exact Option.some.inj h1
theorem φ7Y (i:Int):φL i≠φb:=by
 unfold φL φ2K
 split
 ·intro e
  have:=congrArg (fun l=>l.getD 0 0) e
  simp[φb] at this
 ·simp[φb]
theorem φOT (i:Int):φL i≠φ1G:=by
 unfold φL φ2K
 split
 ·intro e
  have:=congrArg (fun l=>l.getD 0 0) e
  simp[φ1G] at this
 ·simp[φ1G]
theorem φOa:¬∃id,φ3R φb id:=by
 rintro ⟨id,_,e | e⟩
 ·exact φ2f id e.symm
 ·exact φ7Y id e.symm
theorem φO0 (n:Nat) (h:n≤100000) (h8:8≤n):φh ((2,[1]),[],1,0,0) (dNew n)=true:=by
 obtain ⟨t1,t2,t3⟩:=φBJ n h h8
 refine φi.2 ⟨φFk n h h8,by decide,by decide,by decide,?_,fun e he=>by simp at he⟩
 refine (φ1y _).2 ⟨fun id hid=>?_,fun _=>?_⟩
 ·have hid:id=1:=by simpa using hid
  subst hid
  rw[t2];exact ⟨rfl,φHv⟩
 ·show (0:Int)=((φ2 _ (φ0 1)).1.length:Int)
  rw[t2];rfl
theorem φLD {v:φQ} {x:φ1} (h:φ3 x=true) {n:List UInt8} (hn:n∈φ3O x v):(∃id,φ3R n id∧id ∉ v.2)∨n=φ1G:=by
 unfold φ3O at hn
 rw[if_neg (by rw[h];simp)] at hn
 obtain ⟨f,hf,rfl⟩:=mM.1 hn
 have ho:=(List.mem_filter.1 hf).2
 unfold φ4d at ho
 rw[κW,bA] at ho
 rcases ho with ⟨h1,h2⟩ | h1
 ·left
  refine ⟨(idOf f.1).1,φIX (by rw[←h1]),fun hi=>?_⟩
  have:(v.2.any fun i=>i==(idOf f.1).1)=true:=List.any_eq_true.2 ⟨_,hi,by simp⟩
  rw[this] at h2;simp at h2
 ·right;simpa using h1
theorem φDS {v:φQ} {x:φ1} (h:φ3 x=true) {n:List UInt8} (hn:∀id,φ3R n id→id∈v.2) (ht:n≠φ1G):φ2 (φt v x).1 n=φ2 x n:=by
 refine φ9o (φ3O x v) (w:=(x,0)) h fun m hm e=>?_
 subst e
 rcases φLD h hm with ⟨id,hid,hno⟩ | e
 ·exact hno (hn id hid)
 ·exact ht e
theorem φJ7 {id:Int} (h:1≤id∧id≤100000):φ3R (φ0 id) id:=⟨h,.inl rfl⟩
theorem φBv {v:φQ} (h:φm v=true) {id:Int} (hi:id∈v.2):1≤id∧id≤100000∧id<v.1:=by
 obtain ⟨k1,k2,k3,k4⟩:=(φ14 v).1 h
 rw[φI (by omega) (by omega)] at k1
 have:=φ3m _ _ k1 id hi
 omega
theorem φ5x {A B σ:Type} {step:(A→Option B)→A→Option B} (st:Nat→σ→A) (N:Nat) (Inv:Nat→σ→Prop) (Post:B→Prop)
  (hz:∀rec s,Inv N s→∃b,step rec (st N s)=some b∧Post b)
  (hs:∀rec n s,n<N→Inv n s→∃s',Inv (n+1) s'∧step rec (st n s)=rec (st (n+1) s')) (s:σ) (hi:Inv 0 s) (hn:N<2 ^ 62):∃b,lp step (st 0 s)=some b∧Post b:=by
 have key:=φAV (step:=step) (fun k (s:σ)=>st (N - k) s) (fun k s=>Inv (N - k) s∧k≤N) Post
  (fun rec s hi=>hz rec s hi.1)
  (fun rec k s hi=>by
   obtain ⟨h1,h2⟩:=hi
   have e:N - (k+1)+1=N - k:=by omega
   obtain ⟨s',h3,h4⟩:=hs rec (N - (k+1)) s (by omega) h1
   rw[e] at h3 h4
   exact ⟨s',⟨h3,by omega⟩,h4⟩)
  N s ⟨by rw[Nat.sub_self];exact hi,κ6 _⟩ hn
 simpa using key
def Free (d:φ1):Prop:=d.2.2=(-1,false)
theorem φ1I {d:φ1} {act:List φ6→Int×List φ6} (h:Free d):Free (φT d act).1:=by
 unfold φT
 split
 ·exact h
 ·split
  ·rename_i c
   rw[show d.2.2=(-1,false) from h] at c
   simp at c
  ·show (tick d).2.2=_
   unfold tick
   rw[if_neg]
   ·exact h
   ·rw[show d.2.2=(-1,false) from h];simp
theorem φLg {d:φ1} {act:List φ6→Int×List φ6} (h:(φT d act).2=0):d.2.2.2=false:=by
 unfold φT at h
 split at h
 ·simp at h
 split at h
 ·simp at h
 rename_i c
 cases hd:d.2.2.2 with
 | false=>rfl
 | true=>exact absurd (.inl hd) c
theorem φ9h {d:φ1} {act:List φ6→Int×List φ6} (h:d.2.2.2=true):(φT d act).1.2.2.2=true:=by
 unfold φT
 split
 ·exact h
 ·rw[if_pos (.inl h)]
theorem φ5M {P:φ1→Prop} (hP:∀(d:φ1) (act:List φ6→Int×List φ6),P d→P (φT d act).1) (n:List UInt8) {d:φ1} (h:P d):P (φD n d).1:=by
 unfold φD
 split
 ·exact hP d _ h
 ·exact h
theorem φ3p {P:φ1→Prop} (hP:∀(d:φ1) (act:List φ6→Int×List φ6),P d→P (φT d act).1) {op:φ1→φ1×Int} (ho:∀d,P d→P (op d).1) {w:φE} (h:P w.1):P (φA op w).1:=by
 unfold φA
 split
 ·exact ho _ h
 ·exact h
theorem φ7H {P:φ1→Prop} (hP:∀(d:φ1) (act:List φ6→Int×List φ6),P d→P (φT d act).1) (n:List UInt8) {w:φE} (h:P w.1):P (sNew n w).1:=
 φ3p hP (fun d k=>hP d _ k) (φ3p hP (fun d k=>φ5M hP n k) h)
theorem φ9g {P:φ1→Prop} (hP:∀(d:φ1) (act:List φ6→Int×List φ6),P d→P (φT d act).1) (n t:List UInt8) {w:φE} (h:P w.1):P (φ1O n t w).1:=
 φ3p hP (fun d k=>hP d _ k) (φ3p hP (fun d k=>hP d _ k) (φ3p hP (fun d k=>hP d _ k) (φ3p hP (fun d k=>φ5M hP n k) h)))
theorem φ7l {P:φ1→Prop} (hP:∀(d:φ1) (act:List φ6→Int×List φ6),P d→P (φT d act).1) (v:φQ) {w:φE} (h:P w.1):P (sPut v w).1:=
 φ3p hP (fun d k=>hP d _ k) (φ9g hP _ _ h)
theorem φG3 {P:φ1→Prop} (hP:∀(d:φ1) (act:List φ6→Int×List φ6),P d→P (φT d act).1) (n:List UInt8):∀(recs:List RecT) {w:φE},P w.1→P (sApp n recs w).1
 | [],w,h=>h
 | r::recs,w,h=>φG3 hP n recs (w:=φA (φN n (frame (φ7 r))) w) (φ3p hP (fun d k=>hP d _ k) h)
theorem φ98 {P:φ1→Prop} (hP:∀(d:φ1) (act:List φ6→Int×List φ6),P d→P (φT d act).1) (m:Int) (recs:List RecT) {w:φE} (h:P w.1):P (sWM m recs w).1:=
 φ3p hP (fun d k=>hP d _ k) (φG3 hP _ recs (φ7H hP _ h))
theorem φ5P {P:φ1→Prop} (hP:∀(d:φ1) (act:List φ6→Int×List φ6),P d→P (φT d act).1):∀(names:List (List UInt8)) {w:φE},P w.1→P (φo names w).1
 | [],w,h=>h
 | n::names,w,h=>φ5P hP names (w:=φA (φD n) w) (φ3p hP (fun d k=>φ5M hP n k) h)
theorem φAb {P:φ1→Prop} (hP:∀(d:φ1) (act:List φ6→Int×List φ6),P d→P (φT d act).1):∀(ids:List Int) {w:φE},P w.1→P (sOld ids w).1
 | [],w,h=>h
 | i::ids,w,h=>φAb hP ids (w:=φo [φ0 i,φL i] w) (φ5P hP _ h)
theorem φ9P {P:φ1→Prop} (hP:∀(d:φ1) (act:List φ6→Int×List φ6),P d→P (φT d act).1) (m:Int) {d:φ1} (h:P d):P (φ1u m d).1:=by
 unfold φ1u
 simp only
 have:=φ9g hP (φL m) (φ1U (φ16 m (φ2 d (φ0 m)).1).1) (w:=(d,0)) h
 split
 ·exact φ5M hP _ this
 ·exact this
theorem φ7v {n t:List UInt8} {w:φE} (h:(φ1O n t w).2=0):w.2=0∧φ2 (φ1O n t w).1 n=(t,true):=by
 unfold φ1O at h ⊢
 obtain ⟨h1,h2,h3⟩:=φ46 (op:=φH n) h
 obtain ⟨h4,h5,h6⟩:=φ46 (op:=φN n t) h1
 have h4:(sNew n w).2=0:=h4
 obtain ⟨h7,h8⟩:=φ7T h4
 obtain ⟨a1,a2⟩:=φ4D h5
 have a2:φ2 (φN n t (sNew n w).1).1 n=((φ2 (sNew n w).1 n).1++t,true):=a2
 rw[h3,h6]
 obtain ⟨k,_,_⟩:=φ5v h2
 rw[h6] at k
 refine ⟨h7,?_⟩
 rw[φ2R k n n]
 show φ2 (φN n t (sNew n w).1).1 n=_
 rw[a2,h8];rfl
theorem φFD {v:φQ} {w:φE} (h:(sPut v w).2=0):w.2=0∧φ2 (sPut v w).1 φb=(φn v,true):=by
 unfold sPut at h ⊢
 obtain ⟨h1,h2,h3⟩:=φ46 h
 obtain ⟨h4,h5⟩:=φ7v h1
 refine ⟨h4,?_⟩
 rw[h3]
 show φ2 (φ2Z [116,101,109,112] [108,105,118,101] (φ1O [116,101,109,112] (φn v) w).1).1 φb=_
 rw[φLY h2,h5]
theorem φFP {s:φ8} {d:φ1} (l:List φX) (h:φ3 d=true) (hc:(φ15 s d l).2.2=0):∃w1 w2:φE,
  w1=sNew (φ0 (s.1.1+1)) (sWM s.1.1 (φZ l (s.2.2.1 - 1)) (d,0))∧w1.2=0∧φ3 w1.1=true∧w2=φ1u s.1.1 w1.1∧w2.2=0∧φ3 w2.1=true ∧
  (sPut (s.1.1+2,[s.1.1,s.1.1+1]) w2).2=0∧(φ15 s d l).2.1=(sOld s.1.2 ((sPut (s.1.1+2,[s.1.1,s.1.1+1]) w2).1,0)).1:=by
 have g1:=φ68 s.1.1 (φZ l (s.2.2.1 - 1)) (w:=(d,0)) h
 have g2:=φ4A g1 (φ0 (s.1.1+1))
 unfold φ15 at hc ⊢
 simp only at hc ⊢
 generalize hw1:sNew (φ0 (s.1.1+1)) (sWM s.1.1 (φZ l (s.2.2.1 - 1)) (d,0))=w1 at *
 have g3:φ3 (φr s.1.1 w1).1=true:=by
  unfold φr;split
  ·exact g2
  ·exact φ6n _ g2
 by_cases z:(if (φr s.1.1 w1).2=0 then φB (sPut (s.1.1+2,[s.1.1,s.1.1+1]) (φr s.1.1 w1)) else φB (φr s.1.1 w1)).2=0
 rotate_left
 ·rw[if_pos z] at hc
  exfalso
  revert hc
  generalize (if (φr s.1.1 w1).2=0 then φB (sPut (s.1.1+2,[s.1.1,s.1.1+1]) (φr s.1.1 w1)) else φB (φr s.1.1 w1))=w3 at *
  unfold φ1d
  split
  ·split
   ·simp
   ·rename_i c4;exact c4
  ·exact z
 have z2:(φr s.1.1 w1).2=0:=by
  by_cases c:(φr s.1.1 w1).2=0
  ·exact c
  ·rw[if_neg c] at z;exact (φ1B _).1 z
 rw[if_pos z2] at z hc
 rw[if_pos z2]
 have z3:(sPut (s.1.1+2,[s.1.1,s.1.1+1]) (φr s.1.1 w1)).2=0:=(φ1B _).1 z
 have z1:w1.2=0:=by
  unfold φr at z2
  split at z2
  ·exact z2
  ·rename_i c;simpa using c
 have zh:φr s.1.1 w1=φ1u s.1.1 w1.1:=by
  unfold φr;rw[if_neg (by simpa using z1)]
 rw[if_neg (by simpa using z)]
 rw[zh] at z2 z3 g3 ⊢
 exact ⟨w1,φ1u s.1.1 w1.1,rfl,z1,g2,rfl,z2,g3,z3,rfl⟩
structure MergedF (s:φ8) (d:φ1) (l:List φX) (S:φ8) (y:φ1):Prop extends Merged s d l S y where
 liv:φ2 y φb=(φn (s.1.1+2,[s.1.1,s.1.1+1]),true)
 hin:(φ2 y (φL s.1.1)).2=false∨φ2 y (φL s.1.1)=(φ1U (φ16 s.1.1 (txt (φZ l (s.2.2.1 - 1)))).1,true)
 fre:0 > d.2.2.1→Free y
theorem φGr {s:φ8} {d:φ1} (l:List φX) (h:φ3 d=true) (hv:φm s.1=true) (h2:s.1.1+2≤100000) (hc:(φ15 s d l).2.2=0):MergedF s d l (φ15 s d l).1 (φ15 s d l).2.1:=by
 have hM:=φFj l h hv h2 hc
 refine ⟨hM,?_,?_,?_⟩
 all_goals
  obtain ⟨w1,w2,hw1,z1,g1,hw2,z2,g2,z3,hy⟩:=φFP l h hc
  obtain ⟨k1,k2,k3,k4⟩:=(φ14 s.1).1 hv
  rw[φI (by omega) (by omega)] at k1
  have hids:=φ3m _ _ k1
  have g3:φ3 (sPut (s.1.1+2,[s.1.1,s.1.1+1]) w2).1=true:=φ3i (v:=(s.1.1+2,[s.1.1,s.1.1+1])) g2
 ·rw[hy,φ6D s.1.2 (w:=((sPut (s.1.1+2,[s.1.1,s.1.1+1]) w2).1,0)) g3 (fun id hid=>⟨(φ2f id).symm,(φ7Y id).symm⟩)]
  exact (φFD z3).2
 ·have e1:∀n,n≠φ1G→n≠φb→(∀id∈s.1.2,n≠φ0 id∧n≠φL id)→φ2 (φ15 s d l).2.1 n=φ2 w2.1 n:=fun n q1 q2 q3=>by
   rw[hy,φ6D s.1.2 (w:=((sPut (s.1.1+2,[s.1.1,s.1.1+1]) w2).1,0)) g3 q3]
   exact φ7O g2 _ q1 q2
  have e2:φ2 (φ15 s d l).2.1 (φL s.1.1)=φ2 w2.1 (φL s.1.1):=e1 _ (φOT _) (φ7Y _) fun id hid=>by
   have:=hids id hid
   refine ⟨fun e=>φ41 id s.1.1 (by omega) e.symm,fun e=>?_⟩
   have:=φE4 (by omega) (by omega) e
   omega
  have hf:=φ4i (w:=(w1.1,0)) g1 (φL s.1.1) (φ1U (φ16 s.1.1 (φ2 w1.1 (φ0 s.1.1)).1).1)
  have e3:φ2 (φ15 s d l).2.1 (φ0 s.1.1)=φ2 w1.1 (φ0 s.1.1):=by
   rw[e1 _ (φ4N _) (φ2f _) fun id hid=>by
    have:=hids id hid
    refine ⟨fun e=>?_,φ41 _ _ (by omega)⟩
    have:=φ3w (by omega) (by omega) e
    omega]
   rw[hw2]
   unfold φ1u
   simp only
   split
   ·rw[φ4v hf (φ41 _ _ (by omega)),φ4y (w:=(w1.1,0)) g1 (φ41 _ _ (by omega))]
   ·rw[φ4y (w:=(w1.1,0)) g1 (φ41 _ _ (by omega))]
  rw[hM.one] at e3
  rw[e2]
  rw[←e3] at hf
  rw[hw2] at z2 ⊢
  unfold φ1u at z2 ⊢
  rw[←e3] at z2 ⊢
  simp only at z2 hf ⊢
  split
  ·rename_i c
   rw[if_pos c] at z2
   exact .inl (φ9x z2)
  ·rename_i c
   rw[if_neg c] at z2
   exact .inr (φ7v z2).2
 ·intro hfu
  have hup:d.2.2.2=false:=by
   cases hd:d.2.2.2 with
   | false=>rfl
   | true=>
    have q1:w1.1.2.2.2=true:=by rw[hw1];exact φ7H (P:=fun d=>d.2.2.2=true) (fun d act k=>φ9h k) _ (φ98 (P:=fun d=>d.2.2.2=true) (fun d act k=>φ9h k) _ _ hd)
    have q2:w2.1.2.2.2=true:=by rw[hw2];exact φ9P (P:=fun d=>d.2.2.2=true) (fun d act k=>φ9h k) _ q1
    have q3:=φ9g (P:=fun d=>d.2.2.2=true) (fun d act k=>φ9h k) [116,101,109,112] (φn (s.1.1+2,[s.1.1,s.1.1+1])) (w:=w2) q2
    unfold sPut at z3
    have:=φLg (φ46 z3).2.1
    rw[q3] at this
    simp at this
  have hfr:Free d:=by
   have:=(φ8T h).1
   show d.2.2=(-1,false)
   rw[show d.2.2=(d.2.2.1,d.2.2.2) from rfl,hup]
   have:d.2.2.1=-1:=by omega
   rw[this]
  have q1:Free w1.1:=by rw[hw1];exact φ7H (P:=Free) (fun d act k=>φ1I k) _ (φ98 (P:=Free) (fun d act k=>φ1I k) _ _ hfr)
  have q2:Free w2.1:=by rw[hw2];exact φ9P (P:=Free) (fun d act k=>φ1I k) _ q1
  rw[hy]
  exact φAb (P:=Free) (fun d act k=>φ1I k) s.1.2 (φ7l (P:=Free) (fun d act k=>φ1I k) _ q2)
theorem φN9 {α:Type} {l:List (List UInt8×α)} {p:List UInt8×α} (h:∀x∈l,Op.bytesLess x.1 p.1=true):insB l p=l++[p]:=by
 have e:l.takeWhile (fun x=>leK x.1 p.1)=l:=by
  induction l with
  | nil=>rfl
  | cons x l ih=>
   have h1:=h x (by simp)
   rw[List.takeWhile_cons_of_pos (by unfold leK;simp[h1]),ih fun y hy=>h y (by simp[hy])]
 unfold insB
 rw[e]
 show l.take l.length++[p]++l.drop l.length=_
 rw[κN,List.drop_length,κ7]
theorem φKg {α:Type} {l:List (List UInt8×α)} {k:List UInt8} (h:∀x∈l,Op.bytesLess x.1 k=true):φk l k=l:=by
 unfold φk
 refine List.filter_eq_self.2 fun x hx=>?_
 have:=φ6Y (h x hx)
 simpa using this
theorem φBO (id:Int):∀(l:List φ1p) (dir:List φC),(∀x∈l,x.2.2.1=4)→srt (dir++l.map (entS id))→φ26 dir (l.map fun x=>((id,x):φG))=dir++l.map (entS id)
 | [],dir,_,_=>by simp[φ26]
 | x::l,dir,h4,hs=>by
  have hx:=h4 x (by simp)
  have hlt:∀y∈dir,Op.bytesLess y.1 (entS id x).1=true:=fun y hy=>by
   have:=(κd.1 hs).2.2 y hy (entS id x) (by simp)
   exact this
  have hp:putD dir ((id,x):φG)=dir++[entS id x]:=by
   unfold putD
   rw[if_neg (by rw[hx];decide)]
   show insB (φk dir (entS id x).1) (entS id x)=_
   rw[φKg hlt,φN9 hlt]
  show φ26 (putD dir (id,x)) (l.map fun x=>((id,x):φG))=_
  rw[hp,φBO id l _ (fun y hy=>h4 y (by simp[hy])) (by simpa using hs)]
  simp
theorem φB8 (id b:Int):∀(l:List φ1p) (acc:List φG),(∀x∈l,x.2.2.1=4)→(l.map fun x=>((id,x):φG)).foldl (φ1f 5 b) acc=acc++l.map fun x=>((id,x):φG)
 | [],acc,_=>by simp
 | x::l,acc,h=>by
  have hx:=h x (by simp)
  have e:φ1f 5 b acc ((id,x):φG)=acc++[((id,x):φG)]:=by
   unfold φ1f
   rw[if_neg (by simp),if_neg (by rw[hx];decide),if_pos (.inr ⟨rfl,hx⟩)]
  rw[κ5,κL,e,φB8 id b l _ fun y hy=>h y (by simp[hy])]
  simp
theorem φDH (id b:Int):∀(l:List φ1p) (acc:List φG),(∀x∈l,x.2.2.1=4∨x.2.2.1=5)→(l.map fun x=>((id,x):φG)).foldl (φ1f 3 b) acc=acc
 | [],acc,_=>by simp
 | x::l,acc,h=>by
  have hx:=h x (by simp)
  have e:φ1f 3 b acc ((id,x):φG)=acc:=by
   unfold φ1f
   split
   ·rfl
   ·rw[if_neg (by rcases hx with e | e<;>rw[e]<;>decide),if_neg (by rcases hx with e | e<;>rw[e]<;>simp)]
  rw[κ5,κL,e,φDH id b l _ fun y hy=>h y (by simp[hy])]
theorem φ5X:∀(A B pre:List φG) (g:φ18),(φq pre A g).2.2=0→φq pre (A++B) g=φq (pre++A) B (φq pre A g)
 | [],B,pre,g,h=>by simp[φq]
 | p::A,B,pre,g,h=>by
  rw[φq] at h
  rw[κF,φq,φq]
  by_cases c:g.2.2≠0
  ·rw[if_pos c] at h;exact absurd h c
  rw[if_neg c] at h ⊢
  rw[if_neg c,φ5X A B _ _ h]
  simp
theorem φGt {A:List φG} (hA:∀k b,k=3∨k=5→ownL k b A=[]):∀(B pre:List φG) (g:φ18),φq (A++pre) B g=φq pre B g
 | [],pre,g=>rfl
 | p::B,pre,g=>by
  rw[φq,φq]
  by_cases c:g.2.2≠0
  ·rw[if_pos c,if_pos c]
  rw[if_neg c,if_neg c,aA,φGt hA B]
  congr 1
  have e:∀k b,k=3∨k=5→ownL k b (A++pre)=ownL k b pre:=fun k b hk=>by
   have:=hA k b hk
   unfold ownL at *
   rw[κX,this]
  unfold φ1e
  simp only
  by_cases c2:p.2.2.2.1=3∨p.2.2.2.1=5
  ·rw[if_pos c2,if_pos c2,e _ _ c2]
  ·rw[if_neg c2,if_neg c2]
theorem φAD (id mark:Int):∀(l:List φ1p) (pre:List φG) (z:Int),(∀x∈l,x.2.2.1=4∧x.2.2.2.1≤mark)→z≤mark→∃z',z'≤mark∧φq pre (l.map fun x=>((id,x):φG)) ([],z,0)=([],z',0)
 | [],pre,z,_,hz=>⟨z,hz,rfl⟩
 | x::l,pre,z,h,hz=>by
  obtain ⟨h4,hb⟩:=h x (by simp)
  rw[κ5,φq,if_neg (by simp)]
  have e:φ1e pre ((id,x):φG) ([],z,0)=([],if x.2.2.2.1 > z then x.2.2.2.1 else z,0):=by
   unfold φ1e
   simp only
   rw[if_neg (by rw[h4];decide)]
  rw[e]
  refine φAD id mark l _ _ (fun y hy=>h y (by simp[hy])) ?_
  split<;>omega
theorem φHu {mark:Int}:∀(l:List φ1p) (p:Option (List UInt8)),φ2j mark p l=true→∀x∈l,x.2.2.1=4∧x.2.2.2.1≤mark
 | [],_,_,x,hx=>by simp at hx
 | y::l,p,h,x,hx=>by
  simp only[φ2j,bA,beq_iff_eq,κO,decide_eq_false_iff_not] at h
  rcases mc.1 hx with rfl | hx
  ·exact ⟨h.1,by omega⟩
  ·exact φHu l _ h.2.2.2 x hx
theorem φ9w {id:Int} {t:List UInt8} {h:φ1H} (k:φ16 id t=(h,true)):∃(l:List φ1p) (z:φ1p),(scan t).1=l++[z]∧z.2.2.1=5∧φ3e z.2.2 (l.map (·.2.2))=true∧(∀x∈l,x.2.2.1=4∧x.2.2.2.1≤z.2.2.2.1)∧h=((t.length:Int),z.2.2.2.1,l.map (entS id))∧(scan t).2=t.length∧(1≤id∧id≤100000):=by
 unfold φ16 at k
 simp only at k
 split at k
 ·simp at k
 rename_i c
 simp only[not_or,Bool.not_eq_false,ne_eq,Decidable.not_not] at c
 obtain ⟨c1,c2,c3,c4,c5,c6⟩:=c
 generalize (scan t).1=L at *
 have hl:L.length - 1<L.length:=by omega
 have hL:L=L.take (L.length - 1)++[L.getD (L.length - 1) φ2M]:=by
  rw[φ9 hl]
  have:=κ1 hl
  rw[show L.length - 1+1=L.length by omega,κN] at this
  exact this
 simp only[Prod.mk.injEq,and_true] at k
 exact ⟨L.take (L.length - 1),L.getD (L.length - 1) φ2M,hL,c4,c5,φHu _ _ c6,k.symm,c2,c3⟩
theorem φJd {id:Int} {t:List UInt8} {h:φ1H} (k:φ16 id t=(h,true)) (hd:φ1v h.2.2=true) (h0:0≤h.2.1) (B:List φG):φ2H ([],0,0) (((scan t).1.map fun x=>((id,x):φG))++B)=φ2H (h.2.2,h.2.1,0) B:=by
 obtain ⟨l,z,e,z5,hf,hk,hh,_,_⟩:=φ9w k
 have hsrt:srt ([]++l.map (entS id)):=by have:=φ5l hd;rw[hh] at this;simpa using this
 have hlen:(l.map (entS id)).length≤20:=by
  unfold φ1v at hd
  rw[hh] at hd
  simp only[bA,decide_eq_true_eq] at hd
  exact hd.2
 rw[hh] at h0
 have h0:0≤z.2.2.2.1:=h0
 rw[e,hh]
 -- over the segment itself
 obtain ⟨z',hz',eg⟩:=φAD id z.2.2.2.1 l [] 0 hk h0
 have e1:φq [] ((l++[z]).map fun x=>((id,x):φG)) ([],0,0)=(l.map (entS id),z.2.2.2.1,0):=by
  rw[mp,φ5X _ _ _ _ (by rw[eg]),eg,κ8,List.map_singleton,φq,if_neg (by simp)]
  have eo:ownL z.2.2.1 z.2.2.2.1 (l.map fun x=>((id,x):φG))=l.map fun x=>((id,x):φG):=by
   rw[z5];unfold ownL;rw[φB8 id _ l [] fun x hx=>(hk x hx).1];rfl
  have ea:φ26 [] (l.map fun x=>((id,x):φG))=l.map (entS id):=by
   rw[φBO id l [] (fun x hx=>(hk x hx).1) hsrt];rfl
  have er:(l.map fun x=>((id,x):φG)).map (·.2.2.2)=l.map (·.2.2):=by rw[List.map_map];rfl
  have es:φ1e (l.map fun x=>((id,x):φG)) ((id,z):φG) ([],z',0)=(l.map (entS id),z.2.2.2.1,0):=by
   unfold φ1e
   simp only
   have el:(if z.2.2.2.1 > z' then z.2.2.2.1 else z')=z.2.2.2.1:=by split<;>omega
   rw[if_pos (.inr z5),eo,er,if_pos hf,ea,el]
   unfold φ57
   rw[if_neg (Nat.not_lt.2 hlen)]
  rw[es];rfl
 have hA:∀k b,k=3∨k=5→ownL k b ((l++[z]).map fun x=>((id,x):φG))=[]:=fun k b hk2=>by
  rcases hk2 with rfl | rfl
  ·unfold ownL
   exact φDH id b (l++[z]) [] fun x hx=>by
    rcases mA.1 hx with hx | hx
    ·exact .inl (hk x hx).1
    ·rw[mZ.1 hx];exact .inr z5
  ·unfold ownL
   rw[mp,κX,List.map_singleton,κL,List.foldl_nil]
   unfold φ1f
   rw[if_neg (by simp),if_pos z5]
 unfold φ2H
 rw[φ5X _ _ _ _ (by rw[e1]),e1]
 have:=φGt hA B [] (l.map (entS id),z.2.2.2.1,0)
 rw[κ7] at this
 rw[κ8,this]
 unfold φ7L
 have eo:ownL 5 0 (((l++[z]).map fun x=>((id,x):φG))++B)=ownL 5 0 B:=by
  have:=hA 5 0 (.inr rfl)
  unfold ownL at *
  rw[κX,this]
 rw[eo]
theorem φ4G {d:φ1} {act:List φ6→Int×List φ6} (h:φ3 d=true) (hf:Free d):φT d act=(((act d.1).2,d.2),(act d.1).1):=by
 have:=φ5Z (d:=d) (c:=d.2.1) h (by rw[show d.2=(d.2.1,d.2.2) from rfl,show d.2.2=(-1,false) from hf]) act
 rw[this]
 congr 2
 rw[show d.2=(d.2.1,d.2.2) from rfl,show d.2.2=(-1,false) from hf]
theorem φ6p {d:φ1} (h:φ3 d=true) (hf:Free d) {n:List UInt8} (hn:(φ2 d n).2=true):(φH n d).2=0:=by
 obtain ⟨i,hi,e,_⟩:=φ51 hn
 show (φT d (φ28 n)).2=0
 rw[φ4G h hf]
 unfold φ28
 rw[e]
theorem φBc {d:φ1} (h:φ3 d=true) (hf:Free d) (n:List UInt8):(φD n d).2=0:=by
 unfold φD
 split
 ·rename_i c
  show (φT d (φ2F n)).2=0
  rw[φ4G h hf]
  unfold φ2F
  rcases φw d.1 n with ⟨e,_⟩ | ⟨i,hi,e,_⟩
  ·rw[e] at c;simp at c
  ·rw[φ17 e]
 ·rfl
theorem φ8E:∀(names:List (List UInt8)) {w:φE},φ3 w.1=true→Free w.1→w.2=0→(φo names w).2=0
 | [],w,_,_,h=>h
 | n::names,w,hk,hf,h=>by
  have e:φA (φD n) w=φD n w.1:=by unfold φA;rw[if_pos h]
  show (φo names (φA (φD n) w)).2=0
  rw[e]
  exact φ8E names (φ2Y hk n) (φ5M (P:=Free) (fun d act k=>φ1I k) n hf) (φBc hk hf n)
theorem φFS {id mark:Int}:∀(l:List φ1p) (p:Option (List UInt8)),(∀x∈l,x.2.2.1=4∧x.2.2.2.1≤mark)→srt (l.map (entS id))→(∀q,p=some q→∀x∈l,Op.bytesLess q x.2.2.2.2.1=true)→φ2j mark p l=true
 | [],_,_,_,_=>rfl
 | x::l,p,h,hs,hp=>by
  obtain ⟨h4,hb⟩:=h x (by simp)
  obtain ⟨s1,s2⟩:=κY.1 hs
  simp only[φ2j,bA,beq_iff_eq,κO,decide_eq_false_iff_not]
  refine ⟨h4,by omega,?_,φFS l _ (fun y hy=>h y (by simp[hy])) s2 fun q hq y hy=>?_⟩
  ·cases p with
   | none=>rfl
   | some q=>exact hp q rfl x (by simp)
  ·simp only[Option.some.injEq] at hq
   subst hq
   exact s1 (entS id y) (mM.2 ⟨y,hy,rfl⟩)
theorem φJY {id:Int} {t:List UInt8} {l:List φ1p} {z:φ1p} (hs:scan t=(l++[z],t.length)) (hi:1≤id∧id≤100000) (z5:z.2.2.1=5) (hf:φ3e z.2.2 (l.map (·.2.2))=true) (hr:φ2j z.2.2.2.1 none l=true) :
  φ16 id t=(((t.length:Int),z.2.2.2.1,l.map (entS id)),true):=by
 unfold φ16
 have e1:(l++[z]).length - 1=l.length:=by simp
 have e2:(l++[z]).getD l.length φ2M=z:=by simp
 have e3:(l++[z]).take l.length=l:=by simp
 simp only[hs,e1,e2,e3]
 rw[if_neg]
 simp only[not_or,Bool.not_eq_false,ne_eq,Decidable.not_not]
 exact ⟨by simp,trivial,hi,z5,hf,hr⟩
theorem φGy (m:Int):∀(recs:List RecT) (a:Nat),(∀r∈recs,r.1=4)→φy m (a:Int) recs=(φ1T a recs).map (entS m)
 | [],_,_=>rfl
 | r::recs,a,h=>by
  have h4:=h r (by simp)
  have ih:=φGy m recs (a+(fr r).length) fun x hx=>h x (by simp[hx])
  rw[φy,if_pos h4,φ1T,κ5,←ih]
  have:((a+(fr r).length:Nat):Int)=(a:Int)+((frame (φ7 r)).length:Int):=by simp only[fr];omega
  rw[this]
  rfl
theorem φHD {p:RecT→Prop}:∀(recs:List RecT) (a:Nat),(∀r∈recs,p r)→∀x∈φ1T a recs,p x.2.2
 | [],_,_,x,hx=>by simp[φ1T] at hx
 | r::recs,a,h,x,hx=>by
  rw[φ1T] at hx
  rcases mc.1 hx with rfl | hx
  ·exact h r (by simp)
  ·exact φHD recs _ (fun y hy=>h y (by simp[hy])) x hx
theorem φHh:∀(recs:List RecT) (a:Nat),∀x∈φ1T a recs,x.1≤((a+(txt recs).length:Nat):Int)
 | [],_,x,hx=>by simp[φ1T] at hx
 | r::recs,a,x,hx=>by
  rw[φ1T] at hx
  rw[φ3P,lA]
  rcases mc.1 hx with rfl | hx
  ·show (a:Int)≤_
   omega
  ·have:=φHh recs _ x hx
   omega
theorem φFl {s S:φ8} {d y:φ1} (h:φh s d=true) (h2:s.1.1+2≤100000) (hM:Merged s d (φU s d).1 S y) :
  φ16 s.1.1 (txt (φZ (φU s d).1 (s.2.2.1 - 1)))=((((txt (φZ (φU s d).1 (s.2.2.1 - 1))).length:Int),s.2.2.1 - 1,S.2.1),true)∧φ2c (((txt (φZ (φU s d).1 (s.2.2.1 - 1))).length:Int),s.2.2.1 - 1,S.2.1)=true:=by
 obtain ⟨m1,m2,m3,m4⟩:=φ9B h h2 hM
 obtain ⟨q1,q2,q3,q4,q5,q6⟩:=φi.1 h
 obtain ⟨k1,k2,k3,k4⟩:=(φ14 s.1).1 q2
 have hkeep:=φEC h
 have hbat:=φDb h
 have hl20:(φU s d).1.length≤20:=by have:=φ94 s d;have:=(φ3v q3).1;omega
 have hdir:=(φi.1 m1).2.2.1
 have hone:=hM.one
 have htl:=φ6L hM.dk (φ0 s.1.1)
 rw[hone] at htl
 have hst:=hM.st
 generalize (φU s d).1=l at *
 have hents:S.2.1=(φ1T 0 (l.map φS)).map (entS s.1.1):=by
  rw[hst]
  show φy s.1.1 0 (φZ l (s.2.2.1 - 1))=_
  have e:φy s.1.1 0 (φZ l (s.2.2.1 - 1))=φy s.1.1 0 (l.map φS):=φ9d s.1.1 _ (show (5:Int)≠4 by decide) _ _
  rw[e]
  exact φGy s.1.1 (l.map φS) 0 fun r hr=>(hkeep r hr).2
 have hmk:φa (5,s.2.2.1 - 1,[],[],(l.length:Int),φ1i (l.map φS))=true:=φDI (by omega) (by omega) (φ59 _)
 have hall:∀r∈φZ l (s.2.2.1 - 1),φa r=true:=fun r hr=>by
  unfold φZ at hr
  rcases mA.1 hr with hr | hr
  ·exact (hkeep r hr).1
  ·rw[mZ.1 hr];exact hmk
 have hsc:=φ9f hall
 have hk:∀x∈φ1T 0 (l.map φS),x.2.2.1=4∧x.2.2.2.1≤s.2.2.1 - 1:=φHD (p:=fun r=>r.1=4∧r.2.1≤s.2.2.1 - 1) (l.map φS) 0 fun r hr=>by
  refine ⟨(hkeep r hr).2,?_⟩
  obtain ⟨p,hp,rfl⟩:=mM.1 hr
  have:=hbat p hp
  show p.2.2≤_
  omega
 have hsrt:srt ((φ1T 0 (l.map φS)).map (entS s.1.1)):=by rw[←hents];exact φ5l hdir
 refine ⟨?_,?_⟩
 ·rw[hents]
  refine φJY (id:=s.1.1) (l:=φ1T 0 (l.map φS)) (z:=(((0+(txt (l.map φS)).length:Nat):Int),((fr (5,s.2.2.1 - 1,[],[],(l.length:Int),φ1i (l.map φS))).length:Int),(5,s.2.2.1 - 1,[],[],(l.length:Int),φ1i (l.map φS)))) ?_ ⟨by omega,by omega⟩ rfl ?_ ?_
  ·rw[hsc]
   unfold φZ
   rw[φAW]
   rfl
  ·rw[φEZ]
   unfold φ3e
   simp
  ·exact φFS (id:=s.1.1) _ none hk hsrt fun q hq=>by simp at hq
 ·unfold φ2c
  simp only[bA,decide_eq_true_eq]
  have hlen:((txt (φZ l (s.2.2.1 - 1))).length:Int)≤100000:=by simp only at htl;omega
  refine ⟨κR.2 fun e he=>?_,⟨Int.natCast_nonneg _,hlen⟩,⟨by show 0≤s.2.2.1 - 1;omega,by show s.2.2.1 - 1≤1000000;omega⟩,hdir⟩
  have he:e∈S.2.1:=he
  have hseg:∀e∈S.2.1,e.2.1=s.1.1∧e.2.2.1≤100000:=fun e he=>by
   rw[hents] at he
   obtain ⟨x,hx,rfl⟩:=mM.1 he
   refine ⟨rfl,?_⟩
   have:=φHh (l.map φS) 0 x hx
   have hle:(txt (l.map φS)).length≤(txt (φZ l (s.2.2.1 - 1))).length:=by
    unfold φZ;rw[φOo,lA];omega
   show x.1≤100000
   omega
  have hpos:=List.length_pos_of_mem he
  have hg:(S.2.1.getD 0 ([],0,0,0,0)).2.1=s.1.1:=by
   rw[φ9 hpos];exact (hseg _ (gM hpos)).1
  unfold φ4V
  simp only
  rw[hg,(hseg e he).1]
  have:=(hseg e he).2
  simp;omega
theorem Free.up {d:φ1} (h:Free d):d.2.2.2=false:=by rw[show d.2.2=(-1,false) from h]
theorem φO9 {d:φ1} (h:φ3 d=true) {l:List φ6} (hs:l.Sublist d.1):φ3 (l,d.2)=true:=by
 obtain ⟨h1,h2,h3,h4,h5,h6⟩:=(φ3d d).1 h
 have hl:=hs.length_le
 have hu:φK l≤φK d.1:=φ6M _ hs
 rw[φ3d]
 exact ⟨h1,h2,by show l.length≤_;omega,by show (φK l:Int)≤d.2.1;omega,fun f hf=>h5 f (hs.subset hf),h6.sublist hs⟩
theorem φLh {l:List φ6} (hp:l.Pairwise fun a b=>Op.bytesLess a.1 b.1=true) {i:Nat} (hi:i<l.length):∀j,(hj:j<l.length)→j≠i→l[j].1≠l[i].1:=fun j hj hne e=>by
 rcases Nat.lt_or_gt_of_ne hne with h | h
 ·have:=List.pairwise_iff_getElem.1 hp j i hj hi h
  rw[e,φ4t] at this;simp at this
 ·have:=List.pairwise_iff_getElem.1 hp i j hi hj h
  rw[e,φ4t] at this;simp at this
theorem φKY {l:List φ6} (hp:l.Pairwise fun a b=>Op.bytesLess a.1 b.1=true) {i:Nat} (hi:i<l.length) {n:List UInt8} (hn:l[i].1=n) (g:φ6→φ6):l.set i (g l[i])=l.map fun f=>if f.1=n then g f else f:=by
 refine List.ext_getElem (by simp) fun j h1 h2=>?_
 rw[List.getElem_map,List.getElem_set]
 have hj:j<l.length:=by simpa using h1
 by_cases c:i=j
 ·subst c;rw[if_pos rfl,if_pos hn]
 ·rw[if_neg c,if_neg]
  intro e
  exact φLh hp hi j hj (fun e2=>c e2.symm) (e.trans hn.symm)
theorem φCn {l:List φ6} (hp:l.Pairwise fun a b=>Op.bytesLess a.1 b.1=true) {i:Nat} (hi:i<l.length) {n:List UInt8} (hn:l[i].1=n):φc l i=l.filter fun f=>!(f.1==n):=by
 induction l generalizing i with
 | nil=>simp at hi
 | cons x l ih=>
  obtain ⟨h1,h2⟩:=κY.1 hp
  cases i with
  | zero=>
   have hx:x.1=n:=hn
   have e:l.filter (fun f=>!(f.1==n))=l:=List.filter_eq_self.2 fun f hf=>by
    have:=φ6Y (h1 f hf)
    simp only[κO,beq_eq_false_iff_ne,ne_eq]
    intro e;exact this (hx.trans e.symm)
   rw[List.filter_cons_of_neg (by simp[hx]),e]
   simp[φc]
  | succ i=>
   have hi':i<l.length:=by simpa using hi
   have hx:x.1≠n:=fun e=>by
    have:=h1 l[i] (gM hi')
    have hn:l[i].1=n:=hn
    rw[e,hn,φ4t] at this;simp at this
   rw[List.filter_cons_of_pos (by simpa using hx),←ih h2 hi' hn]
   simp[φc]
def φ6q (f:φ6):φ6:=(f.1,f.2.1,(f.2.1.length:Int))
def onF (n:List UInt8) (g:φ6→φ6) (l:List φ6):List φ6:=l.map fun f=>if f.1=n then g f else f
theorem φHy {d:φ1} (h:φ3 d=true) (hf:Free d) {n:List UInt8} (hn:(φ2 d n).2=true):φH n d=((onF n φ6q d.1,d.2),0):=by
 obtain ⟨i,hi,e,hx,_⟩:=φ51 hn
 show φT d (φ28 n)=_
 rw[φ4G h hf]
 unfold φ28
 rw[e]
 simp only[φ9 hi]
 congr 2
 exact φKY (φ5b h) hi hx φ6q
theorem φJt {d:φ1} (h:φ3 d=true) (hf:Free d) (n:List UInt8):φD n d=((d.1.filter (fun f=>!(f.1==n)),d.2),0):=by
 unfold φD
 rcases φw d.1 n with ⟨e,hno⟩ | ⟨i,hi,e,hx⟩
 ·rw[e,if_neg (by simp)]
  have:d.1.filter (fun f=>!(f.1==n))=d.1:=List.filter_eq_self.2 fun f hf=>by simpa using hno f hf
  rw[this]
 ·rw[e,if_pos (by omega)]
  show φT d (φ2F n)=_
  rw[φ4G h hf]
  unfold φ2F
  rw[φ17 e]
  simp only
  rw[φCn (φ5b h) hi hx]
theorem φH7:∀(names:List (List UInt8)) {d:φ1},φ3 d=true→Free d→φo names (d,0)=((d.1.filter (fun f=>!(names.any fun n=>f.1==n)),d.2),0)
 | [],d,_,_=>by
  show (d,(0:Int))=_
  have:d.1.filter (fun f=>!(([]:List (List UInt8)).any fun n=>f.1==n))=d.1:=List.filter_eq_self.2 fun f hf=>by simp
  rw[this]
 | n::names,d,h,hf=>by
  show φo names (φA (φD n) (d,0))=_
  have e:φA (φD n) (d,0)=φD n d:=by unfold φA;rw[if_pos rfl]
  rw[e,φJt h hf,φH7 names (φO9 h List.filter_sublist) hf]
  simp only[List.filter_filter]
  congr 2
  refine List.filter_congr fun f _=>?_
  simp[Bool.not_or,Bool.and_comm]
theorem φAg {d:φ1} (h:φ3 d=true) (hf:Free d) (v:φQ):φt v d=((d.1.filter (fun f=>!φ4d v f),d.2),0):=by
 unfold φt
 rw[φH7 _ h hf]
 congr 2
 refine List.filter_congr fun f hf=>?_
 unfold φ3O
 rw[if_neg (by rw[h];simp)]
 congr 1
 have hB:∀g:φ6,g.1=f.1→φ4d v g=φ4d v f:=fun g e=>by unfold φ4d;rw[e]
 cases ho:φ4d v f with
 | true=>
  refine List.any_eq_true.2 ⟨f.1,mM.2 ⟨f,List.mem_filter.2 ⟨hf,ho⟩,rfl⟩,by simp⟩
 | false=>
  refine List.any_eq_false.2 fun n hn=>?_
  obtain ⟨g,hg,rfl⟩:=mM.1 hn
  intro e
  have e:f.1=g.1:=by simpa using e
  have:=hB g e.symm
  rw[(List.mem_filter.1 hg).2,ho] at this
  simp at this
theorem φMa {v:φQ} (h:φm v=true):∃r,v.2=v.2.getD 0 0::r∧v.2.drop 1=r∧(1≤v.2.getD 0 0∧v.2.getD 0 0≤100000):=by
 have hr:=fun id=>φBv (id:=id) h
 obtain ⟨k1,k2,k3,k4⟩:=(φ14 v).1 h
 obtain ⟨a,l⟩:=v
 cases l with
 | nil=>simp at k3
 | cons i r=>
  have:=hr i (by simp)
  exact ⟨r,rfl,rfl,this.1,this.2.1⟩
theorem φII {v:φQ} {d:φ1} (h:φ3 d=true) (hl:(φ2 d (φ0 (φO v.2))).2=true) (hc:(cutW v d).2=0) (ids:List Int):φR (cutW v d).1 ids=φR d ids:=by
 unfold φR
 congr 1
 funext id
 exact φH1 h hl hc id
theorem φMD {v:φQ} {d:φ1} (h:φ3 d=true) (hv:φm v=true) (hl:(φ2 d (φ0 (φO v.2))).2=true) (hc:(cutW v d).2=0) :
  ∃hin,φ4n v d=φ4w v (cutW v d).1 (cutN v d:Int) (φ2H ([],0,0) (φR d v.2)) hin∧(φ3K (cutW v d).1 (v.2.getD 0 0)=none→hin=0):=by
 rw[φHi,if_neg (by rw[hc];simp)]
 obtain ⟨r,er,ed,hr⟩:=φMa hv
 cases hg:φ3K (cutW v d).1 (v.2.getD 0 0) with
 | none=>
  refine ⟨0,?_,fun _=>rfl⟩
  simp only
  rw[φII h hl hc]
 | some g=>
  refine ⟨v.2.getD 0 0,?_,fun e=>by simp at e⟩
  simp only
  congr 1
  have e1:=φII h hl hc v.2
  unfold φ3K at hg
  split at hg
  ·rename_i c
   obtain ⟨_,c2,c3⟩:=c
   rcases φH4 (φ2 (cutW v d).1 (φL (v.2.getD 0 0))).1 with ⟨e,_⟩ | ⟨H,e,hH⟩
   ·rw[e] at c2;simp at c2
   rw[e] at hg c3
   simp only[Option.some.injEq] at hg
   have c3:φ16 (v.2.getD 0 0) (φ2 (cutW v d).1 (φ0 (v.2.getD 0 0))).1=(H,true):=by
    unfold φ7r at c3
    simpa using c3
   have hok:=hH.1
   unfold φ2c at hok
   simp only[bA,decide_eq_true_eq] at hok
   have:=φJd c3 hok.2.2.2 hok.2.2.1.1 (φR (cutW v d).1 (v.2.drop 1))
   rw[←hg,←this,←e1]
   conv=>rhs;rw[er]
   rw[ed]
   rfl
  ·simp at hg
theorem φN4 {t:List UInt8} (h:φ2d t) {r:RecT} (hr:φa r=true):(scan (t++fr r)).1=(scan t).1++[((t.length:Int),((fr r).length:Int),r)]:=by
 obtain ⟨rs,h1,rfl⟩:=(φ8C t).1 h
 have h2:∀x∈rs++[r],φa x=true:=fun x hx=>by
  rcases mA.1 hx with hx | hx
  ·exact h1 x hx
  ·rw[mZ.1 hx];exact hr
 have e:=φ9f h2
 rw[φBu] at e
 rw[e,φ9f h1,φAW]
 simp[φ1T]
theorem φBr (d:φ1) (a b:List Int):φR d (a++b)=φR d a++φR d b:=κJ
theorem φ8w (d:φ1) (i:Int):φR d [i]=φ12 d i:=by unfold φR;simp
theorem φ5T {d d':φ1} {ids:List Int} (h:∀id∈ids,φ2 d' (φ0 id)=φ2 d (φ0 id)):φR d' ids=φR d ids:=by
 induction ids with
 | nil=>rfl
 | cons i ids ih=>
  have e1:φR d' (i::ids)=φ12 d' i++φR d' ids:=by unfold φR;simp
  have e2:φR d (i::ids)=φ12 d i++φR d ids:=by unfold φR;simp
  rw[e1,e2,ih fun id hid=>h id (by simp[hid])]
  unfold φ12
  rw[h i (by simp)]
theorem φK1 {l:List Int} (h:l≠[]):l=l.take (l.length - 1)++[φO l]:=by
 have hl:l.length - 1<l.length:=by have:=List.length_pos_iff.2 h;omega
 unfold φO
 rw[φ9 hl]
 have:=κ1 hl
 rw[show l.length - 1+1=l.length by omega,κN] at this
 exact this
theorem φNk {d d':φ1} {ids:List Int} (hne:ids≠[]) (hp:ids.Pairwise (·<·)) {r:RecT} (hr:φa r=true) (hw:φ2d (φ2 d (φ0 (φO ids))).1)
  (h1:φ2 d' (φ0 (φO ids))=((φ2 d (φ0 (φO ids))).1++fr r,true)) (h2:∀id∈ids,id≠φO ids→φ2 d' (φ0 id)=φ2 d (φ0 id)) :
  φR d' ids=φR d ids++[((φO ids,((φ2 d (φ0 (φO ids))).1.length:Int),((fr r).length:Int),r):φG)]:=by
 have e:=φK1 hne
 have hin:∀id∈ids.take (ids.length - 1),id≠φO ids∧id∈ids:=fun id hid=>by
  rw[e] at hp
  have:=(κd.1 hp).2.2 id hid (φO ids) (by simp)
  exact ⟨by omega,κe hid⟩
 have e3:φR d' (ids.take (ids.length - 1))=φR d (ids.take (ids.length - 1)):=φ5T fun id hid=>h2 id (hin id hid).2 (hin id hid).1
 have e4:φ12 d' (φO ids)=φ12 d (φO ids)++[((φO ids,((φ2 d (φ0 (φO ids))).1.length:Int),((fr r).length:Int),r):φG)]:=by
  unfold φ12
  rw[h1,φN4 hw hr,mp]
  rfl
 conv=>lhs;rw[e]
 conv=>rhs;rw[e]
 rw[φBr,φBr,e3,φ8w,φ8w]
 have e5:φO (ids.take (ids.length - 1)++[φO ids])=φO ids:=φJl _ _
 rw[e5,e4,aA]
def φIa (s:φ8) (d:φ1):Prop:=∃nx,nx≤s.1.1∧φm (nx,s.1.2)=true∧φ2 d φb=(φn (nx,s.1.2),true)
structure JB (s:φ8) (d:φ1):Prop where
 ok:φh s d=true
 lt:φ47 s
 liv:φIa s d
 fre:Free d
structure Grow (s:φ8) (d:φ1) (s':φ8) (d':φ1) (P:List φG):Prop where
 jb:JB s' d'
 dir:s'.2.1=s.2.1
 bat:s'.2.2.1=s.2.2.1
 pl:φR d' s'.1.2=φR d s.1.2++P
 kp:φ2z s.1.1 d d'
 nxt:s.1.1≤s'.1.1
theorem Grow.refl {s:φ8} {d:φ1} (h:JB s d):Grow s d s d []:=⟨h,rfl,rfl,by simp,fun _ _ _ _=>rfl,κK _⟩
theorem Grow.trans {s s' s'':φ8} {d d' d'':φ1} {P Q:List φG} (h:Grow s d s' d' P) (k:Grow s' d' s'' d'' Q):Grow s d s'' d'' (P++Q):=
 ⟨k.jb,by rw[k.dir,h.dir],by rw[k.bat,h.bat],by rw[k.pl,h.pl,aA],h.kp.trans k.kp h.nxt,by have:=h.nxt;have:=k.nxt;omega⟩
theorem φOl {d:φ1} (h:φ3 d=true) (hf:Free d) (n t:List UInt8) (hc:(φN n t d).2≠0):(φN n t d).1=d:=by
 unfold φN at hc ⊢
 rw[φ4G h hf] at hc ⊢
 unfold φ2T at hc ⊢
 cases e:d.1.findIdx? (fun f=>f.1==n) with
 | none=>rfl
 | some i=>
  rw[e] at hc
  simp only at hc ⊢
  split
  ·rfl
  ·rename_i c
   rw[if_neg c] at hc
   exact absurd rfl hc
theorem φD3 {v:φQ} {w:φE} (h:φ3 w.1=true) (hf:Free w.1) (hc:(sPut v w).2≠0):φ2 (sPut v w).1 φb=φ2 w.1 φb:=by
 have hk:=φ4i h [116,101,109,112] (φn v)
 have hF:Free (φ1O [116,101,109,112] (φn v) w).1:=φ9g (P:=Free) (fun d act k=>φ1I k) _ _ hf
 have e1:φ2 (φ1O [116,101,109,112] (φn v) w).1 φb=φ2 w.1 φb:=φ4y h (show φb≠[116,101,109,112] by decide)
 unfold sPut at hc ⊢
 unfold φA at hc ⊢
 by_cases c:(φ1O [116,101,109,112] (φn v) w).2=0
 ·rw[if_pos c] at hc
  exfalso
  obtain ⟨_,ht⟩:=φ7v c
  obtain ⟨i,hi,e,hx,_⟩:=φ51 (by rw[ht])
  apply hc
  show (φT _ (φ2L [116,101,109,112] [108,105,118,101])).2=0
  rw[φ4G hk hF]
  unfold φ2L
  rw[if_neg (by decide),e]
 ·rw[if_neg c]
  exact e1
theorem φHV {hi hi':Int} (h1:hi≤hi'):∀(l:List Int) (p:Option Int),φ1c hi p l=true→φ1c hi' p l=true
 | [],p,h=>h
 | x::l,p,h=>by
  simp only[φ1c,bA,decide_eq_true_eq] at h ⊢
  exact ⟨⟨h.1.1,by omega⟩,h.2.1,φHV h1 l _ h.2.2⟩
theorem φH2 {a b:Int} {ids:List Int} (h:φm (a,ids)=true) (hab:a≤b) (hb:b≤100000):φm (b,ids)=true:=by
 obtain ⟨k1,k2,k3,k4⟩:=(φ14 (a,ids)).1 h
 have k2:1≤a∧a≤100000:=k2
 rw[φI (by simp only;omega) (by simp only;omega)] at k1
 refine (φ14 (b,ids)).2 ⟨?_,⟨by show 1≤b;omega,hb⟩,k3,k4⟩
 rw[φI (by simp only;omega) (by simp only;omega)]
 exact φHV (by simp only;omega) _ _ k1
theorem φNN {s:φ8} {d:φ1} (h:JB s d) (hc:(rotP s d).2.2≠0):(rotP s d).1.1.2=s.1.2∧(rotP s d).1.2=s.2∧s.1.1≤(rotP s d).1.1.1∧(rotP s d).1.1.1≤100000∧φ2 (rotP s d).2.1 φb=φ2 d φb:=by
 obtain ⟨q1,q2,q3,q4,q5,q6⟩:=φi.1 h.ok
 obtain ⟨k1,k2,k3,k4⟩:=(φ14 s.1).1 q2
 have hF:=h.fre
 obtain ⟨g1,g2⟩:=(φ1y _).1 q5
 have hex:(φ2 d (actN s)).2=true:=(g1 _ (φ2u (φ3L q2))).1
 have hs:=φ3I q1 (actN s)
 have hsF:Free (φH (actN s) d).1:=φ1I hF
 have hs0:=φ6p q1 hF hex
 have hg:=φ2Y hs (φ0 s.1.1)
 have hgF:Free (φD (φ0 s.1.1) (φH (actN s) d).1).1:=φ5M (P:=Free) (fun d act k=>φ1I k) _ hsF
 have hcd:φ3 (φA (φW (φ0 s.1.1)) (φD (φ0 s.1.1) (φH (actN s) d).1)).1=true:=φ1t (op:=φW _) hg fun k=>φ33 k _
 have hcF:Free (φA (φW (φ0 s.1.1)) (φD (φ0 s.1.1) (φH (actN s) d).1)).1:=φ3p (P:=Free) (fun d act k=>φ1I k) (fun d k=>φ1I k) hgF
 have hl1:φ2 (φA (φW (φ0 s.1.1)) (φD (φ0 s.1.1) (φH (actN s) d).1)).1 φb=φ2 d φb:=by
  rw[φ2r (op:=φW _) (φAe hg (φ2f _).symm),φ4v hs (φ2f _).symm,φ2R q1]
 unfold rotP at hc ⊢
 split
 ·exact ⟨rfl,rfl,κK _,k2.2,rfl⟩
 rename_i c0
 rw[if_neg c0] at hc
 rw[if_neg (by rw[hs0];simp)] at hc ⊢
 simp only at hc ⊢
 split
 ·refine ⟨rfl,rfl,by show s.1.1≤s.1.1+1;omega,by show s.1.1+1≤100000;omega,hl1⟩
 rename_i c2
 rw[if_neg c2] at hc
 split
 ·rename_i c3
  refine ⟨rfl,rfl,by show s.1.1≤s.1.1+1;omega,by show s.1.1+1≤100000;omega,?_⟩
  generalize (φA (φW (φ0 s.1.1)) (φD (φ0 s.1.1) (φH (actN s) d).1))=w2 at *
  have c3':(sPut (s.1.1+1,s.1.2++[s.1.1]) (w2.1,0)).2≠0:=fun e=>c3 ((φ1B _).2 e)
  have hp:=φ3i (v:=(s.1.1+1,s.1.2++[s.1.1])) (w:=(w2.1,0)) hcd
  rw[φ9D (w:=φB (sPut (s.1.1+1,s.1.2++[s.1.1]) (w2.1,0))) hp (fun m hm=>by
   simp only[mc,List.not_mem_nil,or_false] at hm
   rcases hm with rfl | rfl
   ·decide
   ·exact (φ2f _).symm)]
  show φ2 (sPut (s.1.1+1,s.1.2++[s.1.1]) (w2.1,0)).1 φb=_
  rw[φD3 (w:=(w2.1,0)) hcd hcF c3']
  exact hl1
 ·rename_i c3
  rw[if_neg c3] at hc
  exact absurd rfl hc
theorem φDA {s:φ8} {d:φ1} (hF:Free d):Free (rotP s d).2.1:=by
 have hsF:Free (φH (actN s) d).1:=φ1I hF
 have hgF:Free (φD (φ0 s.1.1) (φH (actN s) d).1).1:=φ5M (P:=Free) (fun d act k=>φ1I k) _ hsF
 have hcF:Free (φA (φW (φ0 s.1.1)) (φD (φ0 s.1.1) (φH (actN s) d).1)).1:=φ3p (P:=Free) (fun d act k=>φ1I k) (fun d k=>φ1I k) hgF
 have hpF:Free (sPut (s.1.1+1,s.1.2++[s.1.1]) ((φA (φW (φ0 s.1.1)) (φD (φ0 s.1.1) (φH (actN s) d).1)).1,0)).1:=φ7l (P:=Free) (fun d act k=>φ1I k) _ hcF
 unfold rotP
 split
 ·exact hF
 split
 ·exact hsF
 simp only
 split
 ·exact hcF
 split
 ·unfold φ1d
  have:=φ5P (P:=Free) (fun d act k=>φ1I k) [[116,101,109,112],φ0 s.1.1] (w:=((φB (sPut (s.1.1+1,s.1.2++[s.1.1]) ((φA (φW (φ0 s.1.1)) (φD (φ0 s.1.1) (φH (actN s) d).1)).1,0))).1,0)) hpF
  split
  ·split
   ·exact this
   ·exact this
  ·exact hpF
 ·exact hpF
theorem φDM {s:φ8} {d:φ1} (h:φ3 d=true) (hc:(rotP s d).2.2=0):φ2 (rotP s d).2.1 φb=(φn (s.1.1+1,s.1.2++[s.1.1]),true):=by
 unfold rotP at hc ⊢
 split
 ·rename_i c;rw[if_pos c] at hc;simp at hc
 rename_i c0
 rw[if_neg c0] at hc
 split
 ·rename_i c;rw[if_pos c] at hc;exact absurd ((φ1B _).1 hc) c
 rename_i c1
 rw[if_neg c1] at hc
 simp only at hc ⊢
 split
 ·rename_i c;rw[if_pos c] at hc;exact absurd ((φ1B _).1 hc) c
 rename_i c2
 rw[if_neg c2] at hc
 split
 ·rename_i c
  rw[if_pos c] at hc
  exfalso
  revert hc
  unfold φ1d
  split
  ·split
   ·simp
   ·rename_i c4;exact c4
  ·exact c
 ·rename_i c
  have c:(sPut (s.1.1+1,s.1.2++[s.1.1]) ((φA (φW (φ0 s.1.1)) (φD (φ0 s.1.1) (φH (actN s) d).1)).1,0)).2=0:=(φ1B _).1 (Decidable.not_not.1 c)
  exact (φFD c).2
theorem φBC {s:φ8} {d:φ1} (h:JB s d):Grow s d (rotP s d).1 (rotP s d).2.1 []:=by
 obtain ⟨q1,q2,q3,q4,q5,q6⟩:=φi.1 h.ok
 obtain ⟨k1,k2,k3,k4⟩:=(φ14 s.1).1 q2
 rw[φI (by omega) (by omega)] at k1
 have hids:=φ3m _ _ k1
 obtain ⟨r1,r2,r3,r4,r5,r6⟩:=φ83 q1 q2
 have hkp:=φEr (s:=s) q1 k2.2
 have hft:∀id∈s.1.2,φ2 (rotP s d).2.1 (φ0 id)=φ2 d (φ0 id):=fun id hid=>by
  have:=hids id hid
  rcases φ9I (s:=s) q1 with ⟨_,e2⟩ | ⟨_,_,e2⟩
  ·exact e2 _
  ·exact e2 _ (fun hh=>by have:=φ3w (by omega) (by omega) hh;omega) (φ4N _) (φ2f _)
 have hpl:=φ5T hft
 by_cases c:(rotP s d).2.2=0
 ·have hx:∀e∈s.2.1,e.2.1≠s.1.1:=fun e he=>by have:=h.lt e he;omega
  obtain ⟨e1,e2,e3,e4⟩:=φ7q q1 c
  refine ⟨⟨(φCx h.ok hx c).1,fun e he=>?_,⟨s.1.1+1,by rw[e1];exact κK _,by rw[e1];have:=r5 c;rw[e1] at this;exact this,by rw[φDM q1 c,e1]⟩,φDA h.fre⟩,r3,r4,?_,hkp,by rw[e1];show s.1.1≤s.1.1+1;omega⟩
  ·rw[r3] at he
   have:=h.lt e he
   rw[e1];show e.2.1<s.1.1+1;omega
  ·have ei:(rotP s d).1.1.2=s.1.2++[s.1.1]:=by rw[e1]
   rw[ei,φBr,hpl,φ8w]
   unfold φ12
   rw[e2,φ7S]
   rfl
 ·obtain ⟨f1,f2,f3,f4,f5⟩:=φNN h c
  obtain ⟨nx,n1,n2,n3⟩:=h.liv
  have hlv:φm (rotP s d).1.1=true:=by
   have:=φH2 (a:=s.1.1) (ids:=s.1.2) q2 f3 f4
   rw[←f1] at this
   exact this
  refine ⟨⟨φi.2 ⟨r1,hlv,by rw[f2];exact q3,by rw[f2];exact q4,?_,?_⟩,fun e he=>?_,⟨nx,by omega,by rw[f1];exact n2,by rw[f5,f1];exact n3⟩,φDA h.fre⟩,by rw[f2],by rw[f2],by rw[f1,hpl];simp,hkp,f3⟩
  ·rw[f2,f1]
   obtain ⟨g1,g2⟩:=(φ1y _).1 q5
   refine (φ1y _).2 ⟨fun id hid=>by rw[hft id hid];exact g1 id hid,fun hne=>by rw[hft _ (φ2u hne)];exact g2 hne⟩
  ·rw[f2]
   exact φ7t h.ok hkp h.lt (κK _)
  ·rw[f2] at he
   have:=h.lt e he
   omega
def entP (p:φG):φC:=(p.2.2.2.2.2.1,p.1,p.2.1,p.2.2.1,p.2.2.2.2.1)
theorem φBj {s:φ8} {d:φ1} {r:RecT} (h:JB s d) (hr:φa r=true) :
  ((addP s d r).2.2.1=0→∃p:φG,Grow s d (addP s d r).1 (addP s d r).2.1 [p]∧p.2.2.2=r∧(addP s d r).2.2.2=entP p) ∧
  ((addP s d r).2.2.1≠0→Grow s d (addP s d r).1 (addP s d r).2.1 []):=by
 have hR:Grow s d (addR s d (frame (φ7 r))).1 (addR s d (frame (φ7 r))).2.1 []:=by
  unfold addR
  split
  ·exact φBC h
  ·exact Grow.refl h
 unfold addP
 generalize addR s d (frame (φ7 r))=R at *
 simp only
 by_cases c:R.2.2=0
 rotate_left
 ·rw[if_pos c]
  exact ⟨fun e=>absurd e c,fun _=>hR⟩
 rw[if_neg (by simpa using c)]
 have hJ:=hR.jb
 obtain ⟨q1,q2,q3,q4,q5,q6⟩:=φi.1 hJ.ok
 by_cases c2:(φN (actN R.1) (frame (φ7 r)) R.2.1).2=0
 rotate_left
 ·rw[if_pos c2]
  refine ⟨fun e=>absurd ((φ1B _).1 e) c2,fun _=>?_⟩
  show Grow s d R.1 (φN (actN R.1) (frame (φ7 r)) R.2.1).1 []
  rw[φOl q1 hJ.fre _ _ c2]
  exact hR
 rw[if_neg (by simpa using c2)]
 refine ⟨fun _=>?_,fun e=>absurd rfl e⟩
 obtain ⟨a1,a2,a3⟩:=φEl hJ.ok hr c2
 obtain ⟨b1,b2⟩:=φ4D c2
 obtain ⟨g1,g2⟩:=(φ1y _).1 q5
 have hne:=φ3L q2
 have hl:=φAA q2
 have hlt:∀id∈R.1.1.2,1≤id∧id≤100000:=fun id hid=>by have:=φBv q2 hid;omega
 obtain ⟨nx,n1,n2,n3⟩:=hJ.liv
 have hsz:=g2 hne
 have hpm:=φNk (d:=R.2.1) (d':=(φN (actN R.1) (frame (φ7 r)) R.2.1).1) hne (φNd q2) hr (g1 _ (φ2u hne)).2 b2 (fun id hid hne2=>φ5V q1 (fun hh=>hne2 (φ3w (hlt id hid) ⟨hl.1,hl.2.2⟩ hh)))
 refine ⟨(φO R.1.1.2,((φ2 R.2.1 (φ0 (φO R.1.1.2))).1.length:Int),((fr r).length:Int),r),?_,rfl,?_⟩
 ·refine Grow.trans (P:=[]) hR ⟨⟨a1,hJ.lt,⟨nx,n1,n2,?_⟩,φ1I hJ.fre⟩,rfl,rfl,hpm,fun e h1 h2 h3=>a2 e h1 (by have:=(φ14 _).1 q2;omega) h3,κK _⟩
  show φ2 (φN (actN R.1) (frame (φ7 r)) R.2.1).1 φb=_
  rw[φ5V q1 (show φb≠actN R.1 from (φ2f _).symm)]
  exact n3
 ·unfold entP
  rw[hsz]
  rfl
theorem φ7p:∀(rs:List RecT) (s:φ8) (d:φ1),JB s d→(∀r∈rs,φa r=true)→∃P:List φG,Grow s d (φe rs s d).1 (φe rs s d).2.1 P∧P.map (·.2.2.2)=rs.take P.length∧P.length≤rs.length ∧
  ((φe rs s d).2.2.1=0→P.length=rs.length∧(φe rs s d).2.2.2=P.map entP)∧((φe rs s d).2.2.1≠0→P.length<rs.length)
 | [],s,d,h,_=>⟨[],Grow.refl h,rfl,κ6 _,fun _=>⟨rfl,rfl⟩,fun e=>absurd rfl e⟩
 | r::rs,s,d,h,hr=>by
  obtain ⟨a1,a2⟩:=φBj h (hr r (by simp))
  unfold φe
  by_cases c:(addP s d r).2.2.1=0
  rotate_left
  ·rw[if_pos c]
   exact ⟨[],a2 c,rfl,κ4 _,fun e=>absurd e c,fun _=>by simp⟩
  rw[if_neg (by simpa using c)]
  obtain ⟨p,p1,p2,p3⟩:=a1 c
  obtain ⟨P,g1,g2,g3,g4,g5⟩:=φ7p rs _ _ p1.jb fun x hx=>hr x (by simp[hx])
  refine ⟨p::P,Grow.trans p1 g1,?_,by simp;omega,fun e=>?_,fun e=>by have:=g5 e;simp;omega⟩
  ·simp[p2,g2]
  ·obtain ⟨x1,x2⟩:=g4 e
   exact ⟨by simp[x1],by simp only[κ5];rw[←p3,←x2]⟩
structure JR (s:φ8) (d:φ1):Prop extends JB s d where
 reg:∃last,φq [] (φR d s.1.2) ([],0,0)=(s.2.1,last,0)∧last<s.2.2.1
 pb:∀p∈φR d s.1.2,p.2.2.2.2.1<s.2.2.1
 own:ownL 5 0 (φR d s.1.2)=[]
theorem φBU (b:Int):∀(P pre:List φG) (dir:List φC) (z:Int),(∀p∈P,(p.2.2.2.1=1∨p.2.2.2.1=2)∧p.2.2.2.2.1=b)→z≤b→∃z',z'≤b∧φq pre P (dir,z,0)=(dir,z',0)
 | [],pre,dir,z,_,hz=>⟨z,hz,rfl⟩
 | p::P,pre,dir,z,h,hz=>by
  obtain ⟨hk,hb⟩:=h p (by simp)
  rw[φq,if_neg (by simp)]
  have e:φ1e pre p (dir,z,0)=(dir,if p.2.2.2.2.1 > z then p.2.2.2.2.1 else z,0):=by
   unfold φ1e
   simp only
   rw[if_neg (by rcases hk with e | e<;>rw[e]<;>decide)]
  rw[e]
  exact φBU b P _ _ _ (fun q hq=>h q (by simp[hq])) (by split<;>omega)
theorem φ9v (b:Int):∀(P acc:List φG),(∀p∈P,p.2.2.2.1=1∨p.2.2.2.1=2∨p.2.2.2.1=3)→P.foldl (φ1f 5 b) acc=acc
 | [],acc,_=>rfl
 | p::P,acc,h=>by
  have hk:=h p (by simp)
  have e:φ1f 5 b acc p=acc:=by
   unfold φ1f
   rw[if_neg (by simp),if_neg (by rcases hk with e | e | e<;>rw[e]<;>decide),if_neg (by rcases hk with e | e | e<;>rw[e]<;>simp)]
  rw[κL,e,φ9v b P acc fun q hq=>h q (by simp[hq])]
theorem φI1 (b:Int):∀(A:List φG) (acc:List φG),(∀p∈A,p.2.2.2.2.1<b)→A.foldl (φ1f 3 b) acc=acc
 | [],acc,_=>rfl
 | p::A,acc,h=>by
  have hb:=h p (by simp)
  have e:φ1f 3 b acc p=acc:=by
   unfold φ1f
   rw[if_pos ⟨rfl,by omega⟩]
  rw[κL,e,φI1 b A acc fun q hq=>h q (by simp[hq])]
theorem φEn (b:Int):∀(P acc:List φG),(∀p∈P,(p.2.2.2.1=1∨p.2.2.2.1=2)∧p.2.2.2.2.1=b)→P.foldl (φ1f 3 b) acc=acc++P
 | [],acc,_=>by simp
 | p::P,acc,h=>by
  obtain ⟨hk,hb⟩:=h p (by simp)
  have e:φ1f 3 b acc p=acc++[p]:=by
   unfold φ1f
   rw[if_neg (by rw[hb];simp),if_neg (by rcases hk with e | e<;>rw[e]<;>decide),if_pos (.inl ⟨rfl,hk⟩)]
  rw[κL,e,φEn b P _ fun q hq=>h q (by simp[hq])]
  simp
theorem φF6 (b:Int):∀(P:List φG) (l:List PutT) (dir:List φC),P.map (·.2.2.2)=l.map (φ1Q b)→φ26 dir P=dirW dir (l.zip (P.map entP))
 | [],l,dir,h=>by
  cases l with
  | nil=>rfl
  | cons x l=>simp at h
 | p::P,l,dir,h=>by
  cases l with
  | nil=>simp at h
  | cons q l=>
   simp only[κ5,List.cons.injEq] at h
   obtain ⟨h1,h2⟩:=h
   have e:putD dir p=φ2o dir (q,entP p):=by
    unfold putD φ2o entP
    rw[h1]
    unfold φ1Q
    cases q.2.1<;>rfl
   show φ26 (putD dir p) P=dirW (φ2o dir (q,entP p)) (l.zip (P.map entP))
   rw[e]
   exact φF6 b P l _ h2
theorem φFA (b:Int) (p:PutT):((φ1Q b p).1=1∨(φ1Q b p).1=2)∧(φ1Q b p).2.1=b:=by
 unfold φ1Q
 split
 ·exact ⟨.inr rfl,rfl⟩
 ·exact ⟨.inl rfl,rfl⟩
theorem JB.bump {s:φ8} {d:φ1} (h:JB s d) (hb:s.2.2.1≤1000000):JB (s.1,s.2.1,s.2.2.1+1,s.2.2.2) d:=by
 obtain ⟨q1,q2,q3,q4,q5,q6⟩:=φi.1 h.ok
 refine ⟨φi.2 ⟨q1,q2,q3,by show 1≤s.2.2.1+1∧s.2.2.1+1≤1000001;omega,q5,fun e he=>?_⟩,h.lt,h.liv,h.fre⟩
 have:=q6 e he
 rw[φ34] at this ⊢
 obtain ⟨a1,a2,a3,a4,a5⟩:=this
 exact ⟨a1,a2,a3,a4,by show e.2.2.2.2<s.2.2.1+1;omega⟩
theorem φI6 {s:φ8} {d:φ1} (h:JR s d) {l:List PutT} (hp:φ1k l=true) (hb:s.2.2.1≤1000000) (hk:φ2p s.2.1 l≤20):JR (φ1N s d l).1 (φ1N s d l).2.1:=by
 obtain ⟨q1,q2,q3,q4,q5,q6⟩:=φi.1 h.ok
 have hrec:=φ6v (b:=s.2.2.1) (l:=l) ⟨q4.1,hb⟩ hp
 have hJ1:=h.toJB.bump hb
 obtain ⟨P,g1,g2,g3,g4,g5⟩:=φ7p (φ1q s.2.2.1 l) _ _ hJ1 hrec
 obtain ⟨last,hreg,hlast⟩:=h.reg
 have hrl:=φ8m s.2.2.1 l
 have hright:=φBe h.ok h.lt hp hb hk
 -- the places of a part of a batch
 have part:∀Q:List φG,(∃k,k≤l.length∧Q.map (·.2.2.2)=(l.map (φ1Q s.2.2.1)).take k)→∀p∈Q,(p.2.2.2.1=1∨p.2.2.2.1=2)∧p.2.2.2.2.1=s.2.2.1:=fun Q ⟨k,_,hQ⟩ p hpQ=>by
  have:p.2.2.2∈Q.map (·.2.2.2):=mM.2 ⟨p,hpQ,rfl⟩
  rw[hQ] at this
  obtain ⟨q,_,e⟩:=mM.1 (κe this)
  have:=φFA s.2.2.1 q
  rw[e] at this
  exact this
 unfold φ1N at hright ⊢
 generalize hG:φe (φ1q s.2.2.1 l) (s.1,s.2.1,s.2.2.1+1,s.2.2.2) d=g at *
 simp only at hright ⊢
 have hbat:g.1.2.2.1=s.2.2.1+1:=g1.bat
 have hdir:g.1.2.1=s.2.1:=g1.dir
 have hpl:φR g.2.1 g.1.1.2=φR d s.1.2++P:=g1.pl
 by_cases c:g.2.2.1=0
 rotate_left
 ·-- the batch was not written φ2d
  rw[if_pos c]
  have hlt:=g5 c
  have hP:=part P ⟨P.length,by omega,by
   rw[g2]
   unfold φ1q
   rw[List.take_append_of_le_length (by rw[lM];omega)]⟩
  obtain ⟨z',hz',e⟩:=φBU s.2.2.1 P (φR d s.1.2) s.2.1 last hP (by omega)
  refine ⟨g1.jb,⟨z',?_,by show z'<g.1.2.2.1;omega⟩,fun p hp=>?_,?_⟩
  ·show φq [] (φR g.2.1 g.1.1.2) _=_
   rw[hpl,φ5X _ _ _ _ (by rw[hreg]),hreg,κ8,e,hdir]
  ·have hp:p∈φR g.2.1 g.1.1.2:=hp
   rw[hpl] at hp
   show _<g.1.2.2.1
   rcases mA.1 hp with hp | hp
   ·have:=h.pb p hp;omega
   ·have:=(hP p hp).2;omega
  ·show ownL 5 0 (φR g.2.1 g.1.1.2)=[]
   have ho:=h.own
   rw[hpl]
   unfold ownL at ho ⊢
   rw[κX,ho,φ9v 0 P [] fun p hp=>by rcases (hP p hp).1 with e | e<;>simp[e]]
 rw[if_neg (by simpa using c)] at hright ⊢
 obtain ⟨x1,x2⟩:=g4 c
 -- the last sync is done
 obtain ⟨b1,b2,b3,b4,b5,b6⟩:=φi.1 g1.jb.ok
 have hex:(φ2 g.2.1 (actN g.1)).2=true:=(((φ1y _).1 b5).1 _ (φ2u (φ3L b2))).1
 have hs0:(φH (actN g.1) g.2.1).2=0:=φ6p b1 g1.jb.fre hex
 rw[if_neg (by rw[hs0];simp)] at hright ⊢
 obtain ⟨r1,r2,r3,r4,r5⟩:=hright rfl
 have hpl2:φR (φH (actN g.1) g.2.1).1 g.1.1.2=φR d s.1.2++P:=by
  rw[φ5T (d:=g.2.1) fun id _=>φ2R b1 _ _]
  exact hpl
 -- the last place is the seal's
 have hP0:P≠[]:=fun e=>by rw[e] at x1;simp at x1;omega
 obtain ⟨Q,pz,rfl⟩:∃Q pz,P=Q++[pz]:=⟨P.dropLast,P.getLast hP0,(List.dropLast_concat_getLast hP0).symm⟩
 have hQl:Q.length=l.length:=by simp at x1;omega
 have hmap:(Q++[pz]).map (·.2.2.2)=l.map (φ1Q s.2.2.1)++[(3,s.2.2.1,[],[],(l.length:Int),φ1i (l.map (φ1Q s.2.2.1)))]:=by
  rw[g2,x1,κN];rfl
 rw[mp,List.map_singleton] at hmap
 obtain ⟨hQ,hz⟩:=List.append_inj hmap (by simp[hQl])
 have hz:pz.2.2.2=(3,s.2.2.1,[],[],(l.length:Int),φ1i (l.map (φ1Q s.2.2.1))):=by simpa using hz
 have hPQ:=part Q ⟨l.length,κ6 _,by rw[hQ,List.take_of_length_le (by simp)]⟩
 obtain ⟨z',hz',e⟩:=φBU s.2.2.1 Q (φR d s.1.2) s.2.1 last hPQ (by omega)
 have hown3:ownL 3 s.2.2.1 (φR d s.1.2++Q)=Q:=by
  unfold ownL
  rw[κX,φI1 _ _ _ h.pb,φEn _ _ _ hPQ];rfl
 have hdw:φ26 s.2.1 Q=dirW s.2.1 (l.zip g.2.2.2):=by
  rw[φF6 s.2.2.1 Q l s.2.1 hQ,x2,mp,φGv _ _ _ (by simp[hQl])]
 have hseal:φ1e (φR d s.1.2++Q) pz (s.2.1,z',0)=(dirW s.2.1 (l.zip g.2.2.2),s.2.2.1,0):=by
  unfold φ1e
  simp only
  rw[hz]
  simp only
  rw[if_pos (.inl trivial),hown3,hQ]
  have hfit:φ3e (3,s.2.2.1,[],[],(l.length:Int),φ1i (l.map (φ1Q s.2.2.1))) (l.map (φ1Q s.2.2.1))=true:=by
   unfold φ3e;simp
  have el:(if s.2.2.1 > z' then s.2.2.1 else z')=s.2.2.1:=by split<;>omega
  rw[if_pos hfit,hdw,el]
  unfold φ57
  rw[if_neg]
  have r5':(dirW g.1.2.1 (l.zip g.2.2.2)).length=φ2p s.2.1 l:=r5
  rw[hdir] at r5'
  omega
 refine ⟨⟨r1,r2,?_,φ1I g1.jb.fre⟩,⟨s.2.2.1,?_,by show s.2.2.1<g.1.2.2.1;omega⟩,fun p hp=>?_,?_⟩
 ·obtain ⟨nx,n1,n2,n3⟩:=g1.jb.liv
  exact ⟨nx,n1,n2,by rw[φ2R b1];exact n3⟩
 ·show φq [] (φR (φH (actN g.1) g.2.1).1 g.1.1.2) _=_
  rw[hpl2,φ5X _ _ _ _ (by rw[hreg]),hreg,κ8,φ5X _ _ _ _ (by rw[e]),e,φq,if_neg (by simp),hseal,hdir]
  rfl
 ·have hp:p∈φR (φH (actN g.1) g.2.1).1 g.1.1.2:=hp
  rw[hpl2] at hp
  show _<g.1.2.2.1
  rcases mA.1 hp with hp | hp
  ·have:=h.pb p hp;omega
  ·rcases mA.1 hp with hp | hp
   ·have:=(hPQ p hp).2;omega
   ·rw[mZ.1 hp,hz];show s.2.2.1<_;omega
 ·show ownL 5 0 (φR (φH (actN g.1) g.2.1).1 g.1.1.2)=[]
  have ho:=h.own
  rw[hpl2]
  unfold ownL at ho ⊢
  rw[κX,ho,φ9v 0 (Q++[pz]) [] fun p hp=>by
   rcases mA.1 hp with hp | hp
   ·rcases (hPQ p hp).1 with e | e<;>simp[e]
   ·rw[mZ.1 hp,hz];simp]
theorem φOq {id:Int} {t:List UInt8} {h:φ1H} (k:φ16 id t=(h,true)) (hd:φ1v h.2.2=true) (h0:0≤h.2.1) :
  φq [] ((scan t).1.map fun x=>((id,x):φG)) ([],0,0)=(h.2.2,h.2.1,0)∧ownL 5 0 ((scan t).1.map fun x=>((id,x):φG))=[]∧∀p∈(scan t).1.map (fun x=>((id,x):φG)),p.2.2.2.2.1≤h.2.1:=by
 obtain ⟨l,z,e,z5,hf,hk,hh,_,_⟩:=φ9w k
 have hsrt:srt ([]++l.map (entS id)):=by have:=φ5l hd;rw[hh] at this;simpa using this
 have hlen:(l.map (entS id)).length≤20:=by
  unfold φ1v at hd
  rw[hh] at hd
  simp only[bA,decide_eq_true_eq] at hd
  exact hd.2
 rw[hh] at h0
 have h0:0≤z.2.2.2.1:=h0
 rw[e,hh]
 obtain ⟨z',hz',eg⟩:=φAD id z.2.2.2.1 l [] 0 hk h0
 refine ⟨?_,?_,fun p hp=>?_⟩
 ·rw[mp,φ5X _ _ _ _ (by rw[eg]),eg,κ8,List.map_singleton,φq,if_neg (by simp)]
  have eo:ownL z.2.2.1 z.2.2.2.1 (l.map fun x=>((id,x):φG))=l.map fun x=>((id,x):φG):=by
   rw[z5];unfold ownL;rw[φB8 id _ l [] fun x hx=>(hk x hx).1];rfl
  have ea:φ26 [] (l.map fun x=>((id,x):φG))=l.map (entS id):=by
   rw[φBO id l [] (fun x hx=>(hk x hx).1) hsrt];rfl
  have er:(l.map fun x=>((id,x):φG)).map (·.2.2.2)=l.map (·.2.2):=by rw[List.map_map];rfl
  have es:φ1e (l.map fun x=>((id,x):φG)) ((id,z):φG) ([],z',0)=(l.map (entS id),z.2.2.2.1,0):=by
   unfold φ1e
   simp only
   have el:(if z.2.2.2.1 > z' then z.2.2.2.1 else z')=z.2.2.2.1:=by split<;>omega
   rw[if_pos (.inr z5),eo,er,if_pos hf,ea,el]
   unfold φ57
   rw[if_neg (Nat.not_lt.2 hlen)]
  rw[es];rfl
 ·unfold ownL
  rw[mp,κX,List.map_singleton,κL,List.foldl_nil]
  unfold φ1f
  rw[if_neg (by simp),if_pos z5]
 ·obtain ⟨x,hx,rfl⟩:=mM.1 hp
  show x.2.2.2.1≤z.2.2.2.1
  rcases mA.1 hx with hx | hx
  ·exact (hk x hx).2
  ·rw[mZ.1 hx];exact κK _
theorem φ7b:∀(ids:List Int) {w:φE},φ3 w.1=true→Free w.1→w.2=0→(sOld ids w).2=0
 | [],w,_,_,h=>h
 | i::ids,w,hk,hf,h=>φ7b ids (w:=φo [φ0 i,φL i] w) (φ4e _ hk) (φ5P (P:=Free) (fun d act k=>φ1I k) _ hf) (φ8E _ hk hf h)
theorem φGS {s:φ8} {d:φ1} (l:List φX) (h:JB s d) (h2:s.1.1+2≤100000) (hc:(φ15 s d l).2.2≠0) :
  (φ15 s d l).1=((s.1.1+2,s.1.2),s.2)∧φ3 (φ15 s d l).2.1=true∧Free (φ15 s d l).2.1∧φ2 (φ15 s d l).2.1 φb=φ2 d φb ∧
  ∀id,1≤id∧id<s.1.1→φ2 (φ15 s d l).2.1 (φ0 id)=φ2 d (φ0 id):=by
 obtain ⟨q1,q2,q3,q4,q5,q6⟩:=φi.1 h.ok
 obtain ⟨k1,k2,k3,k4⟩:=(φ14 s.1).1 q2
 have hF:=h.fre
 have g1:=φ68 s.1.1 (φZ l (s.2.2.1 - 1)) (w:=(d,0)) q1
 have g0:=φ4A (w:=(d,0)) q1 (φ0 s.1.1)
 have g0a:=φ7G (φ0 s.1.1) (φZ l (s.2.2.1 - 1)) g0
 have g2:=φ4A g1 (φ0 (s.1.1+1))
 have F1:Free (sNew (φ0 (s.1.1+1)) (sWM s.1.1 (φZ l (s.2.2.1 - 1)) (d,0))).1:=φ7H (P:=Free) (fun d act k=>φ1I k) _ (φ98 (P:=Free) (fun d act k=>φ1I k) _ _ hF)
 have f1:∀n,n≠φ0 s.1.1→n≠φ0 (s.1.1+1)→φ2 (sNew (φ0 (s.1.1+1)) (sWM s.1.1 (φZ l (s.2.2.1 - 1)) (d,0))).1 n=φ2 d n:=fun n q1' q2'=>by
  rw[φ6U g1 q2']
  unfold sWM
  rw[φ2r (op:=φH _) (φ2R g0a _ n),φBV q1' _ g0,φ6U (w:=(d,0)) q1 q1']
 unfold φ15 at hc ⊢
 simp only at hc ⊢
 generalize sNew (φ0 (s.1.1+1)) (sWM s.1.1 (φZ l (s.2.2.1 - 1)) (d,0))=w1 at *
 have g3:φ3 (φr s.1.1 w1).1=true:=by
  unfold φr;split
  ·exact g2
  ·exact φ6n _ g2
 have F2:Free (φr s.1.1 w1).1:=by
  unfold φr;split
  ·exact F1
  ·exact φ9P (P:=Free) (fun d act k=>φ1I k) _ F1
 have f2:∀n,n≠φL s.1.1→φ2 (φr s.1.1 w1).1 n=φ2 w1.1 n:=fun n q=>by
  unfold φr
  split
  ·rfl
  ·unfold φ1u
   simp only
   have hf:=φ4i (w:=(w1.1,0)) g2 (φL s.1.1) (φ1U (φ16 s.1.1 (φ2 w1.1 (φ0 s.1.1)).1).1)
   split
   ·rw[φ4v hf q,φ4y (w:=(w1.1,0)) g2 q]
   ·rw[φ4y (w:=(w1.1,0)) g2 q]
 generalize φr s.1.1 w1=w2 at *
 have g5:φ3 (if w2.2=0 then φB (sPut (s.1.1+2,[s.1.1,s.1.1+1]) w2) else φB w2).1=true:=by
  split
  ·exact φ3i g3 _
  ·exact g3
 have F5:Free (if w2.2=0 then φB (sPut (s.1.1+2,[s.1.1,s.1.1+1]) w2) else φB w2).1:=by
  split
  ·exact φ7l (P:=Free) (fun d act k=>φ1I k) _ F2
  ·exact F2
 have f3:∀n,n≠φ1G→n≠φb→φ2 (if w2.2=0 then φB (sPut (s.1.1+2,[s.1.1,s.1.1+1]) w2) else φB w2).1 n=φ2 w2.1 n:=fun n q1 q2=>by
  split
  ·exact φ7O g3 _ q1 q2
  ·rfl
 have fl:(if w2.2=0 then φB (sPut (s.1.1+2,[s.1.1,s.1.1+1]) w2) else φB w2).2≠0→φ2 (if w2.2=0 then φB (sPut (s.1.1+2,[s.1.1,s.1.1+1]) w2) else φB w2).1 φb=φ2 w2.1 φb:=fun e=>by
  by_cases c:w2.2=0
  ·rw[if_pos c] at e ⊢
   exact φD3 g3 F2 fun e2=>e ((φ1B _).2 e2)
  ·rw[if_neg c];rfl
 generalize (if w2.2=0 then φB (sPut (s.1.1+2,[s.1.1,s.1.1+1]) w2) else φB w2)=w3 at *
 by_cases c:w3.2=0
 ·rw[if_neg (by simpa using c)] at hc
  exfalso
  apply hc
  show told (sOld s.1.2 (w3.1,0)).2=0
  rw[φ7b s.1.2 (w:=(w3.1,0)) g5 F5 rfl];rfl
 rw[if_pos (by simpa using c)]
 refine ⟨rfl,φGi _ g5,?_,?_,fun id hid=>?_⟩
 ·show Free (φ1d (φ3y s.1.1) w3).1
  have:=φ5P (P:=Free) (fun d act k=>φ1I k) (φ3y s.1.1) (w:=(w3.1,0)) F5
  unfold φ1d
  split
  ·split
   ·exact this
   ·exact this
  ·exact F5
 ·show φ2 (φ1d (φ3y s.1.1) w3).1 φb=_
  rw[φ9D g5 (fun m hm=>by
   unfold φ3y at hm
   simp only[mc,List.not_mem_nil,or_false] at hm
   rcases hm with rfl | rfl | rfl | rfl
   ·decide
   ·exact (φ2f _).symm
   ·exact (φ2f _).symm
   ·exact (φ7Y _).symm),fl c,f2 _ (φ7Y _).symm,f1 _ (φ2f _).symm (φ2f _).symm]
 ·have n1:φ0 id≠φ0 s.1.1:=fun e=>by have:=φ3w (by omega) (by omega) e;omega
  have n2:φ0 id≠φ0 (s.1.1+1):=fun e=>by have:=φ3w (by omega) (by omega) e;omega
  have n3:φ0 id≠φL s.1.1:=φ41 _ _ (by omega)
  show φ2 (φ1d (φ3y s.1.1) w3).1 (φ0 id)=_
  rw[φ9D g5 (fun m hm=>by
   unfold φ3y at hm
   simp only[mc,List.not_mem_nil,or_false] at hm
   rcases hm with rfl | rfl | rfl | rfl
   ·exact φ4N _
   ·exact n1
   ·exact n2
   ·exact n3),f3 _ (φ4N _) (φ2f _),f2 _ n3,f1 _ n1 n2]
theorem φJm {s:φ8} {d:φ1} (h:JR s d) (h2:s.1.1+2≤100000):JR (φ15 s d (φU s d).1).1 (φ15 s d (φU s d).1).2.1:=by
 obtain ⟨q1,q2,q3,q4,q5,q6⟩:=φi.1 h.ok
 obtain ⟨k1,k2,k3,k4⟩:=(φ14 s.1).1 q2
 rw[φI (by omega) (by omega)] at k1
 have hids:=φ3m _ _ k1
 by_cases hc:(φ15 s d (φU s d).1).2.2=0
 ·have hM:=φGr (φU s d).1 q1 q2 h2 hc
  obtain ⟨m1,m2,m3,m4⟩:=φ9B h.ok h2 hM.toMerged
  obtain ⟨k,ok⟩:=φFl h.ok h2 hM.toMerged
  have hfu:0 > d.2.2.1:=by rw[show d.2.2=(-1,false) from h.fre];decide
  have hF:=hM.fre hfu
  have hst:=hM.st
  have hone:=hM.one
  have htwo:=hM.two
  have hliv:=hM.liv
  generalize φ15 s d (φU s d).1=M at *
  obtain ⟨S,y,c⟩:=M
  simp only at hc hM m1 m2 m3 m4 k ok hF hst hone htwo hliv ⊢
  unfold φ2c at ok
  simp only[bA,decide_eq_true_eq] at ok
  obtain ⟨r1,r2,r3⟩:=φOq k ok.2.2.2 ok.2.2.1.1
  have hI:S.1.2=[s.1.1,s.1.1+1]:=by rw[hst]
  have hB:S.2.2.1=s.2.2.1:=by rw[hst]
  have hpl:φR y S.1.2=(scan (txt (φZ (φU s d).1 (s.2.2.1 - 1)))).1.map fun x=>((s.1.1,x):φG):=by
   rw[hI]
   unfold φR φ12
   simp[hone,htwo,φ7S]
  refine ⟨⟨m1,m3,⟨s.1.1+2,by rw[hst];exact κK _,by rw[hI];exact φA9 s.1.1 k2.1 h2,by rw[hI];exact hliv⟩,hF⟩,⟨s.2.2.1 - 1,by rw[hpl];exact r1,by rw[hB];omega⟩,fun p hp=>?_,by rw[hpl];exact r2⟩
  rw[hpl] at hp
  have:=r3 p hp
  have:p.2.2.2.2.1≤s.2.2.1 - 1:=this
  rw[hB];omega
 ·obtain ⟨f1,f2,f3,f4,f5⟩:=φGS (φU s d).1 h.toJB h2 hc
  have hft:∀id∈s.1.2,φ2 (φ15 s d (φU s d).1).2.1 (φ0 id)=φ2 d (φ0 id):=fun id hid=>f5 id (by have:=hids id hid;omega)
  have hkp:φ2z s.1.1 d (φ15 s d (φU s d).1).2.1:=fun e e1 e2 e3=>by
   unfold φ1D
   rw[f5 _ ⟨e1,e2⟩]
  have hpl:=φ5T hft
  generalize φ15 s d (φU s d).1=M at *
  obtain ⟨S,y,c⟩:=M
  simp only at f1 f2 f3 f4 f5 hft hkp hpl ⊢
  subst f1
  obtain ⟨last,r1,r2⟩:=h.reg
  obtain ⟨nx,n1,n2,n3⟩:=h.liv
  refine ⟨⟨φi.2 ⟨f2,φH2 (a:=s.1.1) q2 (by omega) h2,q3,q4,?_,fun e he=>φ7t (s:=s) h.ok hkp h.lt (κK _) e he⟩,fun e he=>by have:=h.lt e he;show e.2.1<s.1.1+2;omega,⟨nx,by show nx≤s.1.1+2;omega,n2,by rw[f4];exact n3⟩,f3⟩,⟨last,by show φq [] (φR y s.1.2) _=_;rw[hpl];exact r1,r2⟩,?_,?_⟩
  ·obtain ⟨g1,g2⟩:=(φ1y _).1 q5
   exact (φ1y _).2 ⟨fun id hid=>by rw[hft id hid];exact g1 id hid,fun hne=>by rw[hft _ (φ2u hne)];exact g2 hne⟩
  ·intro p hp
   have hp:p∈φR y s.1.2:=hp
   rw[hpl] at hp
   exact h.pb p hp
  ·show ownL 5 0 (φR y s.1.2)=[]
   rw[hpl];exact h.own
theorem φNA (k b:Int) (acc:List φG) (p:φG):∀x∈φ1f k b acc p,x∈acc∨x=p:=by
 intro x hx
 unfold φ1f at hx
 split at hx
 ·exact .inl hx
 split at hx
 ·simp at hx
 split at hx
 ·rcases mA.1 hx with h | h
  ·exact .inl h
  ·exact .inr (mZ.1 h)
 ·exact .inl hx
theorem φDh (k b:Int):∀(l acc:List φG),∀x∈l.foldl (φ1f k b) acc,x∈acc∨x∈l
 | [],acc,x,hx=>.inl hx
 | p::l,acc,x,hx=>by
  rcases φDh k b l _ x hx with h | h
  ·rcases φNA k b acc p x h with h | h
   ·exact .inl h
   ·exact .inr (by simp[h])
  ·exact .inr (by simp[h])
theorem φIw {k b:Int} {l:List φG}:∀x∈ownL k b l,x∈l:=fun x hx=>by
 rcases φDh k b l [] x hx with h | h
 ·simp at h
 ·exact h
theorem φDL:∀(own:List φG) (dir:List φC),∀e∈φ26 dir own,e∈dir∨∃p∈own,e=entP p
 | [],dir,e,he=>.inl he
 | p::own,dir,e,he=>by
  rcases φDL own (putD dir p) e he with h | ⟨q,hq,x⟩
  ·unfold putD at h
   split at h
   ·exact .inl ((φ7o _ _ _).1 h).1
   ·rcases (φ3b _ _ _).1 h with h | h
    ·exact .inr ⟨p,by simp,h⟩
    ·exact .inl ((φ7o _ _ _).1 h).1
  ·exact .inr ⟨q,by simp[hq],x⟩
theorem φLP (pre:List φG) (p:φG) (g:φ18):∀e∈(φ1e pre p g).1,e∈g.1∨∃q∈pre,e=entP q:=by
 intro e he
 unfold φ1e at he
 simp only at he
 split at he
 ·split at he
  ·rcases φDL _ _ e he with h | ⟨q,hq,x⟩
   ·exact .inl h
   ·exact .inr ⟨q,φIw q hq,x⟩
  ·split at he
   ·exact .inl he
   ·exact .inl he
 ·exact .inl he
theorem φMf (pre:List φG) (p:φG) (g:φ18):(φ1e pre p g).2.1=if p.2.2.2.2.1 > g.2.1 then p.2.2.2.2.1 else g.2.1:=by
 unfold φ1e
 simp only
 split
 ·split
  ·rfl
  ·split<;>rfl
 ·rfl
theorem φHw:∀(P pre:List φG) (g:φ18),∀e∈(φq pre P g).1,e∈g.1∨∃q∈pre++P,e=entP q
 | [],pre,g,e,he=>.inl he
 | p::P,pre,g,e,he=>by
  rw[φq] at he
  split at he
  ·exact .inl he
  ·rcases φHw P _ _ e he with h | ⟨q,hq,x⟩
   ·rcases φLP pre p g e h with h | ⟨q,hq,x⟩
    ·exact .inl h
    ·exact .inr ⟨q,mL _ hq,x⟩
   ·exact .inr ⟨q,by simpa using hq,x⟩
theorem φDG:∀(P pre:List φG) (g:φ18),(φq pre P g).2.2=0→g.2.1≤(φq pre P g).2.1∧∀p∈P,p.2.2.2.2.1≤(φq pre P g).2.1
 | [],pre,g,_=>⟨κK _,fun p hp=>by simp at hp⟩
 | p::P,pre,g,h=>by
  rw[φq] at h ⊢
  by_cases c:g.2.2≠0
  ·rw[if_pos c] at h;exact absurd h c
  rw[if_neg c] at h ⊢
  obtain ⟨h1,h2⟩:=φDG P _ _ h
  rw[φMf] at h1
  have:g.2.1≤(φq (pre++[p]) P (φ1e pre p g)).2.1∧p.2.2.2.2.1≤(φq (pre++[p]) P (φ1e pre p g)).2.1:=by
   split at h1<;>omega
  refine ⟨this.1,fun q hq=>?_⟩
  rcases mc.1 hq with rfl | hq
  ·exact this.2
  ·exact h2 q hq
theorem φCe {d:φ1}:∀{l:List Int},(∀id∈l,(φ2 d (φ0 id)).2=true∧φ2d (φ2 d (φ0 id)).1)→φ2b d l=true
 | [],_=>rfl
 | id::r,h=>by
  obtain ⟨h1,h2⟩:=h id (by simp)
  unfold φ2d at h2
  rw[φ2b,h1,φCe fun i hi=>h i (by simp[hi])]
  simp[h2]
theorem φJ6 {d:φ1} {ids:List Int}:∀p∈φR d ids,p.1∈ids:=fun p hp=>by
 unfold φR at hp
 obtain ⟨i,hi,hp⟩:=List.mem_flatMap.1 hp
 unfold φ12 at hp
 obtain ⟨x,_,rfl⟩:=mM.1 hp
 exact hi
theorem φI5 {s:φ8} {d:φ1} (h:JR s d):∃t y,φ2G d=(t,y,0)∧JR t y∧t.1.2=s.1.2∧t.2.1=s.2.1∧t.2.2.1≤s.2.2.1∧φU t y=φU s d∧y.2.1=d.2.1∧φK y.1≤φK d.1∧(y.2=d.2∧(∀n,(φ2 y n).2=true→φ2 y n=φ2 d n)∧φR y t.1.2=φR d s.1.2∧t.1.1≤s.1.1∧t.2.2.2.1=s.2.2.2.1):=by
 obtain ⟨q1,q2,q3,q4,q5,q6⟩:=φi.1 h.ok
 obtain ⟨nx,n1,n2,n3⟩:=h.liv
 obtain ⟨last,r1,r2⟩:=h.reg
 have hF:=h.fre
 obtain ⟨g1,g2⟩:=(φ1y _).1 q5
 have hne:=φ3L q2
 have g2:=g2 hne
 have hl1:=φ5Q (nx,s.1.2)
 have hrl:φ3B (φn (nx,s.1.2))=((nx,s.1.2),true):=φL2 ⟨n2,rfl⟩ (by omega)
 have hsh:φ2b d s.1.2=true:=φCe g1
 obtain ⟨e1,e2⟩:=g1 _ (φ2u hne)
 have hcn:cutN (nx,s.1.2) d=(φ2 d (φ0 (φO s.1.2))).1.length:=e2
 have hcut:cutW (nx,s.1.2) d=φH (φ0 (φO s.1.2)) d:=by
  unfold cutW
  rw[if_pos hcn.symm]
  rfl
 have hs0:(φH (φ0 (φO s.1.2)) d).2=0:=φ6p q1 hF e1
 have hx:=φ3I q1 (φ0 (φO s.1.2))
 have hxF:Free (φH (φ0 (φO s.1.2)) d).1:=φ1I hF
 have hft:∀n,φ2 (φH (φ0 (φO s.1.2)) d).1 n=φ2 d n:=fun n=>φ2R q1 _ n
 have hsw:(φt (nx,s.1.2) (φH (φ0 (φO s.1.2)) d).1).2=0:=φ8E _ (w:=((φH (φ0 (φO s.1.2)) d).1,0)) hx hxF rfl
 have hrg:φ2H ([],0,0) (φR d s.1.2)=(s.2.1,last,0):=by
  unfold φ2H φ7L
  rw[r1,h.own,if_neg (by simp)]
 obtain ⟨hin,eo,_⟩:=φMD (v:=(nx,s.1.2)) q1 n2 e1 (by rw[hcut];exact hs0)
 have ho:φ2G d=(((nx,s.1.2),s.2.1,w64 (last+1),(cutN (nx,s.1.2) d:Int),hin),(φt (nx,s.1.2) (φH (φ0 (φO s.1.2)) d).1).1,0):=by
  unfold φ2G
  rw[if_neg (by rw[q1];simp),if_neg (by rw[hF.up];simp),n3,if_neg (by simp),hrl,if_neg (by simp),if_neg (by rw[hsh];simp),eo,hcut,hrg]
  unfold φ4w
  rw[if_neg (by simp),if_neg (by rw[hsw];simp)]
 refine ⟨_,_,ho,?_⟩
 -- what the disk has
 have hy:=φ8q hx (nx,s.1.2)
 have hyF:Free (φt (nx,s.1.2) (φH (φ0 (φO s.1.2)) d).1).1:=φ5P (P:=Free) (fun d act k=>φ1I k) _ hxF
 have hrange:∀id∈s.1.2,1≤id∧id≤100000∧id<nx:=fun id hid=>φBv (v:=(nx,s.1.2)) n2 hid
 have hsegs:∀id∈s.1.2,φ2 (φt (nx,s.1.2) (φH (φ0 (φO s.1.2)) d).1).1 (φ0 id)=φ2 d (φ0 id):=fun id hid=>by
  have hr:=hrange id hid
  rw[φDS hx (fun j hj=>by rw[φEz hj (φJ7 ⟨hr.1,hr.2.1⟩)];exact hid) (φ4N id),hft]
 have hlv:φ2 (φt (nx,s.1.2) (φH (φ0 (φO s.1.2)) d).1).1 φb=(φn (nx,s.1.2),true):=by
  rw[φDS hx (fun j hj=>absurd ⟨j,hj⟩ φOa) (by decide),hft,n3]
 have hcap:(φt (nx,s.1.2) (φH (φ0 (φO s.1.2)) d).1).1.2.1=d.2.1∧φK (φt (nx,s.1.2) (φH (φ0 (φO s.1.2)) d).1).1.1≤φK d.1:=by
  rw[φAg hx hxF,φHy q1 hF e1]
  refine ⟨rfl,?_⟩
  show φK ((onF _ φ6q d.1).filter _)≤_
  refine κf (φ6M _ List.filter_sublist) ?_
  show φK (onF _ φ6q d.1)≤_
  have:∀l:List φ6,φK (onF (φ0 (φO s.1.2)) φ6q l)=φK l:=fun l=>by
   unfold φK onF
   induction l with
   | nil=>rfl
   | cons f l ih=>
    simp only[κ5,sumN,ih]
    congr 1
    split<;>rfl
  rw[this];exact κ6 _
 have hkeep:(φt (nx,s.1.2) (φH (φ0 (φO s.1.2)) d).1).1.2=d.2∧∀n,(φ2 (φt (nx,s.1.2) (φH (φ0 (φO s.1.2)) d).1).1 n).2=true→φ2 (φt (nx,s.1.2) (φH (φ0 (φO s.1.2)) d).1).1 n=φ2 d n:=by
  refine ⟨by rw[φAg hx hxF,φHy q1 hF e1],fun n hn=>?_⟩
  rw[←hft n]
  by_cases hex:∃f∈(φt (nx,s.1.2) (φH (φ0 (φO s.1.2)) d).1).1.1,f.1=n
  ·obtain ⟨f,hf,rfl⟩:=hex
   have hf2:f∈(φH (φ0 (φO s.1.2)) d).1.1:=by
    rw[φAg hx hxF] at hf
    exact (List.mem_filter.1 hf).1
   rw[φ2l hy hf,φ2l hx hf2]
  ·exfalso
   rw[φBN fun f hf e=>hex ⟨f,hf,e⟩] at hn
   simp at hn
 generalize (φt (nx,s.1.2) (φH (φ0 (φO s.1.2)) d).1).1=y at *
 have hpl:=φ5T hsegs
 -- what the directory's entries are
 have hmem:∀e∈s.2.1,∃p∈φR d s.1.2,e=entP p:=fun e he=>by
  have:e∈(φq [] (φR d s.1.2) ([],0,0)).1:=by rw[r1];exact he
  rcases φHw _ _ _ e this with k | ⟨p,hp,x⟩
  ·simp at k
  ·exact ⟨p,by simpa using hp,x⟩
 obtain ⟨l0,lall⟩:=φDG (φR d s.1.2) [] ([],0,0) (by rw[r1])
 rw[r1] at l0 lall
 have l0:0≤last:=l0
 have lall:∀p∈φR d s.1.2,p.2.2.2.2.1≤last:=lall
 have hseg:∀e∈s.2.1,e.2.1∈s.1.2∧e.2.2.2.2≤last:=fun e he=>by
  obtain ⟨p,hp,rfl⟩:=hmem e he
  exact ⟨φJ6 p hp,lall p hp⟩
 have hw:w64 (last+1)=last+1:=φI (by omega) (by omega)
 rw[hw]
 have hok:φh ((nx,s.1.2),s.2.1,last+1,(cutN (nx,s.1.2) d:Int),hin) y=true:=φi.2 ⟨hy,n2,q3,⟨by show 1≤last+1;omega,by show last+1≤1000001;omega⟩,(φ1y _).2 ⟨fun id hid=>by rw[hsegs id hid];exact g1 id hid,fun hne=>by rw[hsegs _ (φ2u hne),hcn]⟩,fun e he=>by
  obtain ⟨s1,s2⟩:=hseg e he
  have k:=φ34.1 (q6 e he)
  have:φ1D y e=φ1D d e:=by unfold φ1D;rw[hsegs _ s1]
  rw[φ34,this]
  exact ⟨k.1,k.2.1,k.2.2.1,k.2.2.2.1,by show e.2.2.2.2<last+1;omega⟩⟩
 refine ⟨⟨⟨hok,fun e he=>?_,⟨nx,κK _,n2,hlv⟩,hyF⟩,⟨last,by show φq [] (φR y s.1.2) _=_;rw[hpl];exact r1,by show last<last+1;omega⟩,fun p hp=>?_,by show ownL 5 0 (φR y s.1.2)=[];rw[hpl];exact h.own⟩,rfl,rfl,by show last+1≤_;omega,?_,hcap.1,hcap.2,hkeep.1,hkeep.2,hpl,n1,by show (cutN (nx,s.1.2) d:Int)=_;rw[hcn];exact g2.symm⟩
 ·have:=hrange _ (hseg e he).1
  exact this.2.2
 ·have hp:p∈φR y s.1.2:=hp
  rw[hpl] at hp
  have:=lall p hp
  show _<last+1
  omega
 ·rw[φ2n hok,φ2n h.ok]
  congr 1
  show mapG (φ1P y) s.2.1=mapG (φ1P d) s.2.1
  unfold mapG
  refine List.map_congr_left fun e he=>?_
  have:=hsegs _ (hseg e he).1
  congr 1
  unfold φ1P
  rw[this]
theorem φJZ (n:Nat) (h:n≤100000) (h8:8≤n):JR ((2,[1]),[],1,0,0) (dNew n):=by
 obtain ⟨f1,f2,f3⟩:=φBJ n h h8
 have hpl:φR (dNew n) [1]=[]:=by
  rw[φ8w]
  unfold φ12
  rw[f2,φ7S];rfl
 refine ⟨⟨φO0 n h h8,fun e he=>by simp at he,⟨2,κK _,φNa,f1⟩,rfl⟩,⟨0,by show φq [] (φR (dNew n) [1]) _=_;rw[hpl];rfl,by decide⟩,fun p hp=>?_,by show ownL 5 0 (φR (dNew n) [1])=[];rw[hpl];rfl⟩
 have hp:p∈φR (dNew n) [1]:=hp
 rw[hpl] at hp
 simp at hp
theorem φKM (c:Int):told c=0∨told c=1∨told c=2∨told c=3:=by
 unfold told
 split
 ·exact .inl rfl
 split
 ·exact .inr (.inl rfl)
 split
 ·exact .inr (.inr (.inl rfl))
 ·exact .inr (.inr (.inr rfl))
def φ3S (c:Int):Prop:=0≤c∧c≤5
theorem φ6d (c:Int):φ3S (told c):=by
 unfold φ3S
 rcases φKM c with e | e | e | e<;>rw[e]<;>decide
theorem φLR {names:List (List UInt8)} {w:φE} (h:φ3S w.2):φ3S (φ1d names w).2:=by
 unfold φ1d
 split
 ·split
  ·exact ⟨by show (0:Int)≤2;decide,by show (2:Int)≤5;decide⟩
  ·exact φ6d _
 ·exact h
theorem φMz (s:φ8) (d:φ1):φ3S (rotP s d).2.2:=by
 unfold rotP
 split
 ·exact ⟨by show (0:Int)≤5;decide,by show (5:Int)≤5;decide⟩
 split
 ·exact φ6d _
 simp only
 split
 ·exact φ6d _
 split
 ·exact φLR (φ6d _)
 ·exact ⟨κK _,by show (0:Int)≤5;decide⟩
theorem φJ3 (s:φ8) (d:φ1) (r:RecT):φ3S (addP s d r).2.2.1:=by
 have h:φ3S (addR s d (frame (φ7 r))).2.2:=by
  unfold addR
  split
  ·exact φMz s d
  ·exact ⟨κK _,by show (0:Int)≤5;decide⟩
 unfold addP
 simp only
 split
 ·exact h
 split
 ·exact φ6d _
 ·exact ⟨κK _,by show (0:Int)≤5;decide⟩
theorem φGK:∀(rs:List RecT) (s:φ8) (d:φ1),φ3S (φe rs s d).2.2.1
 | [],_,_=>⟨κK _,by show (0:Int)≤5;decide⟩
 | r::rs,s,d=>by
  unfold φe
  split
  ·exact φJ3 s d r
  ·exact φGK rs _ _
theorem φJH (s:φ8) (d:φ1) (l:List PutT):φ3S (φ1N s d l).2.2:=by
 unfold φ1N
 simp only
 split
 ·exact φGK _ _ _
 split
 ·exact φ6d _
 ·exact ⟨κK _,by show (0:Int)≤5;decide⟩
theorem φEa {s s':φ8} {d d':φ1} {m:Int} (h:φh s d=true) (h':φh s' d'=true) (hd:s'.2.1=s.2.1) (hk:φ2z m d d') (hm:∀e∈s.2.1,e.2.1<m):φU s' d'=φU s d:=by
 rw[φ2n h,φ2n h',hd,φHY h hk hm]
theorem φLn {s:φ8} {d:φ1} (h:JR s d) {l:List PutT} (hp:φ1k l=true) (hb:s.2.2.1≤1000000) (hc:(φ1N s d l).2.2≠0):(φ1N s d l).1.2.1=s.2.1∧φ2z s.1.1 d (φ1N s d l).2.1:=by
 obtain ⟨q1,q2,q3,q4,q5,q6⟩:=φi.1 h.ok
 have hrec:=φ6v (b:=s.2.2.1) (l:=l) ⟨q4.1,hb⟩ hp
 obtain ⟨P,g1,g2,g3,g4,g5⟩:=φ7p (φ1q s.2.2.1 l) _ _ (h.toJB.bump hb) hrec
 unfold φ1N at hc ⊢
 generalize φe (φ1q s.2.2.1 l) (s.1,s.2.1,s.2.2.1+1,s.2.2.2) d=g at *
 simp only at hc ⊢
 by_cases c:g.2.2.1=0
 rotate_left
 ·rw[if_pos c]
  exact ⟨g1.dir,g1.kp⟩
 rw[if_neg (by simpa using c)] at hc ⊢
 by_cases c2:(φH (actN g.1) g.2.1).2=0
 rotate_left
 ·rw[if_pos c2]
  refine ⟨g1.dir,fun e e1 e2 e3=>?_⟩
  obtain ⟨b1,_⟩:=φi.1 g1.jb.ok
  have:=g1.kp e e1 e2 e3
  unfold φ1D at this ⊢
  show φ1J (φ2 (φH (actN g.1) g.2.1).1 (φ0 e.2.1)).1 _ _=_
  rw[φ2R b1]
  exact this
 ·rw[if_neg (by simpa using c2)] at hc
  exact absurd rfl hc
theorem φIK {s:φ8} {d:φ1} (h:JR s d) (l:List PutT):JR (φ2S s d l).1 (φ2S s d l).2.1∧φ3S (φ2S s d l).2.2 ∧
  ((φ2S s d l).2.2=0→φU (φ2S s d l).1 (φ2S s d l).2.1=(φ2e (φU s d).1 l s.2.2.1,0))∧((φ2S s d l).2.2≠0→φU (φ2S s d l).1 (φ2S s d l).2.1=φU s d):=by
 have hd0:φU s d=((φU s d).1,0):=by rw[φ2n h.ok]
 unfold φ2S
 by_cases c1:φh s d=false∨φ1k l=false
 ·rw[if_pos c1]
  exact ⟨h,by show φ3S 4;exact ⟨by decide,by decide⟩,fun e=>by simp at e,fun _=>rfl⟩
 rw[if_neg c1]
 by_cases c2:l.length=0
 ·rw[if_pos c2]
  refine ⟨h,by show φ3S 0;exact ⟨by decide,by decide⟩,fun _=>?_,fun e=>absurd rfl e⟩
  have:l=[]:=List.length_eq_zero_iff.1 c2
  subst this
  exact hd0
 rw[if_neg c2]
 by_cases c3:20<φ2p s.2.1 l∨s.2.2.1 > 1000000
 ·rw[if_pos c3]
  exact ⟨h,by show φ3S 5;exact ⟨by decide,by decide⟩,fun e=>by simp at e,fun _=>rfl⟩
 rw[if_neg c3]
 have hp:φ1k l=true:=by
  cases hp:φ1k l with
  | true=>rfl
  | false=>exact absurd (.inr hp) c1
 have hJ:=φI6 h hp (by omega) (by omega)
 refine ⟨hJ,φJH s d l,fun hc=>?_,fun hc=>?_⟩
 ·obtain ⟨r1,r2,r3,r4,r5⟩:=φBe h.ok h.lt hp (by omega) (by omega) hc
  rw[←r3,φ2n r1]
 ·obtain ⟨f1,f2⟩:=φLn h hp (by omega) hc
  exact φEa h.ok hJ.ok f1 f2 h.lt
theorem φCc {s:φ8} {d:φ1} (h:JR s d):JR (φ20 s d).1 (φ20 s d).2.1∧φU (φ20 s d).1 (φ20 s d).2.1=φU s d:=by
 unfold φ20
 rw[if_neg (by rw[h.ok];simp)]
 by_cases c:s.1.1+2 > 100000
 ·rw[if_pos c];exact ⟨h,rfl⟩
 rw[if_neg c]
 have hJ:=φJm h (by omega)
 refine ⟨hJ,?_⟩
 obtain ⟨q1,q2,q3,q4,q5,q6⟩:=φi.1 h.ok
 by_cases hc:(φ15 s d (φU s d).1).2.2=0
 ·have hM:=φFj (φU s d).1 q1 q2 (by omega) hc
  exact (φ9B h.ok (by omega) hM).2.1
 ·obtain ⟨f1,f2,f3,f4,f5⟩:=φGS (φU s d).1 h.toJB (by omega) hc
  refine φEa (m:=s.1.1) h.ok hJ.ok (by rw[f1]) (fun e e1 e2 e3=>?_) h.lt
  unfold φ1D
  rw[f5 _ ⟨e1,e2⟩]
abbrev EngT:=Bool×φ8×φ1×List TxnT
abbrev φY:=Int×Int×List UInt8×List UInt8×Int
abbrev AnsT:=Int×List UInt8×List (List UInt8)
def TB (l:List TxnT):Prop:=l.length=3∧∀t∈l,t.2.1.length≤20∧t.2.2.length≤50
structure EI (e:EngT):Prop where
 up:e.1=true→JR e.2.1 e.2.2.1
 dn:e.1=false→(∃s,JR s e.2.2.1)∧e.2.1.1.2.length≤100∧e.2.1.2.1.length≤100
 tx:TB e.2.2.2
theorem TB.new:TB (κH 3 ((false,[],[]):TxnT)):=⟨rfl,fun t ht=>by
 have:=List.eq_of_mem_replicate ht
 subst this
 exact ⟨by simp,by simp⟩⟩
theorem TB.set {l:List TxnT} (h:TB l) (i:Nat) {t:TxnT} (ht:t.2.1.length≤20∧t.2.2.length≤50):TB (l.set i t):=⟨by rw[List.length_set];exact h.1,fun x hx=>by
 rcases κc hx with hx | rfl
 ·exact h.2 x hx
 ·exact ht⟩
theorem JR.small {s:φ8} {d:φ1} (h:JR s d):SmallS s d:=by
 have:=φLH h.ok
 exact this
theorem EI.small {e:EngT} (h:EI e):SmallS e.2.1 e.2.2.1∧φ3 e.2.2.1=true:=by
 cases c:e.1 with
 | true=>exact ⟨(h.up c).small,(φi.1 (h.up c).ok).1⟩
 | false=>
  obtain ⟨⟨s,hs⟩,h1,h2⟩:=h.dn c
  have hd:=(φi.1 hs.ok).1
  exact ⟨⟨φ3Z (φ13 hd) (by omega),by omega,by omega⟩,hd⟩
theorem φOD {t:TxnT} (h:t.2.1.length≤20∧t.2.2.length≤50) (p:PutT):(φ1r t p).1.2.1.length≤20∧(φ1r t p).1.2.2.length≤50:=by
 unfold φ1r
 split
 ·refine ⟨h.1,?_⟩
  simp;omega
 ·exact h
theorem EI.same {e:EngT} (h:EI e) {l:List TxnT} (hl:TB l):EI (e.1,e.2.1,e.2.2.1,l):=⟨h.up,h.dn,hl⟩
theorem φIn (l:List φC) (hl:l.length<1000000000):ψ2N.f l=some (l.map (·.1)):=by
 have key:=φ5x (step:=ψ2N.l0) (fun n (a:List (List UInt8))=>(l,a,(n:Int))) l.length (fun n a=>a=(l.take n).map (·.1)) (fun b=>b=l.map (·.1))
  (fun rec a hi=>⟨_,by simp[ψ2N.l0];rfl,by rw[hi,κN]⟩)
  (fun rec n a hn hi=>by
   have e0:(n:Int)<(l.length:Int):=by omega
   have hw:=φM (show n+1<9223372036854775808 by omega)
   have hal:a.length=n:=by rw[hi,lM,lT];omega
   have q:decide ((a.length+(0+1)) * 16≤140737488355328)=true:=by simp;omega
   refine ⟨a++[l[n].1],by rw[hi,κ1 hn,mp];rfl,?_⟩
   simp only[ψ2N.l0,e0,dT,cT,φF,hn,φJ,φ9 hn,lC,lN,q,hw])
  [] (by simp) (by omega)
 obtain ⟨b,k,kb⟩:=key
 unfold ψ2N.f
 have k:lp ψ2N.l0 (l,[],0)=some b:=k
 rw[k,kb];rfl
theorem EI.store {e:EngT} (h:EI e) (hu:e.1=true) {s:φ8} {d:φ1} (hj:JR s d) {l:List TxnT} (hl:TB l):EI (e.1,s,d,l):=⟨fun _=>hj,fun c=>by rw[hu] at c;simp at c,hl⟩
theorem φOW {c:CurT} (h:Cur c):∃s c',ψ3J.f c=some (s,c')∧s.1≠11∧Cur c':=by
 obtain ⟨k,c1,e1,hk,h1⟩:=φA2 h [1,2,2,3,3,3,4,5,5,6,7,8,1,5] (by decide)
 obtain ⟨z,c2,e2,a2,b2,_,h2⟩:=φ5D h1 3
 have hk11:k≠11:=by
  simp only[mc,List.not_mem_nil,or_false] at hk
  omega
 unfold ψ3J.f
 simp only[e1,e2,bS]
 -- what follows
 have fin:∀(x0:CurT) (x3:φY),Cur x0→x3.1≠11→∃s c',((ψ3Q.f x0 40).bind fun x=>
   bif x.1==0 then some (((9,0,[],[],0):φY),x.2) else
   (bif x.1==1 then some (x.2,((0,0,[],[],0):φY),x3,x.1,x.1==1) else some (x.2,((0,0,[],[],0):φY),x3,x.1,x.1==2)).bind fun x=>
    bif x.2.2.2.2 then some (((10,0,[],[],0):φY),x.1) else
    bif x.2.2.2.1==3 then (ψ3W.f x.1 [(-1),3]).bind fun x_1=>some (((x.2.2.1.1,x_1.1,x.2.2.1.2.2):φY),x_1.2) else
    bif x.2.2.2.1==4 then (ψ3V.f x.1 [[],[110,105,110,101,98,121,116,101,115]]).bind fun x_1=>some (((x.2.2.1.1,x.2.2.1.2.1,x_1.1,x.2.2.1.2.2.2):φY),x_1.2) else
    bif x.2.2.2.1==5 then (ψ3W.f x.1 [0,12]).bind fun x_1=>some (((x_1.1,x.2.2.1.2):φY),x_1.2) else some (x.2.2.1,x.1))=some (s,c')∧s.1≠11∧Cur c':=by
  intro x0 x3 hx h3
  obtain ⟨y,c4,e4,_,_,_,h4⟩:=φ5D hx 40
  simp only[e4,bS]
  cases d0:(y==0)
  rotate_left
  ·exact ⟨_,_,rfl,by decide,h4⟩
  simp only[cF]
  cases d1:(y==1)
  rotate_left
  ·simp only[cT,bS]
   exact ⟨_,_,rfl,by decide,h4⟩
  simp only[cF,bS]
  cases d2:(y==2)
  rotate_left
  ·exact ⟨_,_,rfl,by decide,h4⟩
  simp only[cF]
  cases d3:(y==3)
  rotate_left
  ·obtain ⟨v,c5,e5,_,h5⟩:=φA2 h4 [(-1),3] (by decide)
   simp only[cT,e5,bS]
   exact ⟨_,_,rfl,h3,h5⟩
  simp only[cF]
  cases d4:(y==4)
  rotate_left
  ·obtain ⟨v,c5,e5,_,h5⟩:=φEk h4 [[],[110,105,110,101,98,121,116,101,115]] (by decide)
   simp only[cT,e5,bS]
   exact ⟨_,_,rfl,h3,h5⟩
  simp only[cF]
  cases d5:(y==5)
  rotate_left
  ·obtain ⟨v,c5,e5,hv,h5⟩:=φA2 h4 [0,12] (by decide)
   simp only[cT,e5,bS]
   refine ⟨_,_,rfl,?_,h5⟩
   simp only[mc,List.not_mem_nil,or_false] at hv
   show v≠11
   omega
  ·exact ⟨_,_,rfl,h3,h4⟩
 cases d2:(k==2)
 ·simp only[cF,bS]
  cases d4:(k==4)
  ·simp only[cF]
   cases d3:(k==3)
   ·simp only[cF,bS]
    exact fin c2 (k,z,[],[],0) h2 hk11
   ·obtain ⟨x,c3,e3,_,h3⟩:=φCJ h2
    obtain ⟨y,c4,e4,_,h4⟩:=φKV h3 12 (by omega) (by omega)
    simp only[cT,e3,e4,bS]
    exact fin c4 (k,z,x,y,0) h4 hk11
  ·obtain ⟨x,c3,e3,_,h3⟩:=φCJ h2
   simp only[cT,e3,bS]
   exact fin c3 (k,z,x,[],0) h3 hk11
 ·obtain ⟨x,c3,e3,_,h3⟩:=φCJ h2
  simp only[cT,e3,bS]
  exact fin c3 (k,z,x,[],0) h3 hk11
def clOk:List φY→Prop
 | []=>True
 | [s]=>s.1≠9
 | s::t::r=>(s.1=9→t.1=10)∧clOk (t::r)
theorem φBS:∀(a b:List φY),clOk a→clOk b→clOk (a++b)
 | [],b,_,h=>h
 | [s],[],h,_=>h
 | [s],t::r,h,k=>⟨fun e=>absurd e h,k⟩
 | s::t::r,b,⟨h1,h2⟩,k=>⟨h1,φBS (t::r) b h2 k⟩
theorem φBs:∀(l:List φY),clOk l→∀i s t,l[i]?=some s→l[i+1]?=some t→s.1=9→t.1=10
 | [],_,i,s,t,h,_,_=>by simp at h
 | [x],_,i,s,t,_,h,_=>by simp at h
 | x::y::r,⟨h1,h2⟩,0,s,t,h,k,e=>by
  simp only[List.getElem?_cons_zero,Option.some.injEq,κV,List.getElem?_cons_succ] at h k
  subst h;subst k;exact h1 e
 | x::y::r,⟨h1,h2⟩,i+1,s,t,h,k,e=>φBs (y::r) h2 i s t (by simpa using h) (by simpa using k) e
theorem φM9 {c:CurT} (h:Cur c) (most:Nat) (hm0:most≤1000):∃l c',ψ3K.f c (most:Int)=some (l,c')∧l.length≤2 * most∧(∀s∈l,s.1≠11)∧clOk l∧Cur c':=by
 obtain ⟨n,c1,e1,a1,b1,_,h1⟩:=φ5D h ((most:Int)+1)
 have b1:=b1 (by omega)
 obtain ⟨m,rfl⟩:∃m:Nat,n=(m:Int):=⟨n.toNat,by omega⟩
 have key:=φAV (step:=ψ3K.l0) (fun k (s:CurT×List φY×List Bool)=>(s.1,s.2.1,s.2.2,(k:Int))) (fun k s=>Cur s.1∧s.2.1.length+2 * k≤2 * most∧(∀x∈s.2.1,x.1≠11)∧clOk s.2.1∧s.2.2.length=3) (fun b=>Cur b.1∧b.2.length≤2 * most∧(∀x∈b.2,x.1≠11)∧clOk b.2)
  (fun rec s hi=>⟨_,by simp[ψ3K.l0];rfl,hi.1,by have:=hi.2.1;show s.2.1.length≤2 * most;omega,hi.2.2.1,hi.2.2.2.1⟩)
  (fun rec k s hi=>by
   obtain ⟨s,l,o⟩:=s
   obtain ⟨hi1,hi2,hi3,hi5,hi4⟩:=hi
   simp only at hi1 hi2 hi3 hi5 hi4
   have e0:((k+1:Nat):Int) > 0:=by omega
   have hw:=φMG (show k<2 ^ 60 by omega)
   obtain ⟨t,c3,f3,ht,h3⟩:=φOW hi1
   have q1:decide ((l.length+(0+1)) * 56≤140737488355328)=true:=by simp;omega
   -- the last part
   have fin:∀(x0:CurT) (x6:List Bool) (x8:φY),Cur x0→x6.length=3→x8.1≠11→∃s':CurT×List φY×List Bool,(Cur s'.1∧s'.2.1.length+2 * k≤2 * most∧(∀x∈s'.2.1,x.1≠11)∧clOk s'.2.1∧s'.2.2.length=3) ∧
     ((bif x8.1==9 then bif decide ((l.length+(0+1)) * 56≤140737488355328) then some (x0,l++[x8],κH 3 false,((k+1:Nat):Int),((10,0,[],[],0):φY)) else none else some (x0,l,x6,((k+1:Nat):Int),x8)).bind fun x=>
      bif decide ((x.2.1.length+(0+1)) * 56≤140737488355328) then rec (x.1,x.2.1++[x.2.2.2.2],x.2.2.1,w64 (x.2.2.2.1 - 1)) else none)=rec (s'.1,s'.2.1,s'.2.2,(k:Int)):=by
    intro x0 x6 x8 hx0 hx6 hx8
    cases d9:(x8.1==9)
    ·simp only[cF,bS,q1,cT,hw]
     refine ⟨(x0,l++[x8],x6),⟨hx0,by simp;omega,fun y hy=>?_,φBS l [x8] hi5 (by show x8.1≠9;simpa using d9),hx6⟩,rfl⟩
     rcases mA.1 hy with hy | hy
     ·exact hi3 y hy
     ·rw[mZ.1 hy];exact hx8
    ·have q2:decide (((l++[x8]).length+(0+1)) * 56≤140737488355328)=true:=by simp;omega
     simp only[cT,q1,bS,q2,hw]
     refine ⟨(x0,l++[x8]++[(10,0,[],[],0)],κH 3 false),⟨hx0,by simp;omega,fun y hy=>?_,by show clOk ((l++[x8])++[(10,0,[],[],0)]);rw[aA];exact φBS l _ hi5 ⟨fun _=>rfl,by show (10:Int)≠9;decide⟩,rfl⟩,rfl⟩
     rcases mA.1 hy with hy | hy
     ·rcases mA.1 hy with hy | hy
      ·exact hi3 y hy
      ·rw[mZ.1 hy];exact hx8
     ·rw[mZ.1 hy];decide
   simp only[ψ3K.l0,e0,dT,cT,f3,bS,φ2J,lC,lN]
   by_cases d6:t.1≤6
   rotate_left
   ·simp only[d6,dF,cF,bS]
    exact fin c3 o t h3 hi4 ht
   simp only[d6,dT,cT]
   by_cases ds:0≤t.2.1∧t.2.1≤2
   rotate_left
   ·simp only[ds,dF,cF,bS]
    exact fin c3 o t h3 hi4 ht
   obtain ⟨n,hn⟩:∃n:Nat,t.2.1=(n:Int):=⟨t.2.1.toNat,by omega⟩
   have hin:inB t.2.1 o.length=true:=by rw[hn,φF,hi4];simp;omega
   simp only[ds,and_self,dT,cT,hin]
   have hset:∀b:Bool,(o.set t.2.1.toNat b).length=3:=fun b=>by rw[List.length_set];exact hi4
   -- a step that stays as it is
   have stay:∀(x0:CurT) (x8:φY),Cur x0→x8.1≠11→x8.2.1=t.2.1→∃s':CurT×List φY×List Bool,(Cur s'.1∧s'.2.1.length+2 * k≤2 * most∧(∀x∈s'.2.1,x.1≠11)∧clOk s'.2.1∧s'.2.2.length=3) ∧
     ((bif x8.1 != 5 then bif inB x8.2.1 o.length then some (x0,l,o.set x8.2.1.toNat (x8.1 != 6),((k+1:Nat):Int),x8) else none else bif inB x8.2.1 o.length then some (x0,l,o.set x8.2.1.toNat false,((k+1:Nat):Int),x8) else none).bind fun x=>
      (bif x.2.2.2.2.1==9 then bif decide ((x.2.1.length+(0+1)) * 56≤140737488355328) then some (x.1,x.2.1++[x.2.2.2.2],κH 3 false,x.2.2.2.1,((10,0,[],[],0):φY)) else none else some (x.1,x.2.1,x.2.2.1,x.2.2.2.1,x.2.2.2.2)).bind fun x=>
       bif decide ((x.2.1.length+(0+1)) * 56≤140737488355328) then rec (x.1,x.2.1++[x.2.2.2.2],x.2.2.1,w64 (x.2.2.2.1 - 1)) else none)=rec (s'.1,s'.2.1,s'.2.2,(k:Int)):=by
    intro x0 x8 hx0 hx8 he
    rw[he]
    cases d5:(x8.1 != 5)
    ·simp only[cF,hin,cT,bS]
     exact fin x0 _ x8 hx0 (hset _) hx8
    ·simp only[hin,cT,bS]
     exact fin x0 _ x8 hx0 (hset _) hx8
   cases hb:rdA false o t.2.1
   ·obtain ⟨w,c4,f4,h4⟩:=φFV h3 8
    simp only[nF,cT,f4,bS]
    cases w
    ·simp only[nF,cT,bS,hin,hb,cF]
     have:=stay c4 (1,t.2.1,[],[],0) h4 (by show (1:Int)≠11;decide) rfl
     simp only[hin,cT] at this
     exact this
    ·simp only[nZ,cF,bS,hin,cT,hb]
     have:=stay c4 t h4 ht rfl
     simp only[hin,cT] at this
     exact this
   ·simp only[nZ,cF,bS,hin,cT,hb]
    cases d1:(t.1==1)
    ·simp only[cF,bS]
     exact stay c3 t h3 ht rfl
    ·obtain ⟨w,c4,f4,h4⟩:=φFV h3 8
     simp only[cT,f4,bS]
     cases w
     ·simp only[nF,cT,bS]
      exact stay c4 (5,t.2) h4 (by show (5:Int)≠11;decide) rfl
     ·simp only[nZ,cF,bS]
      exact stay c4 t h4 ht rfl)
  m (c1,[],κH 3 false) ⟨h1,by simp;omega,fun x hx=>by simp at hx,trivial,rfl⟩ (by omega)
 obtain ⟨⟨c2,l⟩,e2,h2,hl,hs,hcl⟩:=key
 unfold ψ3K.f
 have hw:w64 ((most:Int)+1)=(most:Int)+1:=φI (by omega) (by omega)
 have e2:lp ψ3K.l0 (c1,[],κH 3 false,(m:Int))=some (c2,l):=e2
 simp only[hw,e1,e2,bS]
 exact ⟨l,c2,rfl,hl,hs,hcl,h2⟩
theorem φIM (l:List TxnT) (hl:l.length<1000000) (ht:∀t∈l,t.2.1.length≤20∧t.2.2.length≤50):ψ1Q.f l=some l:=by
 have key:=φ5x (step:=ψ1Q.l0) (fun n (a:List TxnT)=>(a,l,(l.length:Int),(n:Int))) l.length (fun n a=>a=l.take n) (fun b=>b=l)
  (fun rec a hi=>⟨_,by simp[ψ1Q.l0];rfl,by rw[hi,κN]⟩)
  (fun rec n a hn hi=>by
   have e0:(n:Int)<(l.length:Int):=by omega
   have hw:=φM (show n+1<9223372036854775808 by omega)
   have h:=ht _ (gM hn)
   have hc:=φAw l[n] (by omega) (by omega)
   have hal:a.length=n:=by rw[hi,lT];omega
   have q:decide ((a.length+(0+1)) * 56≤140737488355328)=true:=by simp;omega
   refine ⟨a++[l[n]],by rw[hi,κ1 hn],?_⟩
   simp only[ψ1Q.l0,e0,dT,cT,φF,hn,φJ,φ9 hn,φ1m,hc,bS,lC,lN,q,hw])
  [] (by simp) (by omega)
 obtain ⟨b,k,kb⟩:=key
 unfold ψ1Q.f
 have k:lp ψ1Q.l0 ([],l,(l.length:Int),0)=some b:=k
 rw[k,kb];rfl
abbrev zTx:List TxnT:=κH 3 (false,[],[])
abbrev φMW (d:φ1):EngT:=(false,((0,[]),[],0,0,0),d,zTx)
theorem φMv {e:EngT} (h1:e.2.1.1.2.length≤1000) (h2:e.2.1.2.1.length≤1000) (h3:e.2.2.1.1.length<200000) (hl:e.2.2.2.length≤3) (ht:∀t∈e.2.2.2,t.2.1.length≤20∧t.2.2.length≤50):ψ1L.f e=some e:=by
 unfold ψ1L.f
 simp only[φAT e.2.1 (by omega) (by omega),φ5R e.2.2.1 (by omega),φIM e.2.2.2 (by omega) ht,bS,φ1m]
def C2 (c:Int):Prop:=c=0∨c=2
theorem φI9 {id:Int} (h:1≤id∧id≤100000):φ1n (φL id)=true:=by
 have hl:=φBW id
 rw[φ6r h] at hl ⊢
 have hs:=φ5a h
 rw[φ7V h] at hs
 unfold φ1n at hs ⊢
 simp only[bA,decide_eq_true_eq,List.all_append,lA] at hs ⊢
 refine ⟨⟨by decide,hs.1.2⟩,?_,?_⟩
 ·show 1≤4+_;omega
 ·rw[lA] at hl;show 4+_≤12;have:([104,105,110,116]:List UInt8).length=4:=rfl;omega
theorem φ77 {c:Int} (h:C2 c):told c=c:=by
 rcases h with rfl | rfl<;>rfl
structure FD (d:φ1):Prop where
 dk:φ3 d=true
 fr:Free d
theorem φCA {d:φ1} (h:FD d) (n:List UInt8):FD (φD n d).1∧(φD n d).2=0∧(φ2 (φD n d).1 n).2=false:=
 ⟨⟨φ2Y h.dk n,φ5M (P:=Free) (fun d act k=>φ1I k) n h.fr⟩,φBc h.dk h.fr n,φ9x (φBc h.dk h.fr n)⟩
theorem φHG {d:φ1} (h:FD d) {n:List UInt8} (hn:φ1n n=true) (ha:(φ2 d n).2=false):FD (φW n d).1∧C2 (φW n d).2:=by
 refine ⟨⟨φ33 h.dk n,φ1I h.fr⟩,?_⟩
 unfold φW
 rw[φ4G h.dk h.fr]
 unfold φ2g
 simp only
 rw[if_neg (by rw[hn];simp),if_neg]
 ·split
  ·exact .inr rfl
  ·exact .inl rfl
 ·rcases φw d.1 n with ⟨e,_⟩ | ⟨i,hi,e,hx⟩
  ·rw[e];decide
  ·exfalso
   have:=φ2l h.dk (gM hi)
   rw[hx] at this
   rw[this] at ha;simp at ha
theorem φAS {d:φ1} (h:FD d) {n:List UInt8} (hn:(φ2 d n).2=true) (t:List UInt8):FD (φN n t d).1∧C2 (φN n t d).2:=by
 refine ⟨⟨φ3N h.dk n t,φ1I h.fr⟩,?_⟩
 obtain ⟨i,hi,e,_⟩:=φ51 hn
 unfold φN
 rw[φ4G h.dk h.fr]
 unfold φ2T
 simp only
 rw[e]
 simp only
 split
 ·exact .inr rfl
 ·exact .inl rfl
theorem φ8g {d:φ1} (h:FD d) {n:List UInt8} (hn:(φ2 d n).2=true):FD (φH n d).1∧(φH n d).2=0:=
 ⟨⟨φ3I h.dk n,φ1I h.fr⟩,φ6p h.dk h.fr hn⟩
theorem φ9s {w:φE} (h:FD w.1) (hc:C2 w.2) {n:List UInt8} (hn:φ1n n=true):FD (sNew n w).1∧C2 (sNew n w).2:=by
 obtain ⟨d,c⟩:=w
 rcases hc with hc | hc
 ·have hc:c=0:=hc
  subst hc
  obtain ⟨g1,g2,g3⟩:=φCA h n
  have e:sNew n (d,0)=φW n (φD n d).1:=by
   unfold sNew φA
   rw[if_pos rfl,if_pos g2]
  rw[e]
  exact φHG g1 hn g3
 ·have hc:c=2:=hc
  subst hc
  rw[φGb (by decide)]
  exact ⟨h,.inr rfl⟩
theorem φHU {w:φE} (h:FD w.1) (hc:C2 w.2) {n:List UInt8} (hn:φ1n n=true) (t:List UInt8):FD (φ1O n t w).1∧C2 (φ1O n t w).2:=by
 obtain ⟨g1,g2⟩:=φ9s h hc hn
 show FD (φA (φH n) (φA (φN n t) (sNew n w))).1∧C2 (φA (φH n) (φA (φN n t) (sNew n w))).2
 by_cases c:(sNew n w).2=0
 ·obtain ⟨_,ht⟩:=φ7T c
  obtain ⟨a1,a2⟩:=φAS g1 (n:=n) (by rw[ht]) t
  have e1:φA (φN n t) (sNew n w)=φN n t (sNew n w).1:=by unfold φA;rw[if_pos c]
  rw[e1]
  by_cases c2:(φN n t (sNew n w).1).2=0
  ·have e2:φA (φH n) (φN n t (sNew n w).1)=φH n (φN n t (sNew n w).1).1:=by unfold φA;rw[if_pos c2]
   rw[e2]
   obtain ⟨s1,s2⟩:=φ8g a1 (n:=n) (by rw[(φ4D c2).2])
   exact ⟨s1,.inl s2⟩
  ·have e2:φA (φH n) (φN n t (sNew n w).1)=φN n t (sNew n w).1:=by unfold φA;rw[if_neg c2]
   rw[e2];exact ⟨a1,a2⟩
 ·have e1:φA (φN n t) (sNew n w)=sNew n w:=by unfold φA;rw[if_neg c]
  have e2:φA (φH n) (sNew n w)=sNew n w:=by unfold φA;rw[if_neg c]
  rw[e1,e2];exact ⟨g1,g2⟩
theorem φGZ {w:φE} (h:FD w.1) (hc:C2 w.2) (v:φQ):FD (sPut v w).1∧C2 (sPut v w).2:=by
 obtain ⟨g1,g2⟩:=φHU h hc (n:=[116,101,109,112]) (by decide) (φn v)
 refine ⟨⟨φ3i h.dk v,φ7l (P:=Free) (fun d act k=>φ1I k) v h.fr⟩,?_⟩
 unfold sPut φA
 by_cases c:(φ1O [116,101,109,112] (φn v) w).2=0
 ·rw[if_pos c]
  obtain ⟨_,ht⟩:=φ7v c
  obtain ⟨i,hi,e,hx,_⟩:=φ51 (by rw[ht])
  left
  show (φT _ (φ2L [116,101,109,112] [108,105,118,101])).2=0
  rw[φ4G g1.dk g1.fr]
  unfold φ2L
  rw[if_neg (by decide),e]
 ·rw[if_neg c];exact g2
theorem φNH {d:φ1} (h:FD d) (names:List (List UInt8)):FD (φo names (d,0)).1∧(φo names (d,0)).2=0:=
 ⟨⟨φ4e names h.dk,φ5P (P:=Free) (fun d act k=>φ1I k) names h.fr⟩,φ8E names h.dk h.fr rfl⟩
theorem φDc {names:List (List UInt8)} {w:φE} (h:FD w.1) (hc:C2 w.2):C2 (φ1d names w).2:=by
 unfold φ1d
 split
 ·split
  ·exact .inr rfl
  ·show C2 (told (φo names (w.1,0)).2)
   rw[(φNH h names).2];exact .inl rfl
 ·exact hc
theorem JB.fd {s:φ8} {d:φ1} (h:JB s d):FD d:=⟨(φi.1 h.ok).1,h.fre⟩
theorem φOJ {s:φ8} {d:φ1} (h:JB s d):C2 (rotP s d).2.2∨(rotP s d).2.2=5:=by
 obtain ⟨q1,q2,q3,q4,q5,q6⟩:=φi.1 h.ok
 obtain ⟨k1,k2,k3,k4⟩:=(φ14 s.1).1 q2
 have hex:(φ2 d (actN s)).2=true:=(((φ1y _).1 q5).1 _ (φ2u (φ3L q2))).1
 obtain ⟨s1,s2⟩:=φ8g h.fd hex
 obtain ⟨g1,g2,g3⟩:=φCA s1 (φ0 s.1.1)
 have hn:=φ5a (id:=s.1.1) ⟨k2.1,k2.2⟩
 obtain ⟨c1,c2⟩:=φHG g1 hn g3
 have e:φA (φW (φ0 s.1.1)) (φD (φ0 s.1.1) (φH (actN s) d).1)=φW (φ0 s.1.1) (φD (φ0 s.1.1) (φH (actN s) d).1).1:=by unfold φA;rw[if_pos g2]
 unfold rotP
 split
 ·exact .inr rfl
 left
 rw[if_neg (by rw[s2];simp)]
 simp only
 rw[e]
 split
 ·show C2 (told _)
  rw[φ77 c2];exact c2
 obtain ⟨p1,p2⟩:=φGZ (w:=((φW (φ0 s.1.1) (φD (φ0 s.1.1) (φH (actN s) d).1).1).1,0)) c1 (.inl rfl) (s.1.1+1,s.1.2++[s.1.1])
 split
 ·refine φDc (w:=φB _) p1 ?_
  show C2 (told _)
  rw[φ77 p2];exact p2
 ·exact .inl rfl
theorem φLq {s:φ8} {d:φ1} (h:JB s d) (r:RecT):C2 (addP s d r).2.2.1∨(addP s d r).2.2.1=5:=by
 have hR:Grow s d (addR s d (frame (φ7 r))).1 (addR s d (frame (φ7 r))).2.1 []∧(C2 (addR s d (frame (φ7 r))).2.2∨(addR s d (frame (φ7 r))).2.2=5):=by
  unfold addR
  split
  ·exact ⟨φBC h,φOJ h⟩
  ·exact ⟨Grow.refl h,.inl (.inl rfl)⟩
 unfold addP
 generalize addR s d (frame (φ7 r))=R at *
 obtain ⟨hR,hc⟩:=hR
 simp only
 split
 ·exact hc
 obtain ⟨q1,q2,q3,q4,q5,q6⟩:=φi.1 hR.jb.ok
 have hex:(φ2 R.2.1 (actN R.1)).2=true:=(((φ1y _).1 q5).1 _ (φ2u (φ3L q2))).1
 obtain ⟨a1,a2⟩:=φAS hR.jb.fd hex (frame (φ7 r))
 split
 ·left;show C2 (told _);rw[φ77 a2];exact a2
 ·exact .inl (.inl rfl)
theorem φGe:∀(rs:List RecT) (s:φ8) (d:φ1),JB s d→(∀r∈rs,φa r=true)→C2 (φe rs s d).2.2.1∨(φe rs s d).2.2.1=5
 | [],_,_,_,_=>.inl (.inl rfl)
 | r::rs,s,d,h,hr=>by
  unfold φe
  split
  ·exact φLq h r
  ·rename_i c
   obtain ⟨p,g,_⟩:=(φBj h (hr r (by simp))).1 (by simpa using c)
   exact φGe rs _ _ g.jb fun x hx=>hr x (by simp[hx])
def C4 (c:Int):Prop:=c=0∨c=2∨c=4∨c=5
theorem C2.c4 {c:Int} (h:C2 c):C4 c:=h.elim .inl fun k=>.inr (.inl k)
theorem φIY {s:φ8} {d:φ1} (h:JR s d) (l:List PutT):C4 (φ2S s d l).2.2:=by
 obtain ⟨q1,q2,q3,q4,q5,q6⟩:=φi.1 h.ok
 unfold φ2S
 by_cases c1:φh s d=false∨φ1k l=false
 ·rw[if_pos c1];exact .inr (.inr (.inl rfl))
 rw[if_neg c1]
 by_cases c2:l.length=0
 ·rw[if_pos c2];exact .inl rfl
 rw[if_neg c2]
 by_cases c3:20<φ2p s.2.1 l∨s.2.2.1 > 1000000
 ·rw[if_pos c3];exact .inr (.inr (.inr rfl))
 rw[if_neg c3]
 have hp:φ1k l=true:=by
  cases hp:φ1k l with
  | true=>rfl
  | false=>exact absurd (.inr hp) c1
 have hrec:=φ6v (b:=s.2.2.1) (l:=l) ⟨q4.1,by omega⟩ hp
 have hJ1:=h.toJB.bump (by omega)
 have hC:=φGe (φ1q s.2.2.1 l) _ _ hJ1 hrec
 obtain ⟨P,g1,_⟩:=φ7p (φ1q s.2.2.1 l) _ _ hJ1 hrec
 unfold φ1N
 generalize φe (φ1q s.2.2.1 l) (s.1,s.2.1,s.2.2.1+1,s.2.2.2) d=g at *
 simp only
 split
 ·rcases hC with hC | hC
  ·exact hC.c4
  ·exact .inr (.inr (.inr hC))
 obtain ⟨b1,b2,b3,b4,b5,b6⟩:=φi.1 g1.jb.ok
 have hex:(φ2 g.2.1 (actN g.1)).2=true:=(((φ1y _).1 b5).1 _ (φ2u (φ3L b2))).1
 rw[if_neg (by rw[(φ8g g1.jb.fd hex).2];simp)]
 exact .inl rfl
theorem φA4 (n:List UInt8):∀(recs:List RecT) {w:φE},FD w.1→C2 w.2→(w.2=0→(φ2 w.1 n).2=true)→FD (sApp n recs w).1∧C2 (sApp n recs w).2∧((sApp n recs w).2=0→(φ2 (sApp n recs w).1 n).2=true)
 | [],w,h,hc,he=>⟨h,hc,he⟩
 | r::recs,w,h,hc,he=>by
  have es:sApp n (r::recs) w=sApp n recs (φA (φN n (frame (φ7 r))) w):=rfl
  rw[es]
  by_cases c:w.2=0
  ·have e:φA (φN n (frame (φ7 r))) w=φN n (frame (φ7 r)) w.1:=by unfold φA;rw[if_pos c]
   obtain ⟨a1,a2⟩:=φAS h (he c) (frame (φ7 r))
   rw[e]
   exact φA4 n recs (w:=φN n (frame (φ7 r)) w.1) a1 a2 fun c2=>by rw[(φ4D c2).2]
  ·have e:φA (φN n (frame (φ7 r))) w=w:=by unfold φA;rw[if_neg c]
   rw[e]
   exact φA4 n recs (w:=w) h hc he
theorem φKZ {w:φE} (h:FD w.1) (hc:C2 w.2) {n:List UInt8} (he:w.2=0→(φ2 w.1 n).2=true):FD (φA (φH n) w).1∧C2 (φA (φH n) w).2:=by
 unfold φA
 by_cases c:w.2=0
 ·rw[if_pos c]
  obtain ⟨a,b⟩:=φ8g h (he c)
  exact ⟨a,.inl b⟩
 ·rw[if_neg c];exact ⟨h,hc⟩
theorem φKc {d:φ1} (h:FD d) {m:Int} (hm:1≤m∧m≤100000):FD (φ1u m d).1∧(φ1u m d).2=0:=by
 obtain ⟨a,b⟩:=φHU (w:=(d,0)) h (.inl rfl) (φI9 hm) (φ1U (φ16 m (φ2 d (φ0 m)).1).1)
 unfold φ1u
 simp only
 split
 ·obtain ⟨x,y,_⟩:=φCA a (φL m)
  exact ⟨x,y⟩
 ·rename_i c
  exact ⟨a,b.elim id fun k=>absurd k c⟩
theorem φIx {s:φ8} {d:φ1} (h:JR s d):C4 (φ20 s d).2.2:=by
 obtain ⟨q1,q2,q3,q4,q5,q6⟩:=φi.1 h.ok
 obtain ⟨k1,k2,k3,k4⟩:=(φ14 s.1).1 q2
 unfold φ20
 rw[if_neg (by rw[h.ok];simp)]
 by_cases c:s.1.1+2 > 100000
 ·rw[if_pos c];exact .inr (.inr (.inr rfl))
 rw[if_neg c]
 refine C2.c4 ?_
 generalize (φU s d).1=l
 have n1:=φ5a (id:=s.1.1) ⟨k2.1,k2.2⟩
 have n2:=φ5a (id:=s.1.1+1) ⟨by omega,by omega⟩
 obtain ⟨a1,a2⟩:=φ9s (w:=(d,0)) h.fd (.inl rfl) n1
 obtain ⟨b1,b2,b3⟩:=φA4 (φ0 s.1.1) (φZ l (s.2.2.1 - 1)) a1 a2 fun e=>by rw[(φ7T e).2]
 obtain ⟨c1,c2⟩:=φKZ b1 b2 b3
 have c1:FD (sWM s.1.1 (φZ l (s.2.2.1 - 1)) (d,0)).1:=c1
 obtain ⟨d1,d2⟩:=φ9s c1 c2 n2
 unfold φ15
 simp only
 have d1:FD (sNew (φ0 (s.1.1+1)) (sWM s.1.1 (φZ l (s.2.2.1 - 1)) (d,0))).1:=d1
 have d2:C2 (sNew (φ0 (s.1.1+1)) (sWM s.1.1 (φZ l (s.2.2.1 - 1)) (d,0))).2:=d2
 generalize sNew (φ0 (s.1.1+1)) (sWM s.1.1 (φZ l (s.2.2.1 - 1)) (d,0))=w1 at *
 have e12:FD (φr s.1.1 w1).1∧C2 (φr s.1.1 w1).2:=by
  unfold φr
  split
  ·exact ⟨d1,d2⟩
  ·obtain ⟨x,y⟩:=φKc d1 (m:=s.1.1) ⟨k2.1,k2.2⟩
   exact ⟨x,.inl y⟩
 generalize φr s.1.1 w1=w2 at *
 obtain ⟨e1,e2⟩:=e12
 have f12:FD (if w2.2=0 then φB (sPut (s.1.1+2,[s.1.1,s.1.1+1]) w2) else φB w2).1∧C2 (if w2.2=0 then φB (sPut (s.1.1+2,[s.1.1,s.1.1+1]) w2) else φB w2).2:=by
  split
  ·obtain ⟨x,y⟩:=φGZ e1 e2 (s.1.1+2,[s.1.1,s.1.1+1])
   exact ⟨x,by show C2 (told _);rw[φ77 y];exact y⟩
  ·exact ⟨e1,by show C2 (told _);rw[φ77 e2];exact e2⟩
 generalize (if w2.2=0 then φB (sPut (s.1.1+2,[s.1.1,s.1.1+1]) w2) else φB w2)=w3 at *
 obtain ⟨f1,f2⟩:=f12
 split
 ·exact φDc f1 f2
 ·show C2 (told (sOld s.1.2 (w3.1,0)).2)
  rw[φ7b s.1.2 (w:=(w3.1,0)) f1.dk f1.fr rfl]
  exact .inl rfl
theorem JR.cap {s:φ8} {d:φ1} (h:JR s d) {c:Int} (hc:(φK d.1:Int)≤c) (h2:c≤100000):JR s (d.1,c,d.2.2):=by
 obtain ⟨q1,q2,q3,q4,q5,q6⟩:=φi.1 h.ok
 obtain ⟨e1,e2,e3,e4,e5,e6⟩:=(φ3d d).1 q1
 have hk:φ3 (d.1,c,d.2.2)=true:=(φ3d _).2 ⟨⟨by show 0≤c;omega,h2⟩,e2,e3,hc,e5,e6⟩
 have hft:∀n,φ2 (d.1,c,d.2.2) n=φ2 d n:=fun n=>φGU q1 hk n fun t=>Iff.rfl
 have hpl:φR (d.1,c,d.2.2) s.1.2=φR d s.1.2:=φ5T fun id _=>hft _
 obtain ⟨nx,n1,n2,n3⟩:=h.liv
 refine ⟨⟨φi.2 ⟨hk,q2,q3,q4,?_,fun e he=>?_⟩,h.lt,⟨nx,n1,n2,by rw[hft];exact n3⟩,h.fre⟩,by rw[hpl];exact h.reg,by rw[hpl];exact h.pb,by rw[hpl];exact h.own⟩
 ·obtain ⟨g1,g2⟩:=(φ1y _).1 q5
  exact (φ1y _).2 ⟨fun id hid=>by rw[hft];exact g1 id hid,fun hne=>by rw[hft];exact g2 hne⟩
 ·have:=q6 e he
  rw[φ34] at this ⊢
  have ea:φ1D (d.1,c,d.2.2) e=φ1D d e:=by unfold φ1D;rw[hft]
  rw[ea];exact this
abbrev zT:TxnT:=(false,[],[])
def φ27 (l:List TxnT) (s:φY):Bool:=
 decide (1≤s.1∧s.1≤6) && (decide (0≤s.2.1∧s.2.1≤2) && ((rdA zT l s.2.1).1==(s.1 != 1)))
def putS (s:φY):PutT:=(s.2.2.1,s.1==4,s.2.2.2.1)
def ownA (p:PutT):AnsT:=bif p.2.1 then (8,[],[]) else (0,p.2.2,[])
def getG (look:List UInt8→φX×Int) (l:List TxnT) (s:φY):List TxnT×AnsT:=
 let t:=rdA zT l s.2.1
 bif !φ1E s.2.2.1 then (l,(4,[],[])) else
 bif (ownW t.2.2 s.2.2.1).2 then (l,ownA (ownW t.2.2 s.2.2.1).1) else
 let p:=look s.2.2.1
 let r:=φ2A t s.2.2.1 p.1.2.2
 (l.set s.2.1.toNat r.1,bif r.2 != 0 then (r.2,[],[]) else (p.2,p.1.2.1,[]))
def putG (l:List TxnT) (s:φY):List TxnT×AnsT:=
 let w:=φ1r (rdA zT l s.2.1) (putS s)
 (l.set s.2.1.toNat w.1,bif !φ1h (putS s) then (4,[],[]) else bif !w.2 then (5,[],[]) else (0,[],[]))
def sesG (look:List UInt8→φX×Int) (val:TxnT→Bool) (l:List TxnT) (s:φY):List TxnT×AnsT×Option (List PutT):=
 bif !φ27 l s then (l,(4,[],[]),none) else
 bif s.1==1 then (l.set s.2.1.toNat (true,[],[]),(0,[],[]),none) else
 bif s.1==6 then (l.set s.2.1.toNat zT,(0,[],[]),none) else
 bif s.1==2 then ((getG look l s).1,(getG look l s).2,none) else
 bif s.1==5 then (l.set s.2.1.toNat zT,(7,[],[]),bif val (rdA zT l s.2.1) then some (netW (rdA zT l s.2.1).2.2) else none) else
 ((putG l s).1,(putG l s).2,none)
noncomputable def comE (e:EngT) (g:List TxnT×AnsT×Option (List PutT)):EngT×AnsT:=
 match g.2.2 with
 | none=>((e.1,e.2.1,e.2.2.1,g.1),g.2.1)
 | some w=>((e.1,(φ2S e.2.1 e.2.2.1 w).1,(φ2S e.2.1 e.2.2.1 w).2.1,g.1),((φ2S e.2.1 e.2.2.1 w).2.2,[],[]))
noncomputable def sesE (e:EngT) (s:φY):EngT×AnsT:=
 comE e (sesG (getP e.2.1 e.2.2.1) (fun t=>φ36 t e.2.1.2.1) e.2.2.2 s)
noncomputable def stE (e:EngT) (s:φY):EngT×AnsT:=
 bif s.1==10 then (bif e.1 then (e,(4,[],[])) else (((φ2G e.2.2.1).2.2==0,(φ2G e.2.2.1).1,(φ2G e.2.2.1).2.1,zTx),((φ2G e.2.2.1).2.2,[],[]))) else
 bif s.1==11 then (bif φ3 e.2.2.1 && decide (0≤s.2.2.2.2∧s.2.2.2.2≤100000 - (φK e.2.2.1.1:Int)) then
  ((e.1,e.2.1,(e.2.2.1.1,(φK e.2.2.1.1:Int)+s.2.2.2.2,e.2.2.1.2.2),e.2.2.2),(0,[],[])) else (e,(4,[],[]))) else
 bif !e.1 then (e,(6,[],[])) else
 bif s.1==7 then ((e.1,(φ20 e.2.1 e.2.2.1).1,(φ20 e.2.1 e.2.2.1).2.1,e.2.2.2),((φ20 e.2.1 e.2.2.1).2.2,[],[])) else
 bif s.1==8 then (e,(0,[],e.2.1.2.1.map (·.1))) else
 bif s.1==9 then (φMW e.2.2.1,(0,[],[])) else
 sesE e s
theorem φNS {l:List TxnT} (hl:l.length=3) (s:φY):ψ1u.f l s=some (φ27 l s):=by
 have hw:w64 ((l.length:Int) - 1)=2:=by rw[hl];rfl
 unfold ψ1u.f φ27
 simp only[φ1a,bS,hw]
 by_cases h1:1≤s.1∧s.1≤6
 ·simp only[h1,and_self,dT,cT,tA]
  by_cases h2:0≤s.2.1∧s.2.1≤2
  ·obtain ⟨n,hn⟩:∃n:Nat,s.2.1=(n:Int):=⟨s.2.1.toNat,by omega⟩
   have hin:inB s.2.1 l.length=true:=by rw[hn,φF,hl];simp;omega
   simp only[h2,and_self,dT,cT,tA,hin]
  ·simp only[h2,dF,cF,κD]
 ·simp only[h1,dF,cF,κD]
theorem φ6Z {l:List TxnT} (hl:l.length=3) {s:φY} (h:φ27 l s=true):∃n:Nat,∃hn:n<l.length,s.2.1=(n:Int)∧inB s.2.1 l.length=true∧rdA zT l s.2.1=l[n]∧s.2.1.toNat=n∧(l[n].1=(s.1 != 1))∧1≤s.1∧s.1≤6:=by
 unfold φ27 at h
 simp only[bA,decide_eq_true_eq,beq_iff_eq] at h
 obtain ⟨h1,h2,h3⟩:=h
 obtain ⟨n,hn⟩:∃n:Nat,s.2.1=(n:Int):=⟨s.2.1.toNat,by omega⟩
 have hn3:n<l.length:=by omega
 have hrd:rdA zT l s.2.1=l[n]:=by rw[hn,φJ,φ9 hn3]
 exact ⟨n,hn3,hn,by rw[hn,φF];simp[hn3],hrd,by omega,by rw[←hrd];exact h3,h1.1,h1.2⟩
theorem φMl (t:TxnT) (key:List UInt8) (h:t.2.2.length<2 ^ 62):ψ1d.f t key=some (bif (ownW t.2.2 key).2 then (ownA (ownW t.2.2 key).1,true) else ((0,[],[]),false)):=by
 unfold ψ1d.f ownA
 rw[φEA t key h,bS]
 generalize ownW t.2.2 key=x
 obtain ⟨⟨a,b,v⟩,c⟩:=x
 cases c
 ·rfl
 ·cases b<;>rfl
theorem φDW {s:φ8} {d:φ1} (h:φh s d=true) (key:List UInt8):(getP s d key).2=0∨getP s d key=(([],[],0),8):=by
 rcases φFG s.2.1 key with c | ⟨c1,c2⟩
 ·right
  unfold getP
  rw[if_pos c]
 ·by_cases hk:∃e∈s.2.1,e.1=key
  ·obtain ⟨e,he,rfl⟩:=hk
   exact .inl (φ8k h he).1
  ·exact .inr (φFC fun e he k=>hk ⟨e,he,k⟩)
theorem φKe {e:EngT} (hl:e.2.2.2.length=3) (ht:∀t∈e.2.2.2,t.2.1.length≤20∧t.2.2.length≤50) (hS:SmallS e.2.1 e.2.2.1) (h3:∀k,(getP e.2.1 e.2.2.1 k).2≠3) {s:φY} (hf:φ27 e.2.2.2 s=true) :
  ψJ.f e s=some ((getG (getP e.2.1 e.2.2.1) e.2.2.2 s).2,(e.1,e.2.1,e.2.2.1,(getG (getP e.2.1 e.2.2.1) e.2.2.2 s).1)):=by
 obtain ⟨hlim,hu⟩:=hS.lim
 have hd:=hS.dir
 obtain ⟨n,hn,h1,hin,hrd,hto,_,_,_⟩:=φ6Z hl hf
 have htn:=ht _ (gM hn)
 have hc3:((getP e.2.1 e.2.2.1 s.2.2.1).2==3)=false:=by simpa using h3 s.2.2.1
 unfold ψJ.f getG
 simp only[hin,cT,φ6O,bS,hrd,φ1m]
 cases φ1E s.2.2.1
 ·rfl
 simp only[nZ,cF,φMl e.2.2.2[n] s.2.2.1 (by omega),bS]
 cases (ownW e.2.2.2[n].2.2 s.2.2.1).2
 ·simp only[cF,φGl e.2.1 e.2.2.1 s.2.2.1 hlim hu (by omega),bS,hc3]
  unfold ψ1h.f
  rw[φNh e.2.2.2[n] s.2.2.1 _ (by omega) (by omega),bS]
  generalize φ2A e.2.2.2[n] s.2.2.1 (getP e.2.1 e.2.2.1 s.2.2.1).1.2.2=r
  obtain ⟨r1,r2⟩:=r
  simp only
  cases (r2 != 0)<;>rfl
 ·rfl
theorem φKI {t:TxnT} (ht:t.2.1.length≤20∧t.2.2.length≤50) (s:φY):ψ2E.f t s=some ((φ1r t (putS s)).1,bif !φ1h (putS s) then (4,[],[]) else bif !(φ1r t (putS s)).2 then (5,[],[]) else (0,[],[])):=by
 unfold ψ2E.f
 show ((ψ1E.f t (putS s)).bind fun x=>(ψ1g.f (putS s)).bind fun t2=>bif !t2 then _ else bif !x.2 then _ else _)=_
 rw[φLw t _ (by omega) (by omega),bS,φBb,bS]
 generalize φ1r t (putS s)=x
 obtain ⟨x1,x2⟩:=x
 cases φ1h (putS s)
 ·rfl
 ·cases x2<;>rfl
theorem φOH {e:EngT} (hl:e.2.2.2.length=3) (ht:∀t∈e.2.2.2,t.2.1.length≤20∧t.2.2.length≤50) (hS:SmallS e.2.1 e.2.2.1) (h3:∀k,(getP e.2.1 e.2.2.1 k).2≠3) (s:φY) :
  ψL.f e s=some ((sesE e s).2,(sesE e s).1):=by
 obtain ⟨hlim,hu⟩:=hS.lim
 have hd:=hS.dir
 unfold ψL.f sesE sesG comE
 rw[φNS hl s,bS]
 cases hf:φ27 e.2.2.2 s
 ·rfl
 obtain ⟨n,hn,h1,hin,hrd,hto,_,k1,k6⟩:=φ6Z hl hf
 have htn:=ht _ (gM hn)
 simp only[nZ,cF,hin,cT]
 cases c1:(s.1==1)
 rotate_left
 ·rfl
 cases c6:(s.1==6)
 rotate_left
 ·rfl
 cases c2:(s.1==2)
 rotate_left
 ·simp only[cT,cF,φKe hl ht hS h3 hf,bS]
 have com:((ψ1G.f ((rdA (false,[],[]) e.2.2.2 s.2.1).1,(rdA (false,[],[]) e.2.2.2 s.2.1).2) e.2.1.2.1).bind fun t9=>
   bif !t9 then some (((7,[],[]):AnsT),((e.1,e.2.1,e.2.2.1,e.2.2.2.set s.2.1.toNat (false,[],[])):EngT)) else
   (ψc.f ((rdA (false,[],[]) e.2.2.2 s.2.1).1,(rdA (false,[],[]) e.2.2.2 s.2.1).2)).bind fun t10=>
   (ψ2.f e.2.1 e.2.2.1 t10).bind fun x=>some (((x.2.2,[],[]):AnsT),((e.1,x.1,x.2.1,e.2.2.2.set s.2.1.toNat (false,[],[])):EngT))) =
   some ((comE e (e.2.2.2.set s.2.1.toNat zT,(7,[],[]),bif φ36 (rdA zT e.2.2.2 s.2.1) e.2.1.2.1 then some (netW (rdA zT e.2.2.2 s.2.1).2.2) else none)).2,(comE e (e.2.2.2.set s.2.1.toNat zT,(7,[],[]),bif φ36 (rdA zT e.2.2.2 s.2.1) e.2.1.2.1 then some (netW (rdA zT e.2.2.2 s.2.1).2.2) else none)).1):=by
  have hnl:=φAG e.2.2.2[n].2.2
  rw[φ1m,show rdA (false,[],[]) e.2.2.2 s.2.1=e.2.2.2[n] from hrd,φNL e.2.2.2[n] e.2.1.2.1 (by omega) (by omega),bS]
  cases φ36 e.2.2.2[n] e.2.1.2.1
  ·rfl
  ·simp only[nZ,cF,cT,φC5 e.2.2.2[n] (by omega),bS,φND hS (netW e.2.2.2[n].2.2) (by omega),comE]
 have put:((ψ2E.f ((rdA (false,[],[]) e.2.2.2 s.2.1).1,(rdA (false,[],[]) e.2.2.2 s.2.1).2) s).bind fun x=>some ((x.2:AnsT),((e.1,e.2.1,e.2.2.1,e.2.2.2.set s.2.1.toNat x.1):EngT))) =
   some ((putG e.2.2.2 s).2,(e.1,e.2.1,e.2.2.1,(putG e.2.2.2 s).1)):=by
  unfold putG
  rw[φ1m,show rdA (false,[],[]) e.2.2.2 s.2.1=e.2.2.2[n] from hrd,φKI htn s,bS]
 unfold comE at com
 simp only[cF]
 cases c3:(s.1==3)
 ·cases c4:(s.1==4)
  ·cases c5:(s.1==5)
   ·exfalso
    simp at c1 c2 c3 c4 c5 c6
    omega
   ·exact com
  ·have c5:(s.1==5)=false:=by simp at c4 ⊢;omega
   simp only[cT,cF,c5]
   exact put
 ·have c5:(s.1==5)=false:=by simp at c3 ⊢;omega
  simp only[cT,cF,c5]
  exact put
theorem φLi {e:EngT} (hl:e.2.2.2.length=3) (ht:∀t∈e.2.2.2,t.2.1.length≤20∧t.2.2.length≤50) (hS:SmallS e.2.1 e.2.2.1):ψ1L.f e=some e:=
 φMv hS.ids hS.dir hS.sm.1 (by omega) ht
structure Fit (e:EngT):Prop where
 len:e.2.2.2.length=3
 tx:∀t∈e.2.2.2,t.2.1.length≤20∧t.2.2.length≤50
 sm:SmallS e.2.1 e.2.2.1
 dk:φ3 e.2.2.1=true
 n3:e.1=true→∀k,(getP e.2.1 e.2.2.1 k).2≠3
end Go.Rf.G
