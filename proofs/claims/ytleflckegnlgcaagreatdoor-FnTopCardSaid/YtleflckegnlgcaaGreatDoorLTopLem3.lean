import Derived.Test.YtleflckegnlgcaaGreatDoorLTopLem2
open Option renaming bind_some→bS
open List renaming length_append→lA,append_assoc→aA,mem_cons_of_mem→mC,mem_append→mA,mem_append_right→mR,mem_append_left→mL,mem_cons→mc,drop_eq_getElem_cons→dG,length_take→lT,length_drop→lD,mem_map→mM,length_map→lM,length_cons→lC,length_nil→lN,getElem_mem→gM,map_append→mp,mem_singleton→mZ,mem_cons_self→κ0,take_succ_eq_append_getElem→κ1,map_cons→κ5,append_nil→κ7,nil_append→κ8,length_singleton→κA,drop_zero→κC,take_append_drop→κE,cons_append→κF,replicate→κH,flatMap_append→κJ,foldl_cons→κL,nodup_append→κM,take_length→κN,drop_left→κQ,all_eq_true→κR,nodup_cons→κS,range'→κT,foldl_append→κX,pairwise_cons→κY,mem_or_eq_of_mem_set→κc,pairwise_append→κd,mem_of_mem_take→κe
open Bool renaming and_eq_true→bA,eq_false_or_eq_true→bE,not_true→nZ,not_false→nF,true_and→tA,not_not→nn,false_eq_true→κ3,true_eq_false→κ9,false_and→κD,or_eq_false_iff→κI,not_eq_true'→κO,and_true→κP,false_or→κU,or_eq_true→κW
open Int renaming toNat_natCast→tN,ofNat_lt→oL,le_refl→κK
open Nat renaming lt_or_ge→κ2,zero_le→κ4,le_refl→κ6,eq_of_beq_eq_true→κB,lt_of_lt_of_le→κG,zero_add→κV,pow_succ→κZ,mod_eq_of_lt→κb,le_trans→κf
open Array renaming length_toList→κa
set_option linter.unusedVariables false
set_option linter.unusedSimpArgs false
namespace Go.Rf.G
open Go Go.Rf
set_option synthInstance.maxSize 4000
theorem φKu (id e mark:Int) (l:List φ1p) (h0:1≤l.length) (hl:l.length<1000000000) :
  lp ψ2Y.l0 (id,(0,0,[]),l,(e,mark,[]),[],0)=some (if φ2j mark none (l.take (l.length - 1))=true then .inl ((0,0,[]),l,(e,mark,(l.take (l.length - 1)).map (entS id)),(l.take (l.length - 1)).map (·.2.2)) else .inr ((0,0,[]),false)):=by
 obtain ⟨k,hk⟩:∃k,l.length=k+1:=⟨l.length - 1,by omega⟩
 have e1:l.length - 1=k:=by omega
 rw[e1]
 have hlen:(l.take k).length=k:=by rw[lT];omega
 have key:=φg (step:=ψ2Y.l0) (fun n (a:List φC×List RecT)=>(id,(0,0,[]),l,(e,mark,a.1),a.2,(n:Int))) k (fun n a=>if φ2j mark (φ7k l n) ((l.take k).drop n)=true then .inl ((0,0,[]),l,(e,mark,a.1++((l.take k).drop n).map (entS id)),a.2++((l.take k).drop n).map (·.2.2)) else .inr ((0,0,[]),false)) (fun n a=>a.1.length=n∧a.2.length=n)
  (fun rec n a hn ha ih=>by
   obtain ⟨acc,rs⟩:=a
   obtain ⟨ha,hr⟩:=ha
   simp only at ha hr
   rcases κ2 n k with h | h
   ·have hw:=φM (show n+1<9223372036854775808 by omega)
    have h1:n<(l.take k).length:=by omega
    have h2:n<l.length:=by omega
    have h3:n+1<l.length:=by omega
    have hx:(l.take k)[n]=l[n]:=List.getElem_take
    have hb:∀{α:Type} (x:α),decide ((acc.length+[x].length) * 48≤140737488355328)=true:=fun x=>decide_eq_true (φ55 (by omega))
    have hb2:∀{α:Type} (x:α),decide ((rs.length+[x].length) * 64≤140737488355328)=true:=fun x=>decide_eq_true (φ7d (by omega))
    have ih:=ih (acc++[entS id l[n]],rs++[l[n].2.2]) h ⟨by rw[lA,ha];rfl,by rw[lA,hr];rfl⟩
    simp only at ih
    rw[φ9J l n h2] at ih
    rw[dG h1,hx]
    simp only[φ2j,ψ2Y.l0,hw,oL,h2,h3,dT,cT,φF,φJ,φ9 h2]
    rcases bE (l[n].2.2.1==4) with k1 | k1
    rotate_left
    ·simp only[bne,k1,nF,cT,bS,φp,κD,κ3,if_false]
    rcases bE (decide (l[n].2.2.2.1 > mark)) with k2 | k2
    ·simp only[bne,k1,k2,nZ,nF,cF,cT,bS,φp,κD,tA,κ3,if_false]
    simp only[bne,k1,k2,nZ,nF,cF,tA,κ5]
    cases n with
    | zero=>
     have z:¬((0:Nat):Int) > 0:=by omega
     simp only[z,dF,cF,bS,φf,hb,hb2,cT,φF,h2,dT,φJ,φ9 h2,hw,φ7k,tA]
     rw[show acc++entS id l[0]::List.map (entS id) (List.drop (0+1) (List.take k l))=acc++[entS id l[0]]++List.map (entS id) (List.drop (0+1) (List.take k l)) by rw[aA];rfl,
      show rs++l[0].2.2::List.map (·.2.2) (List.drop (0+1) (List.take k l))=rs++[l[0].2.2]++List.map (·.2.2) (List.drop (0+1) (List.take k l)) by rw[aA];rfl]
     exact ih
    | succ m=>
     have z:((m+1:Nat):Int) > 0:=by omega
     have hm:m<l.length:=by omega
     have z2:w64 (((m+1:Nat):Int) - 1)=(m:Int):=by rw[φI (by omega) (by omega)];omega
     have hle:(Op.bytesLess l[m+1].2.2.2.2.1 l[m].2.2.2.2.1 || l[m+1].2.2.2.2.1==l[m].2.2.2.2.1)=!Op.bytesLess l[m].2.2.2.2.1 l[m+1].2.2.2.2.1:=φ9p _ _
     rw[φ9J l m hm]
     simp only[z,dT,cT,z2,φF,hm,φJ,φ9 hm,hle]
     rcases bE (Op.bytesLess l[m].2.2.2.2.1 l[m+1].2.2.2.2.1) with k3 | k3
     ·simp only[k3,nZ,cF,bS,φf,hb,hb2,cT,φF,h2,dT,φJ,φ9 h2,hw,tA]
      rw[show acc++entS id l[m+1]::List.map (entS id) (List.drop (m+1+1) (List.take k l))=acc++[entS id l[m+1]]++List.map (entS id) (List.drop (m+1+1) (List.take k l)) by rw[aA];rfl,
       show rs++l[m+1].2.2::List.map (·.2.2) (List.drop (m+1+1) (List.take k l))=rs++[l[m+1].2.2]++List.map (·.2.2) (List.drop (m+1+1) (List.take k l)) by rw[aA];rfl]
      exact ih
     ·simp only[k3,nF,cT,bS,φp,κD,κ3,if_false]
   ·have:n=k:=by omega
    subst this
    have hd:(l.take n).drop n=[]:=by rw[List.drop_eq_nil_iff];omega
    have hw:=φM (show n+1<9223372036854775808 by omega)
    rw[hd]
    simp[ψ2Y.l0,φ2j,hk,hw])
  (by omega) 0 ([],[]) (κ4 _) ⟨rfl,rfl⟩
 have key:lp ψ2Y.l0 (id,(0,0,[]),l,(e,mark,[]),[],0)=_:=key
 rw[key,κC,κ8,κ8];rfl
noncomputable def φ16 (id:Int) (t:List UInt8):φ1H×Bool:=
 let l:=(scan t).1
 let z:=l.getD (l.length - 1) φ2M
 if l.length=0∨(scan t).2≠t.length∨¬(1≤id∧id≤100000)∨z.2.2.1≠5∨φ3e z.2.2 ((l.take (l.length - 1)).map (·.2.2))=false∨φ2j z.2.2.2.1 none (l.take (l.length - 1))=false then ((0,0,[]),false)
 else (((t.length:Int),z.2.2.2.1,(l.take (l.length - 1)).map (entS id)),true)
theorem φHg (id:Int) (t:List UInt8):(φ16 id t).1.2.2.length≤t.length:=by
 have:=(φ6C t).2
 unfold φ16
 simp only
 split
 ·simp
 ·simp only[lM,lT];omega
theorem φKQ (id:Int):(φ0 id==[])=!decide (1≤id∧id≤100000):=by
 unfold φ0 φ2K
 by_cases h:1≤id∧id≤100000
 ·simp[h]
 ·simp[h]
theorem φHI (id:Int) (t:List UInt8) (ht:t.length<100000000):ψW.f id t=some (φ16 id t):=by
 have hs:=φ6C t
 unfold ψW.f φ16
 rw[φBG t (by omega),bS]
 generalize (scan t).1=l at *
 generalize (scan t).2=e at *
 simp only
 rcases Nat.eq_zero_or_pos l.length with h0 | h0
 ·have:decide (w64 (((0:Nat):Int) - 1)<0)=true:=by decide
  simp only[h0,this,cT,true_or,if_true]
 obtain ⟨k,hk⟩:∃k,l.length=k+1:=⟨l.length - 1,by omega⟩
 have hw:w64 ((l.length:Int) - 1)=(k:Int):=by rw[φI (by omega) (by omega)];omega
 have e1:l.length - 1=k:=by omega
 have hkl:k<l.length:=by omega
 have n0:¬(k:Int)<0:=by omega
 have n1:(0:Int)≤(k:Int):=by omega
 have n2:(k:Int)≤(l.length:Int):=by omega
 have n3:¬l.length=0:=by omega
 rw[e1]
 simp only[hw,n0,n1,n2,n3,dF,dT,cF,Bool.and_self,cT,φ1a,bS,φF,hkl,φJ,tN,false_or]
 by_cases c1:e=t.length
 rotate_left
 ·have d1:((e:Int) != (t.length:Int))=true:=by simp;omega
  simp only[d1,cT,c1,ne_eq,not_false_eq_true,true_or,if_true]
 have d1:((e:Int) != (t.length:Int))=false:=by simp;omega
 by_cases c2:1≤id∧id≤100000
 rotate_left
 ·simp only[d1,cF,c2,dF,nF,cT,not_false_eq_true,true_or,or_true,if_true]
 by_cases c3:(l.getD k φ2M).2.2.1=5
 rotate_left
 ·have d3:((l.getD k φ2M).2.2.1 != 5)=true:=by simpa using c3
  simp only[d1,d3,cF,c2,dT,nZ,cT,and_self,c3,ne_eq,not_false_eq_true,true_or,or_true,if_true]
 have d3:((l.getD k φ2M).2.2.1 != 5)=false:=by simpa using c3
 have hpl:=φHL id (l.take k) (by rw[lT];omega)
 have hft:=φGD (l.getD k φ2M).2.2 ((l.take k).map fun x=>((id,x):φG)) (by rw[lM,lT];omega)
 have hmm:((l.take k).map fun x=>((id,x):φG)).map (·.2.2.2)=(l.take k).map (·.2.2):=by rw[List.map_map];rfl
 rw[hmm] at hft
 subst c1
 simp only[d1,d3,cF,c2,dT,nZ,and_self,hpl,bS,hft]
 simp only[c3,ne_eq,not_true_eq_false,false_or]
 rcases bE (φ3e (l.getD k φ2M).2.2 ((l.take k).map (·.2.2))) with c4 | c4
 rotate_left
 ·simp only[c4,nF,cT,true_or,if_true]
 simp only[c4,nZ,cF,κ9,false_or,φIb id (t.length:Int) (l.getD k φ2M).2.2.2.1 l k (by omega) (by omega),bS]
 rcases bE (φ2j (l.getD k φ2M).2.2.2.1 none (l.take k)) with c5 | c5
 ·simp only[c5,if_true,φf,κ9,if_false]
 ·simp only[c5,κ3,if_false,φp,if_true]
theorem φJh (id:Int) (t:List UInt8) (ht:t.length<100000000):ψ2Y.f id t=some (φ16 id t):=by
 have hs:=φ6C t
 unfold ψ2Y.f φ16
 rw[φDs t (by omega),bS]
 generalize (scan t).1=l at *
 generalize (scan t).2=e at *
 simp only
 by_cases c1:e=t.length
 rotate_left
 ·have d1:((e:Int) != (t.length:Int))=true:=by simp;omega
  simp only[d1,cT,c1,ne_eq,not_false_eq_true,true_or,or_true,if_true]
 have d1:((e:Int) != (t.length:Int))=false:=by simp;omega
 rcases Nat.eq_zero_or_pos l.length with h0 | h0
 ·have d2:(((0:Nat):Int)==0)=true:=rfl
  simp only[d1,h0,d2,cF,cT,true_or,if_true]
 obtain ⟨k,hk⟩:∃k,l.length=k+1:=⟨l.length - 1,by omega⟩
 have hw:w64 ((l.length:Int) - 1)=(k:Int):=by rw[φI (by omega) (by omega)];omega
 have e1:l.length - 1=k:=by omega
 have hkl:k<l.length:=by omega
 have n3:¬l.length=0:=by omega
 have d2:((l.length:Int)==0)=false:=beq_eq_false_iff_ne.2 (by omega)
 have hl0:=φKu id (t.length:Int) (l.getD k φ2M).2.2.2.1 l (by omega) (by omega)
 rw[e1] at hl0 ⊢
 subst c1
 simp only[d1,d2,n3,cF,hw,φF,hkl,dT,cT,φJ,φ4W,φKQ,bS,false_or,ne_eq,not_true_eq_false]
 by_cases c3:(l.getD k φ2M).2.2.1=5
 rotate_left
 ·have d3:((l.getD k φ2M).2.2.1 != 5)=true:=by simpa using c3
  simp only[d3,cT,c3,not_false_eq_true,true_or,or_true,if_true]
 have d3:((l.getD k φ2M).2.2.1 != 5)=false:=by simpa using c3
 by_cases c2:1≤id∧id≤100000
 rotate_left
 ·simp only[d3,cF,c2,dF,nF,cT,not_false_eq_true,true_or,or_true,if_true]
 simp only[d3,cF,c2,dT,nZ,and_self,not_true_eq_false,false_or,hl0,bS]
 simp only[c3,not_true_eq_false,false_or]
 rcases bE (φ2j (l.getD k φ2M).2.2.2.1 none (l.take k)) with c5 | c5
 rotate_left
 ·simp only[c5,κ3,if_false,φp,or_true,if_true]
 have hlen:((l.take k).map (·.2.2)).length=k:=by rw[lM,lT];omega
 simp only[c5,if_true,φf,κ9,or_false,hw,φF,hkl,dT,cT,φJ,φD0 ((l.take k).map (·.2.2)) (by omega),bS]
 unfold φ3e
 rcases bE ((l.getD k φ2M).2.2.2.2.2.2.1==(((l.take k).map (·.2.2)).length:Int)) with c6 | c6
 rotate_left
 ·simp only[bne,c6,nF,cT,κD,if_true]
 rcases bE ((l.getD k φ2M).2.2.2.2.2.2.2==φ1i ((l.take k).map (·.2.2))) with c7 | c7
 rotate_left
 ·simp only[bne,c6,c7,nF,nZ,cF,cT,tA,if_true]
 simp only[bne,c6,c7,nZ,cF,tA,κ9,if_false]
def sNew (n:List UInt8) (w:φE):φE:=φA (φW n) (φA (φD n) w)
theorem φ4A {w:φE} (h:φ3 w.1=true) (n:List UInt8):φ3 (sNew n w).1=true:=
 φ1t (op:=φW n) (φ1t (op:=φD n) h fun k=>φ2Y k n) fun k=>φ33 k n
theorem φCp (w:φE) (n:List UInt8) (h:φ3 w.1=true) (hn:n.length<1000):ψ1x.f (φB w) n=some (φB (sNew n w)):=by
 unfold ψ1x.f sNew
 have g1:φ3 (φ1A (φD n) (φB w)).1=true:=φ8D (op:=φD _) h fun k=>φ2Y k _
 rw[φ5A (φB w) n (φ13 h) (by omega),bS,φ9N _ _ (φ13 g1) (by omega) (by omega),bS,φ2q,φ2q]
theorem φGb {d:φ1} {c:Int} (h:c≠0) (n:List UInt8):sNew n (d,c)=(d,c):=by
 unfold sNew;rw[φ2s h,φ2s h]
theorem φDd (d:φ1) (n:List UInt8) (h:φ3 d=true) (hn:n.length<1000):ψ3A.f d n=some (sNew n (d,0)):=by
 unfold sNew
 rw[φGh d n (φ13 h) (by omega) (by omega),φ2V]
def sApp (n:List UInt8) (recs:List RecT) (w:φE):φE:=recs.foldl (fun w r=>φA (φN n (frame (φ7 r))) w) w
theorem φ7G (n:List UInt8) (recs:List RecT):∀{w:φE},φ3 w.1=true→φ3 (sApp n recs w).1=true:=by
 induction recs with
 | nil=>intro w h;exact h
 | cons r l ih=>intro w h;exact ih (φ1t (op:=φN n (frame (φ7 r))) h fun k=>φ3N k _ _)
theorem φBf (n:List UInt8) (recs:List RecT) {d:φ1} {c:Int} (h:c≠0):sApp n recs (d,c)=(d,c):=by
 induction recs with
 | nil=>rfl
 | cons r l ih=>show sApp n l (φA _ (d,c))=_;rw[φ2s h,ih]
theorem φHn (n:List UInt8) (recs:List RecT) (r:RecT) (w:φE):sApp n (recs++[r]) w=φA (φN n (frame (φ7 r))) (sApp n recs w):=by
 unfold sApp;rw[κX];rfl
def φy (m:Int):Int→List RecT→List φC
 | _,[]=>[]
 | a,r::rs=>if r.1=4 then (r.2.2.1,m,a,((frame (φ7 r)).length:Int),r.2.1)::φy m (a+((frame (φ7 r)).length:Int)) rs else φy m (a+((frame (φ7 r)).length:Int)) rs
theorem φ9d (m:Int) (r:RecT) (hr:r.1≠4):∀(recs:List RecT) (a:Int),φy m a (recs++[r])=φy m a recs
 | [],a=>by simp[φy,hr]
 | x::l,a=>by
  simp only[κF,φy]
  rw[φ9d m r hr l]
theorem φOK (m:Int) (recs:List RecT) (w:φE) (h:φ3 w.1=true) (hr:recs.length<1000000) :
  lp ψ2D.l0 (φB w,m,[],0,recs,(recs.length:Int),0)=some (φB (sApp (φ0 m) recs w),m,φy m 0 recs):=by
 have hsn:=φ4H m
 have key:=φg (step:=ψ2D.l0) (fun n (a:φE×List φC×Nat)=>(φB a.1,m,a.2.1,(a.2.2:Int),recs,(recs.length:Int),(n:Int))) recs.length (fun n a=>(φB (sApp (φ0 m) (recs.drop n) a.1),m,a.2.1++φy m (a.2.2:Int) (recs.drop n)))
  (fun n a=>φ3 a.1.1=true∧a.2.1.length≤n∧a.2.2≤211 * n)
  (fun rec n a hn ha ih=>by
   obtain ⟨W,acc,at_⟩:=a
   obtain ⟨ha,hacc,hat⟩:=ha
   simp only at ha hacc hat
   rcases κ2 n recs.length with h1 | h1
   ·have hw:=φM (show n+1<9223372036854775808 by omega)
    have hf:=φ4p (φ7 recs[n])
    have hsr:=φ3Y recs[n]
    have hb:∀{α:Type} (x:α),decide ((acc.length+[x].length) * 48≤140737488355328)=true:=fun x=>decide_eq_true (φ55 (by omega))
    have es:ψ11.f (recs[n].1,recs[n].2.1,recs[n].2.2.1,recs[n].2.2.2.1,recs[n].2.2.2.2.1,recs[n].2.2.2.2.2)=some (φ7 recs[n]):=φBl recs[n]
    have ep:ψ26.f (φB W) (φ0 m) (frame (φ7 recs[n]))=some (φB (φA (φN (φ0 m) (frame (φ7 recs[n]))) W)):=by
     rw[φB1 (φB W) (φ0 m) (frame (φ7 recs[n])) (φ13 ha) (by omega) (by omega),φ2q]
    have hd:φ3 (φA (φN (φ0 m) (frame (φ7 recs[n]))) W).1=true:=φ1t (op:=φN _ _) ha fun k=>φ3N k _ _
    have hw2:w64 ((at_:Int)+((frame (φ7 recs[n])).length:Int))=(at_:Int)+((frame (φ7 recs[n])).length:Int):=φI (by omega) (by omega)
    have hcast:((at_+(frame (φ7 recs[n])).length:Nat):Int)=(at_:Int)+((frame (φ7 recs[n])).length:Int):=by omega
    rw[dG h1]
    simp only[ψ2D.l0,oL,h1,dT,cT,φF,φJ,φ9 h1,es,φ8Y (φ7 recs[n]) (show (φ7 recs[n]).length<2 ^ 62 by omega),φ3E,bS,ep,hb,hw2,hw,φy]
    by_cases c:recs[n].1=4
    ·have d1:(recs[n].1==4)=true:=by simpa using c
     have ih:=ih (φA (φN (φ0 m) (frame (φ7 recs[n]))) W,acc++[(recs[n].2.2.1,m,(at_:Int),((frame (φ7 recs[n])).length:Int),recs[n].2.1)],at_+(frame (φ7 recs[n])).length) h1 ⟨hd,by rw[lA];show _+1≤_;omega,by simp only;omega⟩
     simp only at ih
     rw[hcast] at ih
     simp only[c,beq_self_eq_true,cT,bS,hw2,hw,ih,if_true,aA,List.singleton_append];rfl
    ·have d1:(recs[n].1==4)=false:=by simpa using c
     have ih:=ih (φA (φN (φ0 m) (frame (φ7 recs[n]))) W,acc,at_+(frame (φ7 recs[n])).length) h1 ⟨hd,by simp only;omega,by simp only;omega⟩
     simp only at ih
     rw[hcast] at ih
     simp only[d1,cF,bS,hw2,hw,ih,c,if_false];rfl
   ·have:n=recs.length:=by omega
    subst this
    simp[ψ2D.l0,φy,sApp])
  (by omega) 0 (w,[],0) (κ4 _) ⟨h,κ4 _,κ4 _⟩
 have key:lp ψ2D.l0 (φB w,m,[],0,recs,(recs.length:Int),0)=_:=key
 rw[key,κC,κ8];rfl
def sWM (m:Int) (recs:List RecT) (w:φE):φE:=φA (φH (φ0 m)) (sApp (φ0 m) recs (sNew (φ0 m) w))
theorem φ68 (m:Int) (recs:List RecT) {w:φE} (h:φ3 w.1=true):φ3 (sWM m recs w).1=true:=
 φ1t (op:=φH _) (φ7G _ _ (φ4A h _)) fun k=>φ3I k _
theorem φLB (m:Int) (recs:List RecT) (w:φE) (h:φ3 w.1=true) (hr:recs.length<1000000) (hm:0≤m∧m≤100000) :
  ψ2D.f (φB w) m recs=some (φy m 0 recs,φB (sNew (φ0 (m+1)) (sWM m recs w))):=by
 have hsn:=φ4H m
 have hsn1:=φ4H (m+1)
 have h1:=φ4A h (φ0 m)
 have h2:=φ7G (φ0 m) recs h1
 have h3:=φ68 m recs h
 unfold ψ2D.f
 simp only[φ3E,bS,φCp w (φ0 m) h (by omega),φOK m recs _ h1 hr,show w64 (m+1)=m+1 from φI (by omega) (by omega)]
 rw[φ7M (φB (sApp (φ0 m) recs (sNew (φ0 m) w))) (φ0 m) (φ13 h2) (by omega),φ2q,bS]
 show (ψ1x.f (φB (sWM m recs w)) (φ0 (m+1))).bind _=_
 rw[φCp _ _ h3 (by omega)];rfl
def φ2E (m:Int):List φX→List φC→φE→List RecT→Int→List φC×φE×List RecT
 | [],dir,w,recs,_=>(dir,w,recs)
 | p::ps,dir,w,recs,a=>if w.2≠0 then (dir,w,recs) else
   φ2E m ps (dir++[(p.1,m,a,((frame (φ7 (φS p))).length:Int),p.2.2)]) (φN (φ0 m) (frame (φ7 (φS p))) w.1) (recs++[φS p]) (a+((frame (φ7 (φS p))).length:Int))
theorem φES (m:Int):∀(l:List φX) (dir:List φC) (w:φE) (recs:List RecT) (a:Int),(φ2E m l dir w recs a).2.1=sApp (φ0 m) (l.map φS) w ∧
  ((φ2E m l dir w recs a).2.1.2=0→(φ2E m l dir w recs a).1=dir++φy m a (l.map φS)∧(φ2E m l dir w recs a).2.2=recs++l.map φS)
 | [],dir,w,recs,a=>⟨rfl,fun _=>by simp[φ2E,φy]⟩
 | p::ps,dir,w,recs,a=>by
  unfold φ2E
  split
  ·rename_i c
   obtain ⟨d,k⟩:=w
   refine ⟨(φBf _ _ c).symm,fun e=>absurd e c⟩
  ·rename_i c
   have c:w.2=0:=by simpa using c
   obtain ⟨q1,q2⟩:=φES m ps (dir++[(p.1,m,a,((frame (φ7 (φS p))).length:Int),p.2.2)]) (φN (φ0 m) (frame (φ7 (φS p))) w.1) (recs++[φS p]) (a+((frame (φ7 (φS p))).length:Int))
   refine ⟨?_,fun e=>?_⟩
   ·rw[q1]
    show _=sApp _ (ps.map φS) (φA _ w)
    congr 1
    unfold φA;rw[if_pos c]
   ·obtain ⟨e1,e2⟩:=q2 e
    rw[e1,e2]
    constructor
    ·rw[κ5,φy,if_pos (show (φS p).1=4 from rfl),aA];rfl
    ·rw[κ5,aA];rfl
theorem φL9 (m mark:Int) (l:List φX) (w:φE) (h:φ3 w.1=true) (hl:l.length<1000000) :
  lp ψ3H.l0 (m,l,mark,([],0,0,false),[],w.1,w.2,[],0,0)=some (m,mark,([],0,0,false),(φ2E m l [] w [] 0).1,(φ2E m l [] w [] 0).2.1.1,(φ2E m l [] w [] 0).2.1.2,(φ2E m l [] w [] 0).2.2):=by
 have hsn:=φ4H m
 have key:=φg (step:=ψ3H.l0) (fun n (a:List φC×φE×List RecT×Nat)=>(m,l,mark,([],0,0,false),a.1,a.2.1.1,a.2.1.2,a.2.2.1,(a.2.2.2:Int),(n:Int))) l.length
  (fun n a=>(m,mark,([],0,0,false),(φ2E m (l.drop n) a.1 a.2.1 a.2.2.1 (a.2.2.2:Int)).1,(φ2E m (l.drop n) a.1 a.2.1 a.2.2.1 (a.2.2.2:Int)).2.1.1,(φ2E m (l.drop n) a.1 a.2.1 a.2.2.1 (a.2.2.2:Int)).2.1.2,(φ2E m (l.drop n) a.1 a.2.1 a.2.2.1 (a.2.2.2:Int)).2.2))
  (fun n a=>φ3 a.2.1.1=true∧a.1.length=n∧a.2.2.1.length=n∧a.2.2.2≤211 * n)
  (fun rec n a hn ha ih=>by
   obtain ⟨dir,⟨x,c⟩,recs,at_⟩:=a
   obtain ⟨ha,hdir,hrecs,hat⟩:=ha
   simp only at ha hdir hrecs hat
   rcases κ2 n l.length with h1 | h1
   ·have hw:=φM (show n+1<9223372036854775808 by omega)
    rw[dG h1]
    simp only[ψ3H.l0,oL,h1,dT,cT,φF,φJ,φ9 h1,φ2E]
    by_cases c1:c=0
    rotate_left
    ·have d1:(c==0)=false:=by simpa using c1
     simp only[d1,cF,c1,ne_eq,not_false_eq_true,if_true]
    subst c1
    have hf:=φ4p (φ7 (φS l[n]))
    have hsr:=φ3Y (φS l[n])
    have hb:∀{α:Type} (x:α),decide ((dir.length+[x].length) * 48≤140737488355328)=true:=fun x=>decide_eq_true (φ55 (by omega))
    have hb2:∀{α:Type} (x:α),decide ((recs.length+[x].length) * 64≤140737488355328)=true:=fun x=>decide_eq_true (φ7d (by omega))
    have ek:ψ3F.f (l[n].1,l[n].2)=some (φS l[n]):=rfl
    have ea:ψ2I.f x (φ0 m) (frame (φ7 (φS l[n])))=some (φN (φ0 m) (frame (φ7 (φS l[n]))) x):=φA0 x (φ0 m) _ (φ1X (φ13 ha) (by omega)) (by omega)
    have hd:=φ3N ha (φ0 m) (frame (φ7 (φS l[n])))
    have hw2:w64 ((at_:Int)+((frame (φ7 (φS l[n]))).length:Int))=(at_:Int)+((frame (φ7 (φS l[n]))).length:Int):=φI (by omega) (by omega)
    have hcast:((at_+(frame (φ7 (φS l[n]))).length:Nat):Int)=(at_:Int)+((frame (φ7 (φS l[n]))).length:Int):=by omega
    have ih:=ih (dir++[(l[n].1,m,(at_:Int),((frame (φ7 (φS l[n]))).length:Int),l[n].2.2)],φN (φ0 m) (frame (φ7 (φS l[n]))) x,recs++[φS l[n]],at_+(frame (φ7 (φS l[n]))).length) h1 ⟨hd,by rw[lA];show _+1=_;omega,by rw[lA];show _+1=_;omega,by simp only;omega⟩
    simp only at ih
    simp only[beq_self_eq_true,cT,ek,bS,φ7K (φS l[n]),φ9e (φ7 (φS l[n])) (show (φ7 (φS l[n])).length<2 ^ 62 by omega),φ4W,ea,hb,hb2,hw2,hw,ne_eq,not_true_eq_false,if_false]
    rw[hcast] at ih
    exact ih
   ·have:n=l.length:=by omega
    subst this
    simp[ψ3H.l0,φ2E])
  (by omega) 0 ([],w,[],0) (κ4 _) ⟨h,rfl,rfl,κ4 _⟩
 have key:lp ψ3H.l0 (m,l,mark,([],0,0,false),[],w.1,w.2,[],0,0)=_:=key
 rw[key,κC];rfl
theorem φLC (d:φ1) (m:Int) (l:List φX) (mark:Int) (h:φ3 d=true) (hl:l.length<1000000) :
  ∃dir,ψ3H.f d m l mark=some ((sWM m (φZ l mark) (d,0)).1,dir,told (sWM m (φZ l mark) (d,0)).2)∧((sWM m (φZ l mark) (d,0)).2=0→dir=φy m 0 (φZ l mark)):=by
 have hsn:=φ4H m
 have h1:=φ4A (w:=(d,0)) h (φ0 m)
 have h2:=φ7G (φ0 m) (l.map φS) h1
 obtain ⟨q1,q2⟩:=φES m l [] (sNew (φ0 m) (d,0)) [] 0
 have hml:(l.map φS).length=l.length:=lM _
 refine ⟨(φ2E m l [] (sNew (φ0 m) (d,0)) [] 0).1,?_,?_⟩
 rotate_left
 ·intro e
  unfold sWM φZ at e
  rw[φHn] at e
  rw[←q1] at e
  have:(φ2E m l [] (sNew (φ0 m) (d,0)) [] 0).2.1.2=0:=by
   revert e
   generalize (φ2E m l [] (sNew (φ0 m) (d,0)) [] 0).2.1=w
   obtain ⟨x,c⟩:=w
   intro e
   by_cases c1:c=0
   ·exact c1
   ·rw[φ2s c1,φ2s c1] at e;exact e
  rw[(q2 this).1]
  unfold φZ
  rw[φ9d m _ (show ¬(5:Int)=4 by decide),κ8]
 unfold ψ3H.f sWM φZ
 rw[φHn]
 simp only[φ4W,bS,φDd d (φ0 m) h (by omega)]
 rw[φL9 m mark l (sNew (φ0 m) (d,0)) h1 hl,bS]
 generalize φ2E m l [] (sNew (φ0 m) (d,0)) [] 0=G at *
 obtain ⟨dir,⟨x,c⟩,recs⟩:=G
 simp only at q1 q2 ⊢
 rw[←q1] at h2 ⊢
 by_cases c1:c=0
 rotate_left
 ·have d1:(c==0)=false:=by simpa using c1
  rw[φ2s c1,φ2s c1]
  simp only[d1,cF,bS,φ4X]
 subst c1
 obtain ⟨_,e2⟩:=q2 rfl
 rw[κ8] at e2
 subst e2
 have hsl:ψ3g.f (l.map φS) mark 5=some (5,mark,[],[],(l.length:Int),φ1i (l.map φS)):=by
  unfold ψ3g.f
  rw[φD0 _ (by omega),bS,hml]
 have hf:=φ4p (φ7 (5,mark,[],[],(l.length:Int),φ1i (l.map φS)))
 have hsr:=φ3Y (5,mark,[],[],(l.length:Int),φ1i (l.map φS))
 have ea:ψ2I.f x (φ0 m) (frame (φ7 (5,mark,[],[],(l.length:Int),φ1i (l.map φS))))=some (φN (φ0 m) (frame (φ7 (5,mark,[],[],(l.length:Int),φ1i (l.map φS)))) x):=φA0 x (φ0 m) _ (φ1X (φ13 h2) (by omega)) (by omega)
 have h3:=φ3N h2 (φ0 m) (frame (φ7 (5,mark,[],[],(l.length:Int),φ1i (l.map φS))))
 rw[φ2V]
 simp only[beq_self_eq_true,cT,hsl,bS,φ7K,φ9e _ (show (φ7 (5,mark,[],[],(l.length:Int),φ1i (l.map φS))).length<2 ^ 62 by omega),ea]
 generalize φN (φ0 m) (frame (φ7 (5,mark,[],[],(l.length:Int),φ1i (l.map φS)))) x=w at *
 obtain ⟨y,c2⟩:=w
 by_cases c3:c2=0
 rotate_left
 ·have d1:(c2==0)=false:=by simpa using c3
  rw[φ2s c3]
  simp only[d1,cF,bS,φ4X]
 subst c3
 have ey:ψ31.f y (φ0 m)=some (φH (φ0 m) y):=φHk y (φ0 m) (φ1X (φ13 h3) (by omega))
 rw[φ2V]
 simp only[beq_self_eq_true,cT,ey,bS,φ4X]
theorem φML (n:List UInt8) (d:φ1):(φ2v n d).2≠2:=by
 unfold φ2v φT
 split
 ·simp
 ·split
  ·simp
  ·unfold φ2F;split<;>simp
theorem φIP (n:List UInt8) (d:φ1):(φD n d).2≠2:=by
 unfold φD;split
 ·exact φML n d
 ·simp
theorem φH5 (c:Int):told c=2↔c=2:=by
 unfold told;split
 ·rename_i h;subst h;simp
 ·split
  ·rename_i h;subst h;simp
  ·split
   ·rename_i h;simp[h]
   ·rename_i h;simp[h]
noncomputable def φ1u (m:Int) (d:φ1):φE:=
 let f:=φ1O (φL m) (φ1U (φ16 m (φ2 d (φ0 m)).1).1) (d,0)
 if f.2=2 then φD (φL m) f.1 else f
noncomputable def φr (m:Int) (w:φE):φE:=if w.2≠0 then w else φ1u m w.1
theorem φKx (m:Int) (d:φ1):(φ1u m d).2≠2:=by
 unfold φ1u
 simp only
 split
 ·exact φIP _ _
 ·rename_i h;exact h
theorem φ6n (m:Int) {d:φ1} (h:φ3 d=true):φ3 (φ1u m d).1=true:=by
 have:=φ4i (w:=(d,0)) h (φL m) (φ1U (φ16 m (φ2 d (φ0 m)).1).1)
 unfold φ1u
 simp only
 split
 ·exact φ2Y this _
 ·exact this
theorem φG2 (m:Int) {d:φ1} (h:φ3 d=true):(φ2 d (φ0 m)).1.length≤100000∧(φ16 m (φ2 d (φ0 m)).1).1.2.2.length≤100000:=by
 have hl:=φ13 h
 have h1:=φ4k d (φ0 m) (φ1X hl (by omega))
 have h2:=φHg m (φ2 d (φ0 m)).1
 have:=hl.2.1
 omega
theorem φOm (m:Int) (w:φE) (h:φ3 w.1=true):ψ2C.f (φB w) m=some (φB (φr m w)):=by
 obtain ⟨d,c⟩:=w
 have h:φ3 d=true:=h
 unfold ψ2C.f φr
 show (bif told c != 0 then _ else _)=_
 rw[φ6P]
 by_cases c1:c=0
 rotate_left
 ·have d1:(c != 0)=true:=by simpa using c1
  simp only[d1,cT,c1,ne_eq,not_false_eq_true,if_true]
 subst c1
 obtain ⟨t1,t2⟩:=φG2 m (d:=d) h
 have hn:=φBW m
 have hsl:=φ9X (φ16 m (φ2 d (φ0 m)).1).1
 have hd:dlim d:=φ1X (φ13 h) (by omega)
 simp only[bne_self_eq_false,cF,ne_eq,not_true_eq_false,if_false,φ3E,bS]
 rw[show ψP.f (φB (d,0)).1 (φ0 m)=some (φ2 d (φ0 m)) from φ4j d (φ0 m) hd]
 simp only[bS,φHI m (φ2 d (φ0 m)).1 (by omega),φ8P,φAZ (φ16 m (φ2 d (φ0 m)).1).1 (by omega)]
 rw[φG9 (φB (d,0)) (φL m) _ (φ13 h) (by omega),bS,φEQ]
 unfold φ1u
 have hf:=φ4i (w:=(d,0)) h (φL m) (φ1U (φ16 m (φ2 d (φ0 m)).1).1)
 simp only
 generalize φ1O (φL m) (φ1U (φ16 m (φ2 d (φ0 m)).1).1) (d,0)=f at *
 obtain ⟨x,k⟩:=f
 have hf:φ3 x=true:=hf
 show (bif told k==2 then _ else _)=_
 by_cases c2:k=2
 ·subst c2
  have e:ψ23.f (x,0) (φL m)=some (φ1A (φD (φL m)) (x,0)):=φ5A (x,0) (φL m) (φ13 hf) (by omega)
  simp only[show (told 2==2)=true from rfl,cT,if_true]
  show (ψ23.f (x,0) (φL m)).bind _=_
  rw[e,bS]
  rw[show φ1A (φD (φL m)) (x,0)=φB (φD (φL m) x) by unfold φ1A;simp;rfl]
 ·have c3:¬told k=2:=fun e=>c2 ((φH5 k).1 e)
  have d3:(told k==2)=false:=by simpa using c3
  simp only[d3,cF,c2,if_false]
def φ3y (m:Int):List (List UInt8):=[[116,101,109,112],φ0 m,φ0 (m+1),φL m]
def sOld (ids:List Int) (w:φE):φE:=ids.foldl (fun w id=>φo [φ0 id,φL id] w) w
theorem φMP (ids:List Int):∀{w:φE},φ3 w.1=true→φ3 (sOld ids w).1=true:=by
 induction ids with
 | nil=>intro w h;exact h
 | cons n l ih=>intro w h;exact ih (φ4e [φ0 n,φL n] h)
theorem φJA (ids:List Int) {d:φ1} {c:Int} (h:c≠0):sOld ids (d,c)=(d,c):=by
 induction ids with
 | nil=>rfl
 | cons n l ih=>show sOld l (φo _ (d,c))=_;rw[φF8 _ h,ih]
noncomputable def φ15 (s:φ8) (d:φ1) (l:List φX):φ8×φ1×Int:=
 let m:=s.1.1
 let w1:=sNew (φ0 (m+1)) (sWM m (φZ l (s.2.2.1 - 1)) (d,0))
 let w2:=φr m w1
 let w3:=if w2.2=0 then φB (sPut (m+2,[m,m+1]) w2) else φB w2
 if w3.2≠0 then (((m+2,s.1.2),s.2),φ1d (φ3y m) w3) else
 (((m+2,[m,m+1]),φy m 0 (φZ l (s.2.2.1 - 1)),s.2.2.1,0,0),φB (sOld s.1.2 (w3.1,0)))
theorem φ80 (l:List φX) (mark:Int):(φZ l mark).length=l.length+1:=by unfold φZ;simp
theorem φJX (S:φ8) (ids:List Int) (w:φE) (h:φ3 w.1=true) (hl:ids.length<1000000) :
  lp ψ16.l0 (S,φB w,ids,(ids.length:Int),0)=some (S,φB (sOld ids w)):=by
 have key:=φ3M (step:=ψ16.l0) ids (fun (w:φE) id=>φo [φ0 id,φL id] w) (fun n (a:φE)=>(S,φB a,ids,(ids.length:Int),(n:Int))) (fun a=>(S,φB a)) (fun _ a=>φ3 a.1=true) (by omega)
  (fun rec n a h1 ha=>by
   have hw:=φM (show n+1<9223372036854775808 by omega)
   have g1:φ3 (φA (φD (φ0 ids[n])) a).1=true:=φ1t (op:=φD _) ha fun k=>φ2Y k _
   have e1:ψ23.f (φB a) (φ0 ids[n])=some (φB (φA (φD (φ0 ids[n])) a)):=by rw[φ5A (φB a) _ (φ13 ha) (by omega),φ2q]
   have e2:ψ23.f (φB (φA (φD (φ0 ids[n])) a)) (φL ids[n])=some (φB (φA (φD (φL ids[n])) (φA (φD (φ0 ids[n])) a))):=by rw[φ5A (φB _) _ (φ13 g1) (by omega),φ2q]
   simp only[ψ16.l0,oL,h1,dT,cT,φF,φJ,φ9 h1,φ3E,φ8P,e1,e2,bS,hw];rfl)
  (fun n a h1 ha=>φ4e [φ0 ids[n],φL ids[n]] ha)
  (fun rec a ha=>by simp[ψ16.l0])
  w h
 exact key
theorem φM4 (s:φ8) (d:φ1) (l:List φX) (h:φ3 d=true) (hv:φm s.1=true) (h2:s.1.1+2≤100000) (hb:1≤s.2.2.1∧s.2.2.1≤1000001) (hl:l.length<100000):ψ16.f s (d,0) l=some (φ15 s d l):=by
 obtain ⟨k1,k2,k3,k4⟩:=(φ14 s.1).1 hv
 have hkl:=φ80 l (s.2.2.1 - 1)
 have g1:=φ68 s.1.1 (φZ l (s.2.2.1 - 1)) (w:=(d,0)) h
 have g2:=φ4A g1 (φ0 (s.1.1+1))
 unfold ψ16.f φ15
 simp only[show w64 (s.1.1+2)=s.1.1+2 from φI (by omega) (by omega),show w64 (s.1.1+1)=s.1.1+1 from φI (by omega) (by omega),show w64 (s.2.2.1 - 1)=s.2.2.1 - 1 from φI (by omega) (by omega),φJi l (s.2.2.1 - 1) (by omega),bS]
 rw[show ((d,0):φE)=φB (d,0) from rfl,φLB s.1.1 (φZ l (s.2.2.1 - 1)) (d,0) h (by omega) (by omega)]
 simp only[bS]
 rw[show φB (d,0)=((d,0):φE) from rfl]
 generalize sNew (φ0 (s.1.1+1)) (sWM s.1.1 (φZ l (s.2.2.1 - 1)) (d,0))=w1 at *
 have g3:φ3 (φr s.1.1 w1).1=true:=by
  unfold φr;split
  ·exact g2
  ·exact φ6n _ g2
 rw[φOm s.1.1 w1 g2,bS]
 generalize φr s.1.1 w1=w2 at *
 obtain ⟨x,c⟩:=w2
 have g3:φ3 x=true:=g3
 have g4:=φ3i (w:=(x,0)) g3 (s.1.1+2,[s.1.1,s.1.1+1])
 have e3:(bif (φB (x,c)).2==0 then (ψ27.f (φB (x,c)) (s.1.1+2,[s.1.1,s.1.1+1])).bind fun t6=>some ((((s.1.1+2,s.1.2),s.2):φ8),t6,s.1.1,φy s.1.1 0 (φZ l (s.2.2.1 - 1)),((s.1.1+2,[s.1.1,s.1.1+1]):φQ)) else some (((s.1.1+2,s.1.2),s.2),φB (x,c),s.1.1,φy s.1.1 0 (φZ l (s.2.2.1 - 1)),(s.1.1+2,[s.1.1,s.1.1+1]))) =
   some (((s.1.1+2,s.1.2),s.2),(if c=0 then φB (sPut (s.1.1+2,[s.1.1,s.1.1+1]) (x,c)) else φB (x,c)),s.1.1,φy s.1.1 0 (φZ l (s.2.2.1 - 1)),(s.1.1+2,[s.1.1,s.1.1+1])):=by
  by_cases c1:c=0
  ·subst c1
   rw[φBp (φB (x,0)) (s.1.1+2,[s.1.1,s.1.1+1]) (φ13 g3) (by omega) (by simp),φCO];rfl
  ·have c2:¬told c=0:=fun e=>c1 ((φ1B c).1 e)
   have d2:((φB (x,c)).2==0)=false:=by simpa [φB] using c2
   rw[d2];simp only[cF,c1,if_false]
 rw[e3,bS]
 have g5:φ3 (if c=0 then φB (sPut (s.1.1+2,[s.1.1,s.1.1+1]) (x,c)) else φB (x,c)).1=true:=by
  split
  ·rename_i c1;subst c1;exact g4
  ·exact g3
 simp only
 generalize (if c=0 then φB (sPut (s.1.1+2,[s.1.1,s.1.1+1]) (x,c)) else φB (x,c))=w3 at *
 obtain ⟨y,c3⟩:=w3
 have g5:φ3 y=true:=g5
 by_cases c4:c3=0
 ·subst c4
  simp only[bne_self_eq_false,cF,ne_eq,not_true_eq_false,if_false]
  rw[show ((y,0):φE)=φB (y,0) from rfl,φJX _ s.1.2 (y,0) g5 (by omega)];rfl
 ·have d4:(c3 != 0)=true:=by simpa using c4
  simp only[d4,cT,c4,ne_eq,not_false_eq_true,if_true,φ3E,φ8P,bS,show w64 (s.1.1+1)=s.1.1+1 from φI (by omega) (by omega)]
  rw[φGo (y,c3) [[116,101,109,112],φ0 s.1.1,φ0 (s.1.1+1),φL s.1.1] g5 (by simp)];rfl
theorem φAX (s:φ8) (d:φ1) (m c:Int) (h:φ3 d=true) (hm:0≤m∧m≤100000) (hc:c≠0):ψ3E.f s d m c=some (s,φ1d (φ3y m) (d,c)):=by
 unfold ψ3E.f φ1d
 by_cases c1:c=2
 rotate_left
 ·have d1:(c != 2)=true:=by simpa using c1
  simp only[d1,cT,c1,if_false]
 subst c1
 simp only[bne_self_eq_false,cF,if_true,φ4W,φBd,show w64 (m+1)=m+1 from φI (by omega) (by omega),bS]
 rw[φBa d [[116,101,109,112],φ0 m,φ0 (m+1),φL m] h (by simp),bS]
 show (bif (φo (φ3y m) (d,0)).2 != 0 then _ else _)=_
 rw[show φo [[116,101,109,112],φ0 m,φ0 (m+1),φL m] (d,0)=φo (φ3y m) (d,0) from rfl]
 generalize φo (φ3y m) (d,0)=r
 obtain ⟨x,k⟩:=r
 by_cases c2:k=0
 ·subst c2;rfl
 ·have d2:(k != 0)=true:=by simpa using c2
  have c3:¬told k=0:=fun e=>c2 ((φ1B k).1 e)
  have c4:¬(φB (x,k)).2=0:=c3
  simp only[d2,cT,φ4X,bS,c4,if_false];rfl
theorem φM5 (S:φ8) (ids:List Int) (d:φ1) (h:φ3 d=true) (hl:ids.length<1000000) :
  lp ψ3G.l0 (S,((0,[]),[],0,0,0),([],0,0,false),d,ids,0)=some (if (sOld ids (d,0)).2=0 then .inl (S,((0,[]),[],0,0,0),([],0,0,false),(sOld ids (d,0)).1) else .inr (S,(sOld ids (d,0)).1,told (sOld ids (d,0)).2)):=by
 have key:=φg (step:=ψ3G.l0) (fun n (a:φ1)=>(S,((0,[]),[],0,0,0),([],0,0,false),a,ids,(n:Int))) ids.length (fun n a=>if (sOld (ids.drop n) (a,0)).2=0 then .inl (S,((0,[]),[],0,0,0),([],0,0,false),(sOld (ids.drop n) (a,0)).1) else .inr (S,(sOld (ids.drop n) (a,0)).1,told (sOld (ids.drop n) (a,0)).2)) (fun _ a=>φ3 a=true)
  (fun rec n a hn ha ih=>by
   rcases κ2 n ids.length with h1 | h1
   ·have hw:=φM (show n+1<9223372036854775808 by omega)
    have hk:=φ4e [φ0 ids[n],φL ids[n]] (w:=(a,0)) ha
    rw[dG h1]
    have es:sOld (ids[n]::ids.drop (n+1)) (a,0)=sOld (ids.drop (n+1)) (φo [φ0 ids[n],φL ids[n]] (a,0)):=rfl
    simp only[es,ψ3G.l0,oL,h1,dT,cT,φF,φJ,φ9 h1,φ4W,φBd,φBa a [φ0 ids[n],φL ids[n]] ha (by simp),bS]
    generalize φo [φ0 ids[n],φL ids[n]] (a,0)=r at *
    obtain ⟨x,c⟩:=r
    by_cases c1:c=0
    ·subst c1
     simp only[bne_self_eq_false,cF,hw,ih x h1 hk]
    ·have d1:(c != 0)=true:=by simpa using c1
     simp only[d1,cT,φ4X,bS,φJA _ c1,c1,if_false]
   ·have:n=ids.length:=by omega
    subst this
    simp[ψ3G.l0,sOld])
  (by omega) 0 d (κ4 _) h
 have key:lp ψ3G.l0 (S,((0,[]),[],0,0,0),([],0,0,false),d,ids,0)=_:=key
 rw[key,κC]
theorem φA9 (m:Int) (h:1≤m) (h2:m+2≤100000):φm (m+2,[m,m+1])=true:=by
 rw[φ14]
 refine ⟨?_,by simp only;omega,by simp,by simp⟩
 simp only[φ1c,κP,tA,bA,decide_eq_true_eq]
 rw[φI (by omega) (by omega)]
 omega
theorem φJq (s:φ8) (d:φ1) (l:List φX) (h:φ3 d=true) (hv:φm s.1=true) (h2:s.1.1+2≤100000) (hb:1≤s.2.2.1∧s.2.2.1≤1000001) (hl:l.length<100000):ψ3G.f s d l=some (φ15 s d l):=by
 obtain ⟨k1,k2,k3,k4⟩:=(φ14 s.1).1 hv
 have hkl:=φ80 l (s.2.2.1 - 1)
 have hlv:=φA9 s.1.1 (by omega) h2
 have hsn:=φ4H s.1.1
 have hsn1:=φ4H (s.1.1+1)
 have hhn:=φBW s.1.1
 have g1:=φ68 s.1.1 (φZ l (s.2.2.1 - 1)) (w:=(d,0)) h
 obtain ⟨dir,ew,edir⟩:=φLC d s.1.1 l (s.2.2.1 - 1) h (by omega)
 unfold ψ3G.f φ15
 simp only[show w64 (s.1.1+2)=s.1.1+2 from φI (by omega) (by omega),show w64 (s.1.1+1)=s.1.1+1 from φI (by omega) (by omega),show w64 (s.2.2.1 - 1)=s.2.2.1 - 1 from φI (by omega) (by omega),ew,bS,φ6P]
 generalize sWM s.1.1 (φZ l (s.2.2.1 - 1)) (d,0)=w0 at *
 obtain ⟨x0,c0⟩:=w0
 have g1:φ3 x0=true:=g1
 by_cases c1:c0=0
 rotate_left
 ·have d1:(c0 != 0)=true:=by simpa using c1
  have c2:told c0≠0:=fun e=>c1 ((φ1B c0).1 e)
  have e1:φr s.1.1 (x0,c0)=(x0,c0):=by unfold φr;rw[if_pos c1]
  rw[φGb c1,e1]
  simp only[d1,cT,c1,if_false,φAX _ x0 s.1.1 (told c0) g1 (by omega) c2,bS]
  rw[if_pos (show (φB (x0,c0)).2≠0 from c2)];rfl
 subst c1
 have edir:=edir rfl
 subst edir
 have g2:=φ4A (w:=(x0,0)) g1 (φ0 (s.1.1+1))
 simp only[bne_self_eq_false,cF,φ4W,φDd x0 (φ0 (s.1.1+1)) g1 (by omega),bS]
 generalize sNew (φ0 (s.1.1+1)) (x0,0)=w1 at *
 obtain ⟨x1,c1⟩:=w1
 have g2:φ3 x1=true:=g2
 by_cases c2:c1=0
 rotate_left
 ·have d1:(c1 != 0)=true:=by simpa using c2
  have c3:told c1≠0:=fun e=>c2 ((φ1B c1).1 e)
  have e1:φr s.1.1 (x1,c1)=(x1,c1):=by unfold φr;rw[if_pos c2]
  rw[e1]
  simp only[d1,cT,c2,if_false,φ4X,φAX _ x1 s.1.1 (told c1) g2 (by omega) c3,bS]
  rw[if_pos (show (φB (x1,c1)).2≠0 from c3)];rfl
 subst c2
 obtain ⟨t1,t2⟩:=φG2 s.1.1 (d:=x1) g2
 have hsl:=φ9X (φ16 s.1.1 (φ2 x1 (φ0 s.1.1)).1).1
 have hd:dlim x1:=φ1X (φ13 g2) (by omega)
 have g3:=φ6n s.1.1 g2
 have n2:=φKx s.1.1 x1
 have e1:φr s.1.1 (x1,0)=φ1u s.1.1 x1:=by unfold φr;rw[if_neg (by simp)]
 rw[e1]
 simp only[bne_self_eq_false,cF,φ8j x1 (φ0 s.1.1) hd,bS,φJh s.1.1 (φ2 x1 (φ0 s.1.1)).1 (by omega),φBd,φKf (φ16 s.1.1 (φ2 x1 (φ0 s.1.1)).1).1 (by omega),φF4 x1 (φL s.1.1) _ (φ13 g2) (show 100001+1+(φL s.1.1).length+(φ1U (φ16 s.1.1 (φ2 x1 (φ0 s.1.1)).1).1).length≤1000000000 by omega)]
 have hf:=φ4i (w:=(x1,0)) g2 (φL s.1.1) (φ1U (φ16 s.1.1 (φ2 x1 (φ0 s.1.1)).1).1)
 have eh:φ1u s.1.1 x1=if (φ1O (φL s.1.1) (φ1U (φ16 s.1.1 (φ2 x1 (φ0 s.1.1)).1).1) (x1,0)).2=2 then φD (φL s.1.1) (φ1O (φL s.1.1) (φ1U (φ16 s.1.1 (φ2 x1 (φ0 s.1.1)).1).1) (x1,0)).1 else φ1O (φL s.1.1) (φ1U (φ16 s.1.1 (φ2 x1 (φ0 s.1.1)).1).1) (x1,0):=rfl
 generalize φ1O (φL s.1.1) (φ1U (φ16 s.1.1 (φ2 x1 (φ0 s.1.1)).1).1) (x1,0)=f at *
 obtain ⟨xf,cf⟩:=f
 have hf:φ3 xf=true:=hf
 have e4:(bif cf==2 then (ψ3D.f xf [φL s.1.1]).bind fun (t15_0,t15_1)=>some ((((s.1.1+2,s.1.2),s.2):φ8),(((0,[]),[],0,0,0):φ8),(([],0,0,false):φ1),s.1.1,t15_0,φy s.1.1 0 (φZ l (s.2.2.1 - 1)),t15_1) else some (((s.1.1+2,s.1.2),s.2),((0,[]),[],0,0,0),([],0,0,false),s.1.1,xf,φy s.1.1 0 (φZ l (s.2.2.1 - 1)),cf)) =
   some (((s.1.1+2,s.1.2),s.2),((0,[]),[],0,0,0),([],0,0,false),s.1.1,(φ1u s.1.1 x1).1,φy s.1.1 0 (φZ l (s.2.2.1 - 1)),(φ1u s.1.1 x1).2):=by
  rw[eh]
  by_cases c5:cf=2
  ·subst c5
   rw[φBa xf [φL s.1.1] hf (by simp)]
   simp only[beq_self_eq_true,cT,bS,if_true]
   rw[show φo [φL s.1.1] (xf,0)=φD (φL s.1.1) xf by show φA (φD (φL s.1.1)) (xf,0)=_;rw[φ2V]]
  ·have d5:(cf==2)=false:=by simpa using c5
   simp only[d5,cF,c5,if_false]
 rw[e4,bS]
 clear e4 eh
 generalize φ1u s.1.1 x1=w2 at *
 obtain ⟨x2,c2⟩:=w2
 have g3:φ3 x2=true:=g3
 have n2:c2≠2:=n2
 by_cases c5:c2=0
 rotate_left
 ·have d1:(c2 != 0)=true:=by simpa using c5
  have c6:told c2≠0:=fun e=>c5 ((φ1B c2).1 e)
  have c7:¬told c2=2:=fun e=>n2 ((φH5 c2).1 e)
  simp only[d1,cT,c5,if_false,φ4X,bS]
  rw[if_pos (show (φB (x2,c2)).2≠0 from c6)]
  unfold φ1d
  rw[if_neg (show ¬(φB (x2,c2)).2=2 from c7)];rfl
 subst c5
 have hb0:(([]:List Int).length+s.1.2.length) * 8≤140737488355328:=φBL (by omega)
 have g4:=φ3i (w:=(x2,0)) g3 (s.1.1+2,[s.1.1,s.1.1+1])
 have ep:ψ2i.f x2 (s.1.1+2,[s.1.1,s.1.1+1])=some (φB (sPut (s.1.1+2,[s.1.1,s.1.1+1]) (x2,0))):=by
  rw[φN8 _ _ (φ13 g3) (by omega) (by simp)]
  unfold φAq
  rw[if_neg (by rw[hlv,g3];simp)]
 simp only[bne_self_eq_false,cF,if_true,hb0,dT,cT,κ8,show w64 (s.1.1+2)=s.1.1+2 from φI (by omega) (by omega),show w64 (s.1.1+1)=s.1.1+1 from φI (by omega) (by omega),ep,bS]
 have g5:φ3 (φB (sPut (s.1.1+2,[s.1.1,s.1.1+1]) (x2,0))).1=true:=g4
 generalize φB (sPut (s.1.1+2,[s.1.1,s.1.1+1]) (x2,0))=w3 at *
 obtain ⟨x3,c3⟩:=w3
 have g5:φ3 x3=true:=g5
 by_cases c6:c3=0
 rotate_left
 ·have d6:(c3 != 0)=true:=by simpa using c6
  simp only[d6,cT,c6,ne_eq,not_false_eq_true,if_true,φAX _ x3 s.1.1 c3 g5 (by omega) c6,bS]
 subst c6
 simp only[bne_self_eq_false,cF,ne_eq,not_true_eq_false,if_false,φM5 _ s.1.2 x3 g5 (by omega),bS]
 generalize sOld s.1.2 (x3,0)=w4
 obtain ⟨x4,c4⟩:=w4
 by_cases c7:c4=0
 ·subst c7;rfl
 ·simp only[c7,if_false,φp];rfl
theorem φA2 {c:CurT} (h:Cur c) (l:List Int) (hl:0<l.length):∃x c',ψ3W.f c l=some (x,c')∧x∈l∧Cur c':=by
 obtain ⟨x,c',e,h1,h2,_,h'⟩:=φ5D h (l.length:Int)
 have h2:=h2 (by omega)
 unfold ψ3W.f
 obtain ⟨n,rfl⟩:∃n:Nat,x=(n:Int):=⟨x.toNat,by omega⟩
 have hn:n<l.length:=by omega
 simp only[e,bS,φF,hn,dT,cT,φJ,φ9 hn]
 exact ⟨_,_,rfl,gM hn,h'⟩
theorem φCo {α:Type} {l:List (List UInt8×α)} (h:srt l) {i j:Nat} (hi:i<l.length) (hj:j<l.length) (e:l[i].1=l[j].1):i=j:=by
 unfold srt at h
 rw[List.pairwise_iff_getElem] at h
 rcases Nat.lt_trichotomy i j with c | c | c
 ·have:=h i j hi hj c;rw[e,φ4t] at this;simp at this
 ·exact c
 ·have:=h j i hj hi c;rw[e,φ4t] at this;simp at this
theorem φ2l {d:φ1} (h:φ3 d=true) {f:φ6} (hf:f∈d.1):φ2 d f.1=(f.2.1,true):=by
 have hs:=((φ3d d).1 h).2.2.2.2.2
 unfold φ2
 rw[if_neg (by rw[h];simp)]
 rcases φw d.1 f.1 with ⟨e,hno⟩ | ⟨i,hi,e,hn⟩
 ·exact absurd rfl (hno f hf)
 ·rw[φ17 e]
  obtain ⟨j,hj,ej⟩:=List.getElem_of_mem hf
  have:i=j:=φCo hs hi hj (by rw[hn,ej])
  subst this
  simp only
  rw[φ9 hi,ej]
theorem φBN {d:φ1} {n:List UInt8} (h:∀f∈d.1,f.1≠n):(φ2 d n).2=false:=by
 unfold φ2
 split
 ·rfl
 ·rcases φw d.1 n with ⟨e,hno⟩ | ⟨i,hi,e,hn⟩
  ·rw[φ1C e]
  ·exact absurd hn (h _ (gM hi))
def φ3U (n:List UInt8) (z:Int) (d:φ1):φ1×Int:=φT d (φ40 n z)
theorem φ5v {d:φ1} {act:List φ6→Int×List φ6} (h:(φT d act).2=0):φ3 d=true∧(act d.1).1=0∧(φT d act).1=((act d.1).2,(tick d).2):=by
 unfold φT at h ⊢
 split at h
 ·simp at h
 rename_i c
 split at h
 ·simp at h
 rename_i c2
 rw[if_neg c,if_neg c2]
 exact ⟨by simpa using c,h,rfl⟩
theorem φ4D {d:φ1} {n t:List UInt8} (h:(φN n t d).2=0):(φ2 d n).2=true∧φ2 (φN n t d).1 n=((φ2 d n).1++t,true):=by
 obtain ⟨k,ha,hx⟩:=φ5v h
 have hk:φ3 (φN n t d).1=true:=φ3N k n t
 have hx:(φN n t d).1=_:=hx
 unfold φ2T at ha hx
 rcases φw d.1 n with ⟨e,_⟩ | ⟨i,hi,e,hn⟩
 ·rw[φ1C e] at ha;simp at ha
 rw[φ17 e] at ha hx
 simp only at ha hx
 split at ha
 ·simp at ha
 rename_i c
 rw[if_neg c,φ9 hi] at hx
 have e1:=φ2l k (gM hi)
 rw[hn] at e1
 have hm:((n,d.1[i].2.1++t,d.1[i].2.2):φ6)∈(φN n t d).1.1:=by
  rw[hx,←hn]
  exact List.mem_iff_getElem.2 ⟨i,by simpa using hi,by simp⟩
 have e2:=φ2l hk hm
 rw[e1]
 exact ⟨rfl,e2⟩
theorem φEv {d:φ1} {n:List UInt8} (h:(φ2v n d).2=0):(φ2 (φ2v n d).1 n).2=false:=by
 obtain ⟨k,ha,hx⟩:=φ5v h
 have hx:(φ2v n d).1=_:=hx
 unfold φ2F at ha hx
 rcases φw d.1 n with ⟨e,_⟩ | ⟨i,hi,e,hn⟩
 ·rw[φ1C e] at ha;simp at ha
 rw[φ17 e] at hx
 simp only at hx
 apply φBN
 rw[hx]
 intro f hf
 have:=φBB hi (φ5b k) f hf
 rw[hn] at this
 exact this
theorem φLY {d:φ1} {a b:List UInt8} (h:(φ2Z a b d).2=0):φ2 (φ2Z a b d).1 b=((φ2 d a).1,true):=by
 obtain ⟨k,ha,hx⟩:=φ5v h
 have hk:φ3 (φ2Z a b d).1=true:=φ8S k a b
 have hx:(φ2Z a b d).1=_:=hx
 unfold φ2L at ha hx
 split at ha
 ·simp at ha
 rename_i c
 rw[if_neg c] at hx
 rcases φw d.1 a with ⟨e,_⟩ | ⟨i,hi,e,hn⟩
 ·rw[φ1C e] at ha;simp at ha
 rw[φ17 e] at hx
 simp only at hx
 have e1:=φ2l k (gM hi)
 rw[hn] at e1
 rw[e1]
 have hm:((b,d.1[i].2):φ6)∈(φ2Z a b d).1.1:=by
  rw[hx]
  simp only
  split
  ·rename_i c2
   rw[←c2,←hn];exact gM hi
  ·rw[φ3b,φ9 hi];exact .inl rfl
 exact φ2l hk hm
theorem φGm:∀(l:List φC) (p:Option (List UInt8)),φ2a p l=true→(∀q,p=some q→∀x∈l,Op.bytesLess q x.1=true)∧srt l
 | [],p,_=>⟨fun _ _ x hx=>by simp at hx,List.Pairwise.nil⟩
 | e::l,p,h=>by
  simp only[φ2a,bA] at h
  obtain ⟨h1,h2⟩:=φGm l (some e.1) h.2.2
  refine ⟨fun q hq x hx=>?_,List.Pairwise.cons (h1 e.1 rfl) h2⟩
  subst hq
  have hqe:Op.bytesLess q e.1=true:=h.2.1
  rcases mc.1 hx with c | hx
  ·rw[c];exact hqe
  ·exact φ7X _ _ _ hqe (h1 e.1 rfl x hx)
theorem φ5l {l:List φC} (h:φ1v l=true):srt l:=by
 unfold φ1v at h
 simp only[bA] at h
 exact (φGm l none h.1).2
theorem φEX {l:List φC} (h:srt l) {e:φC} (he:e∈l):φ1s l e.1=(e,true):=by
 unfold φ1s
 have hf:(l.find? fun x=>x.1==e.1)=some e:=by
  induction l with
  | nil=>simp at he
  | cons x l ih=>
   have h2:=κY.1 h
   rw[List.find?_cons]
   rcases mc.1 he with c | he
   ·subst c;simp
   ·have:(x.1==e.1)=false:=by simpa using φ6Y (h2.1 e he)
    rw[this]
    exact ih h2.2 he
 rw[hf]
theorem φM1 {l:List φC} {key:List UInt8} (h:∀e∈l,e.1≠key):(φ1s l key).2=false:=by
 unfold φ1s
 have hf:(l.find? fun x=>x.1==key)=none:=by
  rw[List.find?_eq_none]
  intro e he
  simpa using h e he
 rw[hf]
theorem φFU {s:φ8} {d:φ1} (h:φh s d=true):∀e∈s.2.1,φ23 d s.2.2.1 e=true:=by
 unfold φh at h
 simp only[bA,κR] at h
 exact h.2.2.2.2.2
theorem φ8k {s:φ8} {d:φ1} (h:φh s d=true) {e:φC} (he:e∈s.2.1):(getP s d e.1).2=0∧(getP s d e.1).1.1=e.1:=by
 obtain ⟨q1,q2,q3,q4,q5⟩:=φ5e h
 have hs:=φ5l q3
 have k:=φFU h e he
 unfold φ23 at k
 simp only[bA,κW,beq_iff_eq] at k
 unfold getP
 rw[φEX hs he]
 simp only[κ9,if_false]
 rw[if_pos ⟨k.1,k.2.1,k.2.2.1⟩]
 exact ⟨rfl,rfl⟩
theorem φFC {s:φ8} {d:φ1} {key:List UInt8} (h:∀e∈s.2.1,e.1≠key):getP s d key=(([],[],0),8):=by
 unfold getP
 rw[if_pos (φM1 h)]
theorem φHH {s:φ8} {d:φ1}:∀(l:List φC) (acc:List φX),(∀e∈l,(getP s d e.1).2=0)→φ1V s d l acc=(acc++l.map fun e=>(getP s d e.1).1,0)
 | [],acc,_=>by simp[φ1V]
 | e::r,acc,h=>by
  unfold φ1V
  rw[if_neg (by rw[h e κ0];simp),φHH r _ fun x hx=>h x (mC _ hx)]
  simp
theorem φDg {s:φ8} {d:φ1} (h:φh s d=true):φU s d=(s.2.1.map fun e=>(getP s d e.1).1,0):=by
 unfold φU
 rw[φHH s.2.1 [] fun e he=>(φ8k h he).1]
 simp
theorem φ7f (n:Int) (h:0≤n∧n≤100000):φ3 (([],n,-1,false):φ1)=true:=by
 rw[φ3d];exact ⟨h,(show (-1:Int)≤-1∧(-1:Int)≤100000 by decide),(show 0≤130 by decide),h.1,by simp,List.Pairwise.nil⟩
theorem φ7x {d:φ1} {n:List UInt8} (h:∀f∈d.1,f.1≠n):φ2 d n=([],false):=by
 unfold φ2
 split
 ·rfl
 ·rcases φw d.1 n with ⟨e,hno⟩ | ⟨i,hi,e,hn⟩
  ·rw[φ1C e]
  ·exact absurd hn (h _ (gM hi))
theorem φGU {d e:φ1} (hd:φ3 d=true) (he:φ3 e=true) (n:List UInt8) (hm:∀t,(∃s,((n,t,s):φ6)∈d.1)↔∃s,((n,t,s):φ6)∈e.1):φ2 e n=φ2 d n:=by
 by_cases c:∃t s,((n,t,s):φ6)∈d.1
 ·obtain ⟨t,s,hs⟩:=c
  obtain ⟨s',hs'⟩:=(hm t).1 ⟨s,hs⟩
  have e1:=φ2l hd hs
  have e2:=φ2l he hs'
  exact e2.trans e1.symm
 ·have h1:∀f∈d.1,f.1≠n:=fun f hf e=>c ⟨f.2.1,f.2.2,by rw[←e];exact hf⟩
  have h2:∀f∈e.1,f.1≠n:=fun f hf e'=>by
   obtain ⟨s,hs⟩:=(hm f.2.1).2 ⟨f.2.2,by rw[←e'];exact hf⟩
   exact c ⟨_,_,hs⟩
  rw[φ7x h1,φ7x h2]
theorem φ6k {d:φ1} {act:List φ6→Int×List φ6} (h:φ3 d=true) (hk:φ3 (φT d act).1=true) (n:List UInt8) (hm:∀t,(∃s,((n,t,s):φ6)∈d.1)↔∃s,((n,t,s):φ6)∈(act d.1).2):φ2 (φT d act).1 n=φ2 d n:=by
 refine φGU h hk n fun t=>?_
 have hx:(φT d act).1.1=d.1∨(φT d act).1.1=(act d.1).2:=by
  unfold φT
  split
  ·exact .inl rfl
  ·split
   ·exact .inl rfl
   ·exact .inr rfl
 rcases hx with e | e
 ·rw[e]
 ·rw[e];exact hm t
theorem φ6A {l:List φ6} {i:Nat} (hi:i<l.length) {f:φ6} (hf:f.1=l[i].1) {x:φ6} (hx:x.1≠l[i].1):x∈l.set i f↔x∈l:=by
 constructor
 ·intro h
  rcases κc h with h | e
  ·exact h
  ·rw[e] at hx;exact absurd hf hx
 ·intro h
  obtain ⟨j,hj,e⟩:=List.getElem_of_mem h
  have hij:i≠j:=fun c=>by subst c;rw[e] at hx;exact hx rfl
  exact List.mem_iff_getElem.2 ⟨j,by simpa using hj,by rw[List.getElem_set,if_neg hij];exact e⟩
theorem φ7E {l:List φ6} {i:Nat} (hi:i<l.length) {x:φ6} (hx:x.1≠l[i].1):x∈φc l i↔x∈l:=by
 constructor
 ·intro h;exact (φ5o l i).subset h
 ·intro h
  rw[φ9a hi] at h
  unfold φc
  rcases mA.1 h with h | h
  ·exact mL _ h
  ·rcases mc.1 h with e | h
   ·rw[e] at hx;exact absurd rfl hx
   ·exact mR _ h
theorem φKo {d:φ1} (h:φ3 d=true) {m n:List UInt8} (hne:n≠m):φ2 (φ2v m d).1 n=φ2 d n:=by
 refine φ6k h (φ96 h m) n fun t=>?_
 unfold φ2F
 rcases φw d.1 m with ⟨e,_⟩ | ⟨i,hi,e,hn⟩
 ·rw[φ1C e]
 ·rw[φ17 e]
  simp only
  constructor
  ·rintro ⟨s,hs⟩;exact ⟨s,(φ7E hi (by rw[hn];exact hne)).2 hs⟩
  ·rintro ⟨s,hs⟩;exact ⟨s,(φ7E hi (by rw[hn];exact hne)).1 hs⟩
theorem φ4v {d:φ1} (h:φ3 d=true) {m n:List UInt8} (hne:n≠m):φ2 (φD m d).1 n=φ2 d n:=by
 unfold φD;split
 ·exact φKo h hne
 ·rfl
theorem φAe {d:φ1} (h:φ3 d=true) {m n:List UInt8} (hne:n≠m):φ2 (φW m d).1 n=φ2 d n:=by
 refine φ6k h (φ33 h m) n fun t=>?_
 unfold φ2g
 split
 ·exact Iff.rfl
 split
 ·exact Iff.rfl
 split
 ·exact Iff.rfl
 ·constructor
  ·rintro ⟨s,hs⟩;exact ⟨s,(φ3b _ _ _).2 (.inr hs)⟩
  ·rintro ⟨s,hs⟩
   rcases (φ3b _ _ _).1 hs with e | hs
   ·exact absurd (congrArg (·.1) e) hne
   ·exact ⟨s,hs⟩
theorem φ5V {d:φ1} (h:φ3 d=true) {m n t0:List UInt8} (hne:n≠m):φ2 (φN m t0 d).1 n=φ2 d n:=by
 refine φ6k h (φ3N h m t0) n fun t=>?_
 unfold φ2T
 rcases φw d.1 m with ⟨e,_⟩ | ⟨i,hi,e,hn⟩
 ·rw[φ1C e]
 ·rw[φ17 e]
  simp only
  split
  ·exact Iff.rfl
  ·rw[φ9 hi]
   constructor
   ·rintro ⟨s,hs⟩;exact ⟨s,(φ6A (f:=(d.1[i].1,d.1[i].2.1++t0,d.1[i].2.2)) hi rfl (by rw[hn];exact hne)).2 hs⟩
   ·rintro ⟨s,hs⟩;exact ⟨s,(φ6A (f:=(d.1[i].1,d.1[i].2.1++t0,d.1[i].2.2)) hi rfl (by rw[hn];exact hne)).1 hs⟩
theorem φ2R {d:φ1} (h:φ3 d=true) (m n:List UInt8):φ2 (φH m d).1 n=φ2 d n:=by
 refine φ6k h (φ3I h m) n fun t=>?_
 unfold φ28
 rcases φw d.1 m with ⟨e,_⟩ | ⟨i,hi,e,hn⟩
 ·rw[φ1C e]
 ·rw[φ17 e]
  simp only
  rw[φ9 hi]
  by_cases hne:n=m
  ·subst hne
   have hs:=((φ3d d).1 h).2.2.2.2.2
   have uniq:∀t s,((n,t,s):φ6)∈d.1→d.1[i]=(n,t,s):=fun t s hx=>by
    obtain ⟨j,hj,ej⟩:=List.getElem_of_mem hx
    have:i=j:=φCo hs hi hj (by rw[hn,ej])
    subst this;exact ej
   constructor
   ·rintro ⟨s,hx⟩
    refine ⟨(d.1[i].2.1.length:Int),List.mem_iff_getElem.2 ⟨i,by simpa using hi,?_⟩⟩
    rw[List.getElem_set_self,uniq t s hx]
   ·rintro ⟨s,hx⟩
    rcases κc hx with hx | e
    ·exact ⟨s,hx⟩
    ·have e1:t=d.1[i].2.1:=congrArg (·.2.1) e
     refine ⟨d.1[i].2.2,?_⟩
     rw[e1,←hn];exact gM hi
  ·constructor
   ·rintro ⟨s,hs⟩;exact ⟨s,(φ6A (f:=(d.1[i].1,d.1[i].2.1,(d.1[i].2.1.length:Int))) hi rfl (by rw[hn];exact hne)).2 hs⟩
   ·rintro ⟨s,hs⟩;exact ⟨s,(φ6A (f:=(d.1[i].1,d.1[i].2.1,(d.1[i].2.1.length:Int))) hi rfl (by rw[hn];exact hne)).1 hs⟩
theorem φFX {l:List φ6} {b:List UInt8} {x:φ6} (hx:x.1≠b):x∈φ1Y l b↔x∈l:=by
 unfold φ1Y
 rcases φw l b with ⟨e,_⟩ | ⟨i,hi,e,hn⟩
 ·rw[φ1C e]
 ·rw[φ17 e];exact φ7E hi (by rw[hn];exact hx)
theorem φIi {d:φ1} (h:φ3 d=true) {a b n:List UInt8} (h1:n≠a) (h2:n≠b):φ2 (φ2Z a b d).1 n=φ2 d n:=by
 refine φ6k h (φ8S h a b) n fun t=>?_
 unfold φ2L
 split
 ·exact Iff.rfl
 rcases φw d.1 a with ⟨e,_⟩ | ⟨i,hi,e,hn⟩
 ·rw[φ1C e]
 ·rw[φ17 e]
  simp only
  split
  ·exact Iff.rfl
  ·constructor
   ·rintro ⟨s,hs⟩;exact ⟨s,(φ3b _ _ _).2 (.inr ((φFX h2).2 ((φ7E hi (by rw[hn];exact h1)).2 hs)))⟩
   ·rintro ⟨s,hs⟩
    rcases (φ3b _ _ _).1 hs with e | hs
    ·exact absurd (congrArg (·.1) e) h2
    ·exact ⟨s,(φ7E hi (by rw[hn];exact h1)).1 ((φFX h2).1 hs)⟩
theorem φ2r {w:φE} {op:φ1→φ1×Int} {n:List UInt8} (ho:φ2 (op w.1).1 n=φ2 w.1 n):φ2 (φA op w).1 n=φ2 w.1 n:=by
 unfold φA;split
 ·exact ho
 ·rfl
theorem φ6U {w:φE} (h:φ3 w.1=true) {m n:List UInt8} (hne:n≠m):φ2 (sNew m w).1 n=φ2 w.1 n:=by
 have h1:φ3 (φA (φD m) w).1=true:=φ1t (op:=φD m) h fun k=>φ2Y k m
 unfold sNew
 rw[φ2r (op:=φW m) (φAe h1 hne),φ2r (op:=φD m) (φ4v h hne)]
theorem φ4y {w:φE} (h:φ3 w.1=true) {m n t:List UInt8} (hne:n≠m):φ2 (φ1O m t w).1 n=φ2 w.1 n:=by
 have h2:φ3 (sNew m w).1=true:=φ4A h m
 have h3:φ3 (φA (φN m t) (sNew m w)).1=true:=φ1t (op:=φN m t) h2 fun k=>φ3N k m t
 show φ2 (φA (φH m) (φA (φN m t) (sNew m w))).1 n=_
 rw[φ2r (op:=φH m) (φ2R h3 m n),φ2r (op:=φN m t) (φ5V h2 hne),φ6U h hne]
abbrev φ1G:List UInt8:=[116,101,109,112]
abbrev φb:List UInt8:=[108,105,118,101]
theorem φ7O {w:φE} (h:φ3 w.1=true) (v:φQ) {n:List UInt8} (h1:n≠φ1G) (h2:n≠φb):φ2 (sPut v w).1 n=φ2 w.1 n:=by
 have h3:=φ4i h φ1G (φn v)
 unfold sPut
 rw[φ2r (op:=φ2Z φ1G φb) (φIi h3 h1 h2),φ4y h h1]
theorem φ9o {n:List UInt8}:∀(names:List (List UInt8)) {w:φE},φ3 w.1=true→(∀m∈names,n≠m)→φ2 (φo names w).1 n=φ2 w.1 n
 | [],w,_,_=>rfl
 | m::l,w,h,hne=>by
  have h1:φ3 (φA (φD m) w).1=true:=φ1t (op:=φD m) h fun k=>φ2Y k m
  show φ2 (φo l (φA (φD m) w)).1 n=_
  rw[φ9o l h1 fun x hx=>hne x (mC _ hx),φ2r (op:=φD m) (φ4v h (hne m κ0))]
theorem φ9D {names:List (List UInt8)} {w:φE} {n:List UInt8} (h:φ3 w.1=true) (hne:∀m∈names,n≠m):φ2 (φ1d names w).1 n=φ2 w.1 n:=by
 have:=φ9o (n:=n) names (w:=(w.1,0)) h hne
 unfold φ1d;split
 ·split
  ·exact this
  ·exact this
 ·rfl
theorem φ8W {d:φ1} {n:List UInt8} (h:(φW n d).2=0):φ2 (φW n d).1 n=([],true):=by
 obtain ⟨k,ha,hx⟩:=φ5v h
 have hk:φ3 (φW n d).1=true:=φ33 k n
 have hx:(φW n d).1=_:=hx
 unfold φ2g at ha hx
 split at ha
 ·simp at ha
 rename_i c1
 rw[if_neg c1] at hx
 split at ha
 ·simp at ha
 rename_i c2
 rw[if_neg c2] at hx
 split at ha
 ·simp at ha
 rename_i c3
 rw[if_neg c3] at hx
 have hm:((n,[],0):φ6)∈(φW n d).1.1:=by rw[hx];exact (φ3b _ _ _).2 (.inl rfl)
 exact φ2l hk hm
theorem φAB:∀(k a b:Nat),a<k→Lib.decDigits a=Lib.decDigits b→a=b
 | 0,a,b,h,_=>by omega
 | k+1,a,b,h,e=>by
  have last:∀n:Nat,(Lib.decDigits n).getLast?=some (UInt8.ofNat (48+n % 10)):=fun n=>by
   by_cases c:n<10
   ·rw[Lib.decDigits_one c,κb c];rfl
   ·have:=φ4C (n:=n) (by omega)
    unfold digs at this
    rw[if_neg (by omega),if_neg (by omega)] at this
    rw[this];simp
  have hm:a % 10=b % 10:=by
   have h1:=last a
   rw[e,last b] at h1
   have h2:UInt8.ofNat (48+b % 10)=UInt8.ofNat (48+a % 10):=Option.some.inj h1
   have h3:=congrArg UInt8.toNat h2
   simp only[UInt8.toNat_ofNat'] at h3
   omega
  by_cases ca:a<10
  ·by_cases cb:b<10
   ·omega
   ·exfalso
    have:=φ4C (n:=b) (by omega)
    unfold digs at this
    rw[if_neg (by omega),if_neg (by omega)] at this
    rw[this,Lib.decDigits_one ca] at e
    have hl:=congrArg List.length e
    have h0:0<(Lib.decDigits (b / 10)).length:=by
     cases hd:Lib.decDigits (b / 10) with
     | nil=>have:=last (b / 10);rw[hd] at this;simp at this
     | cons x l=>simp
    simp only[lA,lC,lN] at hl
    omega
  ·by_cases cb:b<10
   ·exfalso
    have:=φ4C (n:=a) (by omega)
    unfold digs at this
    rw[if_neg (by omega),if_neg (by omega)] at this
    rw[this,Lib.decDigits_one cb] at e
    have hl:=congrArg List.length e
    have h0:0<(Lib.decDigits (a / 10)).length:=by
     cases hd:Lib.decDigits (a / 10) with
     | nil=>have:=last (a / 10);rw[hd] at this;simp at this
     | cons x l=>simp
    simp only[lA,lC,lN] at hl
    omega
   ·have e1:=φ4C (n:=a) (by omega)
    have e2:=φ4C (n:=b) (by omega)
    unfold digs at e1 e2
    rw[if_neg (by omega),if_neg (by omega)] at e1 e2
    rw[e1,e2] at e
    have:=(List.append_inj' e rfl).1
    have:=φAB k (a / 10) (b / 10) (by omega) this
    omega
theorem φ3w {i j:Int} (hi:1≤i∧i≤100000) (hj:1≤j∧j≤100000) (h:φ0 i=φ0 j):i=j:=by
 unfold φ0 φ2K at h
 rw[if_pos hi,if_pos hj] at h
 have:=φAB (i.toNat+1) i.toNat j.toNat (by omega) (List.append_cancel_left h)
 omega
theorem φ4N (i:Int):φ0 i≠φ1G:=by
 unfold φ0 φ2K
 split
 ·intro h;have:=congrArg List.head? h;simp at this
 ·simp
theorem φ2f (i:Int):φ0 i≠φb:=by
 unfold φ0 φ2K
 split
 ·intro h;have:=congrArg List.head? h;simp at this
 ·simp
theorem φ41 (i j:Int) (hi:1≤i∧i≤100000):φ0 i≠φL j:=by
 unfold φ0 φL φ2K
 rw[if_pos hi]
 split
 ·intro h;have:=congrArg List.head? h;simp at this
 ·simp
theorem φBV {m n:List UInt8} (hne:n≠m):∀(recs:List RecT) {w:φE},φ3 w.1=true→φ2 (sApp m recs w).1 n=φ2 w.1 n
 | [],w,_=>rfl
 | r::l,w,h=>by
  have h1:φ3 (φA (φN m (frame (φ7 r))) w).1=true:=φ1t (op:=φN m _) h fun k=>φ3N k m _
  show φ2 (sApp m l (φA _ w)).1 n=_
  rw[φBV hne l h1,φ2r (op:=φN m _) (φ5V h hne)]
theorem φ9I {s:φ8} {d:φ1} (h:φ3 d=true):((rotP s d).1.1.1=s.1.1∧∀n,φ2 (rotP s d).2.1 n=φ2 d n) ∨
  ((rotP s d).1.1.1=s.1.1+1∧s.1.1<100000∧∀n,n≠φ0 s.1.1→n≠φ1G→n≠φb→φ2 (rotP s d).2.1 n=φ2 d n):=by
 have hs:=φ3I h (actN s)
 have hg:=φ2Y hs (φ0 s.1.1)
 have hc:φ3 (φA (φW (φ0 s.1.1)) (φD (φ0 s.1.1) (φH (actN s) d).1)).1=true:=φ1t (op:=φW _) hg fun k=>φ33 k _
 have f1:∀n,φ2 (φH (actN s) d).1 n=φ2 d n:=fun n=>φ2R h _ n
 have f2:∀n,n≠φ0 s.1.1→φ2 (φA (φW (φ0 s.1.1)) (φD (φ0 s.1.1) (φH (actN s) d).1)).1 n=φ2 d n:=fun n hn=>by
  rw[φ2r (op:=φW _) (φAe hg hn),φ4v hs hn,f1]
 unfold rotP
 split
 ·exact .inl ⟨rfl,fun _=>rfl⟩
 rename_i c1
 simp only[not_or,Nat.not_le,Int.not_le] at c1
 split
 ·exact .inl ⟨rfl,f1⟩
 simp only
 split
 ·exact .inr ⟨rfl,c1.2,fun n h1 _ _=>f2 n h1⟩
 have hp:=φ3i (w:=((φA (φW (φ0 s.1.1)) (φD (φ0 s.1.1) (φH (actN s) d).1)).1,0)) hc (s.1.1+1,s.1.2++[s.1.1])
 have f3:∀n,n≠φ0 s.1.1→n≠φ1G→n≠φb→φ2 (sPut (s.1.1+1,s.1.2++[s.1.1]) ((φA (φW (φ0 s.1.1)) (φD (φ0 s.1.1) (φH (actN s) d).1)).1,0)).1 n=φ2 d n:=fun n h1 h2 h3=>by
  rw[φ7O (w:=((φA (φW (φ0 s.1.1)) (φD (φ0 s.1.1) (φH (actN s) d).1)).1,0)) hc _ h2 h3]
  exact f2 n h1
 split
 ·refine .inr ⟨rfl,c1.2,fun n h1 h2 h3=>?_⟩
  show φ2 (φ1d _ _).1 n=_
  rw[φ9D (w:=φB _) hp (fun m hm=>by
   simp only[mc,List.not_mem_nil,or_false] at hm
   rcases hm with rfl | rfl
   ·exact h2
   ·exact h1)]
  exact f3 n h1 h2 h3
 ·exact .inr ⟨rfl,c1.2,f3⟩
theorem φAA {v:φQ} (h:φm v=true):1≤φO v.2∧φO v.2<v.1∧φO v.2≤100000:=by
 obtain ⟨k1,k2,k3,k4⟩:=(φ14 v).1 h
 rw[φI (by omega) (by omega)] at k1
 have hm:φO v.2∈v.2:=by
  unfold φO
  rw[φ9 (show v.2.length - 1<v.2.length by omega)]
  exact gM _
 have:=φ3m _ _ k1 _ hm
 omega
theorem φ6D {n:List UInt8}:∀(ids:List Int) {w:φE},φ3 w.1=true→(∀id∈ids,n≠φ0 id∧n≠φL id)→φ2 (sOld ids w).1 n=φ2 w.1 n
 | [],w,_,_=>rfl
 | i::l,w,h,hne=>by
  have h1:=φ4e [φ0 i,φL i] h
  show φ2 (sOld l (φo [φ0 i,φL i] w)).1 n=_
  rw[φ6D l h1 fun x hx=>hne x (mC _ hx),φ9o _ h (fun m hm=>by
   simp only[mc,List.not_mem_nil,or_false] at hm
   have:=hne i κ0
   rcases hm with rfl | rfl
   ·exact this.1
   ·exact this.2)]
theorem φ3L {v:φQ} (h:φm v=true):v.2≠[]:=fun e=>by
 have:=((φ14 v).1 h).2.2.1
 rw[e] at this;simp at this
theorem φFG (l:List φC) (key:List UInt8):(φ1s l key).2=false∨((φ1s l key).2=true∧(φ1s l key).1∈l):=by
 unfold φ1s
 cases h:l.find? fun e=>e.1==key with
 | none=>exact .inl rfl
 | some e=>exact .inr ⟨rfl,List.mem_of_find?_eq_some h⟩
theorem φLT {d d':φ1} {b:Int} {e:φC} (hf:φ2 d' (φ0 e.2.1)=φ2 d (φ0 e.2.1)):φ23 d' b e=φ23 d b e:=by
 unfold φ23;rw[hf]
theorem φ7S:scan []=([],0):=by
 have:=φ8A (s:=[])
 exact this
theorem φFc {d d':φ1} {z:Int} {m:Int} (hm:φ2 d' (φ0 m)=([],true)):∀(ids:List Int),(∀id∈ids,φ2 d' (φ0 id)=φ2 d (φ0 id))→φ1g d z ids=true→φ1g d' 0 (ids++[m])=true
 | [],_,_=>by
  show (φ4c d' 0 true m && true)=true
  unfold φ4c
  rw[hm]
  simp only[φ7S]
  simp
 | x::l,hf,h=>by
  unfold φ1g at h
  simp only[bA] at h
  have ih:=φFc hm l (fun id hi=>hf id (mC _ hi)) h.2
  rw[κF]
  unfold φ1g
  rw[ih,κP]
  have hx:=h.1
  unfold φ4c at hx ⊢
  rw[hf x κ0]
  simp only[bA] at hx ⊢
  refine ⟨hx.1,hx.2.1,?_⟩
  have:(l++[m]).isEmpty=false:=by cases l<;>rfl
  rw[this];rfl
theorem φ7q {s:φ8} {d:φ1} (h:φ3 d=true) (hc:(rotP s d).2.2=0):(rotP s d).1=((s.1.1+1,s.1.2++[s.1.1]),s.2.1,s.2.2.1,0,s.2.2.2.2)∧φ2 (rotP s d).2.1 (φ0 s.1.1)=([],true)∧s.1.2.length<60∧s.1.1<100000:=by
 have hs:=φ3I h (actN s)
 have hg:=φ2Y hs (φ0 s.1.1)
 have hd:φ3 (φA (φW (φ0 s.1.1)) (φD (φ0 s.1.1) (φH (actN s) d).1)).1=true:=φ1t (op:=φW _) hg fun k=>φ33 k _
 unfold rotP at hc ⊢
 split at hc
 ·exact absurd hc (show ¬(5:Int)=0 by decide)
 rename_i c1
 split at hc
 ·rename_i c2;exact absurd ((φ1B _).1 hc) c2
 rename_i c2
 simp only at hc
 split at hc
 ·rename_i c3;exact absurd ((φ1B _).1 hc) c3
 rename_i c3
 split at hc
 ·rename_i c4
  exfalso
  revert hc
  unfold φ1d
  simp only
  split
  ·split
   ·simp
   ·rename_i c5;exact c5
  ·exact c4
 rename_i c4
 rw[if_neg c1,if_neg c2]
 simp only
 rw[if_neg c3,if_neg c4]
 simp only[not_or,Nat.not_le,Int.not_le] at c1
 refine ⟨rfl,?_,c1.1,c1.2⟩
 have c3:(φA (φW (φ0 s.1.1)) (φD (φ0 s.1.1) (φH (actN s) d).1)).2=0:=by simpa using c3
 show φ2 (sPut _ _).1 _=_
 rw[φ7O (w:=((φA (φW (φ0 s.1.1)) (φD (φ0 s.1.1) (φH (actN s) d).1)).1,0)) hd _ (φ4N _) (φ2f _)]
 show φ2 (φA (φW (φ0 s.1.1)) (φD (φ0 s.1.1) (φH (actN s) d).1)).1 _=_
 generalize φD (φ0 s.1.1) (φH (actN s) d).1=g at *
 obtain ⟨x,k⟩:=g
 by_cases hk:k=0
 ·subst hk
  rw[φ2V] at c3 ⊢
  exact φ8W c3
 ·rw[φ2s hk] at c3;exact absurd c3 hk
theorem φOj {s:φ8} {d:φ1} (hk:φh s d=true) (hx:∀e∈s.2.1,e.2.1≠s.1.1):(∀e∈s.2.1,φ2 (rotP s d).2.1 (φ0 e.2.1)=φ2 d (φ0 e.2.1))∧∀id∈s.1.2,φ2 (rotP s d).2.1 (φ0 id)=φ2 d (φ0 id):=by
 obtain ⟨q1,q2,q3,q4,q5⟩:=φ5e hk
 obtain ⟨k1,k2,k3,k4⟩:=(φ14 s.1).1 q2
 rw[φI (by omega) (by omega)] at k1
 have key:∀i:Int,1≤i∧i≤100000→i≠s.1.1→φ2 (rotP s d).2.1 (φ0 i)=φ2 d (φ0 i):=fun i hi hne=>by
  rcases φ9I (s:=s) q1 with ⟨_,e2⟩ | ⟨_,_,e2⟩
  ·exact e2 _
  ·exact e2 _ (fun hh=>hne (φ3w hi (by omega) hh)) (φ4N i) (φ2f i)
 refine ⟨fun e he=>key _ ?_ (hx e he),fun id hi=>key _ ?_ ?_⟩
 ·have:=(φ3v q3).2 e he
  unfold φ2w at this
  simp only[bA,decide_eq_true_eq] at this
  exact this.2.1
 ·have:=φ3m _ _ k1 id hi;omega
 ·have:=φ3m _ _ k1 id hi;omega
theorem φCx {s:φ8} {d:φ1} (hk:φh s d=true) (hx:∀e∈s.2.1,e.2.1≠s.1.1) (hc:(rotP s d).2.2=0):φh (rotP s d).1 (rotP s d).2.1=true∧segN (rotP s d).2.1 ((rotP s d).1.1.2.take 60)=segN d (s.1.2.take 60):=by
 obtain ⟨q1,q2,q3,q4,q5⟩:=φ5e hk
 obtain ⟨k1,k2,k3,k4⟩:=(φ14 s.1).1 q2
 obtain ⟨r1,r2,r3,r4,r5,r6⟩:=φ83 q1 q2
 obtain ⟨f1,f2⟩:=φOj hk hx
 obtain ⟨e1,e2,e3,e4⟩:=φ7q q1 hc
 have hent:=φFU hk
 constructor
 ·unfold φh
  have h5:=φFc (d:=d) (z:=s.2.2.2.1) e2 s.1.2 f2 q5
  rw[e1] at *
  simp only[bA,decide_eq_true_eq,κR]
  refine ⟨r1,φG8 q2 e3 e4,q3,q4,h5,fun e he=>?_⟩
  rw[φLT (f1 e he)]
  exact hent e he
 ·rw[e1]
  simp only
  have t1:s.1.2.take 60=s.1.2:=List.take_of_length_le (by omega)
  have t2:(s.1.2++[s.1.1]).take 60=s.1.2++[s.1.1]:=List.take_of_length_le (by simp;omega)
  rw[t1,t2]
  unfold segN
  rw[φDZ]
  simp only[e2,lN,Nat.add_zero]
  generalize s.1.2=l at f2
  induction l with
  | nil=>rfl
  | cons x l ih=>
   simp only[sumN]
   rw[f2 x κ0,ih fun id hi=>f2 id (mC _ hi)]
theorem φ9Y {t:List UInt8} (h:t.length≤200):frame t=fix4 (crcT (varT (t.length:Int)++t))++(varN t.length++t)∧(fix4 (crcT (varT (t.length:Int)++t))).length=4:=by
 unfold frame
 rw[if_neg (by omega),φ54 t.length (by omega)]
 exact ⟨rfl,φ7A (φ59 _)⟩
theorem φ7e {t:List UInt8} (h:t.length≤200) (r:List UInt8):φP (frame t++r)=(t,((frame t).length:Int)):=by
 obtain ⟨e,h4⟩:=φ9Y h
 have hb:=φ8c 7 true t.length (t++r) (by omega) (by simp) (by omega)
 generalize hC:fix4 (crcT (varT (t.length:Int)++t))=C at *
 have hl:(frame t).length=4+(varN t.length).length+t.length:=by rw[e];simp only[lA,h4];omega
 have e1:(frame t++r).drop 4=varN t.length++(t++r):=by
  rw[e,aA,←h4,κQ,aA]
 have e2:(frame t++r).take (4+(varN t.length).length+t.length)=frame t:=by rw[←hl,List.take_left]
 have e3:(frame t).drop (4+(varN t.length).length)=t:=by
  rw[e,show C++(varN t.length++t)=(C++varN t.length)++t by rw[aA],show 4+(varN t.length).length=(C++varN t.length).length by rw[lA,h4],κQ]
 unfold φP
 rw[if_neg (by rw[lA];omega),e1,hb]
 simp only
 rw[if_neg (by rw[lA];omega),e2,e3,if_pos rfl,hl]
theorem φBi {s:List UInt8} (h:(φP s).2≠0):∃t r,s=frame t++r∧t.length≤200∧φP s=(t,((frame t).length:Int)):=by
 have key:∃t r,s=frame t++r∧t.length≤200:=by
  unfold φP at h
  split at h
  ·exact absurd rfl h
  split at h
  ·exact absurd rfl h
  rename_i n k hr
  split at h
  ·exact absurd rfl h
  rename_i c
  split at h
  ·rename_i c2
   refine ⟨_,s.drop (4+k+n),by rw[c2,κE],?_⟩
   rw[lD,lT];omega
  ·exact absurd rfl h
 obtain ⟨t,r,e,hl⟩:=key
 exact ⟨t,r,e,hl,by rw[e];exact φ7e hl r⟩
theorem φ8O {t:List UInt8} (h:t.length≤200):5≤(frame t).length:=by
 obtain ⟨e,h4⟩:=φ9Y h
 have:=(φ8G 6 t.length (by omega)).1
 rw[e];simp only[lA,h4];omega
theorem φIe {s:List UInt8} {r q:RecT} (h:φ31 s r) (k:φ31 s q):r=q:=by
 have a:=φAs h
 rw[φAs k] at a
 simp only[Option.some.injEq,Prod.mk.injEq,and_true] at a
 exact a.symm
theorem φCH {r:RecT} (h:φa r=true):φ1S (φ7 r)=(r,true):=by
 rcases φ7h (φ7 r) with ⟨_,e⟩ | ⟨q,e,hq⟩
 ·exact absurd ⟨r,h,rfl⟩ e
 ·rw[e,φIe hq ⟨h,rfl⟩]
def fr (r:RecT):List UInt8:=frame (φ7 r)
def txt (rs:List RecT):List UInt8:=(rs.map fr).flatten
theorem φ4Z (r:RecT):5≤(fr r).length∧(fr r).length≤71:=by
 have h:=φ3Y r
 refine ⟨φ8O (by omega),?_⟩
 obtain ⟨e,h4⟩:=φ9Y (t:=φ7 r) (by omega)
 have:=(φ8G 0 (φ7 r).length (by omega)).2
 unfold fr
 rw[e];simp only[lA,h4];omega
theorem φ3P (r:RecT) (rs:List RecT):txt (r::rs)=fr r++txt rs:=rfl
theorem φBu (rs:List RecT) (r:RecT):txt (rs++[r])=txt rs++fr r:=by unfold txt;simp
theorem φOo (rs qs:List RecT):txt (rs++qs)=txt rs++txt qs:=by unfold txt;simp
theorem φEe:∀(rs:List RecT) (p:List UInt8),(∀r∈rs,φa r=true)→(φ2O (p++txt rs) p.length).2=p.length+(txt rs).length
 | [],p,_=>by
  have:p++txt []=p:=by simp[txt]
  rw[this,φ8A];simp[txt]
 | r::rs,p,h=>by
  have hs:=φ3Y r
  have hb:=φ7e (t:=φ7 r) (by omega) (txt rs)
  have hd:(p++txt (r::rs)).drop p.length=frame (φ7 r)++txt rs:=by rw[κQ];rfl
  have hl:=φ4Z r
  rw[φ5n (n:=(fr r).length) (by rw[hd,hb];rfl) hl.1 (by rw[φ3P];simp only[lA];omega) (by rw[hd,hb];simp only;rw[φCH (h r κ0)])]
  have ih:=φEe rs (p++fr r) (fun x hx=>h x (mC _ hx))
  rw[aA,lA] at ih
  show (φ2O (p++(fr r++txt rs)) (p.length+(fr r).length)).2=_
  rw[ih,φ3P,lA];omega
theorem φIJ {rs:List RecT} (h:∀r∈rs,φa r=true):(scan (txt rs)).2=(txt rs).length:=by
 have:=φEe rs [] h
 simpa [scan] using this
theorem φLj:∀(k:Nat) (s:List UInt8) (a:Nat),a≤s.length→s.length - a=k→(φ2O s a).2=s.length→∃rs:List RecT,(∀r∈rs,φa r=true)∧s.drop a=txt rs:=by
 intro k
 induction k using Nat.strongRecOn with
 | ind k ih=>
  intro s a ha hk hw
  by_cases c:(φP (s.drop a)).2=0∨(φ1S (φP (s.drop a)).1).2=false
  ·rw[φ4x ha c] at hw
   have hw:a=s.length:=hw
   exact ⟨[],by simp,by rw[hw,List.drop_length];rfl⟩
  ·have c1:(φP (s.drop a)).2≠0:=fun e=>c (.inl e)
   have hr:(φ1S (φP (s.drop a)).1).2=true:=by
    cases e:(φ1S (φP (s.drop a)).1).2 with
    | true=>rfl
    | false=>exact absurd (.inr e) c
   obtain ⟨t,r,e1,e2,e3⟩:=φBi c1
   have h5:=φ8O e2
   have hlen:a+(frame t).length≤s.length:=by
    have:(s.drop a).length=(frame t++r).length:=by rw[←e1]
    rw[lD,lA] at this;omega
   rw[φ5n (n:=(frame t).length) (by rw[e3]) h5 hlen hr] at hw
   obtain ⟨rs,g1,g2⟩:=ih (s.length - (a+(frame t).length)) (by omega) s (a+(frame t).length) hlen rfl hw
   have hd:s.drop (a+(frame t).length)=r:=by rw[←List.drop_drop,e1,κQ]
   rw[e3] at hr
   rcases φ7h t with ⟨z,_⟩ | ⟨q,z,hq⟩
   ·rw[z] at hr;simp at hr
   ·refine ⟨q::rs,?_,?_⟩
    ·intro x hx
     rcases mc.1 hx with rfl | hx
     ·exact hq.1
     ·exact g1 x hx
    ·rw[e1,φ3P,←g2,hd]
     show _=frame (φ7 q)++r
     rw[hq.2]
def φ2d (s:List UInt8):Prop:=(scan s).2=s.length
theorem φ8C (s:List UInt8):φ2d s↔∃rs:List RecT,(∀r∈rs,φa r=true)∧s=txt rs:=by
 constructor
 ·intro h
  obtain ⟨rs,h1,h2⟩:=φLj s.length s 0 (κ4 _) rfl h
  exact ⟨rs,h1,by simpa using h2⟩
 ·rintro ⟨rs,h1,rfl⟩
  exact φIJ h1
theorem φHv:φ2d []:=(φ8C []).2 ⟨[],by simp,rfl⟩
theorem φJz {s:List UInt8} {r:RecT} (h:φ2d s) (hr:φa r=true):φ2d (s++fr r):=by
 obtain ⟨rs,h1,rfl⟩:=(φ8C s).1 h
 refine (φ8C _).2 ⟨rs++[r],?_,(φBu rs r).symm⟩
 intro x hx
 rcases mA.1 hx with hx | hx
 ·exact h1 x hx
 ·rw[mZ.1 hx];exact hr
theorem φIF {s:List UInt8} {a n:Int} (t:List UInt8) (h:(φ1J s a n).2=true):φ1J (s++t) a n=φ1J s a n:=by
 unfold φ1J at h ⊢
 split at h
 ·rename_i c
  rw[if_pos c,if_pos (show 0≤a∧a≤((s++t).length:Int)∧1≤n∧n≤((s++t).length:Int) - a by rw[lA];omega)]
  rw[show (s++t).take (a+n).toNat=s.take (a+n).toNat from List.take_append_of_le_length (by omega)]
 ·simp at h
theorem φDD (s:List UInt8) {r:RecT} (h:φa r=true):φ1J (s++fr r) (s.length:Int) ((fr r).length:Int)=(r,true):=by
 have hl:=φ4Z r
 have hs:=φ3Y r
 unfold φ1J
 rw[if_pos (by rw[lA];omega)]
 have e1:((s.length:Int)+((fr r).length:Int)).toNat=(s++fr r).length:=by rw[lA];omega
 rw[e1,κN,tN,κQ]
 have hb:=φ7e (t:=φ7 r) (by omega) []
 rw[κ7] at hb
 rw[show φP (fr r)=_ from hb]
 show (if ((fr r).length:Int)=((fr r).length:Int) then φ1S (φ7 r) else _)=_
 rw[if_pos rfl]
 exact φCH h
theorem φ8H (x:Int):φO [x]=x:=rfl
theorem φ8f (x y:Int) (l:List Int):φO (x::y::l)=φO (y::l):=by
 unfold φO
 simp only[lC,Nat.add_sub_cancel]
 rfl
theorem φ2u:∀{l:List Int},l≠[]→φO l∈l
 | [],h=>absurd rfl h
 | [x],_=>by simp[φ8H]
 | x::y::l,_=>by rw[φ8f];exact mC _ (φ2u (by simp))
theorem φJl (l:List Int) (x:Int):φO (l++[x])=x:=by
 unfold φO;simp
theorem φ1y {d:φ1} {z:Int}:∀(ids:List Int),φ1g d z ids=true↔(∀id∈ids,(φ2 d (φ0 id)).2=true∧φ2d (φ2 d (φ0 id)).1)∧(ids≠[]→z=((φ2 d (φ0 (φO ids))).1.length:Int))
 | []=>by simp[φ1g]
 | [x]=>by
  unfold φ1g φ4c φ1g φ2d
  simp only[List.isEmpty_nil,nZ,κU,κP,bA,decide_eq_true_eq,mZ,forall_eq,φ8H]
  constructor
  ·rintro ⟨h1,h2,h3⟩;exact ⟨⟨h1,h2⟩,fun _=>h3⟩
  ·rintro ⟨⟨h1,h2⟩,h3⟩;exact ⟨h1,h2,h3 (by simp)⟩
 | x::y::l=>by
  have ih:=φ1y (d:=d) (z:=z) (y::l)
  unfold φ1g φ4c
  rw[bA,ih]
  simp only[List.isEmpty_cons,nF,Bool.true_or,κP,bA,decide_eq_true_eq,φ8f]
  constructor
  ·rintro ⟨⟨h1,h2⟩,h3,h4⟩
   refine ⟨fun id hid=>?_,fun _=>h4 (by simp)⟩
   rcases mc.1 hid with rfl | hid
   ·exact ⟨h1,h2⟩
   ·exact h3 id hid
  ·rintro ⟨h3,h4⟩
   exact ⟨h3 x κ0,fun id hid=>h3 id (mC _ hid),fun _=>h4 (by simp)⟩
noncomputable def φ1D (d:φ1) (e:φC):RecT×Bool:=φ1J (φ2 d (φ0 e.2.1)).1 e.2.2.1 e.2.2.2.1
theorem φ34 {d:φ1} {b:Int} {e:φC}:φ23 d b e=true↔(φ1D d e).2=true∧((φ1D d e).1.1=1∨(φ1D d e).1.1=4)∧(φ1D d e).1.2.2.1=e.1∧(φ1D d e).1.2.1=e.2.2.2.2∧e.2.2.2.2<b:=by
 unfold φ23 φ1D
 simp only[bA,κW,beq_iff_eq,κO,decide_eq_false_iff_not,ge_iff_le,Int.not_le]
def φ2z (m:Int) (d d':φ1):Prop:=∀e:φC,1≤e.2.1→e.2.1<m→(φ1D d e).2=true→φ1D d' e=φ1D d e
theorem φ2z.trans {m m':Int} {d d' d'':φ1} (h:φ2z m d d') (h':φ2z m' d' d'') (hm:m≤m'):φ2z m d d'':=fun e h1 h2 h3=>by
 have k:=h e h1 h2 h3
 rw[h' e h1 (by omega) (by rw[k];exact h3),k]
def φ47 (s:φ8):Prop:=∀e∈s.2.1,e.2.1<s.1.1
theorem φi {s:φ8} {d:φ1}:φh s d=true↔φ3 d=true∧φm s.1=true∧φ1v s.2.1=true∧(1≤s.2.2.1∧s.2.2.1≤1000001)∧φ1g d s.2.2.2.1 s.1.2=true∧∀e∈s.2.1,φ23 d s.2.2.1 e=true:=by
 unfold φh
 simp only[bA,decide_eq_true_eq,κR]
theorem φBP {l:List φC} (h:φ1v l=true) {e:φC} (he:e∈l):1≤e.2.1∧e.2.1≤100000:=by
 have:=(φ3v h).2 e he
 unfold φ2w at this
 simp only[bA,decide_eq_true_eq] at this
 exact this.2.1
theorem φ7t {s:φ8} {d d':φ1} {m b':Int} (h:φh s d=true) (hk:φ2z m d d') (hm:∀e∈s.2.1,e.2.1<m) (hb:s.2.2.1≤b'):∀e∈s.2.1,φ23 d' b' e=true:=fun e he=>by
 obtain ⟨q1,q2,q3,q4,q5,q6⟩:=φi.1 h
 have k:=φ34.1 (q6 e he)
 have:=hk e (φBP q3 he).1 (hm e he) k.1
 rw[φ34,this]
 exact ⟨k.1,k.2.1,k.2.2.1,k.2.2.2.1,by omega⟩
theorem φEr {s:φ8} {d:φ1} (hk:φ3 d=true) (hm:s.1.1≤100000):φ2z s.1.1 d (rotP s d).2.1:=fun e h1 h2 h3=>by
 unfold φ1D
 rcases φ9I (s:=s) hk with ⟨_,e2⟩ | ⟨_,_,e2⟩
 ·rw[e2]
 ·rw[e2 _ (fun hh=>by have:=φ3w (by omega) (by omega) hh;omega) (φ4N _) (φ2f _)]
theorem φEl {s:φ8} {d:φ1} {r:RecT} (h:φh s d=true) (hr:φa r=true) (hc:(φN (actN s) (fr r) d).2=0) :
  φh (s.1,s.2.1,s.2.2.1,s.2.2.2.1+((fr r).length:Int),s.2.2.2.2) (φN (actN s) (fr r) d).1=true∧φ2z 100001 d (φN (actN s) (fr r) d).1 ∧
  ∀k b,φ1D (φN (actN s) (fr r) d).1 (k,φO s.1.2,s.2.2.2.1,((fr r).length:Int),b)=(r,true):=by
 obtain ⟨q1,q2,q3,q4,q5,q6⟩:=φi.1 h
 obtain ⟨k1,k2,k3,k4⟩:=(φ14 s.1).1 q2
 rw[φI (by omega) (by omega)] at k1
 obtain ⟨g1,g2⟩:=(φ1y _).1 q5
 have hne:s.1.2≠[]:=φ3L q2
 have g2:=g2 hne
 obtain ⟨a1,a2⟩:=φ4D hc
 have hl:=φAA q2
 have a2:φ2 (φN (actN s) (fr r) d).1 (φ0 (φO s.1.2))=((φ2 d (φ0 (φO s.1.2))).1++fr r,true):=a2
 have hoth:∀id,1≤id∧id≤100000→id≠φO s.1.2→φ2 (φN (actN s) (fr r) d).1 (φ0 id)=φ2 d (φ0 id):=fun id h1 h2=>
  φ5V q1 (fun hh=>h2 (φ3w h1 ⟨hl.1,hl.2.2⟩ hh))
 have hkeep:φ2z 100001 d (φN (actN s) (fr r) d).1:=fun e h1 h2 h3=>by
  unfold φ1D at h3 ⊢
  by_cases c:e.2.1=φO s.1.2
  ·rw[c] at h3 ⊢;rw[a2];exact φIF _ h3
  ·rw[hoth _ ⟨h1,by omega⟩ c]
 have hents:∀e∈s.2.1,φ23 (φN (actN s) (fr r) d).1 s.2.2.1 e=true:=φ7t h hkeep (fun e he=>by have:=φBP q3 he;omega) (κK _)
 refine ⟨φi.2 ⟨φ3N q1 _ _,q2,q3,q4,?_,hents⟩,hkeep,fun k b=>?_⟩
 ·refine (φ1y _).2 ⟨fun id hid=>?_,fun _=>?_⟩
  ·have hm:=φ3m _ _ k1 id hid
   by_cases c:id=φO s.1.2
   ·rw[c,a2];exact ⟨rfl,φJz (g1 _ (φ2u hne)).2 hr⟩
   ·rw[hoth id (by omega) c];exact g1 id hid
  ·show s.2.2.2.1+_=_
   rw[a2,g2];simp
 ·unfold φ1D
  show φ1J (φ2 _ (φ0 (φO s.1.2))).1 s.2.2.2.1 _=_
  rw[a2,g2]
  exact φDD _ hr
structure NewOk (d:φ1) (m:Int) (r:RecT) (e:φC):Prop where
 key:e.1=r.2.2.1
 at_:φ1D d e=(r,true)
 seg:1≤e.2.1∧e.2.1<m∧e.2.1≤100000
 off:0≤e.2.2.1
 len:1≤e.2.2.2.1∧e.2.2.2.1≤210
 bat:e.2.2.2.2=r.2.1
theorem NewOk.keep {d d':φ1} {m m':Int} {r:RecT} {e:φC} (h:NewOk d m r e) (hk:φ2z m d d') (hm:m≤m'):NewOk d' m' r e:=
 ⟨h.key,by rw[hk e h.seg.1 h.seg.2.1 (by rw[h.at_]),h.at_],⟨h.seg.1,by have:=h.seg.2.1;omega,h.seg.2.2⟩,h.off,h.len,h.bat⟩
structure AddOk (s:φ8) (d:φ1) (s':φ8) (d':φ1):Prop where
 ok:φh s' d'=true
 dir:s'.2.1=s.2.1
 bat:s'.2.2.1=s.2.2.1
 nxt:s.1.1≤s'.1.1
 kp:φ2z s.1.1 d d'
theorem AddOk.lt {s:φ8} {d:φ1} {s':φ8} {d':φ1} (h:AddOk s d s' d') (hl:φ47 s):φ47 s':=fun e he=>by
 rw[h.dir] at he
 have:=hl e he
 have:=h.nxt
 omega
theorem AddOk.trans {s:φ8} {d:φ1} {s':φ8} {d':φ1} {s'':φ8} {d'':φ1} (h:AddOk s d s' d') (k:AddOk s' d' s'' d''):AddOk s d s'' d'':=
 ⟨k.ok,by rw[k.dir,h.dir],by rw[k.bat,h.bat],by have:=h.nxt;have:=k.nxt;omega,h.kp.trans k.kp h.nxt⟩
theorem φGO {s:φ8} {d:φ1} (t:List UInt8) (h:φh s d=true) (hl:φ47 s) (hc:(addR s d t).2.2=0):AddOk s d (addR s d t).1 (addR s d t).2.1:=by
 obtain ⟨q1,q2,q3,q4,q5,q6⟩:=φi.1 h
 have k:=(φ14 s.1).1 q2
 unfold addR at hc ⊢
 split
 ·rename_i c
  rw[if_pos c] at hc
  obtain ⟨r1,r2,r3,r4,r5,r6⟩:=φ83 q1 q2
  have hr:=φCx h (fun e he=>by have:=hl e he;omega) hc
  have hn:=φ7q q1 hc
  exact ⟨hr.1,r3,r4,by rw[hn.1];show s.1.1≤s.1.1+1;omega,φEr q1 k.2.1.2⟩
 ·exact ⟨h,rfl,rfl,κK _,fun e _ _ _=>rfl⟩
theorem φL3 {s:φ8} {d:φ1} {r:RecT} (h:φh s d=true) (hl:φ47 s) (hr:φa r=true) (hc:(addP s d r).2.2.1=0) :
  AddOk s d (addP s d r).1 (addP s d r).2.1∧NewOk (addP s d r).2.1 (addP s d r).1.1.1 r (addP s d r).2.2.2:=by
 have hR:=φGO (frame (φ7 r)) h hl
 have hf:=φ4Z r
 unfold addP at hc ⊢
 generalize addR s d (frame (φ7 r))=R at *
 simp only at hc ⊢
 by_cases c:R.2.2=0
 rotate_left
 ·rw[if_pos c] at hc;exact absurd hc c
 rw[if_neg (by simpa using c)] at hc ⊢
 have hR:=hR c
 have hA:=φEl hR.ok hr
 by_cases c2:(φN (actN R.1) (frame (φ7 r)) R.2.1).2=0
 rotate_left
 ·rw[if_pos c2] at hc;exact absurd ((φ1B _).1 hc) c2
 rw[if_neg (by simpa using c2)]
 obtain ⟨a1,a2,a3⟩:=hA c2
 obtain ⟨q1,q2,q3,q4,q5,q6⟩:=φi.1 hR.ok
 have k:=(φ14 _).1 q2
 have hll:=φAA q2
 have hg:=φ8Q hR.ok
 exact ⟨hR.trans ⟨a1,rfl,rfl,κK _,fun e h1 h2 h3=>a2 e h1 (by omega) h3⟩,⟨rfl,a3 _ _,⟨hll.1,hll.2.1,hll.2.2⟩,hg.s0,by show 1≤((fr r).length:Int)∧((fr r).length:Int)≤210;omega,rfl⟩⟩
theorem φFq:∀(rs:List RecT) (s:φ8) (d:φ1),φh s d=true→φ47 s→(∀r∈rs,φa r=true)→(φe rs s d).2.2.1=0 →
  AddOk s d (φe rs s d).1 (φe rs s d).2.1∧(φe rs s d).2.2.2.length=rs.length∧∀p∈rs.zip (φe rs s d).2.2.2,NewOk (φe rs s d).2.1 (φe rs s d).1.1.1 p.1 p.2
 | [],s,d,h,hl,_,_=>⟨⟨h,rfl,rfl,κK _,fun _ _ _ _=>rfl⟩,rfl,fun p hp=>by simp at hp⟩
 | r::rs,s,d,h,hl,hr,hc=>by
  have hA:=φL3 h hl (hr r κ0)
  unfold φe at hc ⊢
  by_cases c:(addP s d r).2.2.1=0
  rotate_left
  ·rw[if_pos c] at hc;exact absurd hc c
  rw[if_neg (by simpa using c)] at hc ⊢
  obtain ⟨a1,a2⟩:=hA c
  obtain ⟨b1,b2,b3⟩:=φFq rs _ _ a1.ok (a1.lt hl) (fun x hx=>hr x (mC _ hx)) hc
  refine ⟨a1.trans b1,by simp[b2],fun p hp=>?_⟩
  simp only[List.zip_cons_cons] at hp
  rcases mc.1 hp with rfl | hp
  ·exact a2.keep b1.kp b1.nxt
  ·exact b3 p hp
def mapG {α β:Type} (g:α→β) (l:List (List UInt8×α)):List (List UInt8×β):=l.map fun x=>(x.1,g x.2)
theorem φ7W {α β:Type} (g:α→β) (k:List UInt8):∀l:List (List UInt8×α),mapG g (φk l k)=φk (mapG g l) k
 | []=>rfl
 | x::l=>by
  have ih:=φ7W g k l
  unfold mapG φk at *
  simp only[List.filter_cons,κ5]
  by_cases c:x.1=k
  ·simp only[c,beq_self_eq_true,nZ,κ3,if_false];exact ih
  ·have:(x.1==k)=false:=by simpa using c
   simp only[this,nF,if_true,κ5];rw[ih]
theorem φA6 {α β:Type} (g:α→β) (p:List UInt8×α):∀l:List (List UInt8×α),mapG g (insB l p)=insB (mapG g l) (p.1,g p.2)
 | []=>rfl
 | x::l=>by
  have ih:=φA6 g p l
  show mapG g (insB (x::l) p)=insB ((x.1,g x.2)::mapG g l) (p.1,g p.2)
  rw[φ6W,φ6W]
  simp only
  split
  ·show (x.1,g x.2)::mapG g (insB l p)=_
   rw[ih]
  ·rfl
theorem φ79 {β:Type} (g:Int×Int×Int×Int→β) (v:PutT→β):∀(l:List (PutT×φC)) (dir:List φC),(∀p∈l,p.2.1=p.1.1∧(p.1.2.1=false→g p.2.2=v p.1)) →
  mapG g (dirW dir l)=(l.map (·.1)).foldl (fun a p=>if p.2.1=true then φk a p.1 else insB (φk a p.1) (p.1,v p)) (mapG g dir)
 | [],dir,_=>rfl
 | p::l,dir,h=>by
  have ih:=φ79 g v l (φ2o dir p) (fun q hq=>h q (mC _ hq))
  obtain ⟨h1,h2⟩:=h p κ0
  show mapG g (dirW (φ2o dir p) l)=(l.map (·.1)).foldl _ _
  rw[ih]
  congr 1
  show mapG g (φ2o dir p)=if p.1.2.1=true then φk (mapG g dir) p.1.1 else insB (φk (mapG g dir) p.1.1) (p.1.1,v p.1)
  unfold φ2o
  by_cases c:p.1.2.1=true
  ·rw[if_pos c,if_pos c,φ7W]
  ·rw[if_neg c,if_neg c,φA6,φ7W,h1,h2 (by simpa using c)]
theorem φNv (dir:List φC) (l:List (PutT×φC)) (h:∀p∈l,p.2.1=p.1.1):(dirW dir l).length=(dirW dir ((l.map (·.1)).zip ((l.map (·.1)).map φ4M))).length:=by
 have e1:=φ79 (fun _=>()) (fun _=>()) l dir (fun p hp=>⟨h p hp,fun _=>rfl⟩)
 have e2:=φ79 (fun _=>()) (fun _=>()) ((l.map (·.1)).zip ((l.map (·.1)).map φ4M)) dir (fun p hp=>⟨by
  generalize l.map (·.1)=m at hp
  induction m with
  | nil=>simp at hp
  | cons x m ih=>
   simp only[κ5,List.zip_cons_cons] at hp
   rcases mc.1 hp with rfl | hp
   ·rfl
   ·exact ih hp,fun _=>rfl⟩)
 have e3:((l.map (·.1)).zip ((l.map (·.1)).map φ4M)).map (·.1)=l.map (·.1):=List.map_fst_zip (by simp)
 rw[e3] at e2
 have:=congrArg List.length (e1.trans e2.symm)
 simpa [mapG] using this
theorem φ9l:∀(l:List (PutT×φC)) (dir:List φC) (x:φC),x∈dirW dir l→x∈dir∨∃p∈l,x=p.2∧p.1.2.1=false
 | [],dir,x,h=>.inl h
 | p::l,dir,x,h=>by
  rcases φ9l l (φ2o dir p) x h with h | ⟨q,hq,e⟩
  ·unfold φ2o at h
   split at h
   ·exact .inl ((φ7o _ _ _).1 h).1
   ·rename_i c
    rcases (φ3b _ _ _).1 h with e | h
    ·exact .inr ⟨p,κ0,e,by simpa using c⟩
    ·exact .inl ((φ7o _ _ _).1 h).1
  ·exact .inr ⟨q,mC _ hq,e⟩
theorem φFI:∀(l:List (PutT×φC)) {dir:List φC},srt dir→srt (dirW dir l)
 | [],_,h=>h
 | p::l,dir,h=>by
  refine φFI l (dir:=φ2o dir p) ?_
  unfold φ2o
  split
  ·exact φCZ h _
  ·exact φCT _ _ (φCZ h _) (fun x hx=>((φ7o _ _ _).1 hx).2)
theorem φCl:∀(l:List φC) (p:Option (List UInt8)),srt l→(∀e∈l,φ2w e=true)→(∀q,p=some q→∀x∈l,Op.bytesLess q x.1=true)→φ2a p l=true
 | [],_,_,_,_=>rfl
 | e::l,p,h,ho,hp=>by
  have h2:=κY.1 h
  have ih:=φCl l (some e.1) h2.2 (fun x hx=>ho x (mC _ hx)) (fun q hq x hx=>by
   have hq:e.1=q:=by simpa using hq
   rw[←hq];exact h2.1 x hx)
  unfold φ2a
  rw[ho e κ0,ih]
  cases p with
  | none=>rfl
  | some q=>simp[hp q rfl e κ0]
theorem φEF {l:List φC} (h:srt l) (ho:∀e∈l,φ2w e=true) (hl:l.length≤20):φ1v l=true:=by
 unfold φ1v
 rw[φCl l none h ho (fun q hq=>by simp at hq)]
 simpa using hl
noncomputable def φ1P (d:φ1) (x:Int×Int×Int×Int):List UInt8×Int:=
 ((φ1J (φ2 d (φ0 x.1)).1 x.2.1 x.2.2.1).1.2.2.2.1,(φ1J (φ2 d (φ0 x.1)).1 x.2.1 x.2.2.1).1.2.1)
theorem φ2n {s:φ8} {d:φ1} (h:φh s d=true):φU s d=(mapG (φ1P d) s.2.1,0):=by
 rw[φDg h]
 congr 1
 unfold mapG
 refine List.map_congr_left fun e he=>?_
 obtain ⟨q1,q2,q3,q4,q5,q6⟩:=φi.1 h
 have k:=φ34.1 (q6 e he)
 unfold φ1D at k
 unfold getP
 rw[φEX (φ5l q3) he]
 simp only[κ9,if_false]
 rw[if_pos ⟨k.1,k.2.1,k.2.2.1⟩]
 rfl
theorem φHY {s:φ8} {d d':φ1} {m:Int} (h:φh s d=true) (hk:φ2z m d d') (hm:∀e∈s.2.1,e.2.1<m):mapG (φ1P d') s.2.1=mapG (φ1P d) s.2.1:=by
 unfold mapG
 refine List.map_congr_left fun e he=>?_
 obtain ⟨q1,q2,q3,q4,q5,q6⟩:=φi.1 h
 have k:=φ34.1 (q6 e he)
 have:=hk e (φBP q3 he).1 (hm e he) k.1
 unfold φ1D at this
 unfold φ1P
 rw[this]
theorem φKr {b:Int} {p:PutT} (hb:1≤b∧b≤1000000) (hp:φ1h p=true):φa (φ1Q b p)=true:=by
 unfold φ1h at hp
 simp only[bA,decide_eq_true_eq,κW,κO,beq_iff_eq] at hp
 obtain ⟨h1,h2,h3⟩:=hp
 have hb0:(b==0)=false:=by
  have:¬b=0:=by omega
  simpa using this
 unfold φ1Q
 split
 ·rename_i c
  unfold φa
  simp[h1,hb0];omega
 ·unfold φa
  simp[h1,h2,hb0];omega
theorem φIo {b c z:Int} (hb:1≤b∧b≤1000000) (hc:0≤c∧c≤8) (hz:0≤z∧z≤4294967295):φa (3,b,[],[],c,z)=true:=by
 have hb0:(b==0)=false:=by
  have:¬b=0:=by omega
  simpa using this
 unfold φa
 simp[hb0];omega
theorem φ6v {b:Int} {l:List PutT} (hb:1≤b∧b≤1000000) (hl:φ1k l=true):∀r∈φ1q b l,φa r=true:=fun r hr=>by
 unfold φ1k at hl
 simp only[bA,decide_eq_true_eq,κR] at hl
 unfold φ1q at hr
 rcases mA.1 hr with hr | hr
 ·obtain ⟨p,hp,rfl⟩:=mM.1 hr
  exact φKr hb (hl.2 p hp)
 ·rw[mZ.1 hr]
  exact φIo hb (by have:=hl.1;omega) (φ59 _)
theorem φEE {b:Int}:∀(l:List PutT) (es:List φC) (x:List RecT) (P:RecT→φC→Prop),(∀p∈(l.map (φ1Q b)++x).zip es,P p.1 p.2)→∀p∈l.zip es,P (φ1Q b p.1) p.2
 | [],es,x,P,_=>fun p hp=>by simp at hp
 | a::l,[],x,P,_=>fun p hp=>by simp at hp
 | a::l,e::es,x,P,h=>fun p hp=>by
  simp only[κ5,κF,List.zip_cons_cons] at h
  rcases mc.1 hp with rfl | hp
  ·exact h _ κ0
  ·exact φEE l es x P (fun q hq=>h q (mC _ hq)) p hp
theorem φBe {s:φ8} {d:φ1} {l:List PutT} (h:φh s d=true) (hl:φ47 s) (hp:φ1k l=true) (hb:s.2.2.1≤1000000) (hk:φ2p s.2.1 l≤20) (hc:(φ1N s d l).2.2=0) :
  φh (φ1N s d l).1 (φ1N s d l).2.1=true∧φ47 (φ1N s d l).1∧(φU (φ1N s d l).1 (φ1N s d l).2.1).1=φ2e (φU s d).1 l s.2.2.1∧(φ1N s d l).1.2.2.1=s.2.2.1+1∧(φ1N s d l).1.2.1.length=φ2p s.2.1 l:=by
 obtain ⟨q1,q2,q3,q4,q5,q6⟩:=φi.1 h
 have hents:∀e∈s.2.1,φ23 d (s.2.2.1+1) e=true:=φ7t (m:=s.1.1) h (fun e _ _ _=>rfl) hl (by omega)
 have h0:φh (s.1,s.2.1,s.2.2.1+1,s.2.2.2) d=true:=φi.2 ⟨q1,q2,q3,by show 1≤s.2.2.1+1∧s.2.2.1+1≤1000001;omega,q5,hents⟩
 have hl0:φ47 (s.1,s.2.1,s.2.2.1+1,s.2.2.2):=hl
 have hG:=φFq (φ1q s.2.2.1 l) _ d h0 hl0 (φ6v ⟨q4.1,hb⟩ hp)
 have hnum:=φ8m s.2.2.1 l
 unfold φ1N at hc ⊢
 generalize φe (φ1q s.2.2.1 l) (s.1,s.2.1,s.2.2.1+1,s.2.2.2) d=g at *
 obtain ⟨S,D,gc,es⟩:=g
 simp only at hc hG ⊢
 by_cases c:gc=0
 rotate_left
 ·rw[if_pos c] at hc;exact absurd hc c
 rw[if_neg (by simpa using c)] at hc ⊢
 obtain ⟨g1,g2,g3⟩:=hG c
 have hdir:S.2.1=s.2.1:=g1.dir
 have hbat:S.2.2.1=s.2.2.1+1:=g1.bat
 obtain ⟨p1,p2,p3,p4,p5,p6⟩:=φi.1 g1.ok
 by_cases c2:(φH (actN S) D).2=0
 rotate_left
 ·rw[if_pos c2] at hc;exact absurd ((φ1B _).1 hc) c2
 rw[if_neg (by simpa using c2)]
 simp only
 have ft:∀n,φ2 (φH (actN S) D).1 n=φ2 D n:=fun n=>φ2R p1 _ n
 have hea:∀e,φ1D (φH (actN S) D).1 e=φ1D D e:=fun e=>by unfold φ1D;rw[ft]
 have hva:∀x,φ1P (φH (actN S) D).1 x=φ1P D x:=fun x=>by unfold φ1P;rw[ft]
 have hes:∀p∈l.zip es,NewOk D S.1.1 (φ1Q s.2.2.1 p.1) p.2:=φEE l es _ (fun r e=>NewOk D S.1.1 r e) (by
  intro p hp;exact g3 p hp)
 have hlen:l.length≤es.length:=by omega
 have hz:(l.zip es).map (·.1)=l:=List.map_fst_zip hlen
 have hkey:∀p∈l.zip es,p.2.1=p.1.1:=fun p hp=>by
  rw[(hes p hp).key];unfold φ1Q;split<;>rfl
 have hkl:(dirW s.2.1 (l.zip es)).length=φ2p s.2.1 l:=by
  rw[φNv s.2.1 _ hkey,hz];rfl
 rw[hdir] at *
 have hput:∀p∈l.zip es,φ1h p.1=true:=fun p hpm=>by
  unfold φ1k at hp
  simp only[bA,decide_eq_true_eq,κR] at hp
  exact hp.2 _ (List.of_mem_zip hpm).1
 have hnew:∀p∈l.zip es,p.1.2.1=false→φ1Q s.2.2.1 p.1=(1,s.2.2.1,p.1.1,p.1.2.2,0,0):=fun p hpm hd=>by
  unfold φ1Q;rw[if_neg (by rw[hd];simp)]
 have hold:=φ7t (b':=s.2.2.1+1) h g1.kp hl (by omega)
 have hlt:∀e∈dirW s.2.1 (l.zip es),e.2.1<S.1.1:=fun e he=>by
  rcases φ9l _ _ _ he with he | ⟨p,hpm,rfl,_⟩
  ·have:=hl e he;have:=g1.nxt;have:s.1.1≤S.1.1:=this;omega
  ·exact (hes p hpm).seg.2.1
 have hdirok:φ1v (dirW s.2.1 (l.zip es))=true:=by
  refine φEF (φFI _ (φ5l q3)) (fun e he=>?_) (by rw[hkl];exact hk)
  rcases φ9l _ _ _ he with he | ⟨p,hpm,rfl,hd⟩
  ·exact (φ3v q3).2 e he
  ·have n:=hes p hpm
   have ho:=hput p hpm
   unfold φ1h at ho
   simp only[bA] at ho
   unfold φ2w
   rw[hkey p hpm,ho.1,n.bat,hnew p hpm hd]
   have h1:=n.seg
   have h2:=n.off
   have h3:=n.len
   simp only[tA,bA,decide_eq_true_eq]
   exact ⟨⟨h1.1,h1.2.2⟩,h2,h3,q4.1,hb⟩
 have hent:∀e∈dirW s.2.1 (l.zip es),φ23 (φH (actN S) D).1 S.2.2.1 e=true:=fun e he=>by
  rw[φ34,hea,hbat,←φ34]
  rcases φ9l _ _ _ he with he | ⟨p,hpm,rfl,hd⟩
  ·exact hold e he
  ·have n:=hes p hpm
   rw[φ34,n.at_,n.bat,hkey p hpm,hnew p hpm hd]
   refine ⟨rfl,.inl rfl,rfl,rfl,?_⟩
   show s.2.2.1<s.2.2.1+1
   omega
 have hfin:φh (S.1,dirW s.2.1 (l.zip es),S.2.2) (φH (actN S) D).1=true:=φi.2 ⟨φ3I p1 _,p2,hdirok,p4,by
  refine (φ1y _).2 ?_
  simp only[ft]
  exact (φ1y _).1 p5,hent⟩
 refine ⟨hfin,hlt,?_,hbat,hkl⟩
 rw[φ2n hfin,φ2n h]
 show mapG (φ1P (φH (actN S) D).1) (dirW s.2.1 (l.zip es))=φ2e (mapG (φ1P d) s.2.1) l s.2.2.1
 rw[show mapG (φ1P (φH (actN S) D).1) (dirW s.2.1 (l.zip es))=mapG (φ1P D) (dirW s.2.1 (l.zip es)) by unfold mapG;simp only[hva]]
 rw[φ79 (φ1P D) (fun p=>(p.2.2,s.2.2.1)) _ _ (fun p hpm=>⟨hkey p hpm,fun hd=>by
  have n:=(hes p hpm).at_
  unfold φ1D at n
  unfold φ1P
  rw[n,hnew p hpm hd]⟩),hz,φHY h g1.kp hl]
 rfl
theorem φC2:∀(k n:Nat),n<k→(Lib.decDigits n).all φ4L=true
 | 0,n,h=>by omega
 | k+1,n,h=>by
  have hb:∀m,m<10→φ4L (UInt8.ofNat (48+m))=true:=fun m hm=>by
   unfold φ4L
   have:(UInt8.ofNat (48+m)).toNat=48+m:=by simp only[UInt8.toNat_ofNat'];omega
   rw[this]
   simp;omega
  by_cases c:n<10
  ·rw[Lib.decDigits_one c,List.all_cons,hb n c];rfl
  ·have:=φ4C (n:=n) (by omega)
   unfold digs at this
   rw[if_neg (by omega),if_neg (by omega)] at this
   rw[this,List.all_append,φC2 k (n / 10) (by omega),List.all_cons,hb (n % 10) (by omega)];rfl
theorem φ5a {id:Int} (h:1≤id∧id≤100000):φ1n (φ0 id)=true:=by
 have hl:=φ4H id
 unfold φ1n
 have e:φ0 id=[115,101,103]++Lib.decDigits id.toNat:=by unfold φ0 φ2K;rw[if_pos h]
 rw[bA]
 constructor
 ·rw[e,List.all_append,φC2 (id.toNat+1) id.toNat (by omega)];decide
 ·have:3≤(φ0 id).length:=by rw[e,lA];simp
  simp only[decide_eq_true_eq];omega
structure Room (c u f:Nat) (d:φ1):Prop where
 dk:φ3 d=true
 tl:d.2=((c:Int),-1,false)
 us:φK d.1≤u
 fl:d.1.length≤f
theorem Room.mono {c u f u' f':Nat} {d:φ1} (h:Room c u f d) (hu:u≤u') (hf:f≤f'):Room c u' f' d:=
 ⟨h.dk,h.tl,κf h.us hu,κf h.fl hf⟩
theorem φ7u {c u f u' f':Nat} {d:φ1} {act:List φ6→Int×List φ6} (h:Room c u f d) (hk:φ3 (φT d act).1=true) (h0:(act d.1).1=0) (hu:φK (act d.1).2≤u') (hf:(act d.1).2.length≤f'):Room c u' f' (φT d act).1∧(φT d act).2=0:=by
 have e:φT d act=(((act d.1).2,d.2),(act d.1).1):=by
  unfold φT tick
  rw[h.dk,h.tl];simp
  exact h.tl
 rw[e] at hk ⊢
 exact ⟨⟨hk,h.tl,hu,hf⟩,h0⟩
theorem φ51 {d:φ1} {n:List UInt8} (h:(φ2 d n).2=true):∃i:Nat,∃hi:i<d.1.length,d.1.findIdx? (fun f=>f.1==n)=some i∧d.1[i].1=n∧φ1j d.1 n=(i:Int):=by
 rcases φw d.1 n with ⟨e,_⟩ | ⟨i,hi,e,hn⟩
 ·unfold φ2 at h
  split at h
  ·simp at h
  ·rw[φ1C e] at h;simp at h
 ·exact ⟨i,hi,φ17 e,hn,e⟩
theorem φDr {d:φ1} {n:List UInt8} (hk:φ3 d=true) (h:(φ2 d n).2=false):φ1j d.1 n=-1:=by
 rcases φw d.1 n with ⟨e,_⟩ | ⟨i,hi,e,hn⟩
 ·exact e
 ·unfold φ2 at h
  rw[if_neg (by rw[hk];simp),φ17 e] at h;simp at h
theorem φ8M {c u f:Nat} {d:φ1} (h:Room c u f d) {n t:List UInt8} (hn:(φ2 d n).2=true) (hu:u+t.length≤c):Room c (u+t.length) f (φN n t d).1∧(φN n t d).2=0:=by
 obtain ⟨i,hi,e,en,_⟩:=φ51 hn
 have hc:d.2.1=(c:Int):=by rw[h.tl]
 have hus:=h.us
 have ha:φ2T d.2.1 n t d.1=(0,d.1.set i ((d.1.getD i ([],[],0)).1,(d.1.getD i ([],[],0)).2.1++t,(d.1.getD i ([],[],0)).2.2)):=by
  unfold φ2T
  rw[e]
  simp only
  rw[if_neg (by omega)]
 refine φ7u h (φ3N h.dk n t) (by rw[ha]) ?_ ?_
 ·rw[ha]
  have:=φCE d.1 i ((d.1.getD i ([],[],0)).1,(d.1.getD i ([],[],0)).2.1++t,(d.1.getD i ([],[],0)).2.2) hi
  rw[φ9 hi] at this ⊢
  simp only[lA] at this ⊢
  omega
 ·rw[ha];simp only[List.length_set];exact h.fl
theorem φC7 {c u f:Nat} {d:φ1} (h:Room c u f d) {n:List UInt8} (hn:(φ2 d n).2=true):Room c u f (φH n d).1∧(φH n d).2=0:=by
 obtain ⟨i,hi,e,en,_⟩:=φ51 hn
 have hus:=h.us
 have ha:φ28 n d.1=(0,d.1.set i ((d.1.getD i ([],[],0)).1,(d.1.getD i ([],[],0)).2.1,((d.1.getD i ([],[],0)).2.1.length:Int))):=by
  unfold φ28
  rw[e]
 refine φ7u h (φ3I h.dk n) (by rw[ha]) ?_ ?_
 ·rw[ha]
  have:=φCE d.1 i ((d.1.getD i ([],[],0)).1,(d.1.getD i ([],[],0)).2.1,((d.1.getD i ([],[],0)).2.1.length:Int)) hi
  rw[φ9 hi] at this ⊢
  simp only at this ⊢
  omega
 ·rw[ha];simp only[List.length_set];exact h.fl
theorem φCD {c u f:Nat} {d:φ1} (h:Room c u f d) (n:List UInt8):Room c u f (φD n d).1∧(φD n d).2=0∧(φ2 (φD n d).1 n).2=false:=by
 unfold φD
 rcases φw d.1 n with ⟨e,hno⟩ | ⟨i,hi,e,hn⟩
 ·rw[if_neg (by omega)]
  refine ⟨h,rfl,?_⟩
  show (φ2 d n).2=false
  unfold φ2
  split
  ·rfl
  ·rw[φ1C e]
 ·rw[if_pos (by omega)]
  have hus:=h.us
  have hfl:=h.fl
  have ha:φ2F n d.1=(0,φc d.1 i):=by unfold φ2F;rw[φ17 e]
  have k:=φ7u (act:=φ2F n) (u':=u) (f':=f) h (φ96 h.dk n) (by rw[ha]) (by rw[ha];have:=φBQ d.1 i hi;simp only;omega) (by rw[ha];simp only[φ6m hi];omega)
  exact ⟨k.1,k.2,φEv k.2⟩
theorem φAI {c u f:Nat} {d:φ1} (h:Room c u f d) {n:List UInt8} (hn:(φ2 d n).2=false) (ho:φ1n n=true) (hf:f<130):Room c u (f+1) (φW n d).1∧(φW n d).2=0:=by
 have hus:=h.us
 have hfl:=h.fl
 have ha:φ2g n d.1=(0,insB d.1 (n,[],0)):=by
  unfold φ2g
  rw[if_neg (by rw[ho];simp),if_neg (by rw[φDr h.dk hn];omega),if_neg (by omega)]
 refine φ7u h (φ33 h.dk n) (by rw[ha]) ?_ ?_
 ·rw[ha];simp only[φAN,lN];omega
 ·rw[ha];simp only[φ5s];omega
theorem φLz {c u f:Nat} {d:φ1} (h:Room c u f d) {a b:List UInt8} (hn:(φ2 d a).2=true) (ho:φ1n b=true):Room c u f (φ2Z a b d).1∧(φ2Z a b d).2=0:=by
 obtain ⟨i,hi,e,en,_⟩:=φ51 hn
 have hus:=h.us
 have hfl:=h.fl
 have ha:φ2L a b d.1=(0,if a=b then d.1 else insB (φ1Y (φc d.1 i) b) (b,(d.1.getD i ([],[],0)).2)):=by
  unfold φ2L
  rw[if_neg (by rw[ho];simp),e]
 refine φ7u h (φ8S h.dk a b) (by rw[ha]) ?_ ?_
 ·rw[ha]
  simp only
  split
  ·exact hus
  ·have h1:=φBQ d.1 i hi
   have h2:φK (φ1Y (φc d.1 i) b)≤φK (φc d.1 i):=φ6M (fun f:φ6=>f.2.1.length) (φ8b _ _)
   rw[φAN,φ9 hi]
   simp only;omega
 ·rw[ha]
  simp only
  split
  ·exact hfl
  ·have h1:=φ6m hi
   have h2:=(φ8b (φc d.1 i) b).length_le
   rw[φ5s];omega
theorem φ3x (op:φ1→φ1×Int) (d:φ1):φA op (d,0)=op d:=rfl
theorem φCm {c u f:Nat} {d:φ1} (h:Room c u f d) (v:φQ) (hu:u+211≤c) (hf:f<130):Room c (u+211) (f+1) (sPut v (d,0)).1∧(sPut v (d,0)).2=0:=by
 have hl:=φ5Q v
 obtain ⟨a1,a2,a3⟩:=φCD h φ1G
 unfold sPut φ1O
 rw[φ3x]
 generalize φD [116,101,109,112] d=w at *
 obtain ⟨x,k⟩:=w
 have a2:k=0:=a2
 subst a2
 rw[φ3x]
 obtain ⟨b1,b2⟩:=φAI a1 a3 (by decide) hf
 have b3:=φ8W b2
 have b1:Room c u (f+1) (φW φ1G x).1:=b1
 generalize φW [116,101,109,112] x=w at *
 obtain ⟨y,k⟩:=w
 have b2:k=0:=b2
 subst b2
 rw[φ3x]
 obtain ⟨c1,c2⟩:=φ8M b1 (n:=φ1G) (t:=φn v) (by rw[show φ2 y φ1G=_ from b3]) (by omega)
 have c3:=φ4D c2
 generalize φN [116,101,109,112] (φn v) y=w at *
 obtain ⟨z,k⟩:=w
 have c2:k=0:=c2
 subst c2
 rw[φ3x]
 have c3:(φ2 z φ1G).2=true:=by rw[show φ2 z φ1G=_ from c3.2]
 obtain ⟨d1,d2⟩:=φC7 c1 c3
 have d3:(φ2 (φH φ1G z).1 φ1G).2=true:=by rw[φ2R c1.dk];exact c3
 generalize φH [116,101,109,112] z=w at *
 obtain ⟨q,k⟩:=w
 have d2:k=0:=d2
 subst d2
 rw[φ3x]
 obtain ⟨e1,e2⟩:=φLz d1 (a:=φ1G) (b:=φb) d3 (by decide)
 exact ⟨e1.mono (by omega) (κ6 _),e2⟩
theorem φF2 {c u f:Nat} {s:φ8} {d:φ1} (h:Room c u f d) (ha:(φ2 d (actN s)).2=true) (h1:s.1.2.length<60) (h2:1≤s.1.1∧s.1.1<100000) (hu:u+211≤c) (hf:f+2≤130) :
  Room c (u+211) (f+2) (rotP s d).2.1∧(rotP s d).2.2=0:=by
 obtain ⟨a1,a2⟩:=φC7 h ha
 obtain ⟨b1,b2,b3⟩:=φCD a1 (φ0 s.1.1)
 unfold rotP
 rw[if_neg (by omega),if_neg (by rw[a2];simp)]
 simp only
 generalize φD (φ0 s.1.1) (φH (actN s) d).1=w at *
 obtain ⟨x,k⟩:=w
 have b2:k=0:=b2
 subst b2
 rw[φ3x]
 obtain ⟨c1,c2⟩:=φAI b1 b3 (φ5a (by omega)) (by omega)
 have c1:Room c u (f+1) (φW (φ0 s.1.1) x).1:=c1
 rw[if_neg (by rw[c2];simp)]
 obtain ⟨p1,p2⟩:=φCm c1 (s.1.1+1,s.1.2++[s.1.1]) hu (by omega)
 have p3:(φB (sPut (s.1.1+1,s.1.2++[s.1.1]) ((φW (φ0 s.1.1) x).1,0))).2=0:=(φ1B _).2 p2
 rw[if_neg (by rw[p3];simp)]
 exact ⟨p1,rfl⟩
theorem φCX {s:φ8} {d:φ1} (h:φh s d=true):(φ2 d (actN s)).2=true:=by
 obtain ⟨q1,q2,q3,q4,q5,q6⟩:=φi.1 h
 exact (((φ1y _).1 q5).1 _ (φ2u (φ3L q2))).1
theorem φON {c u f:Nat} {s:φ8} {d:φ1} {r:RecT} (h:Room c u f d) (hs:φh s d=true) (hl:φ47 s) (h1:s.1.2.length<60) (h2:s.1.1<100000) (hu:u+282≤c) (hf:f+2≤130) :
  Room c (u+282) (f+2) (addP s d r).2.1∧(addP s d r).2.2.1=0∧(addP s d r).1.1.2.length≤s.1.2.length+1∧(addP s d r).1.1.1≤s.1.1+1:=by
 obtain ⟨q1,q2,q3,q4,q5,q6⟩:=φi.1 hs
 have k:=(φ14 s.1).1 q2
 have hfr:=φ4Z r
 have hR:Room c (u+211) (f+2) (addR s d (frame (φ7 r))).2.1∧(addR s d (frame (φ7 r))).2.2=0∧(addR s d (frame (φ7 r))).1.1.2.length≤s.1.2.length+1∧(addR s d (frame (φ7 r))).1.1.1≤s.1.1+1:=by
  unfold addR
  split
  ·obtain ⟨r1,r2⟩:=φF2 h (φCX hs) h1 ⟨k.2.1.1,h2⟩ (by omega) hf
   have hn:=φ7q q1 r2
   exact ⟨r1,r2,by rw[hn.1];simp,by rw[hn.1];exact κK _⟩
  ·exact ⟨h.mono (by omega) (by omega),rfl,Nat.le_succ _,by show s.1.1≤s.1.1+1;omega⟩
 have hA:=φGO (frame (φ7 r)) hs hl hR.2.1
 unfold addP
 generalize addR s d (frame (φ7 r))=R at *
 obtain ⟨r1,r2,r3,r4⟩:=hR
 simp only
 rw[if_neg (by rw[r2];simp)]
 obtain ⟨w1,w2⟩:=φ8M r1 (n:=actN R.1) (t:=frame (φ7 r)) (φCX hA.ok) (by have:=hfr.2;unfold fr at this;omega)
 rw[if_neg (by rw[w2];simp)]
 exact ⟨w1.mono (by have:=hfr.2;unfold fr at this;omega) (κ6 _),rfl,r3,r4⟩
noncomputable def φ2S (s:φ8) (d:φ1) (l:List PutT):φ8×φ1×Int:=
 if φh s d=false∨φ1k l=false then (s,d,4) else if l.length=0 then (s,d,0) else
 if 20<φ2p s.2.1 l∨s.2.2.1 > 1000000 then (s,d,5) else φ1N s d l
structure SmallS (s:φ8) (d:φ1):Prop where
 sm:dl 200000 d
 ids:s.1.2.length≤1000
 dir:s.2.1.length≤1000
theorem SmallS.lim {s:φ8} {d:φ1} (h:SmallS s d):dlim d∧φK d.1<1000000000:=⟨φ1X h.sm (by omega),by have:=h.sm.2.1;omega⟩
theorem φND {s:φ8} {d:φ1} (h:SmallS s d) (l:List PutT) (hl:l.length≤1000):ψ2.f s d l=some (φ2S s d l):=by
 obtain ⟨hd,hu⟩:=h.lim
 have h1:=h.ids
 have h2:=h.dir
 have h3:=h.sm.1
 unfold ψ2.f φ2S
 simp only[φGH s d hd hu (show s.1.2.length<1000000000 by omega) (show s.2.1.length<1000000000 by omega),bS,φAT s (show s.1.2.length<1000000000 by omega) (show s.2.1.length<1000000000 by omega),φ5R d (show d.1.length<1000000000000 by omega),φJy l (show l.length<2 ^ 62 by omega),φJI s.2.1 l (show s.2.1.length<100000000 by omega) (show l.length<100000000 by omega)]
 cases hk:φh s d with
 | false=>simp
 | true=>
  obtain ⟨q1,q2,q3,q4,q5⟩:=φ5e hk
  have hg:=φ8Q hk
  cases hp:φ1k l with
  | false=>simp
  | true=>
   have hl8:l.length≤8:=by
    unfold φ1k at hp
    simp only[bA,decide_eq_true_eq] at hp
    exact hp.1
   simp only[nZ,cF,κ9,or_self,if_false]
   by_cases e1:l.length=0
   ·have d1:((l.length:Int)==0)=true:=by rw[e1];rfl
    simp only[d1,cT]
    rw[if_pos e1]
   have d1:((l.length:Int)==0)=false:=by
    have:¬(l.length:Int)=0:=by omega
    simpa using this
   simp only[d1,cF]
   rw[if_neg e1]
   by_cases e2:(φ2p s.2.1 l:Int) > 20
   ·simp only[e2,dT,cT]
    rw[if_pos (by omega)]
   simp only[e2,dF,cF]
   by_cases e3:s.2.2.1 > 1000000
   ·simp only[e3,dT,cT,or_true,if_true]
   have e4:¬(20<φ2p s.2.1 l∨s.2.2.1 > 1000000):=by omega
   rw[if_neg e4]
   simp only[e3,dF,cF,φIp hg (by omega) l hl8 (by omega) (by omega),bS]
theorem φLH {s:φ8} {d:φ1} (h:φh s d=true):SmallS s d:=by
 obtain ⟨q1,q2,q3,q4,q5⟩:=φ5e h
 have:=((φ14 s.1).1 q2).2.2.2
 exact ⟨φ3Z (φ13 q1) (by omega),by omega,by have:=(φ3v q3).1;omega⟩
theorem φJW {α β:Type} (g:α→β) {l:List (List UInt8×α)} (h:srt l):srt (mapG g l):=by
 unfold srt mapG
 rw[List.pairwise_map]
 exact h
def φ5k (b:UInt8):Bool:=decide (48≤b.toNat) && decide (b.toNat≤57)
def φCS (a:Nat×Nat) (b:UInt8):Nat×Nat:=if φ5k b=true then (a.1 * 10+(b.toNat - 48),a.2+1) else a
theorem φCI:∀(k n:Nat),n<k→∀(a:Nat×Nat),(Lib.decDigits n).foldl φCS a=(a.1 * 10 ^ (Lib.decDigits n).length+n,a.2+(Lib.decDigits n).length)
 | 0,n,h,a=>by omega
 | k+1,n,h,a=>by
  have hd:∀m,m<10→∀a:Nat×Nat,φCS a (UInt8.ofNat (48+m))=(a.1 * 10+m,a.2+1):=fun m hm a=>by
   have e:(UInt8.ofNat (48+m)).toNat=48+m:=by simp only[UInt8.toNat_ofNat'];omega
   unfold φCS φ5k
   rw[e,if_pos (by simp;omega)]
   simp
  by_cases c:n<10
  ·rw[Lib.decDigits_one c]
   simp only[κL,List.foldl_nil,lC,lN]
   rw[hd n c]
  ·have:=φ4C (n:=n) (by omega)
   unfold digs at this
   rw[if_neg (by omega),if_neg (by omega)] at this
   rw[this,κX,φCI k (n / 10) (by omega),κL,List.foldl_nil,hd _ (by omega)]
   simp only[lA,lC,lN,κV,Prod.mk.injEq]
   constructor
   ·rw[κZ,←Nat.mul_assoc,Nat.add_mul];omega
   ·omega
theorem φE4 {i j:Int} (hi:1≤i∧i≤100000) (hj:1≤j∧j≤100000) (h:φL i=φL j):i=j:=by
 unfold φL φ2K at h
 rw[if_pos hi,if_pos hj] at h
 have:=φAB (i.toNat+1) i.toNat j.toNat (by omega) (List.append_cancel_left h)
 omega
def φ3R (name:List UInt8) (id:Int):Prop:=(1≤id∧id≤100000)∧(name=φ0 id∨name=φL id)
theorem φEz {name:List UInt8} {i j:Int} (hi:φ3R name i) (hj:φ3R name j):i=j:=by
 obtain ⟨h1,h2⟩:=hi
 obtain ⟨k1,k2⟩:=hj
 rcases h2 with h2 | h2<;>rcases k2 with k2 | k2
 ·exact φ3w h1 k1 (h2.symm.trans k2)
 ·exact absurd (h2.symm.trans k2) (φ41 i j h1)
 ·exact absurd (k2.symm.trans h2) (φ41 j i k1)
 ·exact φE4 h1 k1 (h2.symm.trans k2)
noncomputable def idOf (name:List UInt8):Int×Bool:=@dite (Int×Bool) (∃id,φ3R name id) (Classical.propDecidable _) (fun h=>(h.choose,true)) (fun _=>(0,false))
theorem φHz {name:List UInt8} {id:Int} (h:φ3R name id):idOf name=(id,true):=by
 have hx:∃id,φ3R name id:=⟨id,h⟩
 unfold idOf
 rw[dif_pos hx,φEz hx.choose_spec h]
theorem φAt {name:List UInt8} (h:¬∃id,φ3R name id):idOf name=(0,false):=by
 unfold idOf;rw[dif_neg h]
theorem φIX {name:List UInt8} {id:Int} (h:idOf name=(id,true)):φ3R name id:=by
 by_cases hx:∃id,φ3R name id
 ·obtain ⟨j,hj⟩:=hx
  rw[φHz hj] at h
  simp only[Prod.mk.injEq,and_true] at h
  rw[←h];exact hj
 ·rw[φAt hx] at h;simp at h
noncomputable def φ4d (v:φQ) (f:φ6):Bool:=((idOf f.1).2 && !(v.2.any fun i=>i==(idOf f.1).1)) || f.1==φ1G
noncomputable def φ3O (d:φ1) (v:φQ):List (List UInt8):=if φ3 d=false then [] else (d.1.filter (φ4d v)).map (·.1)
theorem φMU {a:Nat} (h:a<1000000000001):(a+1) * 16≤140737488355328:=by omega
theorem φ46 {op:φ1→φ1×Int} {w:φE} (h:(φA op w).2=0):w.2=0∧(op w.1).2=0∧φA op w=op w.1:=by
 unfold φA at h ⊢
 split at h
 ·rename_i c;rw[if_pos c];exact ⟨c,h,rfl⟩
 ·rename_i c;exact absurd h c
theorem φ9x {d:φ1} {n:List UInt8} (h:(φD n d).2=0):(φ2 (φD n d).1 n).2=false:=by
 unfold φD at h ⊢
 rcases φw d.1 n with ⟨e,hno⟩ | ⟨i,hi,e,hn⟩
 ·rw[if_neg (by omega)]
  show (φ2 d n).2=false
  unfold φ2
  split
  ·rfl
  ·rw[φ1C e]
 ·rw[if_pos (by omega)] at h ⊢
  exact φEv h
theorem φL8 {d:φ1} (hk:φ3 d=true) {n m:List UInt8} (h:(φ2 d n).2=false):(φ2 (φD m d).1 n).2=false:=by
 by_cases c:n=m
 ·subst c
  unfold φD
  rw[if_neg (by rw[φDr hk h];omega)]
  exact h
 ·rw[φ4v hk c];exact h
theorem φ7T {w:φE} {n:List UInt8} (h:(sNew n w).2=0):w.2=0∧φ2 (sNew n w).1 n=([],true):=by
 unfold sNew at h ⊢
 obtain ⟨h1,h2,h3⟩:=φ46 (op:=φW n) h
 obtain ⟨k1,_,_⟩:=φ46 (op:=φD n) h1
 rw[h3]
 exact ⟨k1,φ8W h2⟩
theorem φEL {n:List UInt8}:∀(recs:List RecT) {w:φE},(sApp n recs w).2=0→(φ2 w.1 n).2=true→w.2=0∧φ2 (sApp n recs w).1 n=((φ2 w.1 n).1++txt recs,true)
 | [],w,h,ht=>⟨h,by
  show φ2 w.1 n=_
  have:txt []=[]:=rfl
  rw[this,κ7,←ht]⟩
 | r::recs,w,h,ht=>by
  have h:(sApp n recs (φA (φN n (frame (φ7 r))) w)).2=0:=h
  have hz:(φA (φN n (frame (φ7 r))) w).2=0:=by
   by_cases c:(φA (φN n (frame (φ7 r))) w).2=0
   ·exact c
   ·generalize φA (φN n (frame (φ7 r))) w=v at h c
    obtain ⟨x,k⟩:=v
    rw[φBf n recs c] at h
    exact h
  obtain ⟨h1,h2,h3⟩:=φ46 (op:=φN n _) hz
  obtain ⟨a1,a2⟩:=φ4D h2
  obtain ⟨b1,b2⟩:=φEL recs h (by rw[h3,a2])
  refine ⟨h1,?_⟩
  show φ2 (sApp n recs (φA (φN n (frame (φ7 r))) w)).1 n=_
  rw[b2,h3,a2,φ3P,←aA];rfl
theorem φD2:∀(names:List (List UInt8)) {w:φE},φ3 w.1=true→(φo names w).2=0→w.2=0∧(∀n,(φ2 w.1 n).2=false→(φ2 (φo names w).1 n).2=false)∧∀n∈names,(φ2 (φo names w).1 n).2=false
 | [],w,_,h=>⟨h,fun n hn=>hn,fun n hn=>by simp at hn⟩
 | m::names,w,hk,h=>by
  have h:(φo names (φA (φD m) w)).2=0:=h
  have hk1:φ3 (φA (φD m) w).1=true:=φ1t (op:=φD m) hk fun k=>φ2Y k m
  obtain ⟨a1,a2,a3⟩:=φD2 names hk1 h
  obtain ⟨h1,h2,h3⟩:=φ46 (op:=φD m) a1
  have hab:∀n,(φ2 w.1 n).2=false→(φ2 (φA (φD m) w).1 n).2=false:=fun n hn=>by
   rw[h3];exact φL8 hk hn
  refine ⟨h1,fun n hn=>a2 n (hab n hn),fun n hn=>?_⟩
  rcases mc.1 hn with rfl | hn
  ·refine a2 _ ?_
   rw[h3];exact φ9x h2
  ·exact a3 n hn
theorem φA3:∀(ids:List Int) {w:φE},φ3 w.1=true→(sOld ids w).2=0→w.2=0∧(∀n,(φ2 w.1 n).2=false→(φ2 (sOld ids w).1 n).2=false)∧∀id∈ids,(φ2 (sOld ids w).1 (φ0 id)).2=false∧(φ2 (sOld ids w).1 (φL id)).2=false
 | [],w,_,h=>⟨h,fun n hn=>hn,fun n hn=>by simp at hn⟩
 | i::ids,w,hk,h=>by
  have h:(sOld ids (φo [φ0 i,φL i] w)).2=0:=h
  have hk1:φ3 (φo [φ0 i,φL i] w).1=true:=φ4e _ hk
  obtain ⟨a1,a2,a3⟩:=φA3 ids hk1 h
  obtain ⟨h1,h2,h3⟩:=φD2 [φ0 i,φL i] hk a1
  refine ⟨h1,fun n hn=>a2 n (h2 n hn),fun id hid=>?_⟩
  rcases mc.1 hid with rfl | hid
  ·exact ⟨a2 _ (h3 _ (by simp)),a2 _ (h3 _ (by simp))⟩
  ·exact a3 id hid
structure Merged (s:φ8) (d:φ1) (l:List φX) (S:φ8) (y:φ1):Prop where
 st:S=((s.1.1+2,[s.1.1,s.1.1+1]),φy s.1.1 0 (φZ l (s.2.2.1 - 1)),s.2.2.1,0,0)
 dk:φ3 y=true
 one:φ2 y (φ0 s.1.1)=(txt (φZ l (s.2.2.1 - 1)),true)
 two:φ2 y (φ0 (s.1.1+1))=([],true)
 old:∀id∈s.1.2,(φ2 y (φ0 id)).2=false∧(φ2 y (φL id)).2=false
 oth:∀n,n≠φ0 s.1.1→n≠φ0 (s.1.1+1)→n≠φL s.1.1→n≠φ1G→n≠φb→(∀id∈s.1.2,n≠φ0 id∧n≠φL id)→φ2 y n=φ2 d n
theorem φFj {s:φ8} {d:φ1} (l:List φX) (h:φ3 d=true) (hv:φm s.1=true) (h2:s.1.1+2≤100000) (hc:(φ15 s d l).2.2=0):Merged s d l (φ15 s d l).1 (φ15 s d l).2.1:=by
 obtain ⟨k1,k2,k3,k4⟩:=(φ14 s.1).1 hv
 rw[φI (by omega) (by omega)] at k1
 have hids:=φ3m _ _ k1
 have g0:=φ4A (w:=(d,0)) h (φ0 s.1.1)
 have g0a:=φ7G (φ0 s.1.1) (φZ l (s.2.2.1 - 1)) g0
 have g1:=φ68 s.1.1 (φZ l (s.2.2.1 - 1)) (w:=(d,0)) h
 have g2:=φ4A g1 (φ0 (s.1.1+1))
 have f1:∀n,n≠φ0 s.1.1→n≠φ0 (s.1.1+1)→φ2 (sNew (φ0 (s.1.1+1)) (sWM s.1.1 (φZ l (s.2.2.1 - 1)) (d,0))).1 n=φ2 d n:=fun n q1 q2=>by
  rw[φ6U g1 q2]
  unfold sWM
  rw[φ2r (op:=φH _) (φ2R g0a _ n),φBV q1 _ g0,φ6U (w:=(d,0)) h q1]
 have hne:φ0 s.1.1≠φ0 (s.1.1+1):=fun hh=>by have:=φ3w (by omega) (by omega) hh;omega
 have t1:(sNew (φ0 (s.1.1+1)) (sWM s.1.1 (φZ l (s.2.2.1 - 1)) (d,0))).2=0→φ2 (sNew (φ0 (s.1.1+1)) (sWM s.1.1 (φZ l (s.2.2.1 - 1)) (d,0))).1 (φ0 s.1.1)=(txt (φZ l (s.2.2.1 - 1)),true) ∧
   φ2 (sNew (φ0 (s.1.1+1)) (sWM s.1.1 (φZ l (s.2.2.1 - 1)) (d,0))).1 (φ0 (s.1.1+1))=([],true):=fun e=>by
  obtain ⟨n1,n2⟩:=φ7T e
  refine ⟨?_,n2⟩
  rw[φ6U g1 hne]
  unfold sWM at n1 ⊢
  obtain ⟨s1,s2,s3⟩:=φ46 (op:=φH _) n1
  rw[φ2r (op:=φH _) (φ2R g0a _ _)]
  have hz:(sNew (φ0 s.1.1) (d,0)).2=0:=by
   by_cases c:(sNew (φ0 s.1.1) (d,0)).2=0
   ·exact c
   ·generalize sNew (φ0 s.1.1) (d,0)=v at s1 c
    obtain ⟨x,k⟩:=v
    rw[φBf _ _ c] at s1
    exact s1
  obtain ⟨m1,m2⟩:=φ7T hz
  obtain ⟨a1,a2⟩:=φEL (φZ l (s.2.2.1 - 1)) s1 (by rw[m2])
  rw[a2,m2];rfl
 unfold φ15 at hc ⊢
 simp only at hc ⊢
 generalize sNew (φ0 (s.1.1+1)) (sWM s.1.1 (φZ l (s.2.2.1 - 1)) (d,0))=w1 at *
 have g3:φ3 (φr s.1.1 w1).1=true:=by
  unfold φr;split
  ·exact g2
  ·exact φ6n _ g2
 have z2:(φr s.1.1 w1).2=0→w1.2=0:=fun e=>by
  unfold φr at e
  split at e
  ·exact e
  ·rename_i c;simpa using c
 have f2:∀n,n≠φL s.1.1→φ2 (φr s.1.1 w1).1 n=φ2 w1.1 n:=fun n q=>by
  unfold φr
  split
  ·rfl
  ·unfold φ1u
   simp only
   have hf:=φ4i (w:=(w1.1,0)) g2 (φL s.1.1) (φ1U (φ16 s.1.1 (φ2 w1.1 (φ0 s.1.1)).1).1)
   split
   ·rw[φ4v hf q,φ4y (w:=(w1.1,0)) g2 q]
   ·rw[φ4y (w:=(w1.1,0)) g2 q]
 generalize φr s.1.1 w1=w2 at *
 have g5:φ3 (if w2.2=0 then φB (sPut (s.1.1+2,[s.1.1,s.1.1+1]) w2) else φB w2).1=true:=by
  split
  ·exact φ3i g3 _
  ·exact g3
 have z3:(if w2.2=0 then φB (sPut (s.1.1+2,[s.1.1,s.1.1+1]) w2) else φB w2).2=0→w2.2=0:=fun e=>by
  by_cases c:w2.2=0
  ·exact c
  ·rw[if_neg c] at e;exact (φ1B _).1 e
 have f3:∀n,n≠φ1G→n≠φb→φ2 (if w2.2=0 then φB (sPut (s.1.1+2,[s.1.1,s.1.1+1]) w2) else φB w2).1 n=φ2 w2.1 n:=fun n q1 q2=>by
  split
  ·exact φ7O g3 _ q1 q2
  ·rfl
 generalize (if w2.2=0 then φB (sPut (s.1.1+2,[s.1.1,s.1.1+1]) w2) else φB w2)=w3 at *
 by_cases c:w3.2=0
 rotate_left
 ·rw[if_pos c] at hc
  exfalso
  revert hc
  unfold φ1d
  split
  ·split
   ·simp
   ·rename_i c4;exact c4
  ·exact c
 rw[if_neg (by simpa using c)] at hc ⊢
 have hc:(sOld s.1.2 (w3.1,0)).2=0:=(φ1B _).1 hc
 obtain ⟨o1,o2,o3⟩:=φA3 s.1.2 (w:=(w3.1,0)) g5 hc
 obtain ⟨u1,u2⟩:=t1 (z2 (z3 c))
 have hseg:∀id,1≤id∧id≤100000→s.1.1≤id→∀i∈s.1.2,φ0 id≠φ0 i∧φ0 id≠φL i:=fun id q1 q2 i hi=>⟨fun hh=>by
  have:=hids i hi
  have:=φ3w q1 (by omega) hh;omega,φ41 id _ q1⟩
 refine ⟨rfl,φMP s.1.2 (w:=(w3.1,0)) g5,?_,?_,o3,fun n q1 q2 q3 q4 q5 q6=>?_⟩
 ·show φ2 (sOld s.1.2 (w3.1,0)).1 _=_
  rw[φ6D s.1.2 (w:=(w3.1,0)) g5 (hseg _ (by omega) (by omega)),f3 _ (φ4N _) (φ2f _),f2 _ (φ41 _ _ (by omega)),u1]
 ·show φ2 (sOld s.1.2 (w3.1,0)).1 _=_
  rw[φ6D s.1.2 (w:=(w3.1,0)) g5 (hseg _ (by omega) (by omega)),f3 _ (φ4N _) (φ2f _),f2 _ (φ41 _ _ (by omega)),u2]
 ·show φ2 (sOld s.1.2 (w3.1,0)).1 _=_
  rw[φ6D s.1.2 (w:=(w3.1,0)) g5 q6,f3 _ q4 q5,f2 _ q3,f1 _ q1 q2]
theorem φO6 (A B:List UInt8) {r:RecT} (h:φa r=true):φ1J (A++(fr r++B)) (A.length:Int) ((fr r).length:Int)=(r,true):=by
 have k:=φDD A h
 rw[←aA,φIF _ (by rw[k]),k]
theorem φEb (m:Int) (g:Int×Int×Int×Int→List UInt8×Int):∀(recs:List RecT) (pre post:List UInt8),(∀r∈recs,φa r=true∧r.1=4) →
  (∀a n b,g (m,a,n,b)=((φ1J (pre++(txt recs++post)) a n).1.2.2.2.1,(φ1J (pre++(txt recs++post)) a n).1.2.1)) →
  mapG g (φy m (pre.length:Int) recs)=recs.map (fun r=>(r.2.2.1,r.2.2.2.1,r.2.1)) ∧
  ∀e∈φy m (pre.length:Int) recs,∃r∈recs,e.1=r.2.2.1∧e.2.1=m∧0≤e.2.2.1∧1≤e.2.2.2.1∧e.2.2.2.1≤210∧e.2.2.2.2=r.2.1∧φ1J (pre++(txt recs++post)) e.2.2.1 e.2.2.2.1=(r,true)
 | [],pre,post,_,_=>⟨rfl,fun e he=>by simp[φy] at he⟩
 | r::recs,pre,post,h,hg=>by
  obtain ⟨hr,h4⟩:=h r κ0
  have hfr:=φ4Z r
  have hT:pre++(txt (r::recs)++post)=(pre++fr r)++(txt recs++post):=by rw[φ3P];simp only[aA]
  have hat:φ1J (pre++(txt (r::recs)++post)) (pre.length:Int) ((fr r).length:Int)=(r,true):=by
   rw[show pre++(txt (r::recs)++post)=pre++(fr r++(txt recs++post)) by rw[φ3P,aA]]
   exact φO6 _ _ hr
  obtain ⟨i1,i2⟩:=φEb m g recs (pre++fr r) post (fun x hx=>h x (mC _ hx)) (fun a n b=>by rw[hg,hT])
  have hl:((pre++fr r).length:Int)=(pre.length:Int)+((frame (φ7 r)).length:Int):=by rw[lA];simp only[fr];omega
  rw[hl] at i1 i2
  have hent:φy m (pre.length:Int) (r::recs)=(r.2.2.1,m,(pre.length:Int),((frame (φ7 r)).length:Int),r.2.1)::φy m ((pre.length:Int)+((frame (φ7 r)).length:Int)) recs:=by
   rw[φy,if_pos h4]
  rw[hent]
  constructor
  ·show (r.2.2.1,g (m,(pre.length:Int),((fr r).length:Int),r.2.1))::mapG g (φy m _ recs)=_
   rw[i1,hg,hat];rfl
  ·intro e he
   rcases mc.1 he with rfl | he
   ·exact ⟨r,κ0,rfl,rfl,by show 0≤(pre.length:Int);omega,by show 1≤((fr r).length:Int);omega,by show ((fr r).length:Int)≤210;omega,rfl,hat⟩
   ·obtain ⟨q,hq,z⟩:=i2 e he
    rw[←hT] at z
    exact ⟨q,mC _ hq,z⟩
theorem φJu {s:List UInt8} {a n:Int} (h:(φ1J s a n).2=true):φa (φ1J s a n).1=true:=by
 unfold φ1J at h ⊢
 split at h
 ·rename_i c1
  rw[if_pos c1]
  split at h
  ·rename_i c2
   rw[if_pos c2]
   rcases φ7h (φP ((s.take (a+n).toNat).drop a.toNat)).1 with ⟨e,_⟩ | ⟨r,e,hr⟩
   ·rw[e] at h;simp at h
   ·rw[e];exact hr.1
  ·simp at h
 ·simp at h
theorem φEC {s:φ8} {d:φ1} (h:φh s d=true):∀r∈(φU s d).1.map φS,φa r=true∧r.1=4:=fun r hr=>by
 obtain ⟨p,hp,rfl⟩:=mM.1 hr
 rw[φ2n h] at hp
 obtain ⟨e,he,rfl⟩:=mM.1 hp
 obtain ⟨q1,q2,q3,q4,q5,q6⟩:=φi.1 h
 have k:=φ34.1 (q6 e he)
 have ho:=φJu (s:=(φ2 d (φ0 e.2.1)).1) (a:=e.2.2.1) (n:=e.2.2.2.1) k.1
 have hkey:=(φ3v q3).2 e he
 unfold φ2w at hkey
 simp only[bA,decide_eq_true_eq] at hkey
 refine ⟨?_,rfl⟩
 have hb:(φ1D d e).1.2.1=e.2.2.2.2:=k.2.2.2.1
 have hbb:=hkey.2.2.2.2
 unfold φ1D at k hb
 obtain ⟨R,hR⟩:∃R,φ1J (φ2 d (φ0 e.2.1)).1 e.2.2.1 e.2.2.2.1=R:=⟨_,rfl⟩
 rw[hR] at k hb ho
 have hvl:=(φAQ ho).2.2.1 k.2.1
 show φa (φS (e.1,φ1P d e.2))=true
 have hv:(φS (e.1,φ1P d e.2))=(4,(φ1P d e.2).2,e.1,(φ1P d e.2).1,0,0):=rfl
 rw[hv]
 have e2:φ1P d e.2=(R.1.2.2.2.1,R.1.2.1):=by
  unfold φ1P
  rw[hR]
 rw[e2]
 have hb0:(R.1.2.1==0)=false:=by
  have:¬R.1.2.1=0:=by omega
  simpa using this
 unfold φa
 simp[hkey.1,hb0]
 omega
theorem φOV {α β:Type} (g:α→β) {l:List (List UInt8×α)} (h:srt (mapG g l)):srt l:=by
 unfold srt mapG at *
 rw[List.pairwise_map] at h
 exact h
theorem φCh:∀rs:List RecT,(txt rs).length=φE5 rs
 | []=>rfl
 | r::rs=>by
  rw[φ3P,lA,φCh rs];rfl
theorem φJw {r:RecT} (h:φa r=true) (h4:r.1=4):φ1E r.2.2.1=true∧1≤r.2.1∧r.2.1≤1000000:=by
 obtain ⟨k,b,ky,v,c,s⟩:=r
 have h4:k=4:=h4
 subst h4
 unfold φa at h
 simp only[bA,decide_eq_true_eq] at h
 obtain ⟨⟨h1,h2⟩,h⟩:=h
 rw[if_pos (by simp)] at h
 simp only[bA] at h
 have hb:¬b=0:=fun e=>by subst e;simp at h2
 exact ⟨h.1,by show 1≤b;omega,by show b≤1000000;omega⟩
theorem φDI {b c z:Int} (hb:0≤b∧b≤1000000) (hc:0≤c∧c≤20) (hz:0≤z∧z≤4294967295):φa (5,b,[],[],c,z)=true:=by
 unfold φa
 simp;omega
theorem φDb {s:φ8} {d:φ1} (h:φh s d=true):∀p∈(φU s d).1,p.2.2<s.2.2.1:=fun p hp=>by
 rw[φ2n h] at hp
 obtain ⟨e,he,rfl⟩:=mM.1 hp
 obtain ⟨q1,q2,q3,q4,q5,q6⟩:=φi.1 h
 have k:=φ34.1 (q6 e he)
 have hb:(φ1P d e.2).2=(φ1D d e).1.2.1:=rfl
 show (φ1P d e.2).2<s.2.2.1
 rw[hb,k.2.2.2.1];exact k.2.2.2.2
theorem φ9B {s:φ8} {d:φ1} {S:φ8} {y:φ1} (h:φh s d=true) (h2:s.1.1+2≤100000) (hM:Merged s d (φU s d).1 S y) :
  φh S y=true∧φU S y=φU s d∧φ47 S∧segN y (S.1.2.take 60)=φE5 (φZ (φU s d).1 (s.2.2.1 - 1)):=by
 obtain ⟨q1,q2,q3,q4,q5,q6⟩:=φi.1 h
 obtain ⟨k1,k2,k3,k4⟩:=(φ14 s.1).1 q2
 have hkeep:=φEC h
 have hbat:=φDb h
 have hsl:srt (φU s d).1:=by rw[φ2n h];exact φJW _ (φ5l q3)
 have hd0:φU s d=((φU s d).1,0):=by rw[φ2n h]
 have hl20:(φU s d).1.length≤20:=by have:=φ94 s d;have:=(φ3v q3).1;omega
 obtain ⟨hst,hdk,hone,htwo,_,_⟩:=hM
 generalize (φU s d).1=l at *
 have hmk:φa (5,s.2.2.1 - 1,[],[],(l.length:Int),φ1i (l.map φS))=true:=φDI (by omega) (by omega) (φ59 _)
 have hall:∀r∈φZ l (s.2.2.1 - 1),φa r=true:=fun r hr=>by
  unfold φZ at hr
  rcases mA.1 hr with hr | hr
  ·exact (hkeep r hr).1
  ·rw[mZ.1 hr];exact hmk
 have hents:φy s.1.1 0 (φZ l (s.2.2.1 - 1))=φy s.1.1 0 (l.map φS):=φ9d s.1.1 _ (show (5:Int)≠4 by decide) _ _
 have htx:txt (φZ l (s.2.2.1 - 1))=[]++(txt (l.map φS)++fr (5,s.2.2.1 - 1,[],[],(l.length:Int),φ1i (l.map φS))):=by
  unfold φZ;rw[φBu];rfl
 obtain ⟨e1,e2⟩:=φEb s.1.1 (φ1P y) (l.map φS) [] (fr (5,s.2.2.1 - 1,[],[],(l.length:Int),φ1i (l.map φS))) hkeep (fun a n b=>by
  unfold φ1P
  simp only
  rw[hone,htx])
 have e1:mapG (φ1P y) (φy s.1.1 0 (l.map φS))=l:=by
  have:(([]:List UInt8).length:Int)=0:=rfl
  rw[this] at e1
  rw[e1,List.map_map]
  exact List.map_id' l
 have e2:∀e∈φy s.1.1 0 (l.map φS),∃r∈l.map φS,e.1=r.2.2.1∧e.2.1=s.1.1∧0≤e.2.2.1∧1≤e.2.2.2.1∧e.2.2.2.1≤210∧e.2.2.2.2=r.2.1∧φ1D y e=(r,true):=fun e he=>by
  obtain ⟨r,hr,z1,z2,z3,z4,z5,z6,z7⟩:=e2 e he
  refine ⟨r,hr,z1,z2,z3,z4,z5,z6,?_⟩
  unfold φ1D
  rw[z2,hone,htx];exact z7
 subst hst
 rw[hents]
 have hdir:φ1v (φy s.1.1 0 (l.map φS))=true:=by
  refine φEF (φOV (φ1P y) (by rw[e1];exact hsl)) (fun e he=>?_) ?_
  ·obtain ⟨r,hr,z1,z2,z3,z4,z5,z6,z7⟩:=e2 e he
   obtain ⟨w1,w2,w3⟩:=φJw (hkeep r hr).1 (hkeep r hr).2
   unfold φ2w
   rw[z1,w1,z2,z6]
   simp only[tA,bA,decide_eq_true_eq]
   exact ⟨⟨k2.1,k2.2⟩,z3,⟨z4,z5⟩,w2,w3⟩
  ·have:=congrArg List.length e1
   unfold mapG at this
   rw[lM] at this
   omega
 have hent:∀e∈φy s.1.1 0 (l.map φS),φ23 y s.2.2.1 e=true:=fun e he=>by
  obtain ⟨r,hr,z1,z2,z3,z4,z5,z6,z7⟩:=e2 e he
  obtain ⟨p,hp,rfl⟩:=mM.1 hr
  rw[φ34,z7,z6]
  exact ⟨rfl,.inr rfl,z1.symm,rfl,hbat p hp⟩
 have hok:φh ((s.1.1+2,[s.1.1,s.1.1+1]),φy s.1.1 0 (l.map φS),s.2.2.1,0,0) y=true:=φi.2 ⟨hdk,φA9 s.1.1 k2.1 h2,hdir,q4,by
  refine (φ1y _).2 ⟨fun id hid=>?_,fun _=>?_⟩
  ·simp only[mc,List.not_mem_nil,or_false] at hid
   rcases hid with rfl | rfl
   ·rw[hone];exact ⟨rfl,φIJ hall⟩
   ·rw[htwo];exact ⟨rfl,φHv⟩
  ·show (0:Int)=((φ2 y (φ0 (s.1.1+1))).1.length:Int)
   rw[htwo];rfl,hent⟩
 refine ⟨hok,?_,fun e he=>?_,?_⟩
 ·rw[φ2n hok,hd0]
  show (mapG (φ1P y) (φy s.1.1 0 (l.map φS)),(0:Int))=_
  rw[e1]
 ·obtain ⟨r,hr,z1,z2,_⟩:=e2 e he
  show e.2.1<s.1.1+2
  omega
 ·show segN y [s.1.1,s.1.1+1]=_
  unfold segN
  simp only[sumN]
  rw[hone,htwo,φCh];simp
theorem φIr {A B:List (List UInt8)} (h:A.Nodup) (hs:∀x∈A,x∈B):A.length≤B.length:=by
 induction A generalizing B with
 | nil=>exact κ4 _
 | cons a A ih=>
  rw[κS] at h
  have ha:=hs a κ0
  have:=ih (B:=B.erase a) h.2 (fun x hx=>(List.mem_erase_of_ne (fun e=>h.1 (by rw[←e];exact hx))).2 (hs x (mC _ hx)))
  rw[List.length_erase_of_mem ha] at this
  have:=List.length_pos_of_mem ha
  simp only[lC];omega
theorem φIf {α:Type} {l:List (List UInt8×α)} (h:srt l):(l.map (·.1)).Nodup:=by
 unfold srt at h
 unfold List.Nodup
 rw[List.pairwise_map]
 exact h.imp fun hab=>φ6Y hab
noncomputable def φ20 (s:φ8) (d:φ1):φ8×φ1×Int:=
 if φh s d=false then (s,d,4) else if s.1.1+2 > 100000 then (s,d,5) else φ15 s d (φU s d).1
theorem φKw {s:φ8} {d:φ1} (h:SmallS s d):ψa.f s d=some (φ20 s d)∧ψ2b.f s d=some (φ20 s d):=by
 obtain ⟨hd,hu⟩:=h.lim
 have h1:=h.ids
 have h2:=h.dir
 have h3:=h.sm.1
 unfold ψ2b.f ψa.f φ20
 simp only[φGH s d hd hu (show s.1.2.length<1000000000 by omega) (show s.2.1.length<1000000000 by omega),φI4 s d hd hu (show s.1.2.length<1000000000 by omega) (show s.2.1.length<1000000000 by omega),bS,φN3 s (show s.1.2.length<1000000000 by omega) (show s.2.1.length<1000000000 by omega),φAT s (show s.1.2.length<1000000000 by omega) (show s.2.1.length<1000000000 by omega),φ9S d (show d.1.length<1000000000000 by omega),φ5R d (show d.1.length<1000000000000 by omega),
   φHR s d hd hu (show s.2.1.length<1000000000 by omega),φJ5 s d hd hu (show s.2.1.length<1000000000 by omega)]
 cases hk:φh s d with
 | false=>simp
 | true=>
  obtain ⟨q1,q2,q3,q4,q5⟩:=φ5e hk
  have hd20:s.2.1.length≤20:=(φ3v q3).1
  have hdl:=φ94 s d
  have hlv:=(φ14 s.1).1 q2
  have hc0:(φU s d).2=0:=by rw[φ2n hk]
  simp only[nZ,cF,show w64 (s.1.1+2)=s.1.1+2 from φI (by omega) (by omega),κ9,if_false]
  by_cases e1:s.1.1+2 > 100000
  ·rw[if_pos e1]
   simp only[e1,dT,cT,and_self]
  ·rw[if_neg e1]
   simp only[e1,dF,cF,hc0,bne_self_eq_false,φM4 s d _ q1 q2 (show s.1.1+2≤100000 by omega) q4 (show (φU s d).1.length<100000 by omega),φJq s d _ q1 q2 (show s.1.1+2≤100000 by omega) q4 (show (φU s d).1.length<100000 by omega),bS,and_self]
theorem φDC (d:UInt8):∀(l:List UInt8) (a u:Nat),Lib.parseUint10 a l=.ok u→(48≤d.toNat∧d.toNat≤57)→u<1000000000000→Lib.parseUint10 a (l++[d])=.ok (u * 10+(d.toNat - 48))
 | [],a,u,h,hd,hu=>by
  have h:a=u:=by simp only[Lib.parseUint10] at h;injection h
  subst h
  show Lib.parseUint10 a [d]=_
  rw[Lib.parseUint10,if_pos hd,if_neg (by omega),if_neg (by omega)]
  rfl
 | c::l,a,u,h,hd,hu=>by
  rw[κF,Lib.parseUint10]
  rw[Lib.parseUint10] at h
  split
  ·rename_i c1
   rw[if_pos c1] at h
   split
   ·rename_i c2;rw[if_pos c2] at h;cases h
   ·rename_i c2
    rw[if_neg c2] at h
    split
    ·rename_i c3;rw[if_pos c3] at h;cases h
    ·rename_i c3
     rw[if_neg c3] at h
     exact φDC d l _ u h hd hu
  ·rename_i c1
   rw[if_neg c1] at h;cases h
theorem φIB:∀(k n:Nat),n<k→n<1000000000000→Lib.parseUint10 0 (Lib.decDigits n)=.ok n
 | 0,n,h,_=>by omega
 | k+1,n,h,hn=>by
  have e:∀m,m<10→(UInt8.ofNat (48+m)).toNat=48+m:=fun m hm=>by simp only[UInt8.toNat_ofNat'];omega
  by_cases c:n<10
  ·rw[Lib.decDigits_one c,Lib.parseUint10,e n c,if_pos (by omega),if_neg (by omega),if_neg (by omega),Lib.parseUint10]
   congr 1;omega
  ·have:=φ4C (n:=n) (by omega)
   unfold digs at this
   rw[if_neg (by omega),if_neg (by omega)] at this
   rw[this,φDC _ _ 0 (n / 10) (φIB k (n / 10) (by omega) (by omega)) (by rw[e _ (by omega)];omega) (by omega),e _ (by omega)]
   congr 1;omega
theorem φJb (n:Nat):Lib.decDigits n≠[]:=fun e=>by
 have h1:=φCI (n+1) n (by omega) (1,0)
 rw[e] at h1
 have h2:=φCI (n+1) n (by omega) (0,0)
 rw[e] at h2
 simp at h1 h2
 subst h2
 rw[Lib.decDigits_one (by omega)] at e
 simp at e
theorem φNt (n:Nat) {c:UInt8} {r:List UInt8} (h:Lib.decDigits n=c::r):φ5k c=true:=by
 have ha:=φC2 (n+1) n (by omega)
 have key:∀(k n:Nat),n<k→∀b∈Lib.decDigits n,φ5k b=true:=by
  intro k
  induction k with
  | zero=>intro n h;omega
  | succ k ih=>
   intro n h b hb
   have e:∀m,m<10→φ5k (UInt8.ofNat (48+m))=true:=fun m hm=>by
    unfold φ5k
    have:(UInt8.ofNat (48+m)).toNat=48+m:=by simp only[UInt8.toNat_ofNat'];omega
    rw[this];simp;omega
   by_cases c:n<10
   ·rw[Lib.decDigits_one c] at hb
    rw[mZ.1 hb];exact e n c
   ·have:=φ4C (n:=n) (by omega)
    unfold digs at this
    rw[if_neg (by omega),if_neg (by omega)] at this
    rw[this] at hb
    rcases mA.1 hb with hb | hb
    ·exact ih (n / 10) (by omega) b hb
    ·rw[mZ.1 hb];exact e _ (by omega)
 exact key (n+1) n (by omega) c (by rw[h];exact κ0)
theorem φNU {n:Nat} (hn:n<1000000000000):Lib.atoiAll (Lib.decDigits n)=.ok (n:Int):=by
 have hp:=φIB (n+1) n (by omega) hn
 cases e:Lib.decDigits n with
 | nil=>exact absurd e (φJb n)
 | cons c r=>
  have hd:=φNt n e
  unfold φ5k at hd
  simp only[bA,decide_eq_true_eq] at hd
  rw[Lib.atoiAll_plain c r (by omega) (by omega)]
  rw[e] at hp
  unfold Lib.parseMag
  rw[if_neg (by simp),hp]
  unfold Lib.signless
  simp
  omega
def φ2D (s:List UInt8):Int×Bool:=
 match Lib.atoiAll s with
 | .ok n=>if Lib.itoa n=s∧-999999999≤n∧n≤999999999 then (n,true) else (0,false)
 | _=>(0,false)
theorem φNf (n:Int) (h:-9223372036854775808≤n∧n≤9223372036854775807):ψ6.f n=some (Lib.itoa n):=by
 unfold ψ6.f strconv_Itoa.f
 have:(decide (-9223372036854775808≤n) && decide (n≤9223372036854775807))=true:=by simp;omega
 rw[this];rfl
theorem φHC (s:List UInt8) (hl:s.length<1000000000000):ψi.f s=some (φ2D s):=by
 unfold ψi.f φ2D strconv_Atoi.f
 have h1:decide (s.length≤281474976710656)=true:=by simp;omega
 rw[h1,cT]
 rcases num3 (Lib.atoiAll s) with ⟨n,ha⟩ | ha | ha
 ·rw[ha]
  have hb:=Lib.atoiAll_bounds ha
  simp only[bS,cF,φNf n hb,φ1a]
  by_cases c:Lib.itoa n=s
  ·have:(Lib.itoa n==s)=true:=by simpa using c
   simp only[this,nZ,cF]
   by_cases c2:-999999999≤n∧n≤999999999
   ·rw[if_pos ⟨c,c2⟩]
    simp[c2]
   ·rw[if_neg (fun z=>c2 z.2)]
    have:decide (-999999999≤n∧n≤999999999)=false:=decide_eq_false c2
    simp only[this,nF,cT]
  ·have:(Lib.itoa n==s)=false:=by simpa using c
   rw[if_neg (fun z=>c z.1)]
   simp only[this,nF,cT]
 ·simp[ha]
 ·simp[ha]
theorem φMI {s:List UInt8} {n:Int} (h:φ2D s=(n,true)):Lib.itoa n=s:=by
 unfold φ2D at h
 split at h
 ·split at h
  ·rename_i c
   simp only[Prod.mk.injEq,and_true] at h
   rw[←h];exact c.1
  ·simp at h
 ·simp at h
theorem φNP {n:Nat} (h:n≤100000):φ2D (Lib.decDigits n)=((n:Int),true):=by
 unfold φ2D
 rw[φNU (by omega)]
 simp only
 rw[if_pos ⟨φB2 n,by omega,by omega⟩]
theorem φEg (s p:List UInt8):ψ3j.f s p=some (decide (p.length≤s.length) && (s.take p.length==p)):=by
 unfold ψ3j.f
 by_cases c:p.length≤s.length
 ·have c1:(s.length:Int)≥(p.length:Int):=by omega
  have c2:(decide (0≤(p.length:Int)) && decide ((p.length:Int)≤(s.length:Int)))=true:=by simp;omega
  rw[c2,decide_eq_true c1,cT,cT,decide_eq_true c,tA,tN]
 ·have c1:¬(s.length:Int)≥(p.length:Int):=by omega
  simp only[c1,c,dF,cF,κD]
theorem φE7 (p r:List UInt8):ψ3h.f (p++r) p=some (r,true):=by
 unfold ψ3h.f ψ3i.f
 rw[φEg]
 have c1:decide (p.length≤(p++r).length)=true:=by simp
 have c2:((p++r).take p.length==p)=true:=by rw[List.take_left];simp
 have c3:(decide (0≤(p.length:Int)) && decide ((p.length:Int)≤((p++r).length:Int)))=true:=by rw[lA];simp;omega
 simp only[c1,c2,tA,bS,nZ,cF,c3,cT,tN,κQ]
theorem φGY {s p:List UInt8} (h:¬∃r,s=p++r):ψ3h.f s p=some (s,false):=by
 unfold ψ3h.f ψ3i.f
 rw[φEg]
 have c:(decide (p.length≤s.length) && (s.take p.length==p))=false:=by
  cases e:(decide (p.length≤s.length) && (s.take p.length==p)) with
  | false=>rfl
  | true=>
   simp only[bA,decide_eq_true_eq,beq_iff_eq] at e
   exact absurd ⟨s.drop p.length,by rw[←e.2,lT,Nat.min_eq_left e.1,κE]⟩ h
 simp only[c,bS,nF,cT]
theorem φ7V {id:Int} (h:1≤id∧id≤100000):φ0 id=[115,101,103]++Lib.decDigits id.toNat:=by unfold φ0 φ2K;rw[if_pos h]
theorem φ6r {id:Int} (h:1≤id∧id≤100000):φL id=[104,105,110,116]++Lib.decDigits id.toNat:=by unfold φL φ2K;rw[if_pos h]
theorem φDe {w r:List UInt8} {name:List UInt8} (hn:name=w++r) (hw:(w=[115,101,103]∧∀id,1≤id∧id≤100000→name≠φL id)∨(w=[104,105,110,116]∧∀id,1≤id∧id≤100000→name≠φ0 id)) :
  (if (φ2D r).2=true∧1≤(φ2D r).1∧(φ2D r).1≤100000 then ((φ2D r).1,true) else (0,false))=idOf name:=by
 have hnm:∀id,1≤id∧id≤100000→Lib.decDigits id.toNat=r→φ3R name id:=fun id hid e=>by
  refine ⟨hid,?_⟩
  rcases hw with ⟨hw,_⟩ | ⟨hw,_⟩
  ·left;rw[hn,hw,←e,φ7V hid]
  ·right;rw[hn,hw,←e,φ6r hid]
 by_cases c:(φ2D r).2=true∧1≤(φ2D r).1∧(φ2D r).1≤100000
 ·rw[if_pos c]
  have ht:φ2D r=((φ2D r).1,true):=by rw[←c.1]
  have hi:=φMI ht
  generalize (φ2D r).1=n at c hi
  obtain ⟨m,rfl⟩:∃m:Nat,n=(m:Int):=⟨n.toNat,by omega⟩
  rw[φB2] at hi
  exact (φHz (hnm (m:Int) c.2 (by rw[tN];exact hi))).symm
 ·rw[if_neg c,φAt]
  rintro ⟨id,hid,hor⟩
  apply c
  have hr:r=Lib.decDigits id.toNat:=by
   rcases hw with ⟨hw,hno⟩ | ⟨hw,hno⟩
   ·rcases hor with e | e
    ·rw[hn,hw,φ7V hid] at e;exact List.append_cancel_left e
    ·exact absurd e (hno id hid)
   ·rcases hor with e | e
    ·exact absurd e (hno id hid)
    ·rw[hn,hw,φ6r hid] at e;exact List.append_cancel_left e
  have:=φNP (n:=id.toNat) (by omega)
  rw[←hr] at this
  rw[this]
  exact ⟨rfl,by show (1:Int)≤(id.toNat:Int);omega,by show (id.toNat:Int)≤100000;omega⟩
theorem φJj (name:List UInt8) (hl:name.length<1000000000000):ψX.f name=some (idOf name):=by
 have fin:∀(r:List UInt8),r.length<1000000000000→((ψi.f r).bind fun (t3_0,t3_1)=>
   bif !true then some ((0:Int),false) else
   bif !t3_1 then some (0,false) else
   (ψ1X.f t3_0 1 100000).bind fun t4=>bif !t4 then some (0,false) else some (t3_0,true))=some (if (φ2D r).2=true∧1≤(φ2D r).1∧(φ2D r).1≤100000 then ((φ2D r).1,true) else (0,false)):=fun r hr=>by
  rw[φHC r hr,bS]
  generalize φ2D r=p
  obtain ⟨n,b⟩:=p
  simp only[nZ,cF,φ1a,bS]
  cases b
  ·simp
  ·by_cases c:1≤n∧n≤100000
   ·simp[c]
   ·have:decide (1≤n∧n≤100000)=false:=decide_eq_false c
    simp only[nZ,cF,this,nF,cT]
    rw[if_neg (fun z=>c z.2)]
 unfold ψX.f
 by_cases h1:∃r,name=[115,101,103]++r
 ·obtain ⟨r,rfl⟩:=h1
  rw[lA] at hl
  rw[φE7]
  have:=fin r (by omega)
  simp only[bS,nZ,cF] at this ⊢
  rw[this,φDe rfl (.inl ⟨rfl,fun id hid e=>by
   rw[φ6r hid] at e
   have:=congrArg (fun l=>l.getD 0 0) e
   simp at this⟩)]
 ·rw[φGY h1]
  by_cases h2:∃r,name=[104,105,110,116]++r
  ·obtain ⟨r,rfl⟩:=h2
   rw[lA] at hl
   rw[bS]
   simp only[nF,cT]
   rw[φE7]
   have:=fin r (by omega)
   simp only[bS,nZ,cF] at this ⊢
   rw[this,φDe rfl (.inr ⟨rfl,fun id hid e=>by
    rw[φ7V hid] at e
    have:=congrArg (fun l=>l.getD 0 0) e
    simp at this⟩)]
  ·rw[bS]
   simp only[nF,cT]
   rw[φGY h2]
   simp only[bS,φHC name hl,nF,cT]
   rw[φAt]
   rintro ⟨id,hid,e | e⟩
   ·exact h1 ⟨_,e.trans (φ7V hid)⟩
   ·exact h2 ⟨_,e.trans (φ6r hid)⟩
theorem φNR (l:List Int) (n:Int) (hl:l.length<1000000000):ψ1V.f l n=some (l.any fun x=>x==n):=by
 have key:=φg (step:=ψ1V.l0) (fun k (_:Unit)=>(n,l,(l.length:Int),(k:Int))) l.length (fun k _=>if (l.drop k).any (fun x=>x==n)=true then .inr true else .inl ()) (fun _ _=>True)
  (fun rec k _ hk _ ih=>by
   rcases κ2 k l.length with h | h
   ·have hw:=φM (show k+1<9223372036854775808 by omega)
    rw[dG h,List.any_cons]
    simp only[ψ1V.l0,oL,h,dT,cT,φF,φJ,φ9 h]
    cases hq:(l[k]==n)
    ·simp only[cF,hw,ih () h trivial,κU]
    ·simp
   ·have:k=l.length:=by omega
    subst this
    simp[ψ1V.l0])
  (by omega) 0 () (κ4 _) trivial
 have key:lp ψ1V.l0 (n,l,(l.length:Int),0)=_:=key
 unfold ψ1V.f
 rw[key,bS,κC]
 cases l.any fun x=>x==n
 ·simp[φf]
 ·simp[φp]
theorem φJF (d:φ1) (v:φQ) (hd:dlim d) (hv:v.2.length<1000000000):ψe.f d v=some (φ3O d v):=by
 have key:=φg (step:=ψe.l0) (fun n (acc:List (List UInt8))=>(v,acc,d.1,(d.1.length:Int),(n:Int))) d.1.length (fun n acc=>acc++((d.1.drop n).filter (φ4d v)).map (·.1)) (fun n acc=>acc.length≤n)
  (fun rec n acc hn ha ih=>by
   rcases κ2 n d.1.length with h | h
   ·have hlen:=hd.1
    have hw:=φM (show n+1<9223372036854775808 by omega)
    have hnm:=hd.2.2 _ (gM h)
    have hb:(acc.length+([d.1[n].1]:List (List UInt8)).length) * 16≤140737488355328:=φMU (by omega)
    have i1:=ih (acc++[d.1[n].1]) h (by rw[lA];show acc.length+1≤n+1;omega)
    have i2:=ih acc h (by omega)
    rw[dG h,List.filter_cons]
    simp only[ψe.l0,oL,h,dT,cT,φF,φJ,φ9 h]
    rw[φJj d.1[n].1 hnm,bS]
    have hob:φ4d v d.1[n]=(((idOf d.1[n].1).2 && !(v.2.any fun i=>i==(idOf d.1[n].1).1)) || d.1[n].1==φ1G):=rfl
    rw[hob]
    obtain ⟨tb,hT⟩:∃tb,(d.1[n].1==φ1G)=tb:=⟨_,rfl⟩
    have ht:(d.1[n].1==[116,101,109,112])=tb:=hT
    rw[hT]
    simp only[φNR v.2 _ hv,ht]
    cases (idOf d.1[n].1).2<;>cases (v.2.any fun i=>i==(idOf d.1[n].1).1)<;>cases tb <;>
     simp only[φF,h,φJ,φ9 h,ht,hb,dT,cT,cF,bS,nZ,nF,κP,Bool.and_false,Bool.or_true,Bool.or_false,tA,κD,κU,Bool.true_or,if_true,κ3,if_false,hw,i1,i2,κ5,aA,List.singleton_append]
   ·have:n=d.1.length:=by omega
    subst this
    simp[ψe.l0])
  (by have:=hd.1;omega) 0 [] (κ4 _) (κ6 _)
 have key:lp ψe.l0 (v,[],d.1,(d.1.length:Int),0)=_:=key
 unfold ψe.f φ3O
 rw[φ5q d hd,bS]
 cases φ3 d
 ·simp
 ·simp only[nZ,cF,key,bS,κC,κ8,κ9,if_false]
def φ3Q (s:List UInt8) (v:φQ):Prop:=φm v=true∧φn v=s
def φ1F:φQ:=(0,[])
def φ4b (v:φQ):List UInt8:=varT v.1++varT (v.2.length:Int)++(v.2.map varT).flatten
theorem φAK {v:φQ} (h:φm v=true):φ1M v.1∧(∀x∈v.2,φ1M x∧x≤100000)∧1≤v.2.length∧v.2.length≤60∧v.1≤100000:=by
 obtain ⟨k1,k2,k3,k4⟩:=(φ14 v).1 h
 rw[φI (by omega) (by omega)] at k1
 have:=φ3m _ _ k1
 refine ⟨⟨by omega,by omega⟩,fun x hx=>?_,k3,k4,k2.2⟩
 have:=this x hx
 exact ⟨⟨by omega,by omega⟩,by omega⟩
theorem φB9 {n:Int} (h:0≤n∧n≤100000):(varT n).length≤3:=by
 obtain ⟨m,rfl⟩:∃m:Nat,n=(m:Int):=⟨n.toNat,by omega⟩
 rw[φ54 m (by omega)]
 exact (φ8G 2 m (by show m<2097152;omega)).2
theorem φBo {l:List Int} (h:∀x∈l,0≤x∧x≤100000):((l.map varT).flatten).length≤3 * l.length:=by
 induction l with
 | nil=>simp
 | cons x l ih=>
  have h1:=φB9 (h x κ0)
  have h2:=ih (fun y hy=>h y (mC _ hy))
  simp only[κ5,List.flatten_cons,lA,lC]
  omega
theorem φ8R {v:φQ} (h:φm v=true):(φ4b v).length≤200:=by
 obtain ⟨h1,h2,h3,h4,h5⟩:=φAK h
 have a1:=φB9 ⟨h1.1,h5⟩
 have a2:=φB9 (n:=(v.2.length:Int)) (by omega)
 have a3:=φBo (l:=v.2) (fun x hx=>⟨(h2 x hx).1.1,(h2 x hx).2⟩)
 unfold φ4b
 simp only[lA];omega
theorem φFx {s:List UInt8} {v:φQ} (h:φ3Q s v):s=frame (φ4b v)∧φP s=(φ4b v,(s.length:Int))∧5≤s.length:=by
 have e:s=frame (φ4b v):=by
  rw[←h.2];unfold φn;rw[if_neg (by rw[h.1];simp)];rfl
 have hb:=φ7e (φ8R h.1) []
 rw[κ7,←e] at hb
 exact ⟨e,hb,by rw[e];exact φ8O (φ8R h.1)⟩
theorem φL6 {s:List UInt8} {v:φQ} (h:φ3Q s v):ψl.f s=some (v,true):=by
 obtain ⟨e1,e2,e3⟩:=φFx h
 obtain ⟨n1,n2,n3,n4,n5⟩:=φAK h.1
 have hbl:=φ8R h.1
 have hsl:s.length≤211:=by rw[e1];exact φ4p _
 obtain ⟨nx,ids⟩:=v
 have hcnt:φ1M (ids.length:Int):=⟨by omega,by have:ids.length≤60:=n4;omega⟩
 have hbd:φ4b (nx,ids)=varT nx++(varT (ids.length:Int)++(ids.map varT).flatten):=by unfold φ4b;rw[aA]
 have hbl2:=hbl
 rw[hbd] at hbl2
 simp only[lA] at hbl2
 have m1:=φ2X n1 (varT (ids.length:Int)++(ids.map varT).flatten) (by simp only[lA];omega)
 have m2:=φ2X hcnt (ids.map varT).flatten (by simp only[lA];omega)
 have n4:ids.length≤60:=n4
 have key:=φg (step:=ψl.l0) (fun n (_:Unit)=>(s,((0,[]):φQ),(s.length:Int),(((ids.drop n).map varT).flatten,false),((nx,ids.take n):φQ),(ids.length:Int),(n:Int))) ids.length (fun _ _=>(s,(0,[]),(s.length:Int),([],false),(nx,ids))) (fun _ _=>True)
  (fun rec n _ hn _ ih=>by
   rcases κ2 n ids.length with h1 | h1
   ·have hw:=φM (show n+1<9223372036854775808 by omega)
    have hin:=(n2 _ (gM h1)).1
    have hd:((ids.drop n).map varT).flatten=varT ids[n]++((ids.drop (n+1)).map varT).flatten:=by
     rw[dG h1];rfl
    have hfl:((ids.drop n).map varT).flatten.length≤3 * (ids.drop n).length:=φBo (fun x hx=>⟨(n2 x (List.mem_of_mem_drop hx)).1.1,(n2 x (List.mem_of_mem_drop hx)).2⟩)
    have m3:=φ2X hin ((ids.drop (n+1)).map varT).flatten (by rw[←hd];rw[lD] at hfl;omega)
    have hb:((ids.take n).length+([ids[n]]:List Int).length) * 8≤140737488355328:=lim8 (by rw[lT];omega)
    have hi:ids.take n++[ids[n]]=ids.take (n+1):=(κ1 h1).symm
    simp only[ψl.l0,oL,h1,dT,cT,hd,nF,m3,bS,hb,hw,hi,ih () h1 trivial]
   ·have:n=ids.length:=by omega
    subst this
    simp[ψl.l0])
  (by omega) 0 () (κ4 _) trivial
 have key:lp ψl.l0 (s,(0,[]),(s.length:Int),((ids.map varT).flatten,false),(nx,[]),(ids.length:Int),0)=_:=key
 unfold ψl.f
 rw[φ8v s (by omega),e2,hbd,bS]
 simp only[m1,m2,bS,key]
 have c1:((s.length:Int)==0)=false:=by
  have:¬(s.length:Int)=0:=by omega
  simpa using this
 have hok:φm (nx,ids)=true:=h.1
 simp only[c1,cF,bne_self_eq_false,beq_self_eq_true,nZ,φ8s (nx,ids) (by show ids.length<2 ^ 62;omega),bS,hok]
theorem φKA (s:List UInt8) (u:Int) (B:List UInt8) (hB:B.length<1000000000000) (n1:Int) (st:φ4P) (pre:List UInt8) (cnt:Int) (hst:st.1.length≤B.length) (hpre:st.2=false→0≤cnt∧B=pre++st.1) :
  ∃st' ids,lp ψl.l0 (s,(0,[]),u,st,(n1,[]),cnt,0)=some (s,(0,[]),u,st',(n1,ids))∧ids.length≤B.length+1 ∧
   (st'.2=false→st.2=false∧(ids.length:Int)=cnt∧(∀x∈ids,φ1M x)∧B=pre++((ids.map varT).flatten++st'.1)):=by
 have key:=φ7Q (step:=ψl.l0) (a:=(s,((0,[]):φQ),u,st,((n1,[]):φQ),cnt,0))
  (fun a=>∃(st':φ4P) (ids:List Int),a=(s,(0,[]),u,st',(n1,ids),cnt,(ids.length:Int))∧st'.1.length≤B.length∧(st'.2=false→ids.length+st'.1.length≤B.length)∧ids.length≤B.length+1 ∧
   (st'.2=false→st.2=false∧(ids.length:Int)≤cnt∧(∀x∈ids,φ1M x)∧B=pre++((ids.map varT).flatten++st'.1)))
  (fun a=>if a.2.2.2.1.2=true then 0 else a.2.2.2.1.1.length+1)
  (fun b=>∃(st':φ4P) (ids:List Int),b=(s,(0,[]),u,st',(n1,ids))∧ids.length≤B.length+1∧(st'.2=false→st.2=false∧(ids.length:Int)=cnt∧(∀x∈ids,φ1M x)∧B=pre++((ids.map varT).flatten++st'.1)))
  (fun rec a ha=>by
   obtain ⟨st',ids,rfl,h1,h2,h4,h3⟩:=ha
   obtain ⟨t,bad⟩:=st'
   simp only at h1 h2 h3 h4
   by_cases c:(ids.length:Int)<cnt
   ·cases bad with
    | true=>
     left
     exact ⟨(s,(0,[]),u,(t,true),(n1,ids)),by simp only[ψl.l0,c,dT,cT,nZ,cF],(t,true),ids,rfl,h4,fun e=>by simp at e⟩
    | false=>
     right
     obtain ⟨g1,g2,g3,g4⟩:=h3 rfl
     have g5:=h2 rfl
     have hw:=φM (show ids.length+1<9223372036854775808 by omega)
     rcases φ5G t (by omega) with ⟨x,r,m,et,hx⟩ | m
     ·have hx1:=(φ48 hx []).2
      have hle:t.length=(varT x).length+r.length:=by rw[et,lA]
      have hb:(ids.length+([x]:List Int).length) * 8≤140737488355328:=lim8 (by omega)
      refine ⟨(s,(0,[]),u,(r,false),(n1,ids++[x]),cnt,((ids.length+1:Nat):Int)),⟨(r,false),ids++[x],by simp only[lA,κA],by show r.length≤_;omega,fun _=>by simp only[lA,κA];omega,by simp only[lA,κA];omega,fun _=>⟨g1,by simp only[lA,κA];omega,fun y hy=>?_,?_⟩⟩,?_,?_⟩
      ·rcases mA.1 hy with hy | hy
       ·exact g3 y hy
       ·rw[mZ.1 hy];exact hx
      ·rw[g4,et];simp
      ·simp only[κ3,if_false];omega
      ·simp only[ψl.l0,c,dT,cT,nF,m,bS,hb,hw]
     ·have hb:(ids.length+([0]:List Int).length) * 8≤140737488355328:=lim8 (by omega)
      refine ⟨(s,(0,[]),u,(t,true),(n1,ids++[0]),cnt,((ids.length+1:Nat):Int)),⟨(t,true),ids++[0],by simp only[lA,κA],h1,fun e=>by simp at e,by simp only[lA,κA];omega,fun e=>by simp at e⟩,?_,?_⟩
      ·simp only[if_true,κ3,if_false];omega
      ·simp only[ψl.l0,c,dT,cT,nF,m,bS,hb,hw]
   ·left
    refine ⟨(s,(0,[]),u,(t,bad),(n1,ids)),by simp only[ψl.l0,c,dF,cF],(t,bad),ids,rfl,h4,fun e=>?_⟩
    obtain ⟨g1,g2,g3,g4⟩:=h3 e
    exact ⟨g1,by omega,g3,g4⟩)
  ⟨st,[],rfl,hst,fun _=>by simp;exact hst,by simp,fun e=>⟨e,by simpa using (hpre e).1,by simp,by simpa using (hpre e).2⟩⟩ (by simp only;split<;>omega)
 obtain ⟨b,eb,st',ids,rfl,h1,h2⟩:=key
 exact ⟨st',ids,eb,h1,h2⟩
theorem φJG (s:List UInt8) (hl:s.length<1000000000):∃res:φQ×Bool,ψl.f s=some res∧(res=(φ1F,false)∨∃v,res=(v,true)∧φ3Q s v):=by
 have hul:=φ6G s
 unfold ψl.f
 rw[φ8v s (by omega),bS]
 -- the two numbers ahead
 have first:∃(n1 n2:Int) (st:φ4P) (pre:List UInt8),((ψ1k.f ((φP s).1,false)).bind fun (t2_0,t2_1)=>(ψ1k.f t2_1).bind fun (t3_0,t3_1)=>some (t2_0,t3_0,t3_1))=some (n1,n2,st)∧st.1.length≤(φP s).1.length ∧
   (st.2=false→φ1M n1∧φ1M n2∧pre=varT n1++varT n2∧(φP s).1=pre++st.1):=by
  rcases φ5G (φP s).1 (by omega) with ⟨x,r,m,et,hx⟩ | m
  ·have hle:(φP s).1.length=(varT x).length+r.length:=by
    have:=congrArg List.length et
    rw[lA] at this;exact this
   rcases φ5G r (by omega) with ⟨y,q,m2,et2,hy⟩ | m2
   ·have hle2:r.length=(varT y).length+q.length:=by
     have:=congrArg List.length et2
     rw[lA] at this;exact this
    exact ⟨x,y,(q,false),varT x++varT y,by simp only[m,m2,bS],by show q.length≤_;omega,fun _=>⟨hx,hy,rfl,by rw[et,et2,aA]⟩⟩
   ·exact ⟨x,0,(r,true),[],by simp only[m,m2,bS],by show r.length≤_;omega,fun e=>by simp at e⟩
  ·exact ⟨0,0,((φP s).1,true),[],by simp only[m,φ7a _ (show (φP s).1.length<2 ^ 62 by omega),bS],κ6 _,fun e=>by simp at e⟩
 obtain ⟨n1,n2,st,pre,e1,e2,e3⟩:=first
 obtain ⟨st',ids,eL,h1,h2⟩:=φKA s (φP s).2 (φP s).1 (by omega) n1 st pre n2 e2 (fun e=>⟨(e3 e).2.1.1,(e3 e).2.2.2⟩)
 have hrest:((ψ1k.f ((φP s).1,false)).bind fun (t2_0,t2_1)=>(ψ1k.f t2_1).bind fun (t3_0,t3_1)=>
   (lp ψl.l0 (s,((0,[]):φQ),(φP s).2,t3_1,(t2_0,[]),t3_0,0)).bind (fun (x0,x2,x5,x6,x7)=>
   bif x5==0 then some ((0,[]),false) else
   bif x5 != (x0.length:Int) then some ((0,[]),false) else
   bif x6.2 then some ((0,[]),false) else
   bif !(x6.1==[]) then some ((0,[]),false) else
   (ψZ.f x7).bind fun t6=>bif !t6 then some ((0,[]),false) else some (x7,true))) =
   (bif (φP s).2==0 then some (((0,[]):φQ),false) else
   bif (φP s).2 != (s.length:Int) then some ((0,[]),false) else
   bif st'.2 then some ((0,[]),false) else
   bif !(st'.1==[]) then some ((0,[]),false) else
   (ψZ.f (n1,ids)).bind fun t6=>bif !t6 then some ((0,[]),false) else some ((n1,ids),true)):=by
  cases ha:ψ1k.f ((φP s).1,false) with
  | none=>rw[ha] at e1;simp at e1
  | some p=>
   obtain ⟨a1,a2⟩:=p
   rw[ha] at e1
   simp only[bS] at e1 ⊢
   cases hb:ψ1k.f a2 with
   | none=>rw[hb] at e1;simp at e1
   | some q=>
    obtain ⟨b1,b2⟩:=q
    rw[hb] at e1
    simp only[bS,Option.some.injEq,Prod.mk.injEq] at e1 ⊢
    obtain ⟨rfl,rfl,rfl⟩:=e1
    rw[eL];rfl
 suffices hs:∃res:φQ×Bool,(bif (φP s).2==0 then some (((0,[]):φQ),false) else
   bif (φP s).2 != (s.length:Int) then some ((0,[]),false) else
   bif st'.2 then some ((0,[]),false) else
   bif !(st'.1==[]) then some ((0,[]),false) else
   (ψZ.f (n1,ids)).bind fun t6=>bif !t6 then some ((0,[]),false) else some ((n1,ids),true))=some res∧(res=(φ1F,false)∨∃v,res=(v,true)∧φ3Q s v) by
  obtain ⟨res,e,p⟩:=hs
  exact ⟨res,hrest.trans e,p⟩
 by_cases c1:(φP s).2=0
 ·have d1:((φP s).2==0)=true:=by simpa using c1
  exact ⟨(φ1F,false),by rw[d1];rfl,.inl rfl⟩
 have d1:((φP s).2==0)=false:=by simpa using c1
 rw[d1,cF]
 by_cases c2:(φP s).2=(s.length:Int)
 rotate_left
 ·have d2:((φP s).2 != (s.length:Int))=true:=by simpa using c2
  exact ⟨(φ1F,false),by rw[d2];rfl,.inl rfl⟩
 have d2:((φP s).2 != (s.length:Int))=false:=by simpa using c2
 rw[d2,cF]
 cases c3:st'.2 with
 | true=>exact ⟨(φ1F,false),rfl,.inl rfl⟩
 | false=>
  rw[cF]
  obtain ⟨g1,g2,g3,g4⟩:=h2 c3
  by_cases c4:st'.1=[]
  rotate_left
  ·have d4:(st'.1==[])=false:=by simpa using c4
   exact ⟨(φ1F,false),by rw[d4];rfl,.inl rfl⟩
  have d4:(st'.1==[])=true:=by simpa using c4
  rw[d4,nZ,cF,φ8s (n1,ids) (by show ids.length<2 ^ 62;omega),bS]
  cases c5:φm (n1,ids) with
  | false=>exact ⟨(φ1F,false),rfl,.inl rfl⟩
  | true=>
   refine ⟨((n1,ids),true),rfl,.inr ⟨(n1,ids),rfl,c5,?_⟩⟩
   obtain ⟨t,r,f1,f2,f3⟩:=φBi c1
   obtain ⟨k1,k2,k3,k4⟩:=e3 g1
   have ht:(φP s).1=t:=by rw[f3]
   have hlen:((frame t).length:Int)=(s.length:Int):=by rw[←c2,f3]
   have hr:r=[]:=by
    have:=congrArg List.length f1
    rw[lA] at this
    exact List.length_eq_zero_iff.1 (by omega)
   unfold φn
   rw[if_neg (by rw[c5];simp)]
   rw[f1,hr,κ7,←ht,g4,k3,c4,←g2]
   simp only[κ7]
theorem φI0 {s:List UInt8} {v:φQ} (h:φ3Q s v):ψ2l.f s=some (v,true):=by
 obtain ⟨e1,e2,e3⟩:=φFx h
 obtain ⟨n1,n2,n3,n4,n5⟩:=φAK h.1
 have hbl:=φ8R h.1
 have hsl:s.length≤211:=by rw[e1];exact φ4p _
 have hsh:=h.2
 obtain ⟨nx,ids⟩:=v
 have n4:ids.length≤60:=n4
 have hcnt:φ1M (ids.length:Int):=⟨by omega,by omega⟩
 have hbd:φ4b (nx,ids)=varT nx++(varT (ids.length:Int)++(ids.map varT).flatten):=by unfold φ4b;rw[aA]
 have hbl2:=hbl
 rw[hbd] at hbl2
 simp only[lA] at hbl2
 have r1:=φ48 n1 (varT (ids.length:Int)++(ids.map varT).flatten)
 have r2:=φ48 hcnt (ids.map varT).flatten
 generalize hT:varT nx++(varT (ids.length:Int)++(ids.map varT).flatten)=T at *
 have hTl:T.length=(varT nx).length+((varT (ids.length:Int)).length+((ids.map varT).flatten).length):=by rw[←hT];simp only[lA]
 have hat:∀n,n≤ids.length→T.drop ((varT nx).length+(varT (ids.length:Int)).length+((ids.take n).map varT).flatten.length)=((ids.drop n).map varT).flatten:=fun n hn=>by
  have e:T=(varT nx++varT (ids.length:Int)++((ids.take n).map varT).flatten)++((ids.drop n).map varT).flatten:=by
   rw[←hT]
   simp only[aA]
   congr 2
   rw[←List.flatten_append,←mp,κE]
  rw[e,show (varT nx).length+(varT (ids.length:Int)).length+((ids.take n).map varT).flatten.length=(varT nx++varT (ids.length:Int)++((ids.take n).map varT).flatten).length by simp only[lA],κQ]
 have hfle:∀n,((ids.take n).map varT).flatten.length≤200:=fun n=>by
  have:((ids.take n).map varT).flatten.length≤3 * (ids.take n).length:=φBo (fun x hx=>⟨(n2 x (κe hx)).1.1,(n2 x (κe hx)).2⟩)
  rw[lT] at this;omega
 have key:=φg (step:=ψ2l.l0) (fun n (_:Unit)=>(s,((0,[]):φQ),T,(ids.length:Int),((nx,ids.take n):φQ),(((varT nx).length+(varT (ids.length:Int)).length+((ids.take n).map varT).flatten.length:Nat):Int),(n:Int))) ids.length (fun _ _=>(s,(0,[]),(nx,ids))) (fun _ _=>True)
  (fun rec n _ hn _ ih=>by
   rcases κ2 n ids.length with h1 | h1
   ·have hw:=φM (show n+1<9223372036854775808 by omega)
    have hin:=(n2 _ (gM h1)).1
    have hc60:(n:Int)<60:=by omega
    have hd:((ids.drop n).map varT).flatten=varT ids[n]++((ids.drop (n+1)).map varT).flatten:=by
     rw[dG h1];rfl
    have hta:((ids.take (n+1)).map varT).flatten.length=((ids.take n).map varT).flatten.length+(varT ids[n]).length:=by
     rw[κ1 h1,mp,List.flatten_append,lA]
     show _+(varT ids[n]++[]).length=_
     rw[κ7]
    have hdl:=congrArg List.length (hat n hn)
    rw[lD] at hdl
    have r3:=φ48 hin ((ids.drop (n+1)).map varT).flatten
    have h200:=hfle n
    have hvl:=φl ids[n]
    have hvl1:=φl nx
    have hvl2:=φl (ids.length:Int)
    have hdl2:=congrArg List.length hd
    rw[lA] at hdl2
    have hin2:(decide (0≤(((varT nx).length+(varT (ids.length:Int)).length+((ids.take n).map varT).flatten.length:Nat):Int)) && decide ((((varT nx).length+(varT (ids.length:Int)).length+((ids.take n).map varT).flatten.length:Nat):Int)≤(T.length:Int)))=true:=by
     simp only[bA,decide_eq_true_eq];omega
    have hb:((ids.take n).length+([ids[n]]:List Int).length) * 8≤140737488355328:=lim8 (by rw[lT];omega)
    have hi:ids.take n++[ids[n]]=ids.take (n+1):=(κ1 h1).symm
    have hwo:w64 ((((varT nx).length+(varT (ids.length:Int)).length+((ids.take n).map varT).flatten.length:Nat):Int)+((varT ids[n]).length:Int))=(((varT nx).length+(varT (ids.length:Int)).length+((ids.take (n+1)).map varT).flatten.length:Nat):Int):=by
     rw[φI (by omega) (by omega),hta];omega
    simp only[ψ2l.l0,oL,h1,hc60,dT,cT,hin2,tN,hat n hn]
    rw[φ2m _ (by omega),hd,r3.1,bS]
    simp only[hb,dT,cT,hi,hwo,hw,ih () h1 trivial]
   ·have:n=ids.length:=by omega
    subst this
    simp[ψ2l.l0])
  (by omega) 0 () (κ4 _) trivial
 have key:lp ψ2l.l0 (s,(0,[]),T,(ids.length:Int),(nx,[]),(((varT nx).length+(varT (ids.length:Int)).length+((ids.take 0).map varT).flatten.length:Nat):Int),((0:Nat):Int))=_:=key
 have hv1:=φl nx
 have hv2:=φl (ids.length:Int)
 have c1:((s.length:Int)==0)=false:=by
  have:¬(s.length:Int)=0:=by omega
  simpa using this
 have c2:(((varT nx).length:Int)==0)=false:=by
  have:1≤(varT nx).length:=r1.2
  have:¬((varT nx).length:Int)=0:=by omega
  simpa using this
 have c3:(decide (0≤((varT nx).length:Int)) && decide (((varT nx).length:Int)≤(T.length:Int)))=true:=by simp only[bA,decide_eq_true_eq];omega
 have hd1:T.drop (varT nx).length=varT (ids.length:Int)++(ids.map varT).flatten:=by rw[←hT,κQ]
 have hw1:w64 (((varT nx).length:Int)+((varT (ids.length:Int)).length:Int))=(((varT nx).length+(varT (ids.length:Int)).length+((ids.take 0).map varT).flatten.length:Nat):Int):=by
  rw[φI (by omega) (by omega)];simp
 unfold ψ2l.f
 rw[φ9k s (by omega),e2,hbd,bS]
 simp only
 rw[φ2m T (by omega),r1.1,bS]
 simp only[bne_self_eq_false,cF,c1,c2,c3,cT,tN,hd1]
 rw[φ2m _ (by rw[←hd1,lD];omega),r2.1,bS]
 simp only[hw1]
 have key:lp ψ2l.l0 (s,(0,[]),T,(ids.length:Int),(nx,[]),(((varT nx).length+(varT (ids.length:Int)).length+((ids.take 0).map varT).flatten.length:Nat):Int),0)=_:=key
 rw[key,bS]
 simp only[φAv (nx,ids) (by show ids.length<2 ^ 62;omega),bS,hsh,beq_self_eq_true,nZ,cF]
theorem φO7 (s:List UInt8) (hl:s.length<1000000000):∃res:φQ×Bool,ψ2l.f s=some res∧(res=(φ1F,false)∨∃v,res=(v,true)∧φ3Q s v):=by
 have hul:=φ6G s
 unfold ψ2l.f
 rw[φ9k s (by omega),bS]
 simp only
 rw[φ2m _ (by omega),bS]
 by_cases c2:(φP s).2=(s.length:Int)
 rotate_left
 ·have d2:((φP s).2 != (s.length:Int))=true:=by simpa using c2
  exact ⟨(φ1F,false),by simp only[d2,cT];rfl,.inl rfl⟩
 have d2:((φP s).2 != (s.length:Int))=false:=by simpa using c2
 simp only[d2,cF]
 by_cases c1:(φP s).2=0
 ·have d1:((φP s).2==0)=true:=by simpa using c1
  exact ⟨(φ1F,false),by simp only[d1,cT];rfl,.inl rfl⟩
 have d1:((φP s).2==0)=false:=by simpa using c1
 simp only[d1,cF]
 generalize hT:(φP s).1=T at *
 have v1:=φ63 T
 by_cases c3:(φx T).2=0
 ·have d3:((φx T).2==0)=true:=by simpa using c3
  exact ⟨(φ1F,false),by simp only[d3,cT];rfl,.inl rfl⟩
 have d3:((φx T).2==0)=false:=by simpa using c3
 have d4:(decide (0≤(φx T).2) && decide ((φx T).2≤(T.length:Int)))=true:=by simp only[bA,decide_eq_true_eq];omega
 simp only[d3,d4,cF,cT]
 rw[φ2m _ (by rw[lD];omega),bS]
 generalize hR:T.drop (φx T).2.toNat=R
 have v2:=φ63 R
 have hRl:R.length+(φx T).2.toNat=T.length:=by rw[←hR,lD];omega
 generalize (φx T).1=n1
 generalize (φx R).1=cnt
 have hw1:w64 ((φx T).2+(φx R).2)=(φx T).2+(φx R).2:=φI (by omega) (by omega)
 simp only[hw1]
 have hp0:0≤(φx T).2+(φx R).2∧(φx T).2+(φx R).2≤T.length:=by omega
 generalize (φx T).2+(φx R).2=pos at hp0
 have key:=φ7Q (step:=ψ2l.l0) (a:=(s,((0,[]):φQ),T,cnt,((n1,[]):φQ),pos,0))
  (fun a=>∃(ids:List Int) (p:Int),a=(s,(0,[]),T,cnt,(n1,ids),p,(ids.length:Int))∧0≤p∧p≤(T.length:Int)∧ids.length≤60)
  (fun a=>61 - a.2.2.2.2.1.2.length)
  (fun b=>∃ids:List Int,b=(s,(0,[]),(n1,ids))∧ids.length≤60)
  (fun rec a ha=>by
   obtain ⟨ids,p,rfl,h1,h2,h3⟩:=ha
   by_cases c:(ids.length:Int)<cnt
   rotate_left
   ·left;exact ⟨_,by simp only[ψ2l.l0,c,dF,cF,cT],ids,rfl,h3⟩
   by_cases cc:(ids.length:Int)<60
   rotate_left
   ·left;exact ⟨_,by simp only[ψ2l.l0,c,cc,dT,dF,cT,cF,cT],ids,rfl,h3⟩
   right
   have hin:(decide (0≤p) && decide (p≤(T.length:Int)))=true:=by simp only[bA,decide_eq_true_eq];omega
   have v3:=φ63 (T.drop p.toNat)
   rw[lD] at v3
   have hw:=φM (show ids.length+1<9223372036854775808 by omega)
   have hwp:w64 (p+(φx (T.drop p.toNat)).2)=p+(φx (T.drop p.toNat)).2:=φI (by omega) (by omega)
   have hb:(ids.length+([(φx (T.drop p.toNat)).1]:List Int).length) * 8≤140737488355328:=lim8 (by omega)
   refine ⟨(s,(0,[]),T,cnt,(n1,ids++[(φx (T.drop p.toNat)).1]),p+(φx (T.drop p.toNat)).2,((ids.length+1:Nat):Int)),⟨ids++[(φx (T.drop p.toNat)).1],p+(φx (T.drop p.toNat)).2,by simp only[lA,κA],by omega,by omega,by simp only[lA,κA];omega⟩,by simp only[lA,κA];omega,?_⟩
   simp only[ψ2l.l0,c,cc,dT,cT,hin]
   rw[φ2m _ (by rw[lD];omega),bS]
   simp only[hb,dT,cT,hwp,hw])
  ⟨[],pos,rfl,hp0.1,by omega,by simp⟩ (by simp)
 obtain ⟨b,eb,ids,rfl,h60⟩:=key
 rw[eb,bS]
 simp only[φAv (n1,ids) (by show ids.length<2 ^ 62;omega),bS]
 by_cases c5:φn (n1,ids)=s
 rotate_left
 ·have d5:(φn (n1,ids)==s)=false:=by simpa using c5
  exact ⟨(φ1F,false),by simp only[d5,nF,cT];rfl,.inl rfl⟩
 have d5:(φn (n1,ids)==s)=true:=by simpa using c5
 refine ⟨((n1,ids),true),by simp only[d5,nZ,cF],.inr ⟨(n1,ids),rfl,?_,c5⟩⟩
 cases hk:φm (n1,ids) with
 | true=>rfl
 | false=>
  exfalso
  have:φn (n1,ids)=[]:=by unfold φn;rw[if_pos hk]
  rw[this] at c5
  apply c1
  rw[c2,←c5];rfl
noncomputable def φ3B (s:List UInt8):φQ×Bool:=@dite (φQ×Bool) (∃v,φ3Q s v) (Classical.propDecidable _) (fun h=>(h.choose,true)) (fun _=>(φ1F,false))
theorem φGc {s:List UInt8} {o:Option (φQ×Bool)} (h1:∀v,φ3Q s v→o=some (v,true)) (h2:∃res:φQ×Bool,o=some res∧(res=(φ1F,false)∨∃v,res=(v,true)∧φ3Q s v)):o=some (φ3B s):=by
 unfold φ3B
 by_cases h:∃v,φ3Q s v
 ·rw[dif_pos h];exact h1 _ h.choose_spec
 ·rw[dif_neg h]
  obtain ⟨res,e,k | ⟨v,_,hv⟩⟩:=h2
  ·rw[e,k]
  ·exact absurd ⟨v,hv⟩ h
theorem φOS (s:List UInt8) (hl:s.length<1000000000):ψl.f s=some (φ3B s):=φGc (fun _ h=>φL6 h) (φJG s hl)
theorem φNE (s:List UInt8) (hl:s.length<1000000000):ψ2l.f s=some (φ3B s):=φGc (fun _ h=>φI0 h) (φO7 s hl)
theorem φGQ (s:List UInt8):φ3B s=(φ1F,false)∧(¬∃v,φ3Q s v)∨∃v,φ3B s=(v,true)∧φ3Q s v:=by
 unfold φ3B
 by_cases h:∃v,φ3Q s v
 ·rw[dif_pos h];exact .inr ⟨_,rfl,h.choose_spec⟩
 ·rw[dif_neg h];exact .inl ⟨rfl,h⟩
def φ4O (s:List UInt8) (h:φ1H):Prop:=φ2c h=true∧φ1U h=s
def φ5r:φ1H:=(0,0,[])
theorem φ5Y (st:φ4P) (hl:st.1.length<2 ^ 62):∃n st',ψ1k.f st=some (n,st')∧st'.1.length≤st.1.length∧(st'.2=false→st.2=false∧st'.1.length+1≤st.1.length):=by
 obtain ⟨s,b⟩:=st
 cases b with
 | true=>exact ⟨0,(s,true),φ7a s hl,κ6 _,fun e=>by simp at e⟩
 | false=>
  rcases φ5G s hl with ⟨n,r,m,e,hn⟩ | m
  ·have h1:=(φ48 hn []).2
   have hle:s.length=(varT n).length+r.length:=by rw[e,lA]
   exact ⟨n,(r,false),m,by show r.length≤s.length;omega,fun _=>⟨rfl,by show r.length+1≤s.length;omega⟩⟩
  ·exact ⟨0,(s,true),m,κ6 _,fun e=>by simp at e⟩
theorem φMm (st:φ4P) (hl:st.1.length<2 ^ 62):∃t st',ψ1l.f st=some (t,st')∧st'.1.length≤st.1.length∧(st'.2=false→st.2=false∧st'.1.length+1≤st.1.length):=by
 obtain ⟨s,b⟩:=st
 cases b with
 | true=>exact ⟨[],(s,true),φ82 s hl,κ6 _,fun e=>by simp at e⟩
 | false=>
  rcases φ89 s hl with ⟨t,r,m,e,hn⟩ | ⟨r,m,hr⟩
  ·have h1:=(φ48 hn []).2
   have hle:s.length=(varT (t.length:Int)).length+(t.length+r.length):=by
    have:=congrArg List.length e
    simp only[lA] at this;exact this
   exact ⟨t,(r,false),m,by show r.length≤s.length;omega,fun _=>⟨rfl,by show r.length+1≤s.length;omega⟩⟩
  ·exact ⟨[],(r,true),m,hr,fun e=>by simp at e⟩
theorem φOp (s:List UInt8):∃t st',ψ1j.f (s,false) 4=some (t,st')∧st'.1.length≤s.length:=by
 rcases φB5 s 4 (by decide) with ⟨t,r,e,es,_⟩ | e
 ·exact ⟨t,(r,false),e,by rw[es,lA];show r.length≤_;omega⟩
 ·exact ⟨[],(s,true),e,κ6 _⟩
theorem φDN {a:Nat} (h:a<1000000000001):(a+1) * 48≤140737488355328:=by omega
theorem φMV (s:List UInt8) (hl:s.length<900000000):∃res:φ1H×Bool,ψk.f s=some res∧(res=(φ5r,false)∨∃h,res=(h,true)∧φ4O s h):=by
 obtain ⟨t,st1,e1,l1⟩:=φOp s
 obtain ⟨n2,st2,e2,l2,_⟩:=φ5Y st1 (by omega)
 obtain ⟨n3,st3,e3,l3,_⟩:=φ5Y st2 (by omega)
 obtain ⟨n4,st4,e4,l4,_⟩:=φ5Y st3 (by omega)
 have key:=φ7Q (step:=ψk.l0) (a:=(s,((0,0,[]):φ1H),st4,((n2,n3,[]):φ1H),n4,0))
  (fun a=>∃(st:φ4P) (es:List φC),a=(s,(0,0,[]),st,(n2,n3,es),n4,(es.length:Int))∧st.1.length≤s.length∧(st.2=false→es.length+st.1.length≤s.length)∧es.length≤s.length+1)
  (fun a=>if a.2.2.1.2=true then 0 else a.2.2.1.1.length+1)
  (fun b=>∃(st:φ4P) (es:List φC),b=(s,(0,0,[]),st,(n2,n3,es))∧es.length≤s.length+1)
  (fun rec a ha=>by
   obtain ⟨st,es,rfl,h1,h2,h4⟩:=ha
   by_cases c:(es.length:Int)<n4
   rotate_left
   ·left;exact ⟨_,by simp only[ψk.l0,c,dF,cF],st,es,rfl,h4⟩
   obtain ⟨u,bad⟩:=st
   simp only at h1 h2
   cases bad with
   | true=>
    left
    exact ⟨_,by simp only[ψk.l0,c,dT,cT,nZ,cF],(u,true),es,rfl,h4⟩
   | false=>
    right
    have h2:=h2 rfl
    obtain ⟨x5,s5,m5,q5,r5⟩:=φMm (u,false) (show u.length<2 ^ 62 by omega)
    have q5:s5.1.length≤u.length:=q5
    obtain ⟨x6,s6,m6,q6,r6⟩:=φ5Y s5 (by omega)
    obtain ⟨x7,s7,m7,q7,r7⟩:=φ5Y s6 (by omega)
    obtain ⟨x8,s8,m8,q8,r8⟩:=φ5Y s7 (by omega)
    obtain ⟨x9,s9,m9,q9,r9⟩:=φ5Y s8 (by omega)
    have hw:=φM (show es.length+1<9223372036854775808 by omega)
    have hb:(es.length+([(x5,x6,x7,x8,x9)]:List φC).length) * 48≤140737488355328:=φDN (by omega)
    have hdec:s9.2=false→s9.1.length+1≤u.length:=fun e=>by
     have a9:=r9 e
     have a8:=r8 a9.1
     have a7:=r7 a8.1
     have a6:=r6 a7.1
     have a5:=(r5 a6.1).2
     have a5:s5.1.length+1≤u.length:=a5
     omega
    refine ⟨(s,(0,0,[]),s9,(n2,n3,es++[(x5,x6,x7,x8,x9)]),n4,((es.length+1:Nat):Int)),⟨s9,es++[(x5,x6,x7,x8,x9)],by simp only[lA,κA],by omega,fun e=>by simp only[lA,κA];have:=hdec e;omega,by simp only[lA,κA];omega⟩,?_,?_⟩
    ·simp only[κ3,if_false]
     split
     ·omega
     ·rename_i z
      have:=hdec (by simpa using z)
      omega
    ·simp only[ψk.l0,c,dT,cT,nF,m5,m6,m7,m8,m9,bS,hb,hw])
  ⟨st4,[],rfl,by omega,fun _=>by simp;omega,by simp⟩ (by simp only;split<;>omega)
 obtain ⟨b,eb,st,es,rfl,hes⟩:=key
 unfold ψk.f
 simp only[e1,e2,e3,e4,bS,eb]
 cases c1:st.2 with
 | true=>exact ⟨(φ5r,false),rfl,.inl rfl⟩
 | false=>
  simp only[cF,φ9u (n2,n3,es) (show es.length<1000000000 by omega),bS]
  cases c2:φ2c (n2,n3,es) with
  | false=>exact ⟨(φ5r,false),rfl,.inl rfl⟩
  | true=>
   simp only[nZ,cF,φAZ (n2,n3,es) (show es.length<1000000000 by omega),bS]
   by_cases c3:φ1U (n2,n3,es)=s
   ·have d3:(φ1U (n2,n3,es)==s)=true:=by simpa using c3
    exact ⟨((n2,n3,es),true),by simp only[d3,nZ,cF],.inr ⟨_,rfl,c2,c3⟩⟩
   ·have d3:(φ1U (n2,n3,es)==s)=false:=by simpa using c3
    exact ⟨(φ5r,false),by simp only[d3,nF,cT];rfl,.inl rfl⟩
theorem φD6 {h:φ1H} (k:φ2c h=true):φ1M h.1∧φ1M h.2.1∧h.2.2.length≤20∧∀e∈h.2.2,e.1.length≤8∧φ1M e.2.1∧φ1M e.2.2.1∧φ1M e.2.2.2.1∧φ1M e.2.2.2.2:=by
 unfold φ2c at k
 simp only[bA,decide_eq_true_eq,κR] at k
 obtain ⟨k1,k2,k3,k4⟩:=k
 have hd:=φ3v k4
 refine ⟨⟨k2.1,by omega⟩,⟨k3.1,by omega⟩,hd.1,fun e he=>?_⟩
 have ho:=hd.2 e he
 have hs:=k1 e he
 have hk:=φHP ho
 unfold φ2w at ho
 unfold φ4V at hs
 simp only[bA,decide_eq_true_eq,κO,decide_eq_false_iff_not] at ho hs
 unfold φ1M
 omega
theorem φKB {s:List UInt8} {h:φ1H} (k:φ4O s h):s=fix4 (crcT (φ1w h))++φ1w h∧(fix4 (crcT (φ1w h))).length=4:=by
 refine ⟨?_,φ7A (φ59 _)⟩
 rw[←k.2];unfold φ1U;rw[if_neg (by rw[k.1];simp)]
theorem φDB (e:φC) (r:List UInt8):entT e++r=varT (e.1.length:Int)++(e.1++(varT e.2.1++(varT e.2.2.1++(varT e.2.2.2.1++(varT e.2.2.2.2++r))))):=by
 unfold entT;simp only[aA]
end Go.Rf.G
