import Derived.Test.YtofoicidlhjhiaaGreatDoorLShutLem2
open Option renaming bind_some→bS
open List renaming length_append→lA,append_assoc→aA,mem_cons_of_mem→mC,mem_append→mA,mem_append_right→mR,mem_append_left→mL,mem_cons→mc,drop_eq_getElem_cons→dG,length_take→lT,length_drop→lD,mem_map→mM,length_map→lM,length_cons→lC,length_nil→lN,getElem_mem→gM,map_append→mp,mem_singleton→mZ,mem_cons_self→κ1,take_succ_eq_append_getElem→κ3,length_singleton→κ5,append_nil→κ6,map_cons→κ8,nil_append→κA,drop_zero→κB,take_append_drop→κD,cons_append→κG,foldl_cons→κH,replicate→κI,flatMap_append→κK,nodup_append→κM,all_eq_true→κN,drop_left→κO,take_length→κQ,nodup_cons→κS,range'→κU,pairwise_cons→κZ,not_mem_nil→κc,flatten_cons→κd,foldl_append→κe
open Bool renaming and_eq_true→bA,eq_false_or_eq_true→bE,not_true→nZ,not_false→nF,true_and→tA,not_not→nn,false_eq_true→κ0,true_eq_false→κ7,false_and→κF,or_eq_false_iff→κJ,not_eq_true'→κL,and_true→κP,false_or→κR,or_eq_true→κY
open Int renaming toNat_natCast→tN,ofNat_lt→oL,le_refl→κT
open Nat renaming lt_or_ge→κ2,zero_le→κ4,le_refl→κ9,eq_of_beq_eq_true→κC,lt_of_lt_of_le→κE,zero_add→κV,pow_succ→κW,pow_le_pow_right→κX,mod_eq_of_lt→κb
open Array renaming length_toList→κa
set_option linter.unusedVariables false
set_option linter.unusedSimpArgs false
namespace Go.Rf.G
open Go Go.Rf
set_option synthInstance.maxSize 4000
def sWM (m:Int) (recs:List RecT) (w:φE):φE:=φK (φR (φ0 m)) (sApp (φ0 m) recs (sNew (φ0 m) w))
theorem φ5w (m:Int) (recs:List RecT) {w:φE} (h:φ5 w.1=true):φ5 (sWM m recs w).1=true:=
 φ1j (op:=φR _) (φ79 _ _ (φ42 h _)) fun k=>φ3I k _
theorem φJU (m:Int) (recs:List RecT) (w:φE) (h:φ5 w.1=true) (hr:recs.length<1000000) (hm:0≤m∧m≤100000) :
  ψ26.f (φC w) m recs=some (φy m 0 recs,φC (sNew (φ0 (m+1)) (sWM m recs w))):=by
 have hsn:=φ4C m
 have hsn1:=φ4C (m+1)
 have h1:=φ42 h (φ0 m)
 have h2:=φ79 (φ0 m) recs h1
 have h3:=φ5w m recs h
 unfold ψ26.f
 simp only[φ3b,bS,φGJ w (φ0 m) h (by omega),φKD m recs _ h1 hr,show w64 (m+1)=m+1 from φG (by omega) (by omega)]
 rw[φB3 (φC (sApp (φ0 m) recs (sNew (φ0 m) w))) (φ0 m) (φn h2) (by omega),φ35,bS]
 show (ψ1q.f (φC (sWM m recs w)) (φ0 (m+1))).bind _=_
 rw[φGJ _ _ h3 (by omega)];rfl
def φ27 (m:Int):List φ1C→List φB→φE→List RecT→Int→List φB×φE×List RecT
 | [],dir,w,recs,_=>(dir,w,recs)
 | p::ps,dir,w,recs,a=>if w.2≠0 then (dir,w,recs) else
   φ27 m ps (dir++[(p.1,m,a,((frame (φ9 (φS p))).length:Int),p.2.2)]) (φW (φ0 m) (frame (φ9 (φS p))) w.1) (recs++[φS p]) (a+((frame (φ9 (φS p))).length:Int))
theorem φGp (m:Int):∀(l:List φ1C) (dir:List φB) (w:φE) (recs:List RecT) (a:Int),(φ27 m l dir w recs a).2.1=sApp (φ0 m) (l.map φS) w ∧
  ((φ27 m l dir w recs a).2.1.2=0→(φ27 m l dir w recs a).1=dir++φy m a (l.map φS)∧(φ27 m l dir w recs a).2.2=recs++l.map φS)
 | [],dir,w,recs,a=>⟨rfl,fun _=>by simp[φ27,φy]⟩
 | p::ps,dir,w,recs,a=>by
  unfold φ27
  split
  ·rename_i c
   obtain ⟨d,k⟩:=w
   refine ⟨(φAE _ _ c).symm,fun e=>absurd e c⟩
  ·rename_i c
   have c:w.2=0:=by simpa using c
   obtain ⟨q1,q2⟩:=φGp m ps (dir++[(p.1,m,a,((frame (φ9 (φS p))).length:Int),p.2.2)]) (φW (φ0 m) (frame (φ9 (φS p))) w.1) (recs++[φS p]) (a+((frame (φ9 (φS p))).length:Int))
   refine ⟨?_,fun e=>?_⟩
   ·rw[q1]
    show _=sApp _ (ps.map φS) (φK _ w)
    congr 1
    unfold φK;rw[if_pos c]
   ·obtain ⟨e1,e2⟩:=q2 e
    rw[e1,e2]
    constructor
    ·rw[κ8,φy,if_pos (show (φS p).1=4 from rfl),aA];rfl
    ·rw[κ8,aA];rfl
theorem φKj (m mark:Int) (l:List φ1C) (w:φE) (h:φ5 w.1=true) (hl:l.length<1000000) :
  lp ψ3U.l0 (m,l,mark,([],0,0,false),[],w.1,w.2,[],0,0)=some (m,mark,([],0,0,false),(φ27 m l [] w [] 0).1,(φ27 m l [] w [] 0).2.1.1,(φ27 m l [] w [] 0).2.1.2,(φ27 m l [] w [] 0).2.2):=by
 have hsn:=φ4C m
 have key:=φd (step:=ψ3U.l0) (fun n (a:List φB×φE×List RecT×Nat)=>(m,l,mark,([],0,0,false),a.1,a.2.1.1,a.2.1.2,a.2.2.1,(a.2.2.2:Int),(n:Int))) l.length
  (fun n a=>(m,mark,([],0,0,false),(φ27 m (l.drop n) a.1 a.2.1 a.2.2.1 (a.2.2.2:Int)).1,(φ27 m (l.drop n) a.1 a.2.1 a.2.2.1 (a.2.2.2:Int)).2.1.1,(φ27 m (l.drop n) a.1 a.2.1 a.2.2.1 (a.2.2.2:Int)).2.1.2,(φ27 m (l.drop n) a.1 a.2.1 a.2.2.1 (a.2.2.2:Int)).2.2))
  (fun n a=>φ5 a.2.1.1=true∧a.1.length=n∧a.2.2.1.length=n∧a.2.2.2≤211 * n)
  (fun rec n a hn ha ih=>by
   obtain ⟨dir,⟨x,c⟩,recs,at_⟩:=a
   obtain ⟨ha,hdir,hrecs,hat⟩:=ha
   simp only at ha hdir hrecs hat
   rcases κ2 n l.length with h1 | h1
   ·have hw:=φL (show n+1<9223372036854775808 by omega)
    rw[dG h1]
    simp only[ψ3U.l0,oL,h1,dT,cT,φD,φI,φ8 h1,φ27]
    by_cases c1:c=0
    rotate_left
    ·have d1:(c==0)=false:=by simpa using c1
     simp only[d1,cF,c1,ne_eq,not_false_eq_true,if_true]
    subst c1
    have hf:=φ57 (φ9 (φS l[n]))
    have hsr:=φ3P (φS l[n])
    have hb:∀{α:Type} (x:α),decide ((dir.length+[x].length) * 48≤140737488355328)=true:=fun x=>decide_eq_true (φ3s (by omega))
    have hb2:∀{α:Type} (x:α),decide ((recs.length+[x].length) * 64≤140737488355328)=true:=fun x=>decide_eq_true (φ6n (by omega))
    have ek:ψ3S.f (l[n].1,l[n].2)=some (φS l[n]):=rfl
    have ea:ψ2A.f x (φ0 m) (frame (φ9 (φS l[n])))=some (φW (φ0 m) (frame (φ9 (φS l[n]))) x):=φ8z x (φ0 m) _ (φ1B (φn ha) (by omega)) (by omega)
    have hd:=φ3p ha (φ0 m) (frame (φ9 (φS l[n])))
    have hw2:w64 ((at_:Int)+((frame (φ9 (φS l[n]))).length:Int))=(at_:Int)+((frame (φ9 (φS l[n]))).length:Int):=φG (by omega) (by omega)
    have hcast:((at_+(frame (φ9 (φS l[n]))).length:Nat):Int)=(at_:Int)+((frame (φ9 (φS l[n]))).length:Int):=by omega
    have ih:=ih (dir++[(l[n].1,m,(at_:Int),((frame (φ9 (φS l[n]))).length:Int),l[n].2.2)],φW (φ0 m) (frame (φ9 (φS l[n]))) x,recs++[φS l[n]],at_+(frame (φ9 (φS l[n]))).length) h1 ⟨hd,by rw[lA];show _+1=_;omega,by rw[lA];show _+1=_;omega,by simp only;omega⟩
    simp only at ih
    simp only[beq_self_eq_true,cT,ek,bS,φ6S (φS l[n]),φ6s (φ9 (φS l[n])) (show (φ9 (φS l[n])).length<2 ^ 62 by omega),φ2Q,ea,hb,hb2,hw2,hw,ne_eq,not_true_eq_false,if_false]
    rw[hcast] at ih
    exact ih
   ·have:n=l.length:=by omega
    subst this
    simp[ψ3U.l0,φ27])
  (by omega) 0 ([],w,[],0) (κ4 _) ⟨h,rfl,rfl,κ4 _⟩
 have key:lp ψ3U.l0 (m,l,mark,([],0,0,false),[],w.1,w.2,[],0,0)=_:=key
 rw[key,κB];rfl
theorem φKo (d:φ1) (m:Int) (l:List φ1C) (mark:Int) (h:φ5 d=true) (hl:l.length<1000000) :
  ∃dir,ψ3U.f d m l mark=some ((sWM m (φc l mark) (d,0)).1,dir,told (sWM m (φc l mark) (d,0)).2)∧((sWM m (φc l mark) (d,0)).2=0→dir=φy m 0 (φc l mark)):=by
 have hsn:=φ4C m
 have h1:=φ42 (w:=(d,0)) h (φ0 m)
 have h2:=φ79 (φ0 m) (l.map φS) h1
 obtain ⟨q1,q2⟩:=φGp m l [] (sNew (φ0 m) (d,0)) [] 0
 have hml:(l.map φS).length=l.length:=lM _
 refine ⟨(φ27 m l [] (sNew (φ0 m) (d,0)) [] 0).1,?_,?_⟩
 rotate_left
 ·intro e
  unfold sWM φc at e
  rw[φF7] at e
  rw[←q1] at e
  have:(φ27 m l [] (sNew (φ0 m) (d,0)) [] 0).2.1.2=0:=by
   revert e
   generalize (φ27 m l [] (sNew (φ0 m) (d,0)) [] 0).2.1=w
   obtain ⟨x,c⟩:=w
   intro e
   by_cases c1:c=0
   ·exact c1
   ·rw[φ2L c1,φ2L c1] at e;exact e
  rw[(q2 this).1]
  unfold φc
  rw[φ8I m _ (show ¬(5:Int)=4 by decide),κA]
 unfold ψ3U.f sWM φc
 rw[φF7]
 simp only[φ2Q,bS,φGk d (φ0 m) h (by omega)]
 rw[φKj m mark l (sNew (φ0 m) (d,0)) h1 hl,bS]
 generalize φ27 m l [] (sNew (φ0 m) (d,0)) [] 0=G at *
 obtain ⟨dir,⟨x,c⟩,recs⟩:=G
 simp only at q1 q2 ⊢
 rw[←q1] at h2 ⊢
 by_cases c1:c=0
 rotate_left
 ·have d1:(c==0)=false:=by simpa using c1
  rw[φ2L c1,φ2L c1]
  simp only[d1,cF,bS,φ2T]
 subst c1
 obtain ⟨_,e2⟩:=q2 rfl
 rw[κA] at e2
 subst e2
 have hsl:ψ3x.f (l.map φS) mark 5=some (5,mark,[],[],(l.length:Int),φ1L (l.map φS)):=by
  unfold ψ3x.f
  rw[φ8a _ (by omega),bS,hml]
 have hf:=φ57 (φ9 (5,mark,[],[],(l.length:Int),φ1L (l.map φS)))
 have hsr:=φ3P (5,mark,[],[],(l.length:Int),φ1L (l.map φS))
 have ea:ψ2A.f x (φ0 m) (frame (φ9 (5,mark,[],[],(l.length:Int),φ1L (l.map φS))))=some (φW (φ0 m) (frame (φ9 (5,mark,[],[],(l.length:Int),φ1L (l.map φS)))) x):=φ8z x (φ0 m) _ (φ1B (φn h2) (by omega)) (by omega)
 have h3:=φ3p h2 (φ0 m) (frame (φ9 (5,mark,[],[],(l.length:Int),φ1L (l.map φS))))
 rw[φ22]
 simp only[beq_self_eq_true,cT,hsl,bS,φ6S,φ6s _ (show (φ9 (5,mark,[],[],(l.length:Int),φ1L (l.map φS))).length<2 ^ 62 by omega),ea]
 generalize φW (φ0 m) (frame (φ9 (5,mark,[],[],(l.length:Int),φ1L (l.map φS)))) x=w at *
 obtain ⟨y,c2⟩:=w
 by_cases c3:c2=0
 rotate_left
 ·have d1:(c2==0)=false:=by simpa using c3
  rw[φ2L c3]
  simp only[d1,cF,bS,φ2T]
 subst c3
 have ey:ψ34.f y (φ0 m)=some (φR (φ0 m) y):=φ7F y (φ0 m) (φ1B (φn h3) (by omega))
 rw[φ22]
 simp only[beq_self_eq_true,cT,ey,bS,φ2T]
theorem φN4 (n:List UInt8) (d:φ1):(φ26 n d).2≠2:=by
 unfold φ26 φU
 split
 ·simp
 ·split
  ·simp
  ·unfold φ2X;split<;>simp
theorem φJr (n:List UInt8) (d:φ1):(φH n d).2≠2:=by
 unfold φH;split
 ·exact φN4 n d
 ·simp
theorem φDz (c:Int):told c=2↔c=2:=by
 unfold told;split
 ·rename_i h;subst h;simp
 ·split
  ·rename_i h;subst h;simp
  ·split
   ·rename_i h;simp[h]
   ·rename_i h;simp[h]
noncomputable def φ29 (m:Int) (d:φ1):φE:=
 let f:=φ1k (φJ m) (φ1K (φ19 m (φ2 d (φ0 m)).1).1) (d,0)
 if f.2=2 then φH (φJ m) f.1 else f
noncomputable def φ14 (m:Int) (w:φE):φE:=if w.2≠0 then w else φ29 m w.1
theorem φIt (m:Int) (d:φ1):(φ29 m d).2≠2:=by
 unfold φ29
 simp only
 split
 ·exact φJr _ _
 ·rename_i h;exact h
theorem φ7Q (m:Int) {d:φ1} (h:φ5 d=true):φ5 (φ29 m d).1=true:=by
 have:=φ4g (w:=(d,0)) h (φJ m) (φ1K (φ19 m (φ2 d (φ0 m)).1).1)
 unfold φ29
 simp only
 split
 ·exact φ2Y this _
 ·exact this
theorem φFP (m:Int) {d:φ1} (h:φ5 d=true):(φ2 d (φ0 m)).1.length≤100000∧(φ19 m (φ2 d (φ0 m)).1).1.2.2.length≤100000:=by
 have hl:=φn h
 have h1:=φ4O d (φ0 m) (φ1B hl (by omega))
 have h2:=φBR m (φ2 d (φ0 m)).1
 have:=hl.2.1
 omega
theorem φJC (m:Int) (w:φE) (h:φ5 w.1=true):ψ25.f (φC w) m=some (φC (φ14 m w)):=by
 obtain ⟨d,c⟩:=w
 have h:φ5 d=true:=h
 unfold ψ25.f φ14
 show (bif told c != 0 then _ else _)=_
 rw[φ5G]
 by_cases c1:c=0
 rotate_left
 ·have d1:(c != 0)=true:=by simpa using c1
  simp only[d1,cT,c1,ne_eq,not_false_eq_true,if_true]
 subst c1
 obtain ⟨t1,t2⟩:=φFP m (d:=d) h
 have hn:=φEg m
 have hsl:=φGT (φ19 m (φ2 d (φ0 m)).1).1
 have hd:dlim d:=φ1B (φn h) (by omega)
 simp only[bne_self_eq_false,cF,ne_eq,not_true_eq_false,if_false,φ3b,bS]
 rw[show ψM.f (φC (d,0)).1 (φ0 m)=some (φ2 d (φ0 m)) from φ4T d (φ0 m) hd]
 simp only[bS,φD4 m (φ2 d (φ0 m)).1 (by omega),φ8f,φ9s (φ19 m (φ2 d (φ0 m)).1).1 (by omega)]
 rw[φGC (φC (d,0)) (φJ m) _ (φn h) (by omega),bS,φD0]
 unfold φ29
 have hf:=φ4g (w:=(d,0)) h (φJ m) (φ1K (φ19 m (φ2 d (φ0 m)).1).1)
 simp only
 generalize φ1k (φJ m) (φ1K (φ19 m (φ2 d (φ0 m)).1).1) (d,0)=f at *
 obtain ⟨x,k⟩:=f
 have hf:φ5 x=true:=hf
 show (bif told k==2 then _ else _)=_
 by_cases c2:k=2
 ·subst c2
  have e:ψ1w.f (x,0) (φJ m)=some (φ1P (φH (φJ m)) (x,0)):=φ5f (x,0) (φJ m) (φn hf) (by omega)
  simp only[show (told 2==2)=true from rfl,cT,if_true]
  show (ψ1w.f (x,0) (φJ m)).bind _=_
  rw[e,bS]
  rw[show φ1P (φH (φJ m)) (x,0)=φC (φH (φJ m) x) by unfold φ1P;simp;rfl]
 ·have c3:¬told k=2:=fun e=>c2 ((φDz k).1 e)
  have d3:(told k==2)=false:=by simpa using c3
  simp only[d3,cF,c2,if_false]
def φ45 (m:Int):List (List UInt8):=[[116,101,109,112],φ0 m,φ0 (m+1),φJ m]
def sOld (ids:List Int) (w:φE):φE:=ids.foldl (fun w id=>φi [φ0 id,φJ id] w) w
theorem φJg (ids:List Int):∀{w:φE},φ5 w.1=true→φ5 (sOld ids w).1=true:=by
 induction ids with
 | nil=>intro w h;exact h
 | cons n l ih=>intro w h;exact ih (φ4y [φ0 n,φJ n] h)
theorem φHY (ids:List Int) {d:φ1} {c:Int} (h:c≠0):sOld ids (d,c)=(d,c):=by
 induction ids with
 | nil=>rfl
 | cons n l ih=>show sOld l (φi _ (d,c))=_;rw[φAe _ h,ih]
noncomputable def φ1H (s:φA) (d:φ1) (l:List φ1C):φA×φ1×Int:=
 let m:=s.1.1
 let w1:=sNew (φ0 (m+1)) (sWM m (φc l (s.2.2.1 - 1)) (d,0))
 let w2:=φ14 m w1
 let w3:=if w2.2=0 then φC (sPut (m+2,[m,m+1]) w2) else φC w2
 if w3.2≠0 then (((m+2,s.1.2),s.2),φ1h (φ45 m) w3) else
 (((m+2,[m,m+1]),φy m 0 (φc l (s.2.2.1 - 1)),s.2.2.1,0,0),φC (sOld s.1.2 (w3.1,0)))
theorem φCO (l:List φ1C) (mark:Int):(φc l mark).length=l.length+1:=by unfold φc;simp
theorem φIL (S:φA) (ids:List Int) (w:φE) (h:φ5 w.1=true) (hl:ids.length<1000000) :
  lp ψ11.l0 (S,φC w,ids,(ids.length:Int),0)=some (S,φC (sOld ids w)):=by
 have key:=φ2U (step:=ψ11.l0) ids (fun (w:φE) id=>φi [φ0 id,φJ id] w) (fun n (a:φE)=>(S,φC a,ids,(ids.length:Int),(n:Int))) (fun a=>(S,φC a)) (fun _ a=>φ5 a.1=true) (by omega)
  (fun rec n a h1 ha=>by
   have hw:=φL (show n+1<9223372036854775808 by omega)
   have g1:φ5 (φK (φH (φ0 ids[n])) a).1=true:=φ1j (op:=φH _) ha fun k=>φ2Y k _
   have e1:ψ1w.f (φC a) (φ0 ids[n])=some (φC (φK (φH (φ0 ids[n])) a)):=by rw[φ5f (φC a) _ (φn ha) (by omega),φ35]
   have e2:ψ1w.f (φC (φK (φH (φ0 ids[n])) a)) (φJ ids[n])=some (φC (φK (φH (φJ ids[n])) (φK (φH (φ0 ids[n])) a))):=by rw[φ5f (φC _) _ (φn g1) (by omega),φ35]
   simp only[ψ11.l0,oL,h1,dT,cT,φD,φI,φ8 h1,φ3b,φ8f,e1,e2,bS,hw];rfl)
  (fun n a h1 ha=>φ4y [φ0 ids[n],φJ ids[n]] ha)
  (fun rec a ha=>by simp[ψ11.l0])
  w h
 exact key
theorem φKL (s:φA) (d:φ1) (l:List φ1C) (h:φ5 d=true) (hv:φq s.1=true) (h2:s.1.1+2≤100000) (hb:1≤s.2.2.1∧s.2.2.1≤1000001) (hl:l.length<100000):ψ11.f s (d,0) l=some (φ1H s d l):=by
 obtain ⟨k1,k2,k3,k4⟩:=(φ1A s.1).1 hv
 have hkl:=φCO l (s.2.2.1 - 1)
 have g1:=φ5w s.1.1 (φc l (s.2.2.1 - 1)) (w:=(d,0)) h
 have g2:=φ42 g1 (φ0 (s.1.1+1))
 unfold ψ11.f φ1H
 simp only[show w64 (s.1.1+2)=s.1.1+2 from φG (by omega) (by omega),show w64 (s.1.1+1)=s.1.1+1 from φG (by omega) (by omega),show w64 (s.2.2.1 - 1)=s.2.2.1 - 1 from φG (by omega) (by omega),φJS l (s.2.2.1 - 1) (by omega),bS]
 rw[show ((d,0):φE)=φC (d,0) from rfl,φJU s.1.1 (φc l (s.2.2.1 - 1)) (d,0) h (by omega) (by omega)]
 simp only[bS]
 rw[show φC (d,0)=((d,0):φE) from rfl]
 generalize sNew (φ0 (s.1.1+1)) (sWM s.1.1 (φc l (s.2.2.1 - 1)) (d,0))=w1 at *
 have g3:φ5 (φ14 s.1.1 w1).1=true:=by
  unfold φ14;split
  ·exact g2
  ·exact φ7Q _ g2
 rw[φJC s.1.1 w1 g2,bS]
 generalize φ14 s.1.1 w1=w2 at *
 obtain ⟨x,c⟩:=w2
 have g3:φ5 x=true:=g3
 have g4:=φ4G (w:=(x,0)) g3 (s.1.1+2,[s.1.1,s.1.1+1])
 have e3:(bif (φC (x,c)).2==0 then (ψ20.f (φC (x,c)) (s.1.1+2,[s.1.1,s.1.1+1])).bind fun t6=>some ((((s.1.1+2,s.1.2),s.2):φA),t6,s.1.1,φy s.1.1 0 (φc l (s.2.2.1 - 1)),((s.1.1+2,[s.1.1,s.1.1+1]):φN)) else some (((s.1.1+2,s.1.2),s.2),φC (x,c),s.1.1,φy s.1.1 0 (φc l (s.2.2.1 - 1)),(s.1.1+2,[s.1.1,s.1.1+1]))) =
   some (((s.1.1+2,s.1.2),s.2),(if c=0 then φC (sPut (s.1.1+2,[s.1.1,s.1.1+1]) (x,c)) else φC (x,c)),s.1.1,φy s.1.1 0 (φc l (s.2.2.1 - 1)),(s.1.1+2,[s.1.1,s.1.1+1])):=by
  by_cases c1:c=0
  ·subst c1
   rw[φD2 (φC (x,0)) (s.1.1+2,[s.1.1,s.1.1+1]) (φn g3) (by omega) (by simp),φEP];rfl
  ·have c2:¬told c=0:=fun e=>c1 ((φ1R c).1 e)
   have d2:((φC (x,c)).2==0)=false:=by simpa [φC] using c2
   rw[d2];simp only[cF,c1,if_false]
 rw[e3,bS]
 have g5:φ5 (if c=0 then φC (sPut (s.1.1+2,[s.1.1,s.1.1+1]) (x,c)) else φC (x,c)).1=true:=by
  split
  ·rename_i c1;subst c1;exact g4
  ·exact g3
 simp only
 generalize (if c=0 then φC (sPut (s.1.1+2,[s.1.1,s.1.1+1]) (x,c)) else φC (x,c))=w3 at *
 obtain ⟨y,c3⟩:=w3
 have g5:φ5 y=true:=g5
 by_cases c4:c3=0
 ·subst c4
  simp only[bne_self_eq_false,cF,ne_eq,not_true_eq_false,if_false]
  rw[show ((y,0):φE)=φC (y,0) from rfl,φIL _ s.1.2 (y,0) g5 (by omega)];rfl
 ·have d4:(c3 != 0)=true:=by simpa using c4
  simp only[d4,cT,c4,ne_eq,not_false_eq_true,if_true,φ3b,φ8f,bS,show w64 (s.1.1+1)=s.1.1+1 from φG (by omega) (by omega)]
  rw[φKS (y,c3) [[116,101,109,112],φ0 s.1.1,φ0 (s.1.1+1),φJ s.1.1] g5 (by simp)];rfl
theorem φAj (s:φA) (d:φ1) (m c:Int) (h:φ5 d=true) (hm:0≤m∧m≤100000) (hc:c≠0):ψ3R.f s d m c=some (s,φ1h (φ45 m) (d,c)):=by
 unfold ψ3R.f φ1h
 by_cases c1:c=2
 rotate_left
 ·have d1:(c != 2)=true:=by simpa using c1
  simp only[d1,cT,c1,if_false]
 subst c1
 simp only[bne_self_eq_false,cF,if_true,φ2Q,φ6o,show w64 (m+1)=m+1 from φG (by omega) (by omega),bS]
 rw[φ7x d [[116,101,109,112],φ0 m,φ0 (m+1),φJ m] h (by simp),bS]
 show (bif (φi (φ45 m) (d,0)).2 != 0 then _ else _)=_
 rw[show φi [[116,101,109,112],φ0 m,φ0 (m+1),φJ m] (d,0)=φi (φ45 m) (d,0) from rfl]
 generalize φi (φ45 m) (d,0)=r
 obtain ⟨x,k⟩:=r
 by_cases c2:k=0
 ·subst c2;rfl
 ·have d2:(k != 0)=true:=by simpa using c2
  have c3:¬told k=0:=fun e=>c2 ((φ1R k).1 e)
  have c4:¬(φC (x,k)).2=0:=c3
  simp only[d2,cT,φ2T,bS,c4,if_false];rfl
theorem φJ9 (S:φA) (ids:List Int) (d:φ1) (h:φ5 d=true) (hl:ids.length<1000000) :
  lp ψ3T.l0 (S,((0,[]),[],0,0,0),([],0,0,false),d,ids,0)=some (if (sOld ids (d,0)).2=0 then .inl (S,((0,[]),[],0,0,0),([],0,0,false),(sOld ids (d,0)).1) else .inr (S,(sOld ids (d,0)).1,told (sOld ids (d,0)).2)):=by
 have key:=φd (step:=ψ3T.l0) (fun n (a:φ1)=>(S,((0,[]),[],0,0,0),([],0,0,false),a,ids,(n:Int))) ids.length (fun n a=>if (sOld (ids.drop n) (a,0)).2=0 then .inl (S,((0,[]),[],0,0,0),([],0,0,false),(sOld (ids.drop n) (a,0)).1) else .inr (S,(sOld (ids.drop n) (a,0)).1,told (sOld (ids.drop n) (a,0)).2)) (fun _ a=>φ5 a=true)
  (fun rec n a hn ha ih=>by
   rcases κ2 n ids.length with h1 | h1
   ·have hw:=φL (show n+1<9223372036854775808 by omega)
    have hk:=φ4y [φ0 ids[n],φJ ids[n]] (w:=(a,0)) ha
    rw[dG h1]
    have es:sOld (ids[n]::ids.drop (n+1)) (a,0)=sOld (ids.drop (n+1)) (φi [φ0 ids[n],φJ ids[n]] (a,0)):=rfl
    simp only[es,ψ3T.l0,oL,h1,dT,cT,φD,φI,φ8 h1,φ2Q,φ6o,φ7x a [φ0 ids[n],φJ ids[n]] ha (by simp),bS]
    generalize φi [φ0 ids[n],φJ ids[n]] (a,0)=r at *
    obtain ⟨x,c⟩:=r
    by_cases c1:c=0
    ·subst c1
     simp only[bne_self_eq_false,cF,hw,ih x h1 hk]
    ·have d1:(c != 0)=true:=by simpa using c1
     simp only[d1,cT,φ2T,bS,φHY _ c1,c1,if_false]
   ·have:n=ids.length:=by omega
    subst this
    simp[ψ3T.l0,sOld])
  (by omega) 0 d (κ4 _) h
 have key:lp ψ3T.l0 (S,((0,[]),[],0,0,0),([],0,0,false),d,ids,0)=_:=key
 rw[key,κB]
theorem φ9v (m:Int) (h:1≤m) (h2:m+2≤100000):φq (m+2,[m,m+1])=true:=by
 rw[φ1A]
 refine ⟨?_,by simp only;omega,by simp,by simp⟩
 simp only[φ1a,κP,tA,bA,decide_eq_true_eq]
 rw[φG (by omega) (by omega)]
 omega
theorem φIM (s:φA) (d:φ1) (l:List φ1C) (h:φ5 d=true) (hv:φq s.1=true) (h2:s.1.1+2≤100000) (hb:1≤s.2.2.1∧s.2.2.1≤1000001) (hl:l.length<100000):ψ3T.f s d l=some (φ1H s d l):=by
 obtain ⟨k1,k2,k3,k4⟩:=(φ1A s.1).1 hv
 have hkl:=φCO l (s.2.2.1 - 1)
 have hlv:=φ9v s.1.1 (by omega) h2
 have hsn:=φ4C s.1.1
 have hsn1:=φ4C (s.1.1+1)
 have hhn:=φEg s.1.1
 have g1:=φ5w s.1.1 (φc l (s.2.2.1 - 1)) (w:=(d,0)) h
 obtain ⟨dir,ew,edir⟩:=φKo d s.1.1 l (s.2.2.1 - 1) h (by omega)
 unfold ψ3T.f φ1H
 simp only[show w64 (s.1.1+2)=s.1.1+2 from φG (by omega) (by omega),show w64 (s.1.1+1)=s.1.1+1 from φG (by omega) (by omega),show w64 (s.2.2.1 - 1)=s.2.2.1 - 1 from φG (by omega) (by omega),ew,bS,φ5G]
 generalize sWM s.1.1 (φc l (s.2.2.1 - 1)) (d,0)=w0 at *
 obtain ⟨x0,c0⟩:=w0
 have g1:φ5 x0=true:=g1
 by_cases c1:c0=0
 rotate_left
 ·have d1:(c0 != 0)=true:=by simpa using c1
  have c2:told c0≠0:=fun e=>c1 ((φ1R c0).1 e)
  have e1:φ14 s.1.1 (x0,c0)=(x0,c0):=by unfold φ14;rw[if_pos c1]
  rw[φMU c1,e1]
  simp only[d1,cT,c1,if_false,φAj _ x0 s.1.1 (told c0) g1 (by omega) c2,bS]
  rw[if_pos (show (φC (x0,c0)).2≠0 from c2)];rfl
 subst c1
 have edir:=edir rfl
 subst edir
 have g2:=φ42 (w:=(x0,0)) g1 (φ0 (s.1.1+1))
 simp only[bne_self_eq_false,cF,φ2Q,φGk x0 (φ0 (s.1.1+1)) g1 (by omega),bS]
 generalize sNew (φ0 (s.1.1+1)) (x0,0)=w1 at *
 obtain ⟨x1,c1⟩:=w1
 have g2:φ5 x1=true:=g2
 by_cases c2:c1=0
 rotate_left
 ·have d1:(c1 != 0)=true:=by simpa using c2
  have c3:told c1≠0:=fun e=>c2 ((φ1R c1).1 e)
  have e1:φ14 s.1.1 (x1,c1)=(x1,c1):=by unfold φ14;rw[if_pos c2]
  rw[e1]
  simp only[d1,cT,c2,if_false,φ2T,φAj _ x1 s.1.1 (told c1) g2 (by omega) c3,bS]
  rw[if_pos (show (φC (x1,c1)).2≠0 from c3)];rfl
 subst c2
 obtain ⟨t1,t2⟩:=φFP s.1.1 (d:=x1) g2
 have hsl:=φGT (φ19 s.1.1 (φ2 x1 (φ0 s.1.1)).1).1
 have hd:dlim x1:=φ1B (φn g2) (by omega)
 have g3:=φ7Q s.1.1 g2
 have n2:=φIt s.1.1 x1
 have e1:φ14 s.1.1 (x1,0)=φ29 s.1.1 x1:=by unfold φ14;rw[if_neg (by simp)]
 rw[e1]
 simp only[bne_self_eq_false,cF,φ51 x1 (φ0 s.1.1) hd,bS,φFE s.1.1 (φ2 x1 (φ0 s.1.1)).1 (by omega),φ6o,φAN (φ19 s.1.1 (φ2 x1 (φ0 s.1.1)).1).1 (by omega),φFz x1 (φJ s.1.1) _ (φn g2) (show 100001+1+(φJ s.1.1).length+(φ1K (φ19 s.1.1 (φ2 x1 (φ0 s.1.1)).1).1).length≤1000000000 by omega)]
 have hf:=φ4g (w:=(x1,0)) g2 (φJ s.1.1) (φ1K (φ19 s.1.1 (φ2 x1 (φ0 s.1.1)).1).1)
 have eh:φ29 s.1.1 x1=if (φ1k (φJ s.1.1) (φ1K (φ19 s.1.1 (φ2 x1 (φ0 s.1.1)).1).1) (x1,0)).2=2 then φH (φJ s.1.1) (φ1k (φJ s.1.1) (φ1K (φ19 s.1.1 (φ2 x1 (φ0 s.1.1)).1).1) (x1,0)).1 else φ1k (φJ s.1.1) (φ1K (φ19 s.1.1 (φ2 x1 (φ0 s.1.1)).1).1) (x1,0):=rfl
 generalize φ1k (φJ s.1.1) (φ1K (φ19 s.1.1 (φ2 x1 (φ0 s.1.1)).1).1) (x1,0)=f at *
 obtain ⟨xf,cf⟩:=f
 have hf:φ5 xf=true:=hf
 have e4:(bif cf==2 then (ψ3Q.f xf [φJ s.1.1]).bind fun (t15_0,t15_1)=>some ((((s.1.1+2,s.1.2),s.2):φA),(((0,[]),[],0,0,0):φA),(([],0,0,false):φ1),s.1.1,t15_0,φy s.1.1 0 (φc l (s.2.2.1 - 1)),t15_1) else some (((s.1.1+2,s.1.2),s.2),((0,[]),[],0,0,0),([],0,0,false),s.1.1,xf,φy s.1.1 0 (φc l (s.2.2.1 - 1)),cf)) =
   some (((s.1.1+2,s.1.2),s.2),((0,[]),[],0,0,0),([],0,0,false),s.1.1,(φ29 s.1.1 x1).1,φy s.1.1 0 (φc l (s.2.2.1 - 1)),(φ29 s.1.1 x1).2):=by
  rw[eh]
  by_cases c5:cf=2
  ·subst c5
   rw[φ7x xf [φJ s.1.1] hf (by simp)]
   simp only[beq_self_eq_true,cT,bS,if_true]
   rw[show φi [φJ s.1.1] (xf,0)=φH (φJ s.1.1) xf by show φK (φH (φJ s.1.1)) (xf,0)=_;rw[φ22]]
  ·have d5:(cf==2)=false:=by simpa using c5
   simp only[d5,cF,c5,if_false]
 rw[e4,bS]
 clear e4 eh
 generalize φ29 s.1.1 x1=w2 at *
 obtain ⟨x2,c2⟩:=w2
 have g3:φ5 x2=true:=g3
 have n2:c2≠2:=n2
 by_cases c5:c2=0
 rotate_left
 ·have d1:(c2 != 0)=true:=by simpa using c5
  have c6:told c2≠0:=fun e=>c5 ((φ1R c2).1 e)
  have c7:¬told c2=2:=fun e=>n2 ((φDz c2).1 e)
  simp only[d1,cT,c5,if_false,φ2T,bS]
  rw[if_pos (show (φC (x2,c2)).2≠0 from c6)]
  unfold φ1h
  rw[if_neg (show ¬(φC (x2,c2)).2=2 from c7)];rfl
 subst c5
 have hb0:(([]:List Int).length+s.1.2.length) * 8≤140737488355328:=φ8Z (by omega)
 have g4:=φ4G (w:=(x2,0)) g3 (s.1.1+2,[s.1.1,s.1.1+1])
 have ep:ψ2h.f x2 (s.1.1+2,[s.1.1,s.1.1+1])=some (φC (sPut (s.1.1+2,[s.1.1,s.1.1+1]) (x2,0))):=by
  rw[φBe _ _ (φn g3) (by omega) (by simp)]
  unfold φ71
  rw[if_neg (by rw[hlv,g3];simp)]
 simp only[bne_self_eq_false,cF,if_true,hb0,dT,cT,κA,show w64 (s.1.1+2)=s.1.1+2 from φG (by omega) (by omega),show w64 (s.1.1+1)=s.1.1+1 from φG (by omega) (by omega),ep,bS]
 have g5:φ5 (φC (sPut (s.1.1+2,[s.1.1,s.1.1+1]) (x2,0))).1=true:=g4
 generalize φC (sPut (s.1.1+2,[s.1.1,s.1.1+1]) (x2,0))=w3 at *
 obtain ⟨x3,c3⟩:=w3
 have g5:φ5 x3=true:=g5
 by_cases c6:c3=0
 rotate_left
 ·have d6:(c3 != 0)=true:=by simpa using c6
  simp only[d6,cT,c6,ne_eq,not_false_eq_true,if_true,φAj _ x3 s.1.1 c3 g5 (by omega) c6,bS]
 subst c6
 simp only[bne_self_eq_false,cF,ne_eq,not_true_eq_false,if_false,φJ9 _ s.1.2 x3 g5 (by omega),bS]
 generalize sOld s.1.2 (x3,0)=w4
 obtain ⟨x4,c4⟩:=w4
 by_cases c7:c4=0
 ·subst c7;rfl
 ·simp only[c7,if_false,φZ];rfl
theorem φ6b {c:CurT} (h:Cur c) (l:List Int) (hl:0<l.length):∃x c',ψ3i.f c l=some (x,c')∧x∈l∧Cur c':=by
 obtain ⟨x,c',e,h1,h2,_,h'⟩:=φ3t h (l.length:Int)
 have h2:=h2 (by omega)
 unfold ψ3i.f
 obtain ⟨n,rfl⟩:∃n:Nat,x=(n:Int):=⟨x.toNat,by omega⟩
 have hn:n<l.length:=by omega
 simp only[e,bS,φD,hn,dT,cT,φI,φ8 hn]
 exact ⟨_,_,rfl,gM hn,h'⟩
theorem φLY (d:φ1) (h:d.1.length<1000000000):ψ2v.f d d=some true:=by
 have key:=φ41 (step:=ψ2v.l0) d.1 (fun _=>true) (fun n=>(d,d,(n:Int))) () (by omega)
  (fun rec n h1=>by
   have hw:=φL (show n+1<9223372036854775808 by omega)
   simp only[ψ2v.l0,oL,h1,dT,cT,φD,φI,φ8 h1,beq_self_eq_true,Bool.and_self,nZ,cF,hw,if_true])
  (fun rec=>by simp[ψ2v.l0])
 have key:lp ψ2v.l0 (d,d,0)=_:=key
 unfold ψ2v.f
 have hall:d.1.all (fun _=>true)=true:=by simp
 rw[key,hall]
 simp only[bne_self_eq_false,cF,beq_self_eq_true,nZ,if_true,bS,φT]
theorem φCq {α:Type} {l:List (List UInt8×α)} (h:srt l) {i j:Nat} (hi:i<l.length) (hj:j<l.length) (e:l[i].1=l[j].1):i=j:=by
 unfold srt at h
 rw[List.pairwise_iff_getElem] at h
 rcases Nat.lt_trichotomy i j with c | c | c
 ·have:=h i j hi hj c;rw[e,φ4w] at this;simp at this
 ·exact c
 ·have:=h j i hj hi c;rw[e,φ4w] at this;simp at this
theorem φ3i {d:φ1} (h:φ5 d=true) {f:φ6} (hf:f∈d.1):φ2 d f.1=(f.2.1,true):=by
 have hs:=((φ3h d).1 h).2.2.2.2.2
 unfold φ2
 rw[if_neg (by rw[h];simp)]
 rcases φ12 d.1 f.1 with ⟨e,hno⟩ | ⟨i,hi,e,hn⟩
 ·exact absurd rfl (hno f hf)
 ·rw[φ17 e]
  obtain ⟨j,hj,ej⟩:=List.getElem_of_mem hf
  have:i=j:=φCq hs hi hj (by rw[hn,ej])
  subst this
  simp only
  rw[φ8 hi,ej]
theorem φIQ {d:φ1} {n:List UInt8} (h:∀f∈d.1,f.1≠n):(φ2 d n).2=false:=by
 unfold φ2
 split
 ·rfl
 ·rcases φ12 d.1 n with ⟨e,hno⟩ | ⟨i,hi,e,hn⟩
  ·rw[φ1D e]
  ·exact absurd hn (h _ (gM hi))
def φ2Z (n:List UInt8) (z:Int) (d:φ1):φ1×Int:=φU d (φ3Y n z)
theorem φ5z {d:φ1} {act:List φ6→Int×List φ6} (h:(φU d act).2=0):φ5 d=true∧(act d.1).1=0∧(φU d act).1=((act d.1).2,(tick d).2):=by
 unfold φU at h ⊢
 split at h
 ·simp at h
 rename_i c
 split at h
 ·simp at h
 rename_i c2
 rw[if_neg c,if_neg c2]
 exact ⟨by simpa using c,h,rfl⟩
theorem φ7q {d:φ1} {n t:List UInt8} (h:(φW n t d).2=0):(φ2 d n).2=true∧φ2 (φW n t d).1 n=((φ2 d n).1++t,true):=by
 obtain ⟨k,ha,hx⟩:=φ5z h
 have hk:φ5 (φW n t d).1=true:=φ3p k n t
 have hx:(φW n t d).1=_:=hx
 unfold φ2e at ha hx
 rcases φ12 d.1 n with ⟨e,_⟩ | ⟨i,hi,e,hn⟩
 ·rw[φ1D e] at ha;simp at ha
 rw[φ17 e] at ha hx
 simp only at ha hx
 split at ha
 ·simp at ha
 rename_i c
 rw[if_neg c,φ8 hi] at hx
 have e1:=φ3i k (gM hi)
 rw[hn] at e1
 have hm:((n,d.1[i].2.1++t,d.1[i].2.2):φ6)∈(φW n t d).1.1:=by
  rw[hx,←hn]
  exact List.mem_iff_getElem.2 ⟨i,by simpa using hi,by simp⟩
 have e2:=φ3i hk hm
 rw[e1]
 exact ⟨rfl,e2⟩
theorem φJx {d:φ1} {n:List UInt8} (h:(φ26 n d).2=0):(φ2 (φ26 n d).1 n).2=false:=by
 obtain ⟨k,ha,hx⟩:=φ5z h
 have hx:(φ26 n d).1=_:=hx
 unfold φ2X at ha hx
 rcases φ12 d.1 n with ⟨e,_⟩ | ⟨i,hi,e,hn⟩
 ·rw[φ1D e] at ha;simp at ha
 rw[φ17 e] at hx
 simp only at hx
 apply φIQ
 rw[hx]
 intro f hf
 have:=φAu hi (φ6G k) f hf
 rw[hn] at this
 exact this
theorem φK7 {d:φ1} {a b:List UInt8} (h:(φ36 a b d).2=0):φ2 (φ36 a b d).1 b=((φ2 d a).1,true):=by
 obtain ⟨k,ha,hx⟩:=φ5z h
 have hk:φ5 (φ36 a b d).1=true:=φBE k a b
 have hx:(φ36 a b d).1=_:=hx
 unfold φ33 at ha hx
 split at ha
 ·simp at ha
 rename_i c
 rw[if_neg c] at hx
 rcases φ12 d.1 a with ⟨e,_⟩ | ⟨i,hi,e,hn⟩
 ·rw[φ1D e] at ha;simp at ha
 rw[φ17 e] at hx
 simp only at hx
 have e1:=φ3i k (gM hi)
 rw[hn] at e1
 rw[e1]
 have hm:((b,d.1[i].2):φ6)∈(φ36 a b d).1.1:=by
  rw[hx]
  simp only
  split
  ·rename_i c2
   rw[←c2,←hn];exact gM hi
  ·rw[φ3j,φ8 hi];exact .inl rfl
 exact φ3i hk hm
theorem φDN:∀(l:List φB) (p:Option (List UInt8)),φ2P p l=true→(∀q,p=some q→∀x∈l,Op.bytesLess q x.1=true)∧srt l
 | [],p,_=>⟨fun _ _ x hx=>by simp at hx,List.Pairwise.nil⟩
 | e::l,p,h=>by
  simp only[φ2P,bA] at h
  obtain ⟨h1,h2⟩:=φDN l (some e.1) h.2.2
  refine ⟨fun q hq x hx=>?_,List.Pairwise.cons (h1 e.1 rfl) h2⟩
  subst hq
  have hqe:Op.bytesLess q e.1=true:=h.2.1
  rcases mc.1 hx with c | hx
  ·rw[c];exact hqe
  ·exact φ7T _ _ _ hqe (h1 e.1 rfl x hx)
theorem φ5T {l:List φB} (h:φ1m l=true):srt l:=by
 unfold φ1m at h
 simp only[bA] at h
 exact (φDN l none h.1).2
theorem φG6 {l:List φB} (h:srt l) {e:φB} (he:e∈l):φ3L l e.1=(e,true):=by
 unfold φ3L
 have hf:(l.find? fun x=>x.1==e.1)=some e:=by
  induction l with
  | nil=>simp at he
  | cons x l ih=>
   have h2:=κZ.1 h
   rw[List.find?_cons]
   rcases mc.1 he with c | he
   ·subst c;simp
   ·have:(x.1==e.1)=false:=by simpa using φ5x (h2.1 e he)
    rw[this]
    exact ih h2.2 he
 rw[hf]
theorem φGY {s:φA} {d:φ1} (h:φs s d=true):∀e∈s.2.1,φ1t d s.2.2.1 e=true:=by
 unfold φs at h
 simp only[bA,κN] at h
 exact h.2.2.2.2.2
theorem φJY {s:φA} {d:φ1} (h:φs s d=true) {e:φB} (he:e∈s.2.1):(getP s d e.1).2=0∧(getP s d e.1).1.1=e.1:=by
 obtain ⟨q1,q2,q3,q4,q5⟩:=φ5H h
 have hs:=φ5T q3
 have k:=φGY h e he
 unfold φ1t at k
 simp only[bA,κY,beq_iff_eq] at k
 unfold getP
 rw[φG6 hs he]
 simp only[κ7,if_false]
 rw[if_pos ⟨k.1,k.2.1,k.2.2.1⟩]
 exact ⟨rfl,rfl⟩
theorem φFu {s:φA} {d:φ1}:∀(l:List φB) (acc:List φ1C),(∀e∈l,(getP s d e.1).2=0)→φ1Y s d l acc=(acc++l.map fun e=>(getP s d e.1).1,0)
 | [],acc,_=>by simp[φ1Y]
 | e::r,acc,h=>by
  unfold φ1Y
  rw[if_neg (by rw[h e κ1];simp),φFu r _ fun x hx=>h x (mC _ hx)]
  simp
theorem φLD {s:φA} {d:φ1} (h:φs s d=true):φV s d=(s.2.1.map fun e=>(getP s d e.1).1,0):=by
 unfold φV
 rw[φFu s.2.1 [] fun e he=>(φJY h he).1]
 simp
theorem φAk (n:Int) (h:0≤n∧n≤100000):φ5 (([],n,-1,false):φ1)=true:=by
 rw[φ3h];exact ⟨h,(show (-1:Int)≤-1∧(-1:Int)≤100000 by decide),(show 0≤130 by decide),h.1,by simp,List.Pairwise.nil⟩
theorem φ8j {d:φ1} {n:List UInt8} (h:∀f∈d.1,f.1≠n):φ2 d n=([],false):=by
 unfold φ2
 split
 ·rfl
 ·rcases φ12 d.1 n with ⟨e,hno⟩ | ⟨i,hi,e,hn⟩
  ·rw[φ1D e]
  ·exact absurd hn (h _ (gM hi))
theorem φKH {d e:φ1} (hd:φ5 d=true) (he:φ5 e=true) (n:List UInt8) (hm:∀t,(∃s,((n,t,s):φ6)∈d.1)↔∃s,((n,t,s):φ6)∈e.1):φ2 e n=φ2 d n:=by
 by_cases c:∃t s,((n,t,s):φ6)∈d.1
 ·obtain ⟨t,s,hs⟩:=c
  obtain ⟨s',hs'⟩:=(hm t).1 ⟨s,hs⟩
  have e1:=φ3i hd hs
  have e2:=φ3i he hs'
  exact e2.trans e1.symm
 ·have h1:∀f∈d.1,f.1≠n:=fun f hf e=>c ⟨f.2.1,f.2.2,by rw[←e];exact hf⟩
  have h2:∀f∈e.1,f.1≠n:=fun f hf e'=>by
   obtain ⟨s,hs⟩:=(hm f.2.1).2 ⟨f.2.2,by rw[←e'];exact hf⟩
   exact c ⟨_,_,hs⟩
  rw[φ8j h1,φ8j h2]
theorem φ6D {d:φ1} {act:List φ6→Int×List φ6} (h:φ5 d=true) (hk:φ5 (φU d act).1=true) (n:List UInt8) (hm:∀t,(∃s,((n,t,s):φ6)∈d.1)↔∃s,((n,t,s):φ6)∈(act d.1).2):φ2 (φU d act).1 n=φ2 d n:=by
 refine φKH h hk n fun t=>?_
 have hx:(φU d act).1.1=d.1∨(φU d act).1.1=(act d.1).2:=by
  unfold φU
  split
  ·exact .inl rfl
  ·split
   ·exact .inl rfl
   ·exact .inr rfl
 rcases hx with e | e
 ·rw[e]
 ·rw[e];exact hm t
theorem φ66 {l:List φ6} {i:Nat} (hi:i<l.length) {f:φ6} (hf:f.1=l[i].1) {x:φ6} (hx:x.1≠l[i].1):x∈l.set i f↔x∈l:=by
 constructor
 ·intro h
  rcases List.mem_or_eq_of_mem_set h with h | e
  ·exact h
  ·rw[e] at hx;exact absurd hf hx
 ·intro h
  obtain ⟨j,hj,e⟩:=List.getElem_of_mem h
  have hij:i≠j:=fun c=>by subst c;rw[e] at hx;exact hx rfl
  exact List.mem_iff_getElem.2 ⟨j,by simpa using hj,by rw[List.getElem_set,if_neg hij];exact e⟩
theorem φ6g {l:List φ6} {i:Nat} (hi:i<l.length) {x:φ6} (hx:x.1≠l[i].1):x∈φo l i↔x∈l:=by
 constructor
 ·intro h;exact (φ5L l i).subset h
 ·intro h
  rw[φ81 hi] at h
  unfold φo
  rcases mA.1 h with h | h
  ·exact mL _ h
  ·rcases mc.1 h with e | h
   ·rw[e] at hx;exact absurd rfl hx
   ·exact mR _ h
theorem φFG {d:φ1} (h:φ5 d=true) {m n:List UInt8} (hne:n≠m):φ2 (φ26 m d).1 n=φ2 d n:=by
 refine φ6D h (φ9M h m) n fun t=>?_
 unfold φ2X
 rcases φ12 d.1 m with ⟨e,_⟩ | ⟨i,hi,e,hn⟩
 ·rw[φ1D e]
 ·rw[φ17 e]
  simp only
  constructor
  ·rintro ⟨s,hs⟩;exact ⟨s,(φ6g hi (by rw[hn];exact hne)).2 hs⟩
  ·rintro ⟨s,hs⟩;exact ⟨s,(φ6g hi (by rw[hn];exact hne)).1 hs⟩
theorem φ4j {d:φ1} (h:φ5 d=true) {m n:List UInt8} (hne:n≠m):φ2 (φH m d).1 n=φ2 d n:=by
 unfold φH;split
 ·exact φFG h hne
 ·rfl
theorem φ9c {d:φ1} (h:φ5 d=true) {m n:List UInt8} (hne:n≠m):φ2 (φY m d).1 n=φ2 d n:=by
 refine φ6D h (φ39 h m) n fun t=>?_
 unfold φ2q
 split
 ·exact Iff.rfl
 split
 ·exact Iff.rfl
 split
 ·exact Iff.rfl
 ·constructor
  ·rintro ⟨s,hs⟩;exact ⟨s,(φ3j _ _ _).2 (.inr hs)⟩
  ·rintro ⟨s,hs⟩
   rcases (φ3j _ _ _).1 hs with e | hs
   ·exact absurd (congrArg (·.1) e) hne
   ·exact ⟨s,hs⟩
theorem φ6u {d:φ1} (h:φ5 d=true) {m n t0:List UInt8} (hne:n≠m):φ2 (φW m t0 d).1 n=φ2 d n:=by
 refine φ6D h (φ3p h m t0) n fun t=>?_
 unfold φ2e
 rcases φ12 d.1 m with ⟨e,_⟩ | ⟨i,hi,e,hn⟩
 ·rw[φ1D e]
 ·rw[φ17 e]
  simp only
  split
  ·exact Iff.rfl
  ·rw[φ8 hi]
   constructor
   ·rintro ⟨s,hs⟩;exact ⟨s,(φ66 (f:=(d.1[i].1,d.1[i].2.1++t0,d.1[i].2.2)) hi rfl (by rw[hn];exact hne)).2 hs⟩
   ·rintro ⟨s,hs⟩;exact ⟨s,(φ66 (f:=(d.1[i].1,d.1[i].2.1++t0,d.1[i].2.2)) hi rfl (by rw[hn];exact hne)).1 hs⟩
theorem φ2g {d:φ1} (h:φ5 d=true) (m n:List UInt8):φ2 (φR m d).1 n=φ2 d n:=by
 refine φ6D h (φ3I h m) n fun t=>?_
 unfold φ2b
 rcases φ12 d.1 m with ⟨e,_⟩ | ⟨i,hi,e,hn⟩
 ·rw[φ1D e]
 ·rw[φ17 e]
  simp only
  rw[φ8 hi]
  by_cases hne:n=m
  ·subst hne
   have hs:=((φ3h d).1 h).2.2.2.2.2
   have uniq:∀t s,((n,t,s):φ6)∈d.1→d.1[i]=(n,t,s):=fun t s hx=>by
    obtain ⟨j,hj,ej⟩:=List.getElem_of_mem hx
    have:i=j:=φCq hs hi hj (by rw[hn,ej])
    subst this;exact ej
   constructor
   ·rintro ⟨s,hx⟩
    refine ⟨(d.1[i].2.1.length:Int),List.mem_iff_getElem.2 ⟨i,by simpa using hi,?_⟩⟩
    rw[List.getElem_set_self,uniq t s hx]
   ·rintro ⟨s,hx⟩
    rcases List.mem_or_eq_of_mem_set hx with hx | e
    ·exact ⟨s,hx⟩
    ·have e1:t=d.1[i].2.1:=congrArg (·.2.1) e
     refine ⟨d.1[i].2.2,?_⟩
     rw[e1,←hn];exact gM hi
  ·constructor
   ·rintro ⟨s,hs⟩;exact ⟨s,(φ66 (f:=(d.1[i].1,d.1[i].2.1,(d.1[i].2.1.length:Int))) hi rfl (by rw[hn];exact hne)).2 hs⟩
   ·rintro ⟨s,hs⟩;exact ⟨s,(φ66 (f:=(d.1[i].1,d.1[i].2.1,(d.1[i].2.1.length:Int))) hi rfl (by rw[hn];exact hne)).1 hs⟩
theorem φDR {l:List φ6} {b:List UInt8} {x:φ6} (hx:x.1≠b):x∈φ1l l b↔x∈l:=by
 unfold φ1l
 rcases φ12 l b with ⟨e,_⟩ | ⟨i,hi,e,hn⟩
 ·rw[φ1D e]
 ·rw[φ17 e];exact φ6g hi (by rw[hn];exact hx)
theorem φIR {d:φ1} (h:φ5 d=true) {a b n:List UInt8} (h1:n≠a) (h2:n≠b):φ2 (φ36 a b d).1 n=φ2 d n:=by
 refine φ6D h (φBE h a b) n fun t=>?_
 unfold φ33
 split
 ·exact Iff.rfl
 rcases φ12 d.1 a with ⟨e,_⟩ | ⟨i,hi,e,hn⟩
 ·rw[φ1D e]
 ·rw[φ17 e]
  simp only
  split
  ·exact Iff.rfl
  ·constructor
   ·rintro ⟨s,hs⟩;exact ⟨s,(φ3j _ _ _).2 (.inr ((φDR h2).2 ((φ6g hi (by rw[hn];exact h1)).2 hs)))⟩
   ·rintro ⟨s,hs⟩
    rcases (φ3j _ _ _).1 hs with e | hs
    ·exact absurd (congrArg (·.1) e) h2
    ·exact ⟨s,(φ6g hi (by rw[hn];exact h1)).1 ((φDR h2).1 hs)⟩
theorem φ2d {w:φE} {op:φ1→φ1×Int} {n:List UInt8} (ho:φ2 (op w.1).1 n=φ2 w.1 n):φ2 (φK op w).1 n=φ2 w.1 n:=by
 unfold φK;split
 ·exact ho
 ·rfl
theorem φ6R {w:φE} (h:φ5 w.1=true) {m n:List UInt8} (hne:n≠m):φ2 (sNew m w).1 n=φ2 w.1 n:=by
 have h1:φ5 (φK (φH m) w).1=true:=φ1j (op:=φH m) h fun k=>φ2Y k m
 unfold sNew
 rw[φ2d (op:=φY m) (φ9c h1 hne),φ2d (op:=φH m) (φ4j h hne)]
theorem φ4v {w:φE} (h:φ5 w.1=true) {m n t:List UInt8} (hne:n≠m):φ2 (φ1k m t w).1 n=φ2 w.1 n:=by
 have h2:φ5 (sNew m w).1=true:=φ42 h m
 have h3:φ5 (φK (φW m t) (sNew m w)).1=true:=φ1j (op:=φW m t) h2 fun k=>φ3p k m t
 show φ2 (φK (φR m) (φK (φW m t) (sNew m w))).1 n=_
 rw[φ2d (op:=φR m) (φ2g h3 m n),φ2d (op:=φW m t) (φ6u h2 hne),φ6R h hne]
abbrev φ2F:List UInt8:=[116,101,109,112]
abbrev φl:List UInt8:=[108,105,118,101]
theorem φ6c {w:φE} (h:φ5 w.1=true) (v:φN) {n:List UInt8} (h1:n≠φ2F) (h2:n≠φl):φ2 (sPut v w).1 n=φ2 w.1 n:=by
 have h3:=φ4g h φ2F (φ10 v)
 unfold sPut
 rw[φ2d (op:=φ36 φ2F φl) (φIR h3 h1 h2),φ4v h h1]
theorem φ8S {n:List UInt8}:∀(names:List (List UInt8)) {w:φE},φ5 w.1=true→(∀m∈names,n≠m)→φ2 (φi names w).1 n=φ2 w.1 n
 | [],w,_,_=>rfl
 | m::l,w,h,hne=>by
  have h1:φ5 (φK (φH m) w).1=true:=φ1j (op:=φH m) h fun k=>φ2Y k m
  show φ2 (φi l (φK (φH m) w)).1 n=_
  rw[φ8S l h1 fun x hx=>hne x (mC _ hx),φ2d (op:=φH m) (φ4j h (hne m κ1))]
theorem φ8h {names:List (List UInt8)} {w:φE} {n:List UInt8} (h:φ5 w.1=true) (hne:∀m∈names,n≠m):φ2 (φ1h names w).1 n=φ2 w.1 n:=by
 have:=φ8S (n:=n) names (w:=(w.1,0)) h hne
 unfold φ1h;split
 ·split
  ·exact this
  ·exact this
 ·rfl
theorem φG4 {d:φ1} {n:List UInt8} (h:(φY n d).2=0):φ2 (φY n d).1 n=([],true):=by
 obtain ⟨k,ha,hx⟩:=φ5z h
 have hk:φ5 (φY n d).1=true:=φ39 k n
 have hx:(φY n d).1=_:=hx
 unfold φ2q at ha hx
 split at ha
 ·simp at ha
 rename_i c1
 rw[if_neg c1] at hx
 split at ha
 ·simp at ha
 rename_i c2
 rw[if_neg c2] at hx
 split at ha
 ·simp at ha
 rename_i c3
 rw[if_neg c3] at hx
 have hm:((n,[],0):φ6)∈(φY n d).1.1:=by rw[hx];exact (φ3j _ _ _).2 (.inl rfl)
 exact φ3i hk hm
theorem φAT:∀(k a b:Nat),a<k→Lib.decDigits a=Lib.decDigits b→a=b
 | 0,a,b,h,_=>by omega
 | k+1,a,b,h,e=>by
  have last:∀n:Nat,(Lib.decDigits n).getLast?=some (UInt8.ofNat (48+n % 10)):=fun n=>by
   by_cases c:n<10
   ·rw[Lib.decDigits_one c,κb c];rfl
   ·have:=φ44 (n:=n) (by omega)
    unfold digs at this
    rw[if_neg (by omega),if_neg (by omega)] at this
    rw[this];simp
  have hm:a % 10=b % 10:=by
   have h1:=last a
   rw[e,last b] at h1
   have h2:UInt8.ofNat (48+b % 10)=UInt8.ofNat (48+a % 10):=Option.some.inj h1
   have h3:=congrArg UInt8.toNat h2
   simp only[UInt8.toNat_ofNat'] at h3
   omega
  by_cases ca:a<10
  ·by_cases cb:b<10
   ·omega
   ·exfalso
    have:=φ44 (n:=b) (by omega)
    unfold digs at this
    rw[if_neg (by omega),if_neg (by omega)] at this
    rw[this,Lib.decDigits_one ca] at e
    have hl:=congrArg List.length e
    have h0:0<(Lib.decDigits (b / 10)).length:=by
     cases hd:Lib.decDigits (b / 10) with
     | nil=>have:=last (b / 10);rw[hd] at this;simp at this
     | cons x l=>simp
    simp only[lA,lC,lN] at hl
    omega
  ·by_cases cb:b<10
   ·exfalso
    have:=φ44 (n:=a) (by omega)
    unfold digs at this
    rw[if_neg (by omega),if_neg (by omega)] at this
    rw[this,Lib.decDigits_one cb] at e
    have hl:=congrArg List.length e
    have h0:0<(Lib.decDigits (a / 10)).length:=by
     cases hd:Lib.decDigits (a / 10) with
     | nil=>have:=last (a / 10);rw[hd] at this;simp at this
     | cons x l=>simp
    simp only[lA,lC,lN] at hl
    omega
   ·have e1:=φ44 (n:=a) (by omega)
    have e2:=φ44 (n:=b) (by omega)
    unfold digs at e1 e2
    rw[if_neg (by omega),if_neg (by omega)] at e1 e2
    rw[e1,e2] at e
    have:=(List.append_inj' e rfl).1
    have:=φAT k (a / 10) (b / 10) (by omega) this
    omega
theorem φ3x {i j:Int} (hi:1≤i∧i≤100000) (hj:1≤j∧j≤100000) (h:φ0 i=φ0 j):i=j:=by
 unfold φ0 φ1y at h
 rw[if_pos hi,if_pos hj] at h
 have:=φAT (i.toNat+1) i.toNat j.toNat (by omega) (List.append_cancel_left h)
 omega
theorem φ4K (i:Int):φ0 i≠φ2F:=by
 unfold φ0 φ1y
 split
 ·intro h;have:=congrArg List.head? h;simp at this
 ·simp
theorem φ2W (i:Int):φ0 i≠φl:=by
 unfold φ0 φ1y
 split
 ·intro h;have:=congrArg List.head? h;simp at this
 ·simp
theorem φ43 (i j:Int) (hi:1≤i∧i≤100000):φ0 i≠φJ j:=by
 unfold φ0 φJ φ1y
 rw[if_pos hi]
 split
 ·intro h;have:=congrArg List.head? h;simp at this
 ·simp
theorem φAy {m n:List UInt8} (hne:n≠m):∀(recs:List RecT) {w:φE},φ5 w.1=true→φ2 (sApp m recs w).1 n=φ2 w.1 n
 | [],w,_=>rfl
 | r::l,w,h=>by
  have h1:φ5 (φK (φW m (frame (φ9 r))) w).1=true:=φ1j (op:=φW m _) h fun k=>φ3p k m _
  show φ2 (sApp m l (φK _ w)).1 n=_
  rw[φAy hne l h1,φ2d (op:=φW m _) (φ6u h hne)]
theorem φAC {s:φA} {d:φ1} (h:φ5 d=true):((rotP s d).1.1.1=s.1.1∧∀n,φ2 (rotP s d).2.1 n=φ2 d n) ∨
  ((rotP s d).1.1.1=s.1.1+1∧s.1.1<100000∧∀n,n≠φ0 s.1.1→n≠φ2F→n≠φl→φ2 (rotP s d).2.1 n=φ2 d n):=by
 have hs:=φ3I h (actN s)
 have hg:=φ2Y hs (φ0 s.1.1)
 have hc:φ5 (φK (φY (φ0 s.1.1)) (φH (φ0 s.1.1) (φR (actN s) d).1)).1=true:=φ1j (op:=φY _) hg fun k=>φ39 k _
 have f1:∀n,φ2 (φR (actN s) d).1 n=φ2 d n:=fun n=>φ2g h _ n
 have f2:∀n,n≠φ0 s.1.1→φ2 (φK (φY (φ0 s.1.1)) (φH (φ0 s.1.1) (φR (actN s) d).1)).1 n=φ2 d n:=fun n hn=>by
  rw[φ2d (op:=φY _) (φ9c hg hn),φ4j hs hn,f1]
 unfold rotP
 split
 ·exact .inl ⟨rfl,fun _=>rfl⟩
 rename_i c1
 simp only[not_or,Nat.not_le,Int.not_le] at c1
 split
 ·exact .inl ⟨rfl,f1⟩
 simp only
 split
 ·exact .inr ⟨rfl,c1.2,fun n h1 _ _=>f2 n h1⟩
 have hp:=φ4G (w:=((φK (φY (φ0 s.1.1)) (φH (φ0 s.1.1) (φR (actN s) d).1)).1,0)) hc (s.1.1+1,s.1.2++[s.1.1])
 have f3:∀n,n≠φ0 s.1.1→n≠φ2F→n≠φl→φ2 (sPut (s.1.1+1,s.1.2++[s.1.1]) ((φK (φY (φ0 s.1.1)) (φH (φ0 s.1.1) (φR (actN s) d).1)).1,0)).1 n=φ2 d n:=fun n h1 h2 h3=>by
  rw[φ6c (w:=((φK (φY (φ0 s.1.1)) (φH (φ0 s.1.1) (φR (actN s) d).1)).1,0)) hc _ h2 h3]
  exact f2 n h1
 split
 ·refine .inr ⟨rfl,c1.2,fun n h1 h2 h3=>?_⟩
  show φ2 (φ1h _ _).1 n=_
  rw[φ8h (w:=φC _) hp (fun m hm=>by
   simp only[mc,κc,or_false] at hm
   rcases hm with rfl | rfl
   ·exact h2
   ·exact h1)]
  exact f3 n h1 h2 h3
 ·exact .inr ⟨rfl,c1.2,f3⟩
theorem φA4 {v:φN} (h:φq v=true):1≤φF v.2∧φF v.2<v.1∧φF v.2≤100000:=by
 obtain ⟨k1,k2,k3,k4⟩:=(φ1A v).1 h
 rw[φG (by omega) (by omega)] at k1
 have hm:φF v.2∈v.2:=by
  unfold φF
  rw[φ8 (show v.2.length - 1<v.2.length by omega)]
  exact gM _
 have:=φ3c _ _ k1 _ hm
 omega
theorem φ6K {n:List UInt8}:∀(ids:List Int) {w:φE},φ5 w.1=true→(∀id∈ids,n≠φ0 id∧n≠φJ id)→φ2 (sOld ids w).1 n=φ2 w.1 n
 | [],w,_,_=>rfl
 | i::l,w,h,hne=>by
  have h1:=φ4y [φ0 i,φJ i] h
  show φ2 (sOld l (φi [φ0 i,φJ i] w)).1 n=_
  rw[φ6K l h1 fun x hx=>hne x (mC _ hx),φ8S _ h (fun m hm=>by
   simp only[mc,κc,or_false] at hm
   have:=hne i κ1
   rcases hm with rfl | rfl
   ·exact this.1
   ·exact this.2)]
theorem φ7H {v:φN} (h:φq v=true):v.2≠[]:=fun e=>by
 have:=((φ1A v).1 h).2.2.1
 rw[e] at this;simp at this
theorem φLr {d d':φ1} {b:Int} {e:φB} (hf:φ2 d' (φ0 e.2.1)=φ2 d (φ0 e.2.1)):φ1t d' b e=φ1t d b e:=by
 unfold φ1t;rw[hf]
theorem φ90:scan []=([],0):=by
 have:=φ8i (s:=[])
 exact this
theorem φGU {d d':φ1} {z:Int} {m:Int} (hm:φ2 d' (φ0 m)=([],true)):∀(ids:List Int),(∀id∈ids,φ2 d' (φ0 id)=φ2 d (φ0 id))→φ1b d z ids=true→φ1b d' 0 (ids++[m])=true
 | [],_,_=>by
  show (φ4S d' 0 true m && true)=true
  unfold φ4S
  rw[hm]
  simp only[φ90]
  simp
 | x::l,hf,h=>by
  unfold φ1b at h
  simp only[bA] at h
  have ih:=φGU hm l (fun id hi=>hf id (mC _ hi)) h.2
  rw[κG]
  unfold φ1b
  rw[ih,κP]
  have hx:=h.1
  unfold φ4S at hx ⊢
  rw[hf x κ1]
  simp only[bA] at hx ⊢
  refine ⟨hx.1,hx.2.1,?_⟩
  have:(l++[m]).isEmpty=false:=by cases l<;>rfl
  rw[this];rfl
theorem φAa {s:φA} {d:φ1} (h:φ5 d=true) (hc:(rotP s d).2.2=0):(rotP s d).1=((s.1.1+1,s.1.2++[s.1.1]),s.2.1,s.2.2.1,0,s.2.2.2.2)∧φ2 (rotP s d).2.1 (φ0 s.1.1)=([],true)∧s.1.2.length<60∧s.1.1<100000:=by
 have hs:=φ3I h (actN s)
 have hg:=φ2Y hs (φ0 s.1.1)
 have hd:φ5 (φK (φY (φ0 s.1.1)) (φH (φ0 s.1.1) (φR (actN s) d).1)).1=true:=φ1j (op:=φY _) hg fun k=>φ39 k _
 unfold rotP at hc ⊢
 split at hc
 ·exact absurd hc (show ¬(5:Int)=0 by decide)
 rename_i c1
 split at hc
 ·rename_i c2;exact absurd ((φ1R _).1 hc) c2
 rename_i c2
 simp only at hc
 split at hc
 ·rename_i c3;exact absurd ((φ1R _).1 hc) c3
 rename_i c3
 split at hc
 ·rename_i c4
  exfalso
  revert hc
  unfold φ1h
  simp only
  split
  ·split
   ·simp
   ·rename_i c5;exact c5
  ·exact c4
 rename_i c4
 rw[if_neg c1,if_neg c2]
 simp only
 rw[if_neg c3,if_neg c4]
 simp only[not_or,Nat.not_le,Int.not_le] at c1
 refine ⟨rfl,?_,c1.1,c1.2⟩
 have c3:(φK (φY (φ0 s.1.1)) (φH (φ0 s.1.1) (φR (actN s) d).1)).2=0:=by simpa using c3
 show φ2 (sPut _ _).1 _=_
 rw[φ6c (w:=((φK (φY (φ0 s.1.1)) (φH (φ0 s.1.1) (φR (actN s) d).1)).1,0)) hd _ (φ4K _) (φ2W _)]
 show φ2 (φK (φY (φ0 s.1.1)) (φH (φ0 s.1.1) (φR (actN s) d).1)).1 _=_
 generalize φH (φ0 s.1.1) (φR (actN s) d).1=g at *
 obtain ⟨x,k⟩:=g
 by_cases hk:k=0
 ·subst hk
  rw[φ22] at c3 ⊢
  exact φG4 c3
 ·rw[φ2L hk] at c3;exact absurd c3 hk
theorem φMX {s:φA} {d:φ1} (hk:φs s d=true) (hx:∀e∈s.2.1,e.2.1≠s.1.1):(∀e∈s.2.1,φ2 (rotP s d).2.1 (φ0 e.2.1)=φ2 d (φ0 e.2.1))∧∀id∈s.1.2,φ2 (rotP s d).2.1 (φ0 id)=φ2 d (φ0 id):=by
 obtain ⟨q1,q2,q3,q4,q5⟩:=φ5H hk
 obtain ⟨k1,k2,k3,k4⟩:=(φ1A s.1).1 q2
 rw[φG (by omega) (by omega)] at k1
 have key:∀i:Int,1≤i∧i≤100000→i≠s.1.1→φ2 (rotP s d).2.1 (φ0 i)=φ2 d (φ0 i):=fun i hi hne=>by
  rcases φAC (s:=s) q1 with ⟨_,e2⟩ | ⟨_,_,e2⟩
  ·exact e2 _
  ·exact e2 _ (fun hh=>hne (φ3x hi (by omega) hh)) (φ4K i) (φ2W i)
 refine ⟨fun e he=>key _ ?_ (hx e he),fun id hi=>key _ ?_ ?_⟩
 ·have:=(φ46 q3).2 e he
  unfold φ2m at this
  simp only[bA,decide_eq_true_eq] at this
  exact this.2.1
 ·have:=φ3c _ _ k1 id hi;omega
 ·have:=φ3c _ _ k1 id hi;omega
theorem φF3 {s:φA} {d:φ1} (hk:φs s d=true) (hx:∀e∈s.2.1,e.2.1≠s.1.1) (hc:(rotP s d).2.2=0):φs (rotP s d).1 (rotP s d).2.1=true∧segN (rotP s d).2.1 ((rotP s d).1.1.2.take 60)=segN d (s.1.2.take 60):=by
 obtain ⟨q1,q2,q3,q4,q5⟩:=φ5H hk
 obtain ⟨k1,k2,k3,k4⟩:=(φ1A s.1).1 q2
 obtain ⟨r1,r2,r3,r4,r5,r6⟩:=φ9D q1 q2
 obtain ⟨f1,f2⟩:=φMX hk hx
 obtain ⟨e1,e2,e3,e4⟩:=φAa q1 hc
 have hent:=φGY hk
 constructor
 ·unfold φs
  have h5:=φGU (d:=d) (z:=s.2.2.2.1) e2 s.1.2 f2 q5
  rw[e1] at *
  simp only[bA,decide_eq_true_eq,κN]
  refine ⟨r1,φBT q2 e3 e4,q3,q4,h5,fun e he=>?_⟩
  rw[φLr (f1 e he)]
  exact hent e he
 ·rw[e1]
  simp only
  have t1:s.1.2.take 60=s.1.2:=List.take_of_length_le (by omega)
  have t2:(s.1.2++[s.1.1]).take 60=s.1.2++[s.1.1]:=List.take_of_length_le (by simp;omega)
  rw[t1,t2]
  unfold segN
  rw[φEM]
  simp only[e2,lN,Nat.add_zero]
  generalize s.1.2=l at f2
  induction l with
  | nil=>rfl
  | cons x l ih=>
   simp only[sumN]
   rw[f2 x κ1,ih fun id hi=>f2 id (mC _ hi)]
theorem φ7l {t:List UInt8} (h:t.length≤200):frame t=fix4 (crcT (varT (t.length:Int)++t))++(varN t.length++t)∧(fix4 (crcT (varT (t.length:Int)++t))).length=4:=by
 unfold frame
 rw[if_neg (by omega),φ55 t.length (by omega)]
 exact ⟨rfl,φ78 (φ5A _)⟩
theorem φ6x {t:List UInt8} (h:t.length≤200) (r:List UInt8):φP (frame t++r)=(t,((frame t).length:Int)):=by
 obtain ⟨e,h4⟩:=φ7l h
 have hb:=φ7m 7 true t.length (t++r) (by omega) (by simp) (by omega)
 generalize hC:fix4 (crcT (varT (t.length:Int)++t))=C at *
 have hl:(frame t).length=4+(varN t.length).length+t.length:=by rw[e];simp only[lA,h4];omega
 have e1:(frame t++r).drop 4=varN t.length++(t++r):=by
  rw[e,aA,←h4,κO,aA]
 have e2:(frame t++r).take (4+(varN t.length).length+t.length)=frame t:=by rw[←hl,List.take_left]
 have e3:(frame t).drop (4+(varN t.length).length)=t:=by
  rw[e,show C++(varN t.length++t)=(C++varN t.length)++t by rw[aA],show 4+(varN t.length).length=(C++varN t.length).length by rw[lA,h4],κO]
 unfold φP
 rw[if_neg (by rw[lA];omega),e1,hb]
 simp only
 rw[if_neg (by rw[lA];omega),e2,e3,if_pos rfl,hl]
theorem φBo {s:List UInt8} (h:(φP s).2≠0):∃t r,s=frame t++r∧t.length≤200∧φP s=(t,((frame t).length:Int)):=by
 have key:∃t r,s=frame t++r∧t.length≤200:=by
  unfold φP at h
  split at h
  ·exact absurd rfl h
  split at h
  ·exact absurd rfl h
  rename_i n k hr
  split at h
  ·exact absurd rfl h
  rename_i c
  split at h
  ·rename_i c2
   refine ⟨_,s.drop (4+k+n),by rw[c2,κD],?_⟩
   rw[lD,lT];omega
  ·exact absurd rfl h
 obtain ⟨t,r,e,hl⟩:=key
 exact ⟨t,r,e,hl,by rw[e];exact φ6x hl r⟩
theorem φ9H {t:List UInt8} (h:t.length≤200):5≤(frame t).length:=by
 obtain ⟨e,h4⟩:=φ7l h
 have:=(φ93 6 t.length (by omega)).1
 rw[e];simp only[lA,h4];omega
theorem φIY {s:List UInt8} {r q:RecT} (h:φ2s s r) (k:φ2s s q):r=q:=by
 have a:=φA9 h
 rw[φA9 k] at a
 simp only[Option.some.injEq,Prod.mk.injEq,and_true] at a
 exact a.symm
theorem φ9a {r:RecT} (h:φe r=true):φ1T (φ9 r)=(r,true):=by
 rcases φ77 (φ9 r) with ⟨_,e⟩ | ⟨q,e,hq⟩
 ·exact absurd ⟨r,h,rfl⟩ e
 ·rw[e,φIY hq ⟨h,rfl⟩]
def fr (r:RecT):List UInt8:=frame (φ9 r)
def txt (rs:List RecT):List UInt8:=(rs.map fr).flatten
theorem φ7I (r:RecT):5≤(fr r).length∧(fr r).length≤71:=by
 have h:=φ3P r
 refine ⟨φ9H (by omega),?_⟩
 obtain ⟨e,h4⟩:=φ7l (t:=φ9 r) (by omega)
 have:=(φ93 0 (φ9 r).length (by omega)).2
 unfold fr
 rw[e];simp only[lA,h4];omega
theorem φ3Q (r:RecT) (rs:List RecT):txt (r::rs)=fr r++txt rs:=rfl
theorem φAx (rs:List RecT) (r:RecT):txt (rs++[r])=txt rs++fr r:=by unfold txt;simp
theorem φHs (rs qs:List RecT):txt (rs++qs)=txt rs++txt qs:=by unfold txt;simp
theorem φDd:∀(rs:List RecT) (p:List UInt8),(∀r∈rs,φe r=true)→(φ2E (p++txt rs) p.length).2=p.length+(txt rs).length
 | [],p,_=>by
  have:p++txt []=p:=by simp[txt]
  rw[this,φ8i];simp[txt]
 | r::rs,p,h=>by
  have hs:=φ3P r
  have hb:=φ6x (t:=φ9 r) (by omega) (txt rs)
  have hd:(p++txt (r::rs)).drop p.length=frame (φ9 r)++txt rs:=by rw[κO];rfl
  have hl:=φ7I r
  rw[φ5b (n:=(fr r).length) (by rw[hd,hb];rfl) hl.1 (by rw[φ3Q];simp only[lA];omega) (by rw[hd,hb];simp only;rw[φ9a (h r κ1)])]
  have ih:=φDd rs (p++fr r) (fun x hx=>h x (mC _ hx))
  rw[aA,lA] at ih
  show (φ2E (p++(fr r++txt rs)) (p.length+(fr r).length)).2=_
  rw[ih,φ3Q,lA];omega
theorem φCg {rs:List RecT} (h:∀r∈rs,φe r=true):(scan (txt rs)).2=(txt rs).length:=by
 have:=φDd rs [] h
 simpa [scan] using this
theorem φLt:∀(k:Nat) (s:List UInt8) (a:Nat),a≤s.length→s.length - a=k→(φ2E s a).2=s.length→∃rs:List RecT,(∀r∈rs,φe r=true)∧s.drop a=txt rs:=by
 intro k
 induction k using Nat.strongRecOn with
 | ind k ih=>
  intro s a ha hk hw
  by_cases c:(φP (s.drop a)).2=0∨(φ1T (φP (s.drop a)).1).2=false
  ·rw[φ4p ha c] at hw
   have hw:a=s.length:=hw
   exact ⟨[],by simp,by rw[hw,List.drop_length];rfl⟩
  ·have c1:(φP (s.drop a)).2≠0:=fun e=>c (.inl e)
   have hr:(φ1T (φP (s.drop a)).1).2=true:=by
    cases e:(φ1T (φP (s.drop a)).1).2 with
    | true=>rfl
    | false=>exact absurd (.inr e) c
   obtain ⟨t,r,e1,e2,e3⟩:=φBo c1
   have h5:=φ9H e2
   have hlen:a+(frame t).length≤s.length:=by
    have:(s.drop a).length=(frame t++r).length:=by rw[←e1]
    rw[lD,lA] at this;omega
   rw[φ5b (n:=(frame t).length) (by rw[e3]) h5 hlen hr] at hw
   obtain ⟨rs,g1,g2⟩:=ih (s.length - (a+(frame t).length)) (by omega) s (a+(frame t).length) hlen rfl hw
   have hd:s.drop (a+(frame t).length)=r:=by rw[←List.drop_drop,e1,κO]
   rw[e3] at hr
   rcases φ77 t with ⟨z,_⟩ | ⟨q,z,hq⟩
   ·rw[z] at hr;simp at hr
   ·refine ⟨q::rs,?_,?_⟩
    ·intro x hx
     rcases mc.1 hx with rfl | hx
     ·exact hq.1
     ·exact g1 x hx
    ·rw[e1,φ3Q,←g2,hd]
     show _=frame (φ9 q)++r
     rw[hq.2]
def φ2R (s:List UInt8):Prop:=(scan s).2=s.length
theorem φ8Q (s:List UInt8):φ2R s↔∃rs:List RecT,(∀r∈rs,φe r=true)∧s=txt rs:=by
 constructor
 ·intro h
  obtain ⟨rs,h1,h2⟩:=φLt s.length s 0 (κ4 _) rfl h
  exact ⟨rs,h1,by simpa using h2⟩
 ·rintro ⟨rs,h1,rfl⟩
  exact φCg h1
theorem φDg:φ2R []:=(φ8Q []).2 ⟨[],by simp,rfl⟩
theorem φJo {s:List UInt8} {r:RecT} (h:φ2R s) (hr:φe r=true):φ2R (s++fr r):=by
 obtain ⟨rs,h1,rfl⟩:=(φ8Q s).1 h
 refine (φ8Q _).2 ⟨rs++[r],?_,(φAx rs r).symm⟩
 intro x hx
 rcases mA.1 hx with hx | hx
 ·exact h1 x hx
 ·rw[mZ.1 hx];exact hr
theorem φEh {s:List UInt8} {a n:Int} (t:List UInt8) (h:(φ1G s a n).2=true):φ1G (s++t) a n=φ1G s a n:=by
 unfold φ1G at h ⊢
 split at h
 ·rename_i c
  rw[if_pos c,if_pos (show 0≤a∧a≤((s++t).length:Int)∧1≤n∧n≤((s++t).length:Int) - a by rw[lA];omega)]
  rw[show (s++t).take (a+n).toNat=s.take (a+n).toNat from List.take_append_of_le_length (by omega)]
 ·simp at h
theorem φEs (s:List UInt8) {r:RecT} (h:φe r=true):φ1G (s++fr r) (s.length:Int) ((fr r).length:Int)=(r,true):=by
 have hl:=φ7I r
 have hs:=φ3P r
 unfold φ1G
 rw[if_pos (by rw[lA];omega)]
 have e1:((s.length:Int)+((fr r).length:Int)).toNat=(s++fr r).length:=by rw[lA];omega
 rw[e1,κQ,tN,κO]
 have hb:=φ6x (t:=φ9 r) (by omega) []
 rw[κ6] at hb
 rw[show φP (fr r)=_ from hb]
 show (if ((fr r).length:Int)=((fr r).length:Int) then φ1T (φ9 r) else _)=_
 rw[if_pos rfl]
 exact φ9a h
theorem φ7i (x:Int):φF [x]=x:=rfl
theorem φ7t (x y:Int) (l:List Int):φF (x::y::l)=φF (y::l):=by
 unfold φF
 simp only[lC,Nat.add_sub_cancel]
 rfl
theorem φ4a:∀{l:List Int},l≠[]→φF l∈l
 | [],h=>absurd rfl h
 | [x],_=>by simp[φ7i]
 | x::y::l,_=>by rw[φ7t];exact mC _ (φ4a (by simp))
theorem φIi (l:List Int) (x:Int):φF (l++[x])=x:=by
 unfold φF;simp
theorem φ2f {d:φ1} {z:Int}:∀(ids:List Int),φ1b d z ids=true↔(∀id∈ids,(φ2 d (φ0 id)).2=true∧φ2R (φ2 d (φ0 id)).1)∧(ids≠[]→z=((φ2 d (φ0 (φF ids))).1.length:Int))
 | []=>by simp[φ1b]
 | [x]=>by
  unfold φ1b φ4S φ1b φ2R
  simp only[List.isEmpty_nil,nZ,κR,κP,bA,decide_eq_true_eq,mZ,forall_eq,φ7i]
  constructor
  ·rintro ⟨h1,h2,h3⟩;exact ⟨⟨h1,h2⟩,fun _=>h3⟩
  ·rintro ⟨⟨h1,h2⟩,h3⟩;exact ⟨h1,h2,h3 (by simp)⟩
 | x::y::l=>by
  have ih:=φ2f (d:=d) (z:=z) (y::l)
  unfold φ1b φ4S
  rw[bA,ih]
  simp only[List.isEmpty_cons,nF,Bool.true_or,κP,bA,decide_eq_true_eq,φ7t]
  constructor
  ·rintro ⟨⟨h1,h2⟩,h3,h4⟩
   refine ⟨fun id hid=>?_,fun _=>h4 (by simp)⟩
   rcases mc.1 hid with rfl | hid
   ·exact ⟨h1,h2⟩
   ·exact h3 id hid
  ·rintro ⟨h3,h4⟩
   exact ⟨h3 x κ1,fun id hid=>h3 id (mC _ hid),fun _=>h4 (by simp)⟩
noncomputable def φ1O (d:φ1) (e:φB):RecT×Bool:=φ1G (φ2 d (φ0 e.2.1)).1 e.2.2.1 e.2.2.2.1
theorem φ3E {d:φ1} {b:Int} {e:φB}:φ1t d b e=true↔(φ1O d e).2=true∧((φ1O d e).1.1=1∨(φ1O d e).1.1=4)∧(φ1O d e).1.2.2.1=e.1∧(φ1O d e).1.2.1=e.2.2.2.2∧e.2.2.2.2<b:=by
 unfold φ1t φ1O
 simp only[bA,κY,beq_iff_eq,κL,decide_eq_false_iff_not,ge_iff_le,Int.not_le]
def φ2u (m:Int) (d d':φ1):Prop:=∀e:φB,1≤e.2.1→e.2.1<m→(φ1O d e).2=true→φ1O d' e=φ1O d e
theorem φ2u.trans {m m':Int} {d d' d'':φ1} (h:φ2u m d d') (h':φ2u m' d' d'') (hm:m≤m'):φ2u m d d'':=fun e h1 h2 h3=>by
 have k:=h e h1 h2 h3
 rw[h' e h1 (by omega) (by rw[k];exact h3),k]
def φ4H (s:φA):Prop:=∀e∈s.2.1,e.2.1<s.1.1
theorem φ15 {s:φA} {d:φ1}:φs s d=true↔φ5 d=true∧φq s.1=true∧φ1m s.2.1=true∧(1≤s.2.2.1∧s.2.2.1≤1000001)∧φ1b d s.2.2.2.1 s.1.2=true∧∀e∈s.2.1,φ1t d s.2.2.1 e=true:=by
 unfold φs
 simp only[bA,decide_eq_true_eq,κN]
theorem φAW {l:List φB} (h:φ1m l=true) {e:φB} (he:e∈l):1≤e.2.1∧e.2.1≤100000:=by
 have:=(φ46 h).2 e he
 unfold φ2m at this
 simp only[bA,decide_eq_true_eq] at this
 exact this.2.1
theorem φ7O {s:φA} {d d':φ1} {m b':Int} (h:φs s d=true) (hk:φ2u m d d') (hm:∀e∈s.2.1,e.2.1<m) (hb:s.2.2.1≤b'):∀e∈s.2.1,φ1t d' b' e=true:=fun e he=>by
 obtain ⟨q1,q2,q3,q4,q5,q6⟩:=φ15.1 h
 have k:=φ3E.1 (q6 e he)
 have:=hk e (φAW q3 he).1 (hm e he) k.1
 rw[φ3E,this]
 exact ⟨k.1,k.2.1,k.2.2.1,k.2.2.2.1,by omega⟩
theorem φFq {s:φA} {d:φ1} (hk:φ5 d=true) (hm:s.1.1≤100000):φ2u s.1.1 d (rotP s d).2.1:=fun e h1 h2 h3=>by
 unfold φ1O
 rcases φAC (s:=s) hk with ⟨_,e2⟩ | ⟨_,_,e2⟩
 ·rw[e2]
 ·rw[e2 _ (fun hh=>by have:=φ3x (by omega) (by omega) hh;omega) (φ4K _) (φ2W _)]
theorem φCd {s:φA} {d:φ1} {r:RecT} (h:φs s d=true) (hr:φe r=true) (hc:(φW (actN s) (fr r) d).2=0) :
  φs (s.1,s.2.1,s.2.2.1,s.2.2.2.1+((fr r).length:Int),s.2.2.2.2) (φW (actN s) (fr r) d).1=true∧φ2u 100001 d (φW (actN s) (fr r) d).1 ∧
  ∀k b,φ1O (φW (actN s) (fr r) d).1 (k,φF s.1.2,s.2.2.2.1,((fr r).length:Int),b)=(r,true):=by
 obtain ⟨q1,q2,q3,q4,q5,q6⟩:=φ15.1 h
 obtain ⟨k1,k2,k3,k4⟩:=(φ1A s.1).1 q2
 rw[φG (by omega) (by omega)] at k1
 obtain ⟨g1,g2⟩:=(φ2f _).1 q5
 have hne:s.1.2≠[]:=φ7H q2
 have g2:=g2 hne
 obtain ⟨a1,a2⟩:=φ7q hc
 have hl:=φA4 q2
 have a2:φ2 (φW (actN s) (fr r) d).1 (φ0 (φF s.1.2))=((φ2 d (φ0 (φF s.1.2))).1++fr r,true):=a2
 have hoth:∀id,1≤id∧id≤100000→id≠φF s.1.2→φ2 (φW (actN s) (fr r) d).1 (φ0 id)=φ2 d (φ0 id):=fun id h1 h2=>
  φ6u q1 (fun hh=>h2 (φ3x h1 ⟨hl.1,hl.2.2⟩ hh))
 have hkeep:φ2u 100001 d (φW (actN s) (fr r) d).1:=fun e h1 h2 h3=>by
  unfold φ1O at h3 ⊢
  by_cases c:e.2.1=φF s.1.2
  ·rw[c] at h3 ⊢;rw[a2];exact φEh _ h3
  ·rw[hoth _ ⟨h1,by omega⟩ c]
 have hents:∀e∈s.2.1,φ1t (φW (actN s) (fr r) d).1 s.2.2.1 e=true:=φ7O h hkeep (fun e he=>by have:=φAW q3 he;omega) (κT _)
 refine ⟨φ15.2 ⟨φ3p q1 _ _,q2,q3,q4,?_,hents⟩,hkeep,fun k b=>?_⟩
 ·refine (φ2f _).2 ⟨fun id hid=>?_,fun _=>?_⟩
  ·have hm:=φ3c _ _ k1 id hid
   by_cases c:id=φF s.1.2
   ·rw[c,a2];exact ⟨rfl,φJo (g1 _ (φ4a hne)).2 hr⟩
   ·rw[hoth id (by omega) c];exact g1 id hid
  ·show s.2.2.2.1+_=_
   rw[a2,g2];simp
 ·unfold φ1O
  show φ1G (φ2 _ (φ0 (φF s.1.2))).1 s.2.2.2.1 _=_
  rw[a2,g2]
  exact φEs _ hr
structure NewOk (d:φ1) (m:Int) (r:RecT) (e:φB):Prop where
 key:e.1=r.2.2.1
 at_:φ1O d e=(r,true)
 seg:1≤e.2.1∧e.2.1<m∧e.2.1≤100000
 off:0≤e.2.2.1
 len:1≤e.2.2.2.1∧e.2.2.2.1≤210
 bat:e.2.2.2.2=r.2.1
theorem NewOk.keep {d d':φ1} {m m':Int} {r:RecT} {e:φB} (h:NewOk d m r e) (hk:φ2u m d d') (hm:m≤m'):NewOk d' m' r e:=
 ⟨h.key,by rw[hk e h.seg.1 h.seg.2.1 (by rw[h.at_]),h.at_],⟨h.seg.1,by have:=h.seg.2.1;omega,h.seg.2.2⟩,h.off,h.len,h.bat⟩
structure AddOk (s:φA) (d:φ1) (s':φA) (d':φ1):Prop where
 ok:φs s' d'=true
 dir:s'.2.1=s.2.1
 bat:s'.2.2.1=s.2.2.1
 nxt:s.1.1≤s'.1.1
 kp:φ2u s.1.1 d d'
theorem AddOk.lt {s:φA} {d:φ1} {s':φA} {d':φ1} (h:AddOk s d s' d') (hl:φ4H s):φ4H s':=fun e he=>by
 rw[h.dir] at he
 have:=hl e he
 have:=h.nxt
 omega
theorem AddOk.trans {s:φA} {d:φ1} {s':φA} {d':φ1} {s'':φA} {d'':φ1} (h:AddOk s d s' d') (k:AddOk s' d' s'' d''):AddOk s d s'' d'':=
 ⟨k.ok,by rw[k.dir,h.dir],by rw[k.bat,h.bat],by have:=h.nxt;have:=k.nxt;omega,h.kp.trans k.kp h.nxt⟩
theorem φJw {s:φA} {d:φ1} (t:List UInt8) (h:φs s d=true) (hl:φ4H s) (hc:(addR s d t).2.2=0):AddOk s d (addR s d t).1 (addR s d t).2.1:=by
 obtain ⟨q1,q2,q3,q4,q5,q6⟩:=φ15.1 h
 have k:=(φ1A s.1).1 q2
 unfold addR at hc ⊢
 split
 ·rename_i c
  rw[if_pos c] at hc
  obtain ⟨r1,r2,r3,r4,r5,r6⟩:=φ9D q1 q2
  have hr:=φF3 h (fun e he=>by have:=hl e he;omega) hc
  have hn:=φAa q1 hc
  exact ⟨hr.1,r3,r4,by rw[hn.1];show s.1.1≤s.1.1+1;omega,φFq q1 k.2.1.2⟩
 ·exact ⟨h,rfl,rfl,κT _,fun e _ _ _=>rfl⟩
theorem φI7 {s:φA} {d:φ1} {r:RecT} (h:φs s d=true) (hl:φ4H s) (hr:φe r=true) (hc:(addP s d r).2.2.1=0) :
  AddOk s d (addP s d r).1 (addP s d r).2.1∧NewOk (addP s d r).2.1 (addP s d r).1.1.1 r (addP s d r).2.2.2:=by
 have hR:=φJw (frame (φ9 r)) h hl
 have hf:=φ7I r
 unfold addP at hc ⊢
 generalize addR s d (frame (φ9 r))=R at *
 simp only at hc ⊢
 by_cases c:R.2.2=0
 rotate_left
 ·rw[if_pos c] at hc;exact absurd hc c
 rw[if_neg (by simpa using c)] at hc ⊢
 have hR:=hR c
 have hA:=φCd hR.ok hr
 by_cases c2:(φW (actN R.1) (frame (φ9 r)) R.2.1).2=0
 rotate_left
 ·rw[if_pos c2] at hc;exact absurd ((φ1R _).1 hc) c2
 rw[if_neg (by simpa using c2)]
 obtain ⟨a1,a2,a3⟩:=hA c2
 obtain ⟨q1,q2,q3,q4,q5,q6⟩:=φ15.1 hR.ok
 have k:=(φ1A _).1 q2
 have hll:=φA4 q2
 have hg:=φDm hR.ok
 exact ⟨hR.trans ⟨a1,rfl,rfl,κT _,fun e h1 h2 h3=>a2 e h1 (by omega) h3⟩,⟨rfl,a3 _ _,⟨hll.1,hll.2.1,hll.2.2⟩,hg.s0,by show 1≤((fr r).length:Int)∧((fr r).length:Int)≤210;omega,rfl⟩⟩
theorem φEG:∀(rs:List RecT) (s:φA) (d:φ1),φs s d=true→φ4H s→(∀r∈rs,φe r=true)→(φX rs s d).2.2.1=0 →
  AddOk s d (φX rs s d).1 (φX rs s d).2.1∧(φX rs s d).2.2.2.length=rs.length∧∀p∈rs.zip (φX rs s d).2.2.2,NewOk (φX rs s d).2.1 (φX rs s d).1.1.1 p.1 p.2
 | [],s,d,h,hl,_,_=>⟨⟨h,rfl,rfl,κT _,fun _ _ _ _=>rfl⟩,rfl,fun p hp=>by simp at hp⟩
 | r::rs,s,d,h,hl,hr,hc=>by
  have hA:=φI7 h hl (hr r κ1)
  unfold φX at hc ⊢
  by_cases c:(addP s d r).2.2.1=0
  rotate_left
  ·rw[if_pos c] at hc;exact absurd hc c
  rw[if_neg (by simpa using c)] at hc ⊢
  obtain ⟨a1,a2⟩:=hA c
  obtain ⟨b1,b2,b3⟩:=φEG rs _ _ a1.ok (a1.lt hl) (fun x hx=>hr x (mC _ hx)) hc
  refine ⟨a1.trans b1,by simp[b2],fun p hp=>?_⟩
  simp only[List.zip_cons_cons] at hp
  rcases mc.1 hp with rfl | hp
  ·exact a2.keep b1.kp b1.nxt
  ·exact b3 p hp
def mapG {α β:Type} (g:α→β) (l:List (List UInt8×α)):List (List UInt8×β):=l.map fun x=>(x.1,g x.2)
theorem φA1 {α β:Type} (g:α→β) (k:List UInt8):∀l:List (List UInt8×α),mapG g (φp l k)=φp (mapG g l) k
 | []=>rfl
 | x::l=>by
  have ih:=φA1 g k l
  unfold mapG φp at *
  simp only[List.filter_cons,κ8]
  by_cases c:x.1=k
  ·simp only[c,beq_self_eq_true,nZ,κ0,if_false];exact ih
  ·have:(x.1==k)=false:=by simpa using c
   simp only[this,nF,if_true,κ8];rw[ih]
theorem φCA {α β:Type} (g:α→β) (p:List UInt8×α):∀l:List (List UInt8×α),mapG g (insB l p)=insB (mapG g l) (p.1,g p.2)
 | []=>rfl
 | x::l=>by
  have ih:=φCA g p l
  show mapG g (insB (x::l) p)=insB ((x.1,g x.2)::mapG g l) (p.1,g p.2)
  rw[φ5u,φ5u]
  simp only
  split
  ·show (x.1,g x.2)::mapG g (insB l p)=_
   rw[ih]
  ·rfl
theorem φ7g {β:Type} (g:Int×Int×Int×Int→β) (v:PutT→β):∀(l:List (PutT×φB)) (dir:List φB),(∀p∈l,p.2.1=p.1.1∧(p.1.2.1=false→g p.2.2=v p.1)) →
  mapG g (dirW dir l)=(l.map (·.1)).foldl (fun a p=>if p.2.1=true then φp a p.1 else insB (φp a p.1) (p.1,v p)) (mapG g dir)
 | [],dir,_=>rfl
 | p::l,dir,h=>by
  have ih:=φ7g g v l (φ2O dir p) (fun q hq=>h q (mC _ hq))
  obtain ⟨h1,h2⟩:=h p κ1
  show mapG g (dirW (φ2O dir p) l)=(l.map (·.1)).foldl _ _
  rw[ih]
  congr 1
  show mapG g (φ2O dir p)=if p.1.2.1=true then φp (mapG g dir) p.1.1 else insB (φp (mapG g dir) p.1.1) (p.1.1,v p.1)
  unfold φ2O
  by_cases c:p.1.2.1=true
  ·rw[if_pos c,if_pos c,φA1]
  ·rw[if_neg c,if_neg c,φCA,φA1,h1,h2 (by simpa using c)]
theorem φIJ (dir:List φB) (l:List (PutT×φB)) (h:∀p∈l,p.2.1=p.1.1):(dirW dir l).length=(dirW dir ((l.map (·.1)).zip ((l.map (·.1)).map φ4d))).length:=by
 have e1:=φ7g (fun _=>()) (fun _=>()) l dir (fun p hp=>⟨h p hp,fun _=>rfl⟩)
 have e2:=φ7g (fun _=>()) (fun _=>()) ((l.map (·.1)).zip ((l.map (·.1)).map φ4d)) dir (fun p hp=>⟨by
  generalize l.map (·.1)=m at hp
  induction m with
  | nil=>simp at hp
  | cons x m ih=>
   simp only[κ8,List.zip_cons_cons] at hp
   rcases mc.1 hp with rfl | hp
   ·rfl
   ·exact ih hp,fun _=>rfl⟩)
 have e3:((l.map (·.1)).zip ((l.map (·.1)).map φ4d)).map (·.1)=l.map (·.1):=List.map_fst_zip (by simp)
 rw[e3] at e2
 have:=congrArg List.length (e1.trans e2.symm)
 simpa [mapG] using this
theorem φ8G:∀(l:List (PutT×φB)) (dir:List φB) (x:φB),x∈dirW dir l→x∈dir∨∃p∈l,x=p.2∧p.1.2.1=false
 | [],dir,x,h=>.inl h
 | p::l,dir,x,h=>by
  rcases φ8G l (φ2O dir p) x h with h | ⟨q,hq,e⟩
  ·unfold φ2O at h
   split at h
   ·exact .inl ((φ7D _ _ _).1 h).1
   ·rename_i c
    rcases (φ3j _ _ _).1 h with e | h
    ·exact .inr ⟨p,κ1,e,by simpa using c⟩
    ·exact .inl ((φ7D _ _ _).1 h).1
  ·exact .inr ⟨q,mC _ hq,e⟩
theorem φFL:∀(l:List (PutT×φB)) {dir:List φB},srt dir→srt (dirW dir l)
 | [],_,h=>h
 | p::l,dir,h=>by
  refine φFL l (dir:=φ2O dir p) ?_
  unfold φ2O
  split
  ·exact φDI h _
  ·exact φ9j _ _ (φDI h _) (fun x hx=>((φ7D _ _ _).1 hx).2)
theorem φG9:∀(l:List φB) (p:Option (List UInt8)),srt l→(∀e∈l,φ2m e=true)→(∀q,p=some q→∀x∈l,Op.bytesLess q x.1=true)→φ2P p l=true
 | [],_,_,_,_=>rfl
 | e::l,p,h,ho,hp=>by
  have h2:=κZ.1 h
  have ih:=φG9 l (some e.1) h2.2 (fun x hx=>ho x (mC _ hx)) (fun q hq x hx=>by
   have hq:e.1=q:=by simpa using hq
   rw[←hq];exact h2.1 x hx)
  unfold φ2P
  rw[ho e κ1,ih]
  cases p with
  | none=>rfl
  | some q=>simp[hp q rfl e κ1]
theorem φDh {l:List φB} (h:srt l) (ho:∀e∈l,φ2m e=true) (hl:l.length≤20):φ1m l=true:=by
 unfold φ1m
 rw[φG9 l none h ho (fun q hq=>by simp at hq)]
 simpa using hl
noncomputable def φ1S (d:φ1) (x:Int×Int×Int×Int):List UInt8×Int:=
 ((φ1G (φ2 d (φ0 x.1)).1 x.2.1 x.2.2.1).1.2.2.2.1,(φ1G (φ2 d (φ0 x.1)).1 x.2.1 x.2.2.1).1.2.1)
theorem φ2t {s:φA} {d:φ1} (h:φs s d=true):φV s d=(mapG (φ1S d) s.2.1,0):=by
 rw[φLD h]
 congr 1
 unfold mapG
 refine List.map_congr_left fun e he=>?_
 obtain ⟨q1,q2,q3,q4,q5,q6⟩:=φ15.1 h
 have k:=φ3E.1 (q6 e he)
 unfold φ1O at k
 unfold getP
 rw[φG6 (φ5T q3) he]
 simp only[κ7,if_false]
 rw[if_pos ⟨k.1,k.2.1,k.2.2.1⟩]
 rfl
theorem φGK {s:φA} {d d':φ1} {m:Int} (h:φs s d=true) (hk:φ2u m d d') (hm:∀e∈s.2.1,e.2.1<m):mapG (φ1S d') s.2.1=mapG (φ1S d) s.2.1:=by
 unfold mapG
 refine List.map_congr_left fun e he=>?_
 obtain ⟨q1,q2,q3,q4,q5,q6⟩:=φ15.1 h
 have k:=φ3E.1 (q6 e he)
 have:=hk e (φAW q3 he).1 (hm e he) k.1
 unfold φ1O at this
 unfold φ1S
 rw[this]
theorem φK9 {b:Int} {p:PutT} (hb:1≤b∧b≤1000000) (hp:φ3R p=true):φe (φa b p)=true:=by
 unfold φ3R at hp
 simp only[bA,decide_eq_true_eq,κY,κL,beq_iff_eq] at hp
 obtain ⟨h1,h2,h3⟩:=hp
 have hb0:(b==0)=false:=by
  have:¬b=0:=by omega
  simpa using this
 unfold φa
 split
 ·rename_i c
  unfold φe
  simp[h1,hb0];omega
 ·unfold φe
  simp[h1,h2,hb0];omega
theorem φNG {b c z:Int} (hb:1≤b∧b≤1000000) (hc:0≤c∧c≤8) (hz:0≤z∧z≤4294967295):φe (3,b,[],[],c,z)=true:=by
 have hb0:(b==0)=false:=by
  have:¬b=0:=by omega
  simpa using this
 unfold φe
 simp[hb0];omega
theorem φBl {b:Int} {l:List PutT} (hb:1≤b∧b≤1000000) (hl:φ2K l=true):∀r∈φ3N b l,φe r=true:=fun r hr=>by
 unfold φ2K at hl
 simp only[bA,decide_eq_true_eq,κN] at hl
 unfold φ3N at hr
 rcases mA.1 hr with hr | hr
 ·obtain ⟨p,hp,rfl⟩:=mM.1 hr
  exact φK9 hb (hl.2 p hp)
 ·rw[mZ.1 hr]
  exact φNG hb (by have:=hl.1;omega) (φ5A _)
theorem φCS {b:Int}:∀(l:List PutT) (es:List φB) (x:List RecT) (P:RecT→φB→Prop),(∀p∈(l.map (φa b)++x).zip es,P p.1 p.2)→∀p∈l.zip es,P (φa b p.1) p.2
 | [],es,x,P,_=>fun p hp=>by simp at hp
 | a::l,[],x,P,_=>fun p hp=>by simp at hp
 | a::l,e::es,x,P,h=>fun p hp=>by
  simp only[κ8,κG,List.zip_cons_cons] at h
  rcases mc.1 hp with rfl | hp
  ·exact h _ κ1
  ·exact φCS l es x P (fun q hq=>h q (mC _ hq)) p hp
theorem φDX {s:φA} {d:φ1} {l:List PutT} (h:φs s d=true) (hl:φ4H s) (hp:φ2K l=true) (hb:s.2.2.1≤1000000) (hk:φ4M s.2.1 l≤20) (hc:(φ23 s d l).2.2=0) :
  φs (φ23 s d l).1 (φ23 s d l).2.1=true∧φ4H (φ23 s d l).1∧(φV (φ23 s d l).1 (φ23 s d l).2.1).1=φBV (φV s d).1 l s.2.2.1∧(φ23 s d l).1.2.2.1=s.2.2.1+1∧(φ23 s d l).1.2.1.length=φ4M s.2.1 l:=by
 obtain ⟨q1,q2,q3,q4,q5,q6⟩:=φ15.1 h
 have hents:∀e∈s.2.1,φ1t d (s.2.2.1+1) e=true:=φ7O (m:=s.1.1) h (fun e _ _ _=>rfl) hl (by omega)
 have h0:φs (s.1,s.2.1,s.2.2.1+1,s.2.2.2) d=true:=φ15.2 ⟨q1,q2,q3,by show 1≤s.2.2.1+1∧s.2.2.1+1≤1000001;omega,q5,hents⟩
 have hl0:φ4H (s.1,s.2.1,s.2.2.1+1,s.2.2.2):=hl
 have hG:=φEG (φ3N s.2.2.1 l) _ d h0 hl0 (φBl ⟨q4.1,hb⟩ hp)
 have hnum:=φCp s.2.2.1 l
 unfold φ23 at hc ⊢
 generalize φX (φ3N s.2.2.1 l) (s.1,s.2.1,s.2.2.1+1,s.2.2.2) d=g at *
 obtain ⟨S,D,gc,es⟩:=g
 simp only at hc hG ⊢
 by_cases c:gc=0
 rotate_left
 ·rw[if_pos c] at hc;exact absurd hc c
 rw[if_neg (by simpa using c)] at hc ⊢
 obtain ⟨g1,g2,g3⟩:=hG c
 have hdir:S.2.1=s.2.1:=g1.dir
 have hbat:S.2.2.1=s.2.2.1+1:=g1.bat
 obtain ⟨p1,p2,p3,p4,p5,p6⟩:=φ15.1 g1.ok
 by_cases c2:(φR (actN S) D).2=0
 rotate_left
 ·rw[if_pos c2] at hc;exact absurd ((φ1R _).1 hc) c2
 rw[if_neg (by simpa using c2)]
 simp only
 have ft:∀n,φ2 (φR (actN S) D).1 n=φ2 D n:=fun n=>φ2g p1 _ n
 have hea:∀e,φ1O (φR (actN S) D).1 e=φ1O D e:=fun e=>by unfold φ1O;rw[ft]
 have hva:∀x,φ1S (φR (actN S) D).1 x=φ1S D x:=fun x=>by unfold φ1S;rw[ft]
 have hes:∀p∈l.zip es,NewOk D S.1.1 (φa s.2.2.1 p.1) p.2:=φCS l es _ (fun r e=>NewOk D S.1.1 r e) (by
  intro p hp;exact g3 p hp)
 have hlen:l.length≤es.length:=by omega
 have hz:(l.zip es).map (·.1)=l:=List.map_fst_zip hlen
 have hkey:∀p∈l.zip es,p.2.1=p.1.1:=fun p hp=>by
  rw[(hes p hp).key];unfold φa;split<;>rfl
 have hkl:(dirW s.2.1 (l.zip es)).length=φ4M s.2.1 l:=by
  rw[φIJ s.2.1 _ hkey,hz];rfl
 rw[hdir] at *
 have hput:∀p∈l.zip es,φ3R p.1=true:=fun p hpm=>by
  unfold φ2K at hp
  simp only[bA,decide_eq_true_eq,κN] at hp
  exact hp.2 _ (List.of_mem_zip hpm).1
 have hnew:∀p∈l.zip es,p.1.2.1=false→φa s.2.2.1 p.1=(1,s.2.2.1,p.1.1,p.1.2.2,0,0):=fun p hpm hd=>by
  unfold φa;rw[if_neg (by rw[hd];simp)]
 have hold:=φ7O (b':=s.2.2.1+1) h g1.kp hl (by omega)
 have hlt:∀e∈dirW s.2.1 (l.zip es),e.2.1<S.1.1:=fun e he=>by
  rcases φ8G _ _ _ he with he | ⟨p,hpm,rfl,_⟩
  ·have:=hl e he;have:=g1.nxt;have:s.1.1≤S.1.1:=this;omega
  ·exact (hes p hpm).seg.2.1
 have hdirok:φ1m (dirW s.2.1 (l.zip es))=true:=by
  refine φDh (φFL _ (φ5T q3)) (fun e he=>?_) (by rw[hkl];exact hk)
  rcases φ8G _ _ _ he with he | ⟨p,hpm,rfl,hd⟩
  ·exact (φ46 q3).2 e he
  ·have n:=hes p hpm
   have ho:=hput p hpm
   unfold φ3R at ho
   simp only[bA] at ho
   unfold φ2m
   rw[hkey p hpm,ho.1,n.bat,hnew p hpm hd]
   have h1:=n.seg
   have h2:=n.off
   have h3:=n.len
   simp only[tA,bA,decide_eq_true_eq]
   exact ⟨⟨h1.1,h1.2.2⟩,h2,h3,q4.1,hb⟩
 have hent:∀e∈dirW s.2.1 (l.zip es),φ1t (φR (actN S) D).1 S.2.2.1 e=true:=fun e he=>by
  rw[φ3E,hea,hbat,←φ3E]
  rcases φ8G _ _ _ he with he | ⟨p,hpm,rfl,hd⟩
  ·exact hold e he
  ·have n:=hes p hpm
   rw[φ3E,n.at_,n.bat,hkey p hpm,hnew p hpm hd]
   refine ⟨rfl,.inl rfl,rfl,rfl,?_⟩
   show s.2.2.1<s.2.2.1+1
   omega
 have hfin:φs (S.1,dirW s.2.1 (l.zip es),S.2.2) (φR (actN S) D).1=true:=φ15.2 ⟨φ3I p1 _,p2,hdirok,p4,by
  refine (φ2f _).2 ?_
  simp only[ft]
  exact (φ2f _).1 p5,hent⟩
 refine ⟨hfin,hlt,?_,hbat,hkl⟩
 rw[φ2t hfin,φ2t h]
 show mapG (φ1S (φR (actN S) D).1) (dirW s.2.1 (l.zip es))=φBV (mapG (φ1S d) s.2.1) l s.2.2.1
 rw[show mapG (φ1S (φR (actN S) D).1) (dirW s.2.1 (l.zip es))=mapG (φ1S D) (dirW s.2.1 (l.zip es)) by unfold mapG;simp only[hva]]
 rw[φ7g (φ1S D) (fun p=>(p.2.2,s.2.2.1)) _ _ (fun p hpm=>⟨hkey p hpm,fun hd=>by
  have n:=(hes p hpm).at_
  unfold φ1O at n
  unfold φ1S
  rw[n,hnew p hpm hd]⟩),hz,φGK h g1.kp hl]
 rfl
theorem φBk:∀(k n:Nat),n<k→(Lib.decDigits n).all φ4E=true
 | 0,n,h=>by omega
 | k+1,n,h=>by
  have hb:∀m,m<10→φ4E (UInt8.ofNat (48+m))=true:=fun m hm=>by
   unfold φ4E
   have:(UInt8.ofNat (48+m)).toNat=48+m:=by simp only[UInt8.toNat_ofNat'];omega
   rw[this]
   simp;omega
  by_cases c:n<10
  ·rw[Lib.decDigits_one c,List.all_cons,hb n c];rfl
  ·have:=φ44 (n:=n) (by omega)
   unfold digs at this
   rw[if_neg (by omega),if_neg (by omega)] at this
   rw[this,List.all_append,φBk k (n / 10) (by omega),List.all_cons,hb (n % 10) (by omega)];rfl
theorem φ8O {d:φ1} {n:List UInt8} (h:(φ2 d n).2=true):∃i:Nat,∃hi:i<d.1.length,d.1.findIdx? (fun f=>f.1==n)=some i∧d.1[i].1=n∧φ1g d.1 n=(i:Int):=by
 rcases φ12 d.1 n with ⟨e,_⟩ | ⟨i,hi,e,hn⟩
 ·unfold φ2 at h
  split at h
  ·simp at h
  ·rw[φ1D e] at h;simp at h
 ·exact ⟨i,hi,φ17 e,hn,e⟩
theorem φKr {d:φ1} {n:List UInt8} (hk:φ5 d=true) (h:(φ2 d n).2=false):φ1g d.1 n=-1:=by
 rcases φ12 d.1 n with ⟨e,_⟩ | ⟨i,hi,e,hn⟩
 ·exact e
 ·unfold φ2 at h
  rw[if_neg (by rw[hk];simp),φ17 e] at h;simp at h
noncomputable def φ3f (s:φA) (d:φ1) (l:List PutT):φA×φ1×Int:=
 if φs s d=false∨φ2K l=false then (s,d,4) else if l.length=0 then (s,d,0) else
 if 20<φ4M s.2.1 l∨s.2.2.1 > 1000000 then (s,d,5) else φ23 s d l
structure SmallS (s:φA) (d:φ1):Prop where
 sm:dl 200000 d
 ids:s.1.2.length≤1000
 dir:s.2.1.length≤1000
theorem SmallS.lim {s:φA} {d:φ1} (h:SmallS s d):dlim d∧φQ d.1<1000000000:=⟨φ1B h.sm (by omega),by have:=h.sm.2.1;omega⟩
theorem φIp {s:φA} {d:φ1} (h:φs s d=true):SmallS s d:=by
 obtain ⟨q1,q2,q3,q4,q5⟩:=φ5H h
 have:=((φ1A s.1).1 q2).2.2.2
 exact ⟨φ34 (φn q1) (by omega),by omega,by have:=(φ46 q3).1;omega⟩
theorem φJR {α β:Type} (g:α→β) {l:List (List UInt8×α)} (h:srt l):srt (mapG g l):=by
 unfold srt mapG
 rw[List.pairwise_map]
 exact h
theorem φJX (u:Nat) (h:1≤u):Lib.itoa (-(u:Int))=[45]++Lib.decDigits u:=by
 unfold Lib.itoa
 rw[if_pos (by omega)]
 simp
theorem φMB (n:Nat) (h1:1≤n) (hn:n<1000000000000000000):ψ2E.f (-(n:Int))=some ([45]++Lib.decDigits n):=by
 unfold ψ2E.f
 have c1:((-(n:Int))==0)=false:=by
  have:¬(-(n:Int))=0:=by omega
  simpa using this
 have c2:decide ((-(n:Int))<0)=true:=by simp;omega
 have key:=φ5l (step:=ψ2E.l0) (a:=((-(n:Int)),([]:List UInt8),true)) (fun a=>(digs (-a.1).toNat++a.2.1,true)) (fun a=>a.1≤0∧a.2.2=true∧a.2.1.length+(-a.1).toNat≤n) (fun a=>(-a.1).toNat)
  (fun rec a ha ih=>by
   obtain ⟨x,s,f⟩:=a
   obtain ⟨h0,hf,hl⟩:=ha
   simp only at hf hl h0 ih ⊢
   subst hf
   obtain ⟨m,rfl⟩:∃m:Nat,x=-(m:Int):=⟨(-x).toNat,by omega⟩
   simp only[Int.neg_neg,tN] at hl ih ⊢
   by_cases d:m=0
   ·subst d
    simp[ψ2E.l0,digs]
   ·have d1:((-(m:Int)) != 0)=true:=by
     have:¬(-(m:Int))=0:=by omega
     simpa using this
    have e1:Int.tmod (-(m:Int)) 10=-((m % 10:Nat):Int):=by rw[Int.neg_tmod];rfl
    have e2:w64 (Int.tdiv (-(m:Int)) 10)=-((m / 10:Nat):Int):=by
     rw[Int.neg_tdiv,show Int.tdiv (m:Int) 10=((m / 10:Nat):Int) from rfl];exact φG (by omega) (by omega)
    have e5:w64 (0 - -((m % 10:Nat):Int))=((m % 10:Nat):Int):=by rw[φG (by omega) (by omega)];omega
    have e4:φ1M [IntKind.wrap .u8 (w64 (48+((m % 10:Nat):Int)))]=[UInt8.ofNat (48+m % 10)]:=by
     have e:w64 (48+((m % 10:Nat):Int))=((48+m % 10:Nat):Int):=by rw[φG (by omega) (by omega)];omega
     rw[e]
     unfold φ1M
     simp only[κ8,List.map_nil,φ62]
    have hb:([UInt8.ofNat (48+m % 10)]:List UInt8).length+s.length≤9223372036854775807:=by show 1+_≤_;omega
    have ih:=ih (-((m / 10:Nat):Int),[UInt8.ofNat (48+m % 10)]++s,true) ⟨by simp only;omega,rfl,by simp only[lA,κ5,Int.neg_neg,tN];omega⟩ (by simp only[Int.neg_neg,tN];omega)
    simp only[Int.neg_neg,tN] at ih
    have e6:(bif decide (-((m % 10:Nat):Int)<0) then some (-(m:Int),s,true,w64 (0 - -((m % 10:Nat):Int))) else some (-(m:Int),s,true,-((m % 10:Nat):Int)))=some (-(m:Int),s,true,((m % 10:Nat):Int)):=by
     rw[e5]
     by_cases z:-((m % 10:Nat):Int)<0
     ·simp only[z,dT,cT]
     ·have:((m % 10:Nat):Int)=0:=by omega
      simp only[decide_eq_false z,cF]
      rw[this];rfl
    simp only[ψ2E.l0,d1,cT,e1,e2,e6,bS,e4,hb,dT,ih]
    rw[φ44 d,aA])
  ⟨by simp only;omega,rfl,by simp⟩ (by simp only[Int.neg_neg,tN];omega)
 have hd:decide (([45]:List UInt8).length+(digs n++[]).length≤9223372036854775807)=true:=by
  have:=φ4k 17 n (by omega)
  refine φ1F ?_
  unfold digs
  rw[if_neg (by omega),κ6]
  show 1+_≤_;omega
 simp only[Int.neg_neg,tN] at key
 simp only[c1,c2,cF,key,bS,cT,hd]
 unfold digs
 rw[if_neg (by omega),κ6]
theorem φHV (n:Int) (h:-1000000000000000000<n∧n<1000000000000000000):ψ2E.f n=some (Lib.itoa n):=by
 rcases Int.lt_or_le n 0 with c | c
 ·obtain ⟨m,rfl⟩:∃m:Nat,n=-(m:Int):=⟨(-n).toNat,by omega⟩
  rw[φMB m (by omega) (by omega),φJX m (by omega)]
 ·obtain ⟨m,rfl⟩:∃m:Nat,n=(m:Int):=⟨n.toNat,by omega⟩
  rw[φ9Y m (by omega),φ70]
def φ3z (b:UInt8):Bool:=decide (48≤b.toNat) && decide (b.toNat≤57)
def φ2C (a:Nat×Nat) (b:UInt8):Nat×Nat:=if φ3z b=true then (a.1 * 10+(b.toNat - 48),a.2+1) else a
def φ1o (s:List UInt8):Nat×Nat:=s.foldl φ2C (0,0)
theorem φD6 (l:List UInt8):∀(a:Nat×Nat) (n:Nat),a.1<10 ^ n→a.2≤n→(l.foldl φ2C a).1<10 ^ (n+l.length)∧(l.foldl φ2C a).2≤n+l.length:=by
 induction l with
 | nil=>intro a n h1 h2;exact ⟨h1,h2⟩
 | cons b l ih=>
  intro a n h1 h2
  have b1:(φ2C a b).1<10 ^ (n+1):=by
   unfold φ2C φ3z
   rw[κW]
   split
   ·rename_i c
    simp only[bA,decide_eq_true_eq] at c
    show a.1 * 10+(b.toNat - 48)<_
    omega
   ·omega
  have b2:(φ2C a b).2≤n+1:=by
   unfold φ2C
   split
   ·show a.2+1≤n+1;omega
   ·omega
  have:=ih (φ2C a b) (n+1) b1 b2
  rw[κH,lC,show n+(l.length+1)=n+1+l.length by omega]
  exact this
def sgn:List UInt8→Bool
 | []=>false
 | b::_=>b==45
def φ3y (s:List UInt8):Int×Bool:=
 let p:=φ1o (s.take 11)
 let n:Int:=if sgn s=true then -(p.1:Int) else (p.1:Int)
 if 9<p.2∨10<s.length∨Lib.itoa n≠s then (0,false) else (n,true)
theorem φJd (s:List UInt8) (hl:s.length<1000000000000):lp ψ2j.l0 (s,0,0,0)=some (s,((φ1o (s.take 11)).1:Int),((φ1o (s.take 11)).2:Int)):=by
 have hN:(s.take 11).length=min 11 s.length:=lT
 have key:=φd (step:=ψ2j.l0) (fun n (p:Nat×Nat)=>(s,(p.1:Int),(p.2:Int),(n:Int))) (s.take 11).length (fun n p=>(s,((((s.take 11).drop n).foldl φ2C p).1:Int),((((s.take 11).drop n).foldl φ2C p).2:Int))) (fun n p=>p.1<10 ^ n∧p.2≤n)
  (fun rec n p hn hp ih=>by
   rcases κ2 n (s.take 11).length with h | h
   ·have hs:n<s.length:=by omega
    have h11:n<11:=by omega
    have hw:=φL (show n+1<9223372036854775808 by omega)
    have c1:(n:Int)<(s.length:Int):=by omega
    have c2:(n:Int)<11:=by omega
    have hg:(s.take 11)[n]=s[n]:=List.getElem_take
    have hpow:10 ^ n≤10 ^ 10:=κX (by omega) (by omega)
    have hp1:p.1<10000000000:=κE hp.1 hpow
    rw[dG h,hg,κH]
    have hstep:=φD6 [s[n]] p n hp.1 hp.2
    have ih:=ih (φ2C p s[n]) h hstep
    simp only[ψ2j.l0,c1,c2,dT,cT,φD,hs,φ4b s n hs]
    have hlt:=UInt8.toNat_lt s[n]
    by_cases d1:48≤s[n].toNat
    ·have d1':((s[n].toNat:Nat):Int)≥48:=by omega
     by_cases d2:s[n].toNat≤57
     ·have d2':((s[n].toNat:Nat):Int)≤57:=by omega
      have e1:w64 (IntKind.wrap .u8 ((s[n].toNat:Int) - 48))=((s[n].toNat - 48:Nat):Int):=by
       have:(s[n].toNat:Int) - 48=((s[n].toNat - 48:Nat):Int):=by omega
       rw[this,show IntKind.wrap .u8 ((s[n].toNat - 48:Nat):Int)=((s[n].toNat - 48:Nat):Int) by unfold IntKind.wrap;show ((((s[n].toNat - 48:Nat):Int)) % 256:Int)=_;omega]
       exact φ3G (by omega)
      have e2:w64 ((p.1:Int) * 10)=((p.1 * 10:Nat):Int):=by rw[φG (by omega) (by omega)];omega
      have e3:w64 (((p.1 * 10:Nat):Int)+((s[n].toNat - 48:Nat):Int))=((p.1 * 10+(s[n].toNat - 48):Nat):Int):=by rw[φG (by omega) (by omega)];omega
      have e4:w64 ((p.2:Int)+1)=((p.2+1:Nat):Int):=φL (by have:=hp.2;omega)
      have e5:φ2C p s[n]=(p.1 * 10+(s[n].toNat - 48),p.2+1):=by
       unfold φ2C φ3z
       rw[if_pos (by simp[d1,d2])]
      rw[e5] at ih ⊢
      simp only[d1',d2',dT,cT,e1,e2,e3,e4,bS,hw,ih]
     ·have d2':¬((s[n].toNat:Nat):Int)≤57:=by omega
      have e5:φ2C p s[n]=p:=by unfold φ2C φ3z;rw[if_neg (by simp[d2])]
      rw[e5] at ih ⊢
      simp only[d1',d2',dT,dF,cT,cF,bS,hw,ih]
    ·have d1':¬((s[n].toNat:Nat):Int)≥48:=by omega
     have e5:φ2C p s[n]=p:=by unfold φ2C φ3z;rw[if_neg (by simp[d1])]
     rw[e5] at ih ⊢
     simp only[d1',dF,cF,bS,hw,ih]
   ·have hn2:n=(s.take 11).length:=by omega
    have hnil:(s.take 11).drop n=[]:=List.drop_eq_nil_of_le (by omega)
    rw[hnil,List.foldl_nil]
    by_cases c:n<s.length
    ·have c1:(n:Int)<(s.length:Int):=by omega
     have c2:¬(n:Int)<11:=by omega
     simp only[ψ2j.l0,c1,c2,dT,dF,cT,cF]
    ·have c1:¬(n:Int)<(s.length:Int):=by omega
     simp only[ψ2j.l0,c1,dF,cF])
  (by omega) 0 (0,0) (κ4 _) ⟨by decide,κ9 _⟩
 exact key
theorem φHo (s:List UInt8) (hl:s.length<1000000000000):ψ2j.f s=some (φ3y s):=by
 have hb:=φD6 (s.take 11) (0,0) 0 (by decide) (κ9 _)
 have h11:(s.take 11).length≤11:=by rw[lT];omega
 have hpow:10 ^ (0+(s.take 11).length)≤10 ^ 11:=κX (by omega) (by omega)
 have hv:(φ1o (s.take 11)).1<100000000000:=κE hb.1 hpow
 unfold ψ2j.f φ3y
 rw[φJd s hl,bS]
 have e1:(bif decide ((s.length:Int) > 0) then
   bif inB 0 s.length then
   bif (bAt s 0)==45 then some (s,w64 (0 - ((φ1o (s.take 11)).1:Int)),((φ1o (s.take 11)).2:Int)) else some (s,((φ1o (s.take 11)).1:Int),((φ1o (s.take 11)).2:Int))
   else none
   else some (s,((φ1o (s.take 11)).1:Int),((φ1o (s.take 11)).2:Int)):Option (List UInt8×Int×Int)) =
   some (s,(if sgn s=true then -((φ1o (s.take 11)).1:Int) else ((φ1o (s.take 11)).1:Int)),((φ1o (s.take 11)).2:Int)):=by
  cases s with
  | nil=>rfl
  | cons b r=>
   have c1:((b::r).length:Int) > 0:=by simp
   have c2:inB 0 (b::r).length=true:=by unfold inB;simp
   have c3:bAt (b::r) 0=(b.toNat:Int):=rfl
   simp only[c1,dT,cT,c2,c3,sgn]
   by_cases z:b=45
   ·subst z
    have hw:w64 (0 - ((φ1o (((45:UInt8)::r).take 11)).1:Int))=-((φ1o (((45:UInt8)::r).take 11)).1:Int):=by rw[φG (by omega) (by omega)];omega
    rw[hw];rfl
   ·have z1:((b.toNat:Int)==45)=false:=by
     have:¬(b.toNat:Int)=45:=fun h=>z (by
      have:b.toNat=45:=by omega
      exact UInt8.toNat_inj.1 (by rw[this];rfl))
     simpa using this
    have z2:(b==45)=false:=by simpa using z
    simp only[z1,cF,z2,κ0,if_false]
 dsimp only
 rw[e1,bS]
 dsimp only
 have hvb:-1000000000000000000<(if sgn s=true then -((φ1o (s.take 11)).1:Int) else ((φ1o (s.take 11)).1:Int))∧(if sgn s=true then -((φ1o (s.take 11)).1:Int) else ((φ1o (s.take 11)).1:Int))<1000000000000000000:=by split<;>omega
 generalize (if sgn s=true then -((φ1o (s.take 11)).1:Int) else ((φ1o (s.take 11)).1:Int))=v at hvb ⊢
 generalize (φ1o (s.take 11)).2=q
 have hd:=φHV v hvb
 by_cases c1:9<q
 ·have h1:decide ((q:Int) > 9)=true:=by simp;omega
  rw[h1,cT,if_pos (.inl c1)]
 have h1:decide ((q:Int) > 9)=false:=by simp;omega
 rw[h1,cF]
 by_cases c2:10<s.length
 ·have h2:decide ((s.length:Int) > 10)=true:=by simp;omega
  rw[h2,cT,if_pos (.inr (.inl c2))]
 have h2:decide ((s.length:Int) > 10)=false:=by simp;omega
 rw[h2,cF,hd,bS]
 by_cases c3:Lib.itoa v=s
 ·rw[if_neg (by simp only[not_or,ne_eq,Decidable.not_not];exact ⟨c1,c2,c3⟩)]
  have:(Lib.itoa v==s)=true:=by rw[c3];simp
  simp only[this,nZ,cF]
 ·rw[if_pos (.inr (.inr c3))]
  have:(Lib.itoa v==s)=false:=by simpa using c3
  simp only[this,nF,cT]
theorem φ7C:∀(k n:Nat),n<k→∀(a:Nat×Nat),(Lib.decDigits n).foldl φ2C a=(a.1 * 10 ^ (Lib.decDigits n).length+n,a.2+(Lib.decDigits n).length)
 | 0,n,h,a=>by omega
 | k+1,n,h,a=>by
  have hd:∀m,m<10→∀a:Nat×Nat,φ2C a (UInt8.ofNat (48+m))=(a.1 * 10+m,a.2+1):=fun m hm a=>by
   have e:(UInt8.ofNat (48+m)).toNat=48+m:=by simp only[UInt8.toNat_ofNat'];omega
   unfold φ2C φ3z
   rw[e,if_pos (by simp;omega)]
   simp
  by_cases c:n<10
  ·rw[Lib.decDigits_one c]
   simp only[κH,List.foldl_nil,lC,lN]
   rw[hd n c]
  ·have:=φ44 (n:=n) (by omega)
   unfold digs at this
   rw[if_neg (by omega),if_neg (by omega)] at this
   rw[this,κe,φ7C k (n / 10) (by omega),κH,List.foldl_nil,hd _ (by omega)]
   simp only[lA,lC,lN,κV,Prod.mk.injEq]
   constructor
   ·rw[κW,←Nat.mul_assoc,Nat.add_mul];omega
   ·omega
theorem φKf {n:Nat} (h:n≤100000):φ3y (Lib.decDigits n)=((n:Int),true):=by
 have hl:=φ4k 5 n (by show _<1000000;omega)
 have ht:(Lib.decDigits n).take 11=Lib.decDigits n:=List.take_of_length_le (by omega)
 have hf:φ1o (Lib.decDigits n)=(n,(Lib.decDigits n).length):=by
  unfold φ1o
  rw[φ7C (n+1) n (by omega)]
  simp
 have hh:sgn (Lib.decDigits n)=false:=by
  have ha:=φBk (n+1) n (by omega)
  rw[κN] at ha
  cases e:Lib.decDigits n with
  | nil=>rfl
  | cons b r=>
   have:=ha b (by rw[e];exact κ1)
   show (b==45)=false
   cases h:b==45 with
   | false=>rfl
   | true=>
    have:b=45:=by simpa using h
    subst this
    revert this;decide
 unfold φ3y
 simp only[ht,hf,hh,κ0,if_false]
 rw[if_neg]
 simp only[not_or,ne_eq,Decidable.not_not]
 exact ⟨by omega,by omega,φ70 n⟩
theorem φEI {i j:Int} (hi:1≤i∧i≤100000) (hj:1≤j∧j≤100000) (h:φJ i=φJ j):i=j:=by
 unfold φJ φ1y at h
 rw[if_pos hi,if_pos hj] at h
 have:=φAT (i.toNat+1) i.toNat j.toNat (by omega) (List.append_cancel_left h)
 omega
def φ2w (name:List UInt8) (id:Int):Prop:=(1≤id∧id≤100000)∧(name=φ0 id∨name=φJ id)
theorem φDE {name:List UInt8} {i j:Int} (hi:φ2w name i) (hj:φ2w name j):i=j:=by
 obtain ⟨h1,h2⟩:=hi
 obtain ⟨k1,k2⟩:=hj
 rcases h2 with h2 | h2<;>rcases k2 with k2 | k2
 ·exact φ3x h1 k1 (h2.symm.trans k2)
 ·exact absurd (h2.symm.trans k2) (φ43 i j h1)
 ·exact absurd (k2.symm.trans h2) (φ43 j i k1)
 ·exact φEI h1 k1 (h2.symm.trans k2)
noncomputable def idOf (name:List UInt8):Int×Bool:=@dite (Int×Bool) (∃id,φ2w name id) (Classical.propDecidable _) (fun h=>(h.choose,true)) (fun _=>(0,false))
theorem φ8g {name:List UInt8} {id:Int} (h:φ2w name id):idOf name=(id,true):=by
 have hx:∃id,φ2w name id:=⟨id,h⟩
 unfold idOf
 rw[dif_pos hx,φDE hx.choose_spec h]
theorem φ8r {name:List UInt8} (h:¬∃id,φ2w name id):idOf name=(0,false):=by
 unfold idOf;rw[dif_neg h]
theorem φKI {name:List UInt8} {id:Int} (h:idOf name=(id,true)):φ2w name id:=by
 by_cases hx:∃id,φ2w name id
 ·obtain ⟨j,hj⟩:=hx
  rw[φ8g hj] at h
  simp only[Prod.mk.injEq,and_true] at h
  rw[←h];exact hj
 ·rw[φ8r hx] at h;simp at h
noncomputable def idAt (name:List UInt8) (k:Nat):Option Int:=
 if k<name.length∧(φ3y (name.drop k)).2=true∧1≤(φ3y (name.drop k)).1∧(φ0 (φ3y (name.drop k)).1=name∨φJ (φ3y (name.drop k)).1=name) then some (φ3y (name.drop k)).1 else none
theorem φFO {name:List UInt8} {k:Nat} {n:Int} (h:idAt name k=some n):φ2w name n:=by
 unfold idAt at h
 split at h
 ·rename_i c
  have h:(φ3y (name.drop k)).1=n:=Option.some.inj h
  rw[h] at c
  obtain ⟨c1,c2,c3,c4⟩:=c
  have hr:n≤100000:=by
   rcases Int.lt_or_le 100000 n with z | z
   ·exfalso
    unfold φ0 φJ φ1y at c4
    rw[if_neg (by omega),if_neg (by omega)] at c4
    rcases c4 with e | e<;>rw[←e] at c1<;>simp at c1
   ·exact z
  exact ⟨⟨c3,hr⟩,c4.imp Eq.symm Eq.symm⟩
 ·simp at h
theorem φNM {name:List UInt8} {id:Int} (h:φ2w name id):idAt name 3=some id∨idAt name 4=some id:=by
 obtain ⟨h1,h2⟩:=h
 obtain ⟨n,rfl⟩:∃n:Nat,id=(n:Int):=⟨id.toNat,by omega⟩
 have hr:=φKf (n:=n) (by omega)
 have hne:(Lib.decDigits n)≠[]:=fun e=>by
  have:=φ7C (n+1) n (by omega) (0,0)
  rw[e] at this
  simp at this;omega
 have hpos:0<(Lib.decDigits n).length:=List.length_pos_iff.2 hne
 rcases h2 with h2 | h2
 ·left
  have e:name=[115,101,103]++Lib.decDigits n:=by rw[h2];unfold φ0 φ1y;rw[if_pos h1,tN]
  have hd:name.drop 3=Lib.decDigits n:=by rw[e];rfl
  unfold idAt
  rw[hd,hr]
  rw[if_pos ⟨by rw[e,lA];show 3<3+_;omega,rfl,h1.1,.inl h2.symm⟩]
 ·right
  have e:name=[104,105,110,116]++Lib.decDigits n:=by rw[h2];unfold φJ φ1y;rw[if_pos h1,tN]
  have hd:name.drop 4=Lib.decDigits n:=by rw[e];rfl
  unfold idAt
  rw[hd,hr]
  rw[if_pos ⟨by rw[e,lA];show 4<4+_;omega,rfl,h1.1,.inr h2.symm⟩]
theorem φMg (name:List UInt8) (hl:name.length<1000000000000):ψ2Y.f name=some (idOf name):=by
 have key:=φd (step:=ψ2Y.l0) (fun n (_:Unit)=>(name,(n:Int))) 5 (fun n _=>match (if n=3 then idAt name 3 else none),(if n≤4 then idAt name 4 else none) with | some x,_=>.inr (x,true) | none,some x=>.inr (x,true) | none,none=>.inl ()) (fun n _=>3≤n)
  (fun rec n _ hn h3 ih=>by
   rcases κ2 n 5 with h | h
   ·have hw:=φL (show n+1<9223372036854775808 by omega)
    have c1:(n:Int)≤4:=by omega
    have hone:(bif decide ((name.length:Int) > (n:Int)) then
      bif (decide (0≤(n:Int)) && decide ((n:Int)≤(name.length:Int))) then
      (ψ2j.f (name.drop (n:Int).toNat)).bind fun (t1_0,t1_1)=>
      (bif t1_1 then
      bif decide (t1_0≥1) then
      (ψ2y.f t1_0).bind fun t2=>
      bif t2==name then
      some (Sum.inr (t1_0,true))
      else
      (ψ2W.f t1_0).bind fun t3=>
      bif t3==name then
      some (Sum.inr (t1_0,true))
      else
      some (Sum.inl (name,(n:Int)))
      else
      some (Sum.inl (name,(n:Int)))
      else
      some (Sum.inl (name,(n:Int))):Option ((List UInt8×Int) ⊕ (Int×Bool))).bind (fun o4=>φM o4 (fun (x0,x4)=>
      some (Sum.inl (x0,x4))) (fun (x2,x3)=>
      some (Sum.inr (x2,x3))))
      else none
      else
      some (Sum.inl (name,(n:Int))):Option ((List UInt8×Int) ⊕ (Int×Bool)))=some (match idAt name n with | some x=>.inr (x,true) | none=>.inl (name,(n:Int))):=by
     by_cases d:n<name.length
     ·have d1:(name.length:Int) > (n:Int):=by omega
      have d2:(decide (0≤(n:Int)) && decide ((n:Int)≤(name.length:Int)))=true:=by simp;omega
      simp only[d1,dT,cT,d2,tN,φHo (name.drop n) (by rw[lD];omega),bS]
      unfold idAt
      generalize φ3y (name.drop n)=p
      obtain ⟨v,b⟩:=p
      simp only[φ2Q,φ6o,bS]
      cases b
      ·simp
      ·by_cases e:v≥1
       ·by_cases e1:φ0 v=name
        ·simp[d,e,e1,φZ]
        ·have e1':(φ0 v==name)=false:=by simpa using e1
         by_cases e2:φJ v=name
         ·simp[d,e,e1',e1,e2,φZ]
         ·have e2':(φJ v==name)=false:=by simpa using e2
          simp[d,e,e1',e1,e2',e2,φT]
       ·have e':¬1≤v:=e
        simp[d,e,e',φT]
     ·have d1:¬(name.length:Int) > (n:Int):=by omega
      simp only[d1,dF,cF]
      unfold idAt
      rw[if_neg (fun z=>d z.1)]
    simp only[ψ2Y.l0,c1,dT,cT]
    erw [hone]
    simp only[bS]
    have ih:=ih () h (by omega)
    have:n=3∨n=4:=by omega
    rcases this with rfl | rfl
    ·cases e3:idAt name 3 with
     | some x=>simp[φZ]
     | none=>
      simp only[φT,hw]
      rw[ih]
      simp
    ·cases e4:idAt name 4 with
     | some x=>simp[φZ]
     | none=>
      simp only[φT,hw]
      rw[ih]
      simp
   ·have:n=5:=by omega
    subst this
    simp[ψ2Y.l0])
  (by omega) 3 () (by omega) (κ9 _)
 have key:lp ψ2Y.l0 (name,3)=_:=key
 unfold ψ2Y.f
 rw[key,bS]
 simp only[if_true,show (3:Nat)≤4 by omega]
 cases e3:idAt name 3 with
 | some x=>simp only[φZ];rw[φ8g (φFO e3)]
 | none=>
  cases e4:idAt name 4 with
  | some x=>simp only[φZ];rw[φ8g (φFO e4)]
  | none=>
   simp only[φT]
   rw[φ8r]
   rintro ⟨id,h⟩
   rcases φNM h with z | z
   ·rw[e3] at z;simp at z
   ·rw[e4] at z;simp at z
noncomputable def φ3u (v:φN) (f:φ6):Bool:=((idOf f.1).2 && !(v.2.any fun i=>i==(idOf f.1).1)) || f.1==φ2F
noncomputable def φ1z (d:φ1) (v:φN):List (List UInt8):=if φ5 d=false then [] else (d.1.filter (φ3u v)).map (·.1)
theorem φJu (d:φ1) (v:φN) (acc:List (List UInt8)) (i id:Int) (is:Bool) (hv:v.2.length<1000000000) :
  lp ψ2f.l2 (d,v,acc,i,id,is,false,0)=some (d,v,acc,i,is,v.2.any fun x=>x==id):=by
 have key:=φd (step:=ψ2f.l2) (fun n (b:Bool)=>(d,v,acc,i,id,is,b,(n:Int))) v.2.length (fun n b=>(d,v,acc,i,is,b || (v.2.drop n).any fun x=>x==id)) (fun _ _=>True)
  (fun rec n b hn _ ih=>by
   rcases κ2 n v.2.length with h | h
   ·have hw:=φL (show n+1<9223372036854775808 by omega)
    rw[dG h,List.any_cons]
    simp only[ψ2f.l2,oL,h,dT,cT,φD,φI,φ8 h]
    cases b
    ·simp only[cF,bS,hw,ih _ h trivial,κR]
    ·simp only[cT,bS,hw,ih _ h trivial,Bool.true_or]
   ·have:n=v.2.length:=by omega
    subst this
    simp[ψ2f.l2])
  (by omega) 0 false (κ4 _) trivial
 have key:lp ψ2f.l2 (d,v,acc,i,id,is,false,0)=_:=key
 rw[key,κB,κR]
theorem φH6 {a:Nat} (h:a<1000000000001):(a+1) * 16≤140737488355328:=by omega
theorem φN1 (d:φ1) (v:φN) (hd:dlim d) (hv:v.2.length<1000000000):ψ2f.f d v=some (φ1z d v):=by
 have key:=φd (step:=ψ2f.l0) (fun n (acc:List (List UInt8))=>(d,v,acc,(n:Int))) d.1.length (fun n acc=>acc++((d.1.drop n).filter (φ3u v)).map (·.1)) (fun n acc=>acc.length≤n)
  (fun rec n acc hn ha ih=>by
   rcases κ2 n d.1.length with h | h
   ·have hlen:=hd.1
    have hw:=φL (show n+1<9223372036854775808 by omega)
    have hnm:=hd.2.2 _ (gM h)
    have hb:(acc.length+([d.1[n].1]:List (List UInt8)).length) * 16≤140737488355328:=φH6 (by omega)
    have i1:=ih (acc++[d.1[n].1]) h (by rw[lA];show acc.length+1≤n+1;omega)
    have i2:=ih acc h (by omega)
    rw[dG h,List.filter_cons]
    simp only[ψ2f.l0,oL,h,dT,cT,φD,φI,φ8 h]
    rw[φMg d.1[n].1 hnm,bS]
    simp only[φJu d v acc (n:Int) _ _ hv,bS,hb,dT,cT]
    have hob:φ3u v d.1[n]=(((idOf d.1[n].1).2 && !(v.2.any fun i=>i==(idOf d.1[n].1).1)) || d.1[n].1==φ2F):=rfl
    rw[hob]
    obtain ⟨tb,hT⟩:∃tb,(d.1[n].1==φ2F)=tb:=⟨_,rfl⟩
    have ht:(d.1[n].1==[116,101,109,112])=tb:=hT
    rw[hT]
    cases (idOf d.1[n].1).2<;>cases (v.2.any fun i=>i==(idOf d.1[n].1).1)<;>cases tb <;>
     simp only[φD,h,φI,φ8 h,ht,hb,dT,cT,cF,bS,nZ,nF,κP,Bool.and_false,Bool.or_true,Bool.or_false,tA,κF,κR,Bool.true_or,if_true,κ0,if_false,hw,i1,i2,κ8,aA,List.singleton_append]
   ·have:n=d.1.length:=by omega
    subst this
    simp[ψ2f.l0])
  (by have:=hd.1;omega) 0 [] (κ4 _) (κ9 _)
 have key:lp ψ2f.l0 (d,v,[],0)=_:=key
 unfold ψ2f.f φ1z
 rw[φ5p d hd,bS]
 cases φ5 d
 ·simp
 ·simp only[nZ,cF,key,bS,κB,κA,κ7,if_false]
theorem φ4I {op:φ1→φ1×Int} {w:φE} (h:(φK op w).2=0):w.2=0∧(op w.1).2=0∧φK op w=op w.1:=by
 unfold φK at h ⊢
 split at h
 ·rename_i c;rw[if_pos c];exact ⟨c,h,rfl⟩
 ·rename_i c;exact absurd h c
theorem φFZ {d:φ1} {n:List UInt8} (h:(φH n d).2=0):(φ2 (φH n d).1 n).2=false:=by
 unfold φH at h ⊢
 rcases φ12 d.1 n with ⟨e,hno⟩ | ⟨i,hi,e,hn⟩
 ·rw[if_neg (by omega)]
  show (φ2 d n).2=false
  unfold φ2
  split
  ·rfl
  ·rw[φ1D e]
 ·rw[if_pos (by omega)] at h ⊢
  exact φJx h
theorem φKh {d:φ1} (hk:φ5 d=true) {n m:List UInt8} (h:(φ2 d n).2=false):(φ2 (φH m d).1 n).2=false:=by
 by_cases c:n=m
 ·subst c
  unfold φH
  rw[if_neg (by rw[φKr hk h];omega)]
  exact h
 ·rw[φ4j hk c];exact h
theorem φ9x {w:φE} {n:List UInt8} (h:(sNew n w).2=0):w.2=0∧φ2 (sNew n w).1 n=([],true):=by
 unfold sNew at h ⊢
 obtain ⟨h1,h2,h3⟩:=φ4I (op:=φY n) h
 obtain ⟨k1,_,_⟩:=φ4I (op:=φH n) h1
 rw[h3]
 exact ⟨k1,φG4 h2⟩
theorem φGR {n:List UInt8}:∀(recs:List RecT) {w:φE},(sApp n recs w).2=0→(φ2 w.1 n).2=true→w.2=0∧φ2 (sApp n recs w).1 n=((φ2 w.1 n).1++txt recs,true)
 | [],w,h,ht=>⟨h,by
  show φ2 w.1 n=_
  have:txt []=[]:=rfl
  rw[this,κ6,←ht]⟩
 | r::recs,w,h,ht=>by
  have h:(sApp n recs (φK (φW n (frame (φ9 r))) w)).2=0:=h
  have hz:(φK (φW n (frame (φ9 r))) w).2=0:=by
   by_cases c:(φK (φW n (frame (φ9 r))) w).2=0
   ·exact c
   ·generalize φK (φW n (frame (φ9 r))) w=v at h c
    obtain ⟨x,k⟩:=v
    rw[φAE n recs c] at h
    exact h
  obtain ⟨h1,h2,h3⟩:=φ4I (op:=φW n _) hz
  obtain ⟨a1,a2⟩:=φ7q h2
  obtain ⟨b1,b2⟩:=φGR recs h (by rw[h3,a2])
  refine ⟨h1,?_⟩
  show φ2 (sApp n recs (φK (φW n (frame (φ9 r))) w)).1 n=_
  rw[b2,h3,a2,φ3Q,←aA];rfl
theorem φFf:∀(names:List (List UInt8)) {w:φE},φ5 w.1=true→(φi names w).2=0→w.2=0∧(∀n,(φ2 w.1 n).2=false→(φ2 (φi names w).1 n).2=false)∧∀n∈names,(φ2 (φi names w).1 n).2=false
 | [],w,_,h=>⟨h,fun n hn=>hn,fun n hn=>by simp at hn⟩
 | m::names,w,hk,h=>by
  have h:(φi names (φK (φH m) w)).2=0:=h
  have hk1:φ5 (φK (φH m) w).1=true:=φ1j (op:=φH m) hk fun k=>φ2Y k m
  obtain ⟨a1,a2,a3⟩:=φFf names hk1 h
  obtain ⟨h1,h2,h3⟩:=φ4I (op:=φH m) a1
  have hab:∀n,(φ2 w.1 n).2=false→(φ2 (φK (φH m) w).1 n).2=false:=fun n hn=>by
   rw[h3];exact φKh hk hn
  refine ⟨h1,fun n hn=>a2 n (hab n hn),fun n hn=>?_⟩
  rcases mc.1 hn with rfl | hn
  ·refine a2 _ ?_
   rw[h3];exact φFZ h2
  ·exact a3 n hn
theorem φHA:∀(ids:List Int) {w:φE},φ5 w.1=true→(sOld ids w).2=0→w.2=0∧(∀n,(φ2 w.1 n).2=false→(φ2 (sOld ids w).1 n).2=false)∧∀id∈ids,(φ2 (sOld ids w).1 (φ0 id)).2=false∧(φ2 (sOld ids w).1 (φJ id)).2=false
 | [],w,_,h=>⟨h,fun n hn=>hn,fun n hn=>by simp at hn⟩
 | i::ids,w,hk,h=>by
  have h:(sOld ids (φi [φ0 i,φJ i] w)).2=0:=h
  have hk1:φ5 (φi [φ0 i,φJ i] w).1=true:=φ4y _ hk
  obtain ⟨a1,a2,a3⟩:=φHA ids hk1 h
  obtain ⟨h1,h2,h3⟩:=φFf [φ0 i,φJ i] hk a1
  refine ⟨h1,fun n hn=>a2 n (h2 n hn),fun id hid=>?_⟩
  rcases mc.1 hid with rfl | hid
  ·exact ⟨a2 _ (h3 _ (by simp)),a2 _ (h3 _ (by simp))⟩
  ·exact a3 id hid
structure Merged (s:φA) (d:φ1) (l:List φ1C) (S:φA) (y:φ1):Prop where
 st:S=((s.1.1+2,[s.1.1,s.1.1+1]),φy s.1.1 0 (φc l (s.2.2.1 - 1)),s.2.2.1,0,0)
 dk:φ5 y=true
 one:φ2 y (φ0 s.1.1)=(txt (φc l (s.2.2.1 - 1)),true)
 two:φ2 y (φ0 (s.1.1+1))=([],true)
 old:∀id∈s.1.2,(φ2 y (φ0 id)).2=false∧(φ2 y (φJ id)).2=false
 oth:∀n,n≠φ0 s.1.1→n≠φ0 (s.1.1+1)→n≠φJ s.1.1→n≠φ2F→n≠φl→(∀id∈s.1.2,n≠φ0 id∧n≠φJ id)→φ2 y n=φ2 d n
theorem φDO {s:φA} {d:φ1} (l:List φ1C) (h:φ5 d=true) (hv:φq s.1=true) (h2:s.1.1+2≤100000) (hc:(φ1H s d l).2.2=0):Merged s d l (φ1H s d l).1 (φ1H s d l).2.1:=by
 obtain ⟨k1,k2,k3,k4⟩:=(φ1A s.1).1 hv
 rw[φG (by omega) (by omega)] at k1
 have hids:=φ3c _ _ k1
 have g0:=φ42 (w:=(d,0)) h (φ0 s.1.1)
 have g0a:=φ79 (φ0 s.1.1) (φc l (s.2.2.1 - 1)) g0
 have g1:=φ5w s.1.1 (φc l (s.2.2.1 - 1)) (w:=(d,0)) h
 have g2:=φ42 g1 (φ0 (s.1.1+1))
 have f1:∀n,n≠φ0 s.1.1→n≠φ0 (s.1.1+1)→φ2 (sNew (φ0 (s.1.1+1)) (sWM s.1.1 (φc l (s.2.2.1 - 1)) (d,0))).1 n=φ2 d n:=fun n q1 q2=>by
  rw[φ6R g1 q2]
  unfold sWM
  rw[φ2d (op:=φR _) (φ2g g0a _ n),φAy q1 _ g0,φ6R (w:=(d,0)) h q1]
 have hne:φ0 s.1.1≠φ0 (s.1.1+1):=fun hh=>by have:=φ3x (by omega) (by omega) hh;omega
 have t1:(sNew (φ0 (s.1.1+1)) (sWM s.1.1 (φc l (s.2.2.1 - 1)) (d,0))).2=0→φ2 (sNew (φ0 (s.1.1+1)) (sWM s.1.1 (φc l (s.2.2.1 - 1)) (d,0))).1 (φ0 s.1.1)=(txt (φc l (s.2.2.1 - 1)),true) ∧
   φ2 (sNew (φ0 (s.1.1+1)) (sWM s.1.1 (φc l (s.2.2.1 - 1)) (d,0))).1 (φ0 (s.1.1+1))=([],true):=fun e=>by
  obtain ⟨n1,n2⟩:=φ9x e
  refine ⟨?_,n2⟩
  rw[φ6R g1 hne]
  unfold sWM at n1 ⊢
  obtain ⟨s1,s2,s3⟩:=φ4I (op:=φR _) n1
  rw[φ2d (op:=φR _) (φ2g g0a _ _)]
  have hz:(sNew (φ0 s.1.1) (d,0)).2=0:=by
   by_cases c:(sNew (φ0 s.1.1) (d,0)).2=0
   ·exact c
   ·generalize sNew (φ0 s.1.1) (d,0)=v at s1 c
    obtain ⟨x,k⟩:=v
    rw[φAE _ _ c] at s1
    exact s1
  obtain ⟨m1,m2⟩:=φ9x hz
  obtain ⟨a1,a2⟩:=φGR (φc l (s.2.2.1 - 1)) s1 (by rw[m2])
  rw[a2,m2];rfl
 unfold φ1H at hc ⊢
 simp only at hc ⊢
 generalize sNew (φ0 (s.1.1+1)) (sWM s.1.1 (φc l (s.2.2.1 - 1)) (d,0))=w1 at *
 have g3:φ5 (φ14 s.1.1 w1).1=true:=by
  unfold φ14;split
  ·exact g2
  ·exact φ7Q _ g2
 have z2:(φ14 s.1.1 w1).2=0→w1.2=0:=fun e=>by
  unfold φ14 at e
  split at e
  ·exact e
  ·rename_i c;simpa using c
 have f2:∀n,n≠φJ s.1.1→φ2 (φ14 s.1.1 w1).1 n=φ2 w1.1 n:=fun n q=>by
  unfold φ14
  split
  ·rfl
  ·unfold φ29
   simp only
   have hf:=φ4g (w:=(w1.1,0)) g2 (φJ s.1.1) (φ1K (φ19 s.1.1 (φ2 w1.1 (φ0 s.1.1)).1).1)
   split
   ·rw[φ4j hf q,φ4v (w:=(w1.1,0)) g2 q]
   ·rw[φ4v (w:=(w1.1,0)) g2 q]
 generalize φ14 s.1.1 w1=w2 at *
 have g5:φ5 (if w2.2=0 then φC (sPut (s.1.1+2,[s.1.1,s.1.1+1]) w2) else φC w2).1=true:=by
  split
  ·exact φ4G g3 _
  ·exact g3
 have z3:(if w2.2=0 then φC (sPut (s.1.1+2,[s.1.1,s.1.1+1]) w2) else φC w2).2=0→w2.2=0:=fun e=>by
  by_cases c:w2.2=0
  ·exact c
  ·rw[if_neg c] at e;exact (φ1R _).1 e
 have f3:∀n,n≠φ2F→n≠φl→φ2 (if w2.2=0 then φC (sPut (s.1.1+2,[s.1.1,s.1.1+1]) w2) else φC w2).1 n=φ2 w2.1 n:=fun n q1 q2=>by
  split
  ·exact φ6c g3 _ q1 q2
  ·rfl
 generalize (if w2.2=0 then φC (sPut (s.1.1+2,[s.1.1,s.1.1+1]) w2) else φC w2)=w3 at *
 by_cases c:w3.2=0
 rotate_left
 ·rw[if_pos c] at hc
  exfalso
  revert hc
  unfold φ1h
  split
  ·split
   ·simp
   ·rename_i c4;exact c4
  ·exact c
 rw[if_neg (by simpa using c)] at hc ⊢
 have hc:(sOld s.1.2 (w3.1,0)).2=0:=(φ1R _).1 hc
 obtain ⟨o1,o2,o3⟩:=φHA s.1.2 (w:=(w3.1,0)) g5 hc
 obtain ⟨u1,u2⟩:=t1 (z2 (z3 c))
 have hseg:∀id,1≤id∧id≤100000→s.1.1≤id→∀i∈s.1.2,φ0 id≠φ0 i∧φ0 id≠φJ i:=fun id q1 q2 i hi=>⟨fun hh=>by
  have:=hids i hi
  have:=φ3x q1 (by omega) hh;omega,φ43 id _ q1⟩
 refine ⟨rfl,φJg s.1.2 (w:=(w3.1,0)) g5,?_,?_,o3,fun n q1 q2 q3 q4 q5 q6=>?_⟩
 ·show φ2 (sOld s.1.2 (w3.1,0)).1 _=_
  rw[φ6K s.1.2 (w:=(w3.1,0)) g5 (hseg _ (by omega) (by omega)),f3 _ (φ4K _) (φ2W _),f2 _ (φ43 _ _ (by omega)),u1]
 ·show φ2 (sOld s.1.2 (w3.1,0)).1 _=_
  rw[φ6K s.1.2 (w:=(w3.1,0)) g5 (hseg _ (by omega) (by omega)),f3 _ (φ4K _) (φ2W _),f2 _ (φ43 _ _ (by omega)),u2]
 ·show φ2 (sOld s.1.2 (w3.1,0)).1 _=_
  rw[φ6K s.1.2 (w:=(w3.1,0)) g5 q6,f3 _ q4 q5,f2 _ q3,f1 _ q1 q2]
theorem φNE (A B:List UInt8) {r:RecT} (h:φe r=true):φ1G (A++(fr r++B)) (A.length:Int) ((fr r).length:Int)=(r,true):=by
 have k:=φEs A h
 rw[←aA,φEh _ (by rw[k]),k]
theorem φFK (m:Int) (g:Int×Int×Int×Int→List UInt8×Int):∀(recs:List RecT) (pre post:List UInt8),(∀r∈recs,φe r=true∧r.1=4) →
  (∀a n b,g (m,a,n,b)=((φ1G (pre++(txt recs++post)) a n).1.2.2.2.1,(φ1G (pre++(txt recs++post)) a n).1.2.1)) →
  mapG g (φy m (pre.length:Int) recs)=recs.map (fun r=>(r.2.2.1,r.2.2.2.1,r.2.1)) ∧
  ∀e∈φy m (pre.length:Int) recs,∃r∈recs,e.1=r.2.2.1∧e.2.1=m∧0≤e.2.2.1∧1≤e.2.2.2.1∧e.2.2.2.1≤210∧e.2.2.2.2=r.2.1∧φ1G (pre++(txt recs++post)) e.2.2.1 e.2.2.2.1=(r,true)
 | [],pre,post,_,_=>⟨rfl,fun e he=>by simp[φy] at he⟩
 | r::recs,pre,post,h,hg=>by
  obtain ⟨hr,h4⟩:=h r κ1
  have hfr:=φ7I r
  have hT:pre++(txt (r::recs)++post)=(pre++fr r)++(txt recs++post):=by rw[φ3Q];simp only[aA]
  have hat:φ1G (pre++(txt (r::recs)++post)) (pre.length:Int) ((fr r).length:Int)=(r,true):=by
   rw[show pre++(txt (r::recs)++post)=pre++(fr r++(txt recs++post)) by rw[φ3Q,aA]]
   exact φNE _ _ hr
  obtain ⟨i1,i2⟩:=φFK m g recs (pre++fr r) post (fun x hx=>h x (mC _ hx)) (fun a n b=>by rw[hg,hT])
  have hl:((pre++fr r).length:Int)=(pre.length:Int)+((frame (φ9 r)).length:Int):=by rw[lA];simp only[fr];omega
  rw[hl] at i1 i2
  have hent:φy m (pre.length:Int) (r::recs)=(r.2.2.1,m,(pre.length:Int),((frame (φ9 r)).length:Int),r.2.1)::φy m ((pre.length:Int)+((frame (φ9 r)).length:Int)) recs:=by
   rw[φy,if_pos h4]
  rw[hent]
  constructor
  ·show (r.2.2.1,g (m,(pre.length:Int),((fr r).length:Int),r.2.1))::mapG g (φy m _ recs)=_
   rw[i1,hg,hat];rfl
  ·intro e he
   rcases mc.1 he with rfl | he
   ·exact ⟨r,κ1,rfl,rfl,by show 0≤(pre.length:Int);omega,by show 1≤((fr r).length:Int);omega,by show ((fr r).length:Int)≤210;omega,rfl,hat⟩
   ·obtain ⟨q,hq,z⟩:=i2 e he
    rw[←hT] at z
    exact ⟨q,mC _ hq,z⟩
theorem φIr {s:List UInt8} {a n:Int} (h:(φ1G s a n).2=true):φe (φ1G s a n).1=true:=by
 unfold φ1G at h ⊢
 split at h
 ·rename_i c1
  rw[if_pos c1]
  split at h
  ·rename_i c2
   rw[if_pos c2]
   rcases φ77 (φP ((s.take (a+n).toNat).drop a.toNat)).1 with ⟨e,_⟩ | ⟨r,e,hr⟩
   ·rw[e] at h;simp at h
   ·rw[e];exact hr.1
  ·simp at h
 ·simp at h
theorem φGl {s:φA} {d:φ1} (h:φs s d=true):∀r∈(φV s d).1.map φS,φe r=true∧r.1=4:=fun r hr=>by
 obtain ⟨p,hp,rfl⟩:=mM.1 hr
 rw[φ2t h] at hp
 obtain ⟨e,he,rfl⟩:=mM.1 hp
 obtain ⟨q1,q2,q3,q4,q5,q6⟩:=φ15.1 h
 have k:=φ3E.1 (q6 e he)
 have ho:=φIr (s:=(φ2 d (φ0 e.2.1)).1) (a:=e.2.2.1) (n:=e.2.2.2.1) k.1
 have hkey:=(φ46 q3).2 e he
 unfold φ2m at hkey
 simp only[bA,decide_eq_true_eq] at hkey
 refine ⟨?_,rfl⟩
 have hb:(φ1O d e).1.2.1=e.2.2.2.2:=k.2.2.2.1
 have hbb:=hkey.2.2.2.2
 unfold φ1O at k hb
 obtain ⟨R,hR⟩:∃R,φ1G (φ2 d (φ0 e.2.1)).1 e.2.2.1 e.2.2.2.1=R:=⟨_,rfl⟩
 rw[hR] at k hb ho
 have hvl:=(φ9T ho).2.2.1 k.2.1
 show φe (φS (e.1,φ1S d e.2))=true
 have hv:(φS (e.1,φ1S d e.2))=(4,(φ1S d e.2).2,e.1,(φ1S d e.2).1,0,0):=rfl
 rw[hv]
 have e2:φ1S d e.2=(R.1.2.2.2.1,R.1.2.1):=by
  unfold φ1S
  rw[hR]
 rw[e2]
 have hb0:(R.1.2.1==0)=false:=by
  have:¬R.1.2.1=0:=by omega
  simpa using this
 unfold φe
 simp[hkey.1,hb0]
 omega
theorem φLh {α β:Type} (g:α→β) {l:List (List UInt8×α)} (h:srt (mapG g l)):srt l:=by
 unfold srt mapG at *
 rw[List.pairwise_map] at h
 exact h
theorem φDA:∀rs:List RecT,(txt rs).length=φEm rs
 | []=>rfl
 | r::rs=>by
  rw[φ3Q,lA,φDA rs];rfl
theorem φMP {r:RecT} (h:φe r=true) (h4:r.1=4):φ1c r.2.2.1=true∧1≤r.2.1∧r.2.1≤1000000:=by
 obtain ⟨k,b,ky,v,c,s⟩:=r
 have h4:k=4:=h4
 subst h4
 unfold φe at h
 simp only[bA,decide_eq_true_eq] at h
 obtain ⟨⟨h1,h2⟩,h⟩:=h
 rw[if_pos (by simp)] at h
 simp only[bA] at h
 have hb:¬b=0:=fun e=>by subst e;simp at h2
 exact ⟨h.1,by show 1≤b;omega,by show b≤1000000;omega⟩
theorem φEc {b c z:Int} (hb:0≤b∧b≤1000000) (hc:0≤c∧c≤20) (hz:0≤z∧z≤4294967295):φe (5,b,[],[],c,z)=true:=by
 unfold φe
 simp;omega
theorem φG2 {s:φA} {d:φ1} (h:φs s d=true):∀p∈(φV s d).1,p.2.2<s.2.2.1:=fun p hp=>by
 rw[φ2t h] at hp
 obtain ⟨e,he,rfl⟩:=mM.1 hp
 obtain ⟨q1,q2,q3,q4,q5,q6⟩:=φ15.1 h
 have k:=φ3E.1 (q6 e he)
 have hb:(φ1S d e.2).2=(φ1O d e).1.2.1:=rfl
 show (φ1S d e.2).2<s.2.2.1
 rw[hb,k.2.2.2.1];exact k.2.2.2.2
theorem φAD {s:φA} {d:φ1} {S:φA} {y:φ1} (h:φs s d=true) (h2:s.1.1+2≤100000) (hM:Merged s d (φV s d).1 S y) :
  φs S y=true∧φV S y=φV s d∧φ4H S∧segN y (S.1.2.take 60)=φEm (φc (φV s d).1 (s.2.2.1 - 1)):=by
 obtain ⟨q1,q2,q3,q4,q5,q6⟩:=φ15.1 h
 obtain ⟨k1,k2,k3,k4⟩:=(φ1A s.1).1 q2
 have hkeep:=φGl h
 have hbat:=φG2 h
 have hsl:srt (φV s d).1:=by rw[φ2t h];exact φJR _ (φ5T q3)
 have hd0:φV s d=((φV s d).1,0):=by rw[φ2t h]
 have hl20:(φV s d).1.length≤20:=by have:=φ7j s d;have:=(φ46 q3).1;omega
 obtain ⟨hst,hdk,hone,htwo,_,_⟩:=hM
 generalize (φV s d).1=l at *
 have hmk:φe (5,s.2.2.1 - 1,[],[],(l.length:Int),φ1L (l.map φS))=true:=φEc (by omega) (by omega) (φ5A _)
 have hall:∀r∈φc l (s.2.2.1 - 1),φe r=true:=fun r hr=>by
  unfold φc at hr
  rcases mA.1 hr with hr | hr
  ·exact (hkeep r hr).1
  ·rw[mZ.1 hr];exact hmk
 have hents:φy s.1.1 0 (φc l (s.2.2.1 - 1))=φy s.1.1 0 (l.map φS):=φ8I s.1.1 _ (show (5:Int)≠4 by decide) _ _
 have htx:txt (φc l (s.2.2.1 - 1))=[]++(txt (l.map φS)++fr (5,s.2.2.1 - 1,[],[],(l.length:Int),φ1L (l.map φS))):=by
  unfold φc;rw[φAx];rfl
 obtain ⟨e1,e2⟩:=φFK s.1.1 (φ1S y) (l.map φS) [] (fr (5,s.2.2.1 - 1,[],[],(l.length:Int),φ1L (l.map φS))) hkeep (fun a n b=>by
  unfold φ1S
  simp only
  rw[hone,htx])
 have e1:mapG (φ1S y) (φy s.1.1 0 (l.map φS))=l:=by
  have:(([]:List UInt8).length:Int)=0:=rfl
  rw[this] at e1
  rw[e1,List.map_map]
  exact List.map_id' l
 have e2:∀e∈φy s.1.1 0 (l.map φS),∃r∈l.map φS,e.1=r.2.2.1∧e.2.1=s.1.1∧0≤e.2.2.1∧1≤e.2.2.2.1∧e.2.2.2.1≤210∧e.2.2.2.2=r.2.1∧φ1O y e=(r,true):=fun e he=>by
  obtain ⟨r,hr,z1,z2,z3,z4,z5,z6,z7⟩:=e2 e he
  refine ⟨r,hr,z1,z2,z3,z4,z5,z6,?_⟩
  unfold φ1O
  rw[z2,hone,htx];exact z7
 subst hst
 rw[hents]
 have hdir:φ1m (φy s.1.1 0 (l.map φS))=true:=by
  refine φDh (φLh (φ1S y) (by rw[e1];exact hsl)) (fun e he=>?_) ?_
  ·obtain ⟨r,hr,z1,z2,z3,z4,z5,z6,z7⟩:=e2 e he
   obtain ⟨w1,w2,w3⟩:=φMP (hkeep r hr).1 (hkeep r hr).2
   unfold φ2m
   rw[z1,w1,z2,z6]
   simp only[tA,bA,decide_eq_true_eq]
   exact ⟨⟨k2.1,k2.2⟩,z3,⟨z4,z5⟩,w2,w3⟩
  ·have:=congrArg List.length e1
   unfold mapG at this
   rw[lM] at this
   omega
 have hent:∀e∈φy s.1.1 0 (l.map φS),φ1t y s.2.2.1 e=true:=fun e he=>by
  obtain ⟨r,hr,z1,z2,z3,z4,z5,z6,z7⟩:=e2 e he
  obtain ⟨p,hp,rfl⟩:=mM.1 hr
  rw[φ3E,z7,z6]
  exact ⟨rfl,.inr rfl,z1.symm,rfl,hbat p hp⟩
 have hok:φs ((s.1.1+2,[s.1.1,s.1.1+1]),φy s.1.1 0 (l.map φS),s.2.2.1,0,0) y=true:=φ15.2 ⟨hdk,φ9v s.1.1 k2.1 h2,hdir,q4,by
  refine (φ2f _).2 ⟨fun id hid=>?_,fun _=>?_⟩
  ·simp only[mc,κc,or_false] at hid
   rcases hid with rfl | rfl
   ·rw[hone];exact ⟨rfl,φCg hall⟩
   ·rw[htwo];exact ⟨rfl,φDg⟩
  ·show (0:Int)=((φ2 y (φ0 (s.1.1+1))).1.length:Int)
   rw[htwo];rfl,hent⟩
 refine ⟨hok,?_,fun e he=>?_,?_⟩
 ·rw[φ2t hok,hd0]
  show (mapG (φ1S y) (φy s.1.1 0 (l.map φS)),(0:Int))=_
  rw[e1]
 ·obtain ⟨r,hr,z1,z2,_⟩:=e2 e he
  show e.2.1<s.1.1+2
  omega
 ·show segN y [s.1.1,s.1.1+1]=_
  unfold segN
  simp only[sumN]
  rw[hone,htwo,φDA];simp
theorem φM0 {α:Type} {l:List (List UInt8×α)} (h:srt l):(l.map (·.1)).Nodup:=by
 unfold srt at h
 unfold List.Nodup
 rw[List.pairwise_map]
 exact h.imp fun hab=>φ5x hab
noncomputable def φ4t (s:φA) (d:φ1):φA×φ1×Int:=
 if φs s d=false then (s,d,4) else if s.1.1+2 > 100000 then (s,d,5) else φ1H s d (φV s d).1
theorem φN7 {s:φA} {d:φ1} (h:SmallS s d):ψX.f s d=some (φ4t s d)∧ψ2b.f s d=some (φ4t s d):=by
 obtain ⟨hd,hu⟩:=h.lim
 have h1:=h.ids
 have h2:=h.dir
 have h3:=h.sm.1
 unfold ψ2b.f ψX.f φ4t
 simp only[φLO s d hd hu (show s.1.2.length<1000000000 by omega) (show s.2.1.length<1000000000 by omega),φDJ s d hd hu (show s.1.2.length<1000000000 by omega) (show s.2.1.length<1000000000 by omega),bS,φ9k s (show s.1.2.length<1000000000 by omega) (show s.2.1.length<1000000000 by omega),φE7 s (show s.1.2.length<1000000000 by omega) (show s.2.1.length<1000000000 by omega),φ5D d (show d.1.length<1000000000000 by omega),φ7U d (show d.1.length<1000000000000 by omega),
   φCk s d hd hu (show s.2.1.length<1000000000 by omega),φF6 s d hd hu (show s.2.1.length<1000000000 by omega)]
 cases hk:φs s d with
 | false=>simp
 | true=>
  obtain ⟨q1,q2,q3,q4,q5⟩:=φ5H hk
  have hd20:s.2.1.length≤20:=(φ46 q3).1
  have hdl:=φ7j s d
  have hlv:=(φ1A s.1).1 q2
  have hc0:(φV s d).2=0:=by rw[φ2t hk]
  simp only[nZ,cF,show w64 (s.1.1+2)=s.1.1+2 from φG (by omega) (by omega),κ7,if_false]
  by_cases e1:s.1.1+2 > 100000
  ·rw[if_pos e1]
   simp only[e1,dT,cT,and_self]
  ·rw[if_neg e1]
   simp only[e1,dF,cF,hc0,bne_self_eq_false,φKL s d _ q1 q2 (show s.1.1+2≤100000 by omega) q4 (show (φV s d).1.length<100000 by omega),φIM s d _ q1 q2 (show s.1.1+2≤100000 by omega) q4 (show (φV s d).1.length<100000 by omega),bS,and_self]
theorem φE9 (d:UInt8):∀(l:List UInt8) (a u:Nat),Lib.parseUint10 a l=.ok u→(48≤d.toNat∧d.toNat≤57)→u<1000000000000→Lib.parseUint10 a (l++[d])=.ok (u * 10+(d.toNat - 48))
 | [],a,u,h,hd,hu=>by
  have h:a=u:=by simp only[Lib.parseUint10] at h;injection h
  subst h
  show Lib.parseUint10 a [d]=_
  rw[Lib.parseUint10,if_pos hd,if_neg (by omega),if_neg (by omega)]
  rfl
 | c::l,a,u,h,hd,hu=>by
  rw[κG,Lib.parseUint10]
  rw[Lib.parseUint10] at h
  split
  ·rename_i c1
   rw[if_pos c1] at h
   split
   ·rename_i c2;rw[if_pos c2] at h;cases h
   ·rename_i c2
    rw[if_neg c2] at h
    split
    ·rename_i c3;rw[if_pos c3] at h;cases h
    ·rename_i c3
     rw[if_neg c3] at h
     exact φE9 d l _ u h hd hu
  ·rename_i c1
   rw[if_neg c1] at h;cases h
theorem φF5:∀(k n:Nat),n<k→n<1000000000000→Lib.parseUint10 0 (Lib.decDigits n)=.ok n
 | 0,n,h,_=>by omega
 | k+1,n,h,hn=>by
  have e:∀m,m<10→(UInt8.ofNat (48+m)).toNat=48+m:=fun m hm=>by simp only[UInt8.toNat_ofNat'];omega
  by_cases c:n<10
  ·rw[Lib.decDigits_one c,Lib.parseUint10,e n c,if_pos (by omega),if_neg (by omega),if_neg (by omega),Lib.parseUint10]
   congr 1;omega
  ·have:=φ44 (n:=n) (by omega)
   unfold digs at this
   rw[if_neg (by omega),if_neg (by omega)] at this
   rw[this,φE9 _ _ 0 (n / 10) (φF5 k (n / 10) (by omega) (by omega)) (by rw[e _ (by omega)];omega) (by omega),e _ (by omega)]
   congr 1;omega
theorem φJm (n:Nat):Lib.decDigits n≠[]:=fun e=>by
 have h1:=φ7C (n+1) n (by omega) (1,0)
 rw[e] at h1
 have h2:=φ7C (n+1) n (by omega) (0,0)
 rw[e] at h2
 simp at h1 h2
 subst h2
 rw[Lib.decDigits_one (by omega)] at e
 simp at e
theorem φLf (n:Nat) {c:UInt8} {r:List UInt8} (h:Lib.decDigits n=c::r):φ3z c=true:=by
 have ha:=φBk (n+1) n (by omega)
 have key:∀(k n:Nat),n<k→∀b∈Lib.decDigits n,φ3z b=true:=by
  intro k
  induction k with
  | zero=>intro n h;omega
  | succ k ih=>
   intro n h b hb
   have e:∀m,m<10→φ3z (UInt8.ofNat (48+m))=true:=fun m hm=>by
    unfold φ3z
    have:(UInt8.ofNat (48+m)).toNat=48+m:=by simp only[UInt8.toNat_ofNat'];omega
    rw[this];simp;omega
   by_cases c:n<10
   ·rw[Lib.decDigits_one c] at hb
    rw[mZ.1 hb];exact e n c
   ·have:=φ44 (n:=n) (by omega)
    unfold digs at this
    rw[if_neg (by omega),if_neg (by omega)] at this
    rw[this] at hb
    rcases mA.1 hb with hb | hb
    ·exact ih (n / 10) (by omega) b hb
    ·rw[mZ.1 hb];exact e _ (by omega)
 exact key (n+1) n (by omega) c (by rw[h];exact κ1)
theorem φNA {n:Nat} (hn:n<1000000000000):Lib.atoiAll (Lib.decDigits n)=.ok (n:Int):=by
 have hp:=φF5 (n+1) n (by omega) hn
 cases e:Lib.decDigits n with
 | nil=>exact absurd e (φJm n)
 | cons c r=>
  have hd:=φLf n e
  unfold φ3z at hd
  simp only[bA,decide_eq_true_eq] at hd
  rw[Lib.atoiAll_plain c r (by omega) (by omega)]
  rw[e] at hp
  unfold Lib.parseMag
  rw[if_neg (by simp),hp]
  unfold Lib.signless
  simp
  omega
def φ25 (s:List UInt8):Int×Bool:=
 match Lib.atoiAll s with
 | .ok n=>if Lib.itoa n=s∧-999999999≤n∧n≤999999999 then (n,true) else (0,false)
 | _=>(0,false)
theorem φHh (n:Int) (h:-9223372036854775808≤n∧n≤9223372036854775807):ψ6.f n=some (Lib.itoa n):=by
 unfold ψ6.f strconv_Itoa.f
 have:(decide (-9223372036854775808≤n) && decide (n≤9223372036854775807))=true:=by simp;omega
 rw[this];rfl
theorem φC1 (s:List UInt8) (hl:s.length<1000000000000):ψe.f s=some (φ25 s):=by
 unfold ψe.f φ25 strconv_Atoi.f
 have h1:decide (s.length≤281474976710656)=true:=by simp;omega
 rw[h1,cT]
 rcases num3 (Lib.atoiAll s) with ⟨n,ha⟩ | ha | ha
 ·rw[ha]
  have hb:=Lib.atoiAll_bounds ha
  simp only[bS,cF,φHh n hb,φ1q]
  by_cases c:Lib.itoa n=s
  ·have:(Lib.itoa n==s)=true:=by simpa using c
   simp only[this,nZ,cF]
   by_cases c2:-999999999≤n∧n≤999999999
   ·rw[if_pos ⟨c,c2⟩]
    simp[c2]
   ·rw[if_neg (fun z=>c2 z.2)]
    have:decide (-999999999≤n∧n≤999999999)=false:=decide_eq_false c2
    simp only[this,nF,cT]
  ·have:(Lib.itoa n==s)=false:=by simpa using c
   rw[if_neg (fun z=>c z.1)]
   simp only[this,nF,cT]
 ·simp[ha]
 ·simp[ha]
theorem φHW {s:List UInt8} {n:Int} (h:φ25 s=(n,true)):Lib.itoa n=s:=by
 unfold φ25 at h
 split at h
 ·split at h
  ·rename_i c
   simp only[Prod.mk.injEq,and_true] at h
   rw[←h];exact c.1
  ·simp at h
 ·simp at h
theorem φKG {n:Nat} (h:n≤100000):φ25 (Lib.decDigits n)=((n:Int),true):=by
 unfold φ25
 rw[φNA (by omega)]
 simp only
 rw[if_pos ⟨φ70 n,by omega,by omega⟩]
theorem φCU (s p:List UInt8):ψ40.f s p=some (decide (p.length≤s.length) && (s.take p.length==p)):=by
 unfold ψ40.f
 by_cases c:p.length≤s.length
 ·have c1:(s.length:Int)≥(p.length:Int):=by omega
  have c2:(decide (0≤(p.length:Int)) && decide ((p.length:Int)≤(s.length:Int)))=true:=by simp;omega
  rw[c2,decide_eq_true c1,cT,cT,decide_eq_true c,tA,tN]
 ·have c1:¬(s.length:Int)≥(p.length:Int):=by omega
  simp only[c1,c,dF,cF,κF]
theorem φC9 (p r:List UInt8):ψ3y.f (p++r) p=some (r,true):=by
 unfold ψ3y.f ψ3z.f
 rw[φCU]
 have c1:decide (p.length≤(p++r).length)=true:=by simp
 have c2:((p++r).take p.length==p)=true:=by rw[List.take_left];simp
 have c3:(decide (0≤(p.length:Int)) && decide ((p.length:Int)≤((p++r).length:Int)))=true:=by rw[lA];simp;omega
 simp only[c1,c2,tA,bS,nZ,cF,c3,cT,tN,κO]
theorem φFk {s p:List UInt8} (h:¬∃r,s=p++r):ψ3y.f s p=some (s,false):=by
 unfold ψ3y.f ψ3z.f
 rw[φCU]
 have c:(decide (p.length≤s.length) && (s.take p.length==p))=false:=by
  cases e:(decide (p.length≤s.length) && (s.take p.length==p)) with
  | false=>rfl
  | true=>
   simp only[bA,decide_eq_true_eq,beq_iff_eq] at e
   exact absurd ⟨s.drop p.length,by rw[←e.2,lT,Nat.min_eq_left e.1,κD]⟩ h
 simp only[c,bS,nF,cT]
theorem φ8b {id:Int} (h:1≤id∧id≤100000):φ0 id=[115,101,103]++Lib.decDigits id.toNat:=by unfold φ0 φ1y;rw[if_pos h]
theorem φ9N {id:Int} (h:1≤id∧id≤100000):φJ id=[104,105,110,116]++Lib.decDigits id.toNat:=by unfold φJ φ1y;rw[if_pos h]
theorem φDT {w r:List UInt8} {name:List UInt8} (hn:name=w++r) (hw:(w=[115,101,103]∧∀id,1≤id∧id≤100000→name≠φJ id)∨(w=[104,105,110,116]∧∀id,1≤id∧id≤100000→name≠φ0 id)) :
  (if (φ25 r).2=true∧1≤(φ25 r).1∧(φ25 r).1≤100000 then ((φ25 r).1,true) else (0,false))=idOf name:=by
 have hnm:∀id,1≤id∧id≤100000→Lib.decDigits id.toNat=r→φ2w name id:=fun id hid e=>by
  refine ⟨hid,?_⟩
  rcases hw with ⟨hw,_⟩ | ⟨hw,_⟩
  ·left;rw[hn,hw,←e,φ8b hid]
  ·right;rw[hn,hw,←e,φ9N hid]
 by_cases c:(φ25 r).2=true∧1≤(φ25 r).1∧(φ25 r).1≤100000
 ·rw[if_pos c]
  have ht:φ25 r=((φ25 r).1,true):=by rw[←c.1]
  have hi:=φHW ht
  generalize (φ25 r).1=n at c hi
  obtain ⟨m,rfl⟩:∃m:Nat,n=(m:Int):=⟨n.toNat,by omega⟩
  rw[φ70] at hi
  exact (φ8g (hnm (m:Int) c.2 (by rw[tN];exact hi))).symm
 ·rw[if_neg c,φ8r]
  rintro ⟨id,hid,hor⟩
  apply c
  have hr:r=Lib.decDigits id.toNat:=by
   rcases hw with ⟨hw,hno⟩ | ⟨hw,hno⟩
   ·rcases hor with e | e
    ·rw[hn,hw,φ8b hid] at e;exact List.append_cancel_left e
    ·exact absurd e (hno id hid)
   ·rcases hor with e | e
    ·exact absurd e (hno id hid)
    ·rw[hn,hw,φ9N hid] at e;exact List.append_cancel_left e
  have:=φKG (n:=id.toNat) (by omega)
  rw[←hr] at this
  rw[this]
  exact ⟨rfl,by show (1:Int)≤(id.toNat:Int);omega,by show (id.toNat:Int)≤100000;omega⟩
theorem φIm (name:List UInt8) (hl:name.length<1000000000000):ψU.f name=some (idOf name):=by
 have fin:∀(r:List UInt8),r.length<1000000000000→((ψe.f r).bind fun (t3_0,t3_1)=>
   bif !true then some ((0:Int),false) else
   bif !t3_1 then some (0,false) else
   (ψ1R.f t3_0 1 100000).bind fun t4=>bif !t4 then some (0,false) else some (t3_0,true))=some (if (φ25 r).2=true∧1≤(φ25 r).1∧(φ25 r).1≤100000 then ((φ25 r).1,true) else (0,false)):=fun r hr=>by
  rw[φC1 r hr,bS]
  generalize φ25 r=p
  obtain ⟨n,b⟩:=p
  simp only[nZ,cF,φ1q,bS]
  cases b
  ·simp
  ·by_cases c:1≤n∧n≤100000
   ·simp[c]
   ·have:decide (1≤n∧n≤100000)=false:=decide_eq_false c
    simp only[nZ,cF,this,nF,cT]
    rw[if_neg (fun z=>c z.2)]
 unfold ψU.f
 by_cases h1:∃r,name=[115,101,103]++r
 ·obtain ⟨r,rfl⟩:=h1
  rw[lA] at hl
  rw[φC9]
  have:=fin r (by omega)
  simp only[bS,nZ,cF] at this ⊢
  rw[this,φDT rfl (.inl ⟨rfl,fun id hid e=>by
   rw[φ9N hid] at e
   have:=congrArg (fun l=>l.getD 0 0) e
   simp at this⟩)]
 ·rw[φFk h1]
  by_cases h2:∃r,name=[104,105,110,116]++r
  ·obtain ⟨r,rfl⟩:=h2
   rw[lA] at hl
   rw[bS]
   simp only[nF,cT]
   rw[φC9]
   have:=fin r (by omega)
   simp only[bS,nZ,cF] at this ⊢
   rw[this,φDT rfl (.inr ⟨rfl,fun id hid e=>by
    rw[φ8b hid] at e
    have:=congrArg (fun l=>l.getD 0 0) e
    simp at this⟩)]
  ·rw[bS]
   simp only[nF,cT]
   rw[φFk h2]
   simp only[bS,φC1 name hl,nF,cT]
   rw[φ8r]
   rintro ⟨id,hid,e | e⟩
   ·exact h1 ⟨_,e.trans (φ8b hid)⟩
   ·exact h2 ⟨_,e.trans (φ9N hid)⟩
theorem φJW (l:List Int) (n:Int) (hl:l.length<1000000000):ψ1P.f l n=some (l.any fun x=>x==n):=by
 have key:=φd (step:=ψ1P.l0) (fun k (_:Unit)=>(n,l,(l.length:Int),(k:Int))) l.length (fun k _=>if (l.drop k).any (fun x=>x==n)=true then .inr true else .inl ()) (fun _ _=>True)
  (fun rec k _ hk _ ih=>by
   rcases κ2 k l.length with h | h
   ·have hw:=φL (show k+1<9223372036854775808 by omega)
    rw[dG h,List.any_cons]
    simp only[ψ1P.l0,oL,h,dT,cT,φD,φI,φ8 h]
    cases hq:(l[k]==n)
    ·simp only[cF,hw,ih () h trivial,κR]
    ·simp
   ·have:k=l.length:=by omega
    subst this
    simp[ψ1P.l0])
  (by omega) 0 () (κ4 _) trivial
 have key:lp ψ1P.l0 (n,l,(l.length:Int),0)=_:=key
 unfold ψ1P.f
 rw[key,bS,κB]
 cases l.any fun x=>x==n
 ·simp[φT]
 ·simp[φZ]
theorem φNH (d:φ1) (v:φN) (hd:dlim d) (hv:v.2.length<1000000000):ψb.f d v=some (φ1z d v):=by
 have key:=φd (step:=ψb.l0) (fun n (acc:List (List UInt8))=>(v,acc,d.1,(d.1.length:Int),(n:Int))) d.1.length (fun n acc=>acc++((d.1.drop n).filter (φ3u v)).map (·.1)) (fun n acc=>acc.length≤n)
  (fun rec n acc hn ha ih=>by
   rcases κ2 n d.1.length with h | h
   ·have hlen:=hd.1
    have hw:=φL (show n+1<9223372036854775808 by omega)
    have hnm:=hd.2.2 _ (gM h)
    have hb:(acc.length+([d.1[n].1]:List (List UInt8)).length) * 16≤140737488355328:=φH6 (by omega)
    have i1:=ih (acc++[d.1[n].1]) h (by rw[lA];show acc.length+1≤n+1;omega)
    have i2:=ih acc h (by omega)
    rw[dG h,List.filter_cons]
    simp only[ψb.l0,oL,h,dT,cT,φD,φI,φ8 h]
    rw[φIm d.1[n].1 hnm,bS]
    have hob:φ3u v d.1[n]=(((idOf d.1[n].1).2 && !(v.2.any fun i=>i==(idOf d.1[n].1).1)) || d.1[n].1==φ2F):=rfl
    rw[hob]
    obtain ⟨tb,hT⟩:∃tb,(d.1[n].1==φ2F)=tb:=⟨_,rfl⟩
    have ht:(d.1[n].1==[116,101,109,112])=tb:=hT
    rw[hT]
    simp only[φJW v.2 _ hv,ht]
    cases (idOf d.1[n].1).2<;>cases (v.2.any fun i=>i==(idOf d.1[n].1).1)<;>cases tb <;>
     simp only[φD,h,φI,φ8 h,ht,hb,dT,cT,cF,bS,nZ,nF,κP,Bool.and_false,Bool.or_true,Bool.or_false,tA,κF,κR,Bool.true_or,if_true,κ0,if_false,hw,i1,i2,κ8,aA,List.singleton_append]
   ·have:n=d.1.length:=by omega
    subst this
    simp[ψb.l0])
  (by have:=hd.1;omega) 0 [] (κ4 _) (κ9 _)
 have key:lp ψb.l0 (v,[],d.1,(d.1.length:Int),0)=_:=key
 unfold ψb.f φ1z
 rw[φ6X d hd,bS]
 cases φ5 d
 ·simp
 ·simp only[nZ,cF,key,bS,κB,κA,κ7,if_false]
def φ3A (s:List UInt8) (v:φN):Prop:=φq v=true∧φ10 v=s
def φ16:φN:=(0,[])
def φ4e (v:φN):List UInt8:=varT v.1++varT (v.2.length:Int)++(v.2.map varT).flatten
theorem φBZ {v:φN} (h:φq v=true):φ1E v.1∧(∀x∈v.2,φ1E x∧x≤100000)∧1≤v.2.length∧v.2.length≤60∧v.1≤100000:=by
 obtain ⟨k1,k2,k3,k4⟩:=(φ1A v).1 h
 rw[φG (by omega) (by omega)] at k1
 have:=φ3c _ _ k1
 refine ⟨⟨by omega,by omega⟩,fun x hx=>?_,k3,k4,k2.2⟩
 have:=this x hx
 exact ⟨⟨by omega,by omega⟩,by omega⟩
theorem φAU {n:Int} (h:0≤n∧n≤100000):(varT n).length≤3:=by
 obtain ⟨m,rfl⟩:∃m:Nat,n=(m:Int):=⟨n.toNat,by omega⟩
 rw[φ55 m (by omega)]
 exact (φ93 2 m (by show m<2097152;omega)).2
theorem φAt {l:List Int} (h:∀x∈l,0≤x∧x≤100000):((l.map varT).flatten).length≤3 * l.length:=by
 induction l with
 | nil=>simp
 | cons x l ih=>
  have h1:=φAU (h x κ1)
  have h2:=ih (fun y hy=>h y (mC _ hy))
  simp only[κ8,κd,lA,lC]
  omega
theorem φ7k {v:φN} (h:φq v=true):(φ4e v).length≤200:=by
 obtain ⟨h1,h2,h3,h4,h5⟩:=φBZ h
 have a1:=φAU ⟨h1.1,h5⟩
 have a2:=φAU (n:=(v.2.length:Int)) (by omega)
 have a3:=φAt (l:=v.2) (fun x hx=>⟨(h2 x hx).1.1,(h2 x hx).2⟩)
 unfold φ4e
 simp only[lA];omega
theorem φEt {s:List UInt8} {v:φN} (h:φ3A s v):s=frame (φ4e v)∧φP s=(φ4e v,(s.length:Int))∧5≤s.length:=by
 have e:s=frame (φ4e v):=by
  rw[←h.2];unfold φ10;rw[if_neg (by rw[h.1];simp)];rfl
 have hb:=φ6x (φ7k h.1) []
 rw[κ6,←e] at hb
 exact ⟨e,hb,by rw[e];exact φ9H (φ7k h.1)⟩
theorem φID {s:List UInt8} {v:φN} (h:φ3A s v):ψh.f s=some (v,true):=by
 obtain ⟨e1,e2,e3⟩:=φEt h
 obtain ⟨n1,n2,n3,n4,n5⟩:=φBZ h.1
 have hbl:=φ7k h.1
 have hsl:s.length≤211:=by rw[e1];exact φ57 _
 obtain ⟨nx,ids⟩:=v
 have hcnt:φ1E (ids.length:Int):=⟨by omega,by have:ids.length≤60:=n4;omega⟩
 have hbd:φ4e (nx,ids)=varT nx++(varT (ids.length:Int)++(ids.map varT).flatten):=by unfold φ4e;rw[aA]
 have hbl2:=hbl
 rw[hbd] at hbl2
 simp only[lA] at hbl2
 have m1:=φ2I n1 (varT (ids.length:Int)++(ids.map varT).flatten) (by simp only[lA];omega)
 have m2:=φ2I hcnt (ids.map varT).flatten (by simp only[lA];omega)
 have n4:ids.length≤60:=n4
 have key:=φd (step:=ψh.l0) (fun n (_:Unit)=>(s,((0,[]):φN),(s.length:Int),(((ids.drop n).map varT).flatten,false),((nx,ids.take n):φN),(ids.length:Int),(n:Int))) ids.length (fun _ _=>(s,(0,[]),(s.length:Int),([],false),(nx,ids))) (fun _ _=>True)
  (fun rec n _ hn _ ih=>by
   rcases κ2 n ids.length with h1 | h1
   ·have hw:=φL (show n+1<9223372036854775808 by omega)
    have hin:=(n2 _ (gM h1)).1
    have hd:((ids.drop n).map varT).flatten=varT ids[n]++((ids.drop (n+1)).map varT).flatten:=by
     rw[dG h1];rfl
    have hfl:((ids.drop n).map varT).flatten.length≤3 * (ids.drop n).length:=φAt (fun x hx=>⟨(n2 x (List.mem_of_mem_drop hx)).1.1,(n2 x (List.mem_of_mem_drop hx)).2⟩)
    have m3:=φ2I hin ((ids.drop (n+1)).map varT).flatten (by rw[←hd];rw[lD] at hfl;omega)
    have hb:((ids.take n).length+([ids[n]]:List Int).length) * 8≤140737488355328:=lim8 (by rw[lT];omega)
    have hi:ids.take n++[ids[n]]=ids.take (n+1):=(κ3 h1).symm
    simp only[ψh.l0,oL,h1,dT,cT,hd,nF,m3,bS,hb,hw,hi,ih () h1 trivial]
   ·have:n=ids.length:=by omega
    subst this
    simp[ψh.l0])
  (by omega) 0 () (κ4 _) trivial
 have key:lp ψh.l0 (s,(0,[]),(s.length:Int),((ids.map varT).flatten,false),(nx,[]),(ids.length:Int),0)=_:=key
 unfold ψh.f
 rw[φ97 s (by omega),e2,hbd,bS]
 simp only[m1,m2,bS,key]
 have c1:((s.length:Int)==0)=false:=by
  have:¬(s.length:Int)=0:=by omega
  simpa using this
 have hok:φq (nx,ids)=true:=h.1
 simp only[c1,cF,bne_self_eq_false,beq_self_eq_true,nZ,φ7e (nx,ids) (by show ids.length<2 ^ 62;omega),bS,hok]
theorem φIq (s:List UInt8) (u:Int) (B:List UInt8) (hB:B.length<1000000000000) (n1:Int) (st:φ4F) (pre:List UInt8) (cnt:Int) (hst:st.1.length≤B.length) (hpre:st.2=false→0≤cnt∧B=pre++st.1) :
  ∃st' ids,lp ψh.l0 (s,(0,[]),u,st,(n1,[]),cnt,0)=some (s,(0,[]),u,st',(n1,ids))∧ids.length≤B.length+1 ∧
   (st'.2=false→st.2=false∧(ids.length:Int)=cnt∧(∀x∈ids,φ1E x)∧B=pre++((ids.map varT).flatten++st'.1)):=by
 have key:=φ5a (step:=ψh.l0) (a:=(s,((0,[]):φN),u,st,((n1,[]):φN),cnt,0))
  (fun a=>∃(st':φ4F) (ids:List Int),a=(s,(0,[]),u,st',(n1,ids),cnt,(ids.length:Int))∧st'.1.length≤B.length∧(st'.2=false→ids.length+st'.1.length≤B.length)∧ids.length≤B.length+1 ∧
   (st'.2=false→st.2=false∧(ids.length:Int)≤cnt∧(∀x∈ids,φ1E x)∧B=pre++((ids.map varT).flatten++st'.1)))
  (fun a=>if a.2.2.2.1.2=true then 0 else a.2.2.2.1.1.length+1)
  (fun b=>∃(st':φ4F) (ids:List Int),b=(s,(0,[]),u,st',(n1,ids))∧ids.length≤B.length+1∧(st'.2=false→st.2=false∧(ids.length:Int)=cnt∧(∀x∈ids,φ1E x)∧B=pre++((ids.map varT).flatten++st'.1)))
  (fun rec a ha=>by
   obtain ⟨st',ids,rfl,h1,h2,h4,h3⟩:=ha
   obtain ⟨t,bad⟩:=st'
   simp only at h1 h2 h3 h4
   by_cases c:(ids.length:Int)<cnt
   ·cases bad with
    | true=>
     left
     exact ⟨(s,(0,[]),u,(t,true),(n1,ids)),by simp only[ψh.l0,c,dT,cT,nZ,cF],(t,true),ids,rfl,h4,fun e=>by simp at e⟩
    | false=>
     right
     obtain ⟨g1,g2,g3,g4⟩:=h3 rfl
     have g5:=h2 rfl
     have hw:=φL (show ids.length+1<9223372036854775808 by omega)
     rcases φ54 t (by omega) with ⟨x,r,m,et,hx⟩ | m
     ·have hx1:=(φ3F hx []).2
      have hle:t.length=(varT x).length+r.length:=by rw[et,lA]
      have hb:(ids.length+([x]:List Int).length) * 8≤140737488355328:=lim8 (by omega)
      refine ⟨(s,(0,[]),u,(r,false),(n1,ids++[x]),cnt,((ids.length+1:Nat):Int)),⟨(r,false),ids++[x],by simp only[lA,κ5],by show r.length≤_;omega,fun _=>by simp only[lA,κ5];omega,by simp only[lA,κ5];omega,fun _=>⟨g1,by simp only[lA,κ5];omega,fun y hy=>?_,?_⟩⟩,?_,?_⟩
      ·rcases mA.1 hy with hy | hy
       ·exact g3 y hy
       ·rw[mZ.1 hy];exact hx
      ·rw[g4,et];simp
      ·simp only[κ0,if_false];omega
      ·simp only[ψh.l0,c,dT,cT,nF,m,bS,hb,hw]
     ·have hb:(ids.length+([0]:List Int).length) * 8≤140737488355328:=lim8 (by omega)
      refine ⟨(s,(0,[]),u,(t,true),(n1,ids++[0]),cnt,((ids.length+1:Nat):Int)),⟨(t,true),ids++[0],by simp only[lA,κ5],h1,fun e=>by simp at e,by simp only[lA,κ5];omega,fun e=>by simp at e⟩,?_,?_⟩
      ·simp only[if_true,κ0,if_false];omega
      ·simp only[ψh.l0,c,dT,cT,nF,m,bS,hb,hw]
   ·left
    refine ⟨(s,(0,[]),u,(t,bad),(n1,ids)),by simp only[ψh.l0,c,dF,cF],(t,bad),ids,rfl,h4,fun e=>?_⟩
    obtain ⟨g1,g2,g3,g4⟩:=h3 e
    exact ⟨g1,by omega,g3,g4⟩)
  ⟨st,[],rfl,hst,fun _=>by simp;exact hst,by simp,fun e=>⟨e,by simpa using (hpre e).1,by simp,by simpa using (hpre e).2⟩⟩ (by simp only;split<;>omega)
 obtain ⟨b,eb,st',ids,rfl,h1,h2⟩:=key
 exact ⟨st',ids,eb,h1,h2⟩
theorem φM5 (s:List UInt8) (hl:s.length<1000000000):∃res:φN×Bool,ψh.f s=some res∧(res=(φ16,false)∨∃v,res=(v,true)∧φ3A s v):=by
 have hul:=φ5n s
 unfold ψh.f
 rw[φ97 s (by omega),bS]
 -- the two numbers ahead
 have first:∃(n1 n2:Int) (st:φ4F) (pre:List UInt8),((ψ1d.f ((φP s).1,false)).bind fun (t2_0,t2_1)=>(ψ1d.f t2_1).bind fun (t3_0,t3_1)=>some (t2_0,t3_0,t3_1))=some (n1,n2,st)∧st.1.length≤(φP s).1.length ∧
   (st.2=false→φ1E n1∧φ1E n2∧pre=varT n1++varT n2∧(φP s).1=pre++st.1):=by
  rcases φ54 (φP s).1 (by omega) with ⟨x,r,m,et,hx⟩ | m
  ·have hle:(φP s).1.length=(varT x).length+r.length:=by
    have:=congrArg List.length et
    rw[lA] at this;exact this
   rcases φ54 r (by omega) with ⟨y,q,m2,et2,hy⟩ | m2
   ·have hle2:r.length=(varT y).length+q.length:=by
     have:=congrArg List.length et2
     rw[lA] at this;exact this
    exact ⟨x,y,(q,false),varT x++varT y,by simp only[m,m2,bS],by show q.length≤_;omega,fun _=>⟨hx,hy,rfl,by rw[et,et2,aA]⟩⟩
   ·exact ⟨x,0,(r,true),[],by simp only[m,m2,bS],by show r.length≤_;omega,fun e=>by simp at e⟩
  ·exact ⟨0,0,((φP s).1,true),[],by simp only[m,φ6f _ (show (φP s).1.length<2 ^ 62 by omega),bS],κ9 _,fun e=>by simp at e⟩
 obtain ⟨n1,n2,st,pre,e1,e2,e3⟩:=first
 obtain ⟨st',ids,eL,h1,h2⟩:=φIq s (φP s).2 (φP s).1 (by omega) n1 st pre n2 e2 (fun e=>⟨(e3 e).2.1.1,(e3 e).2.2.2⟩)
 have hrest:((ψ1d.f ((φP s).1,false)).bind fun (t2_0,t2_1)=>(ψ1d.f t2_1).bind fun (t3_0,t3_1)=>
   (lp ψh.l0 (s,((0,[]):φN),(φP s).2,t3_1,(t2_0,[]),t3_0,0)).bind (fun (x0,x2,x5,x6,x7)=>
   bif x5==0 then some ((0,[]),false) else
   bif x5 != (x0.length:Int) then some ((0,[]),false) else
   bif x6.2 then some ((0,[]),false) else
   bif !(x6.1==[]) then some ((0,[]),false) else
   (ψW.f x7).bind fun t6=>bif !t6 then some ((0,[]),false) else some (x7,true))) =
   (bif (φP s).2==0 then some (((0,[]):φN),false) else
   bif (φP s).2 != (s.length:Int) then some ((0,[]),false) else
   bif st'.2 then some ((0,[]),false) else
   bif !(st'.1==[]) then some ((0,[]),false) else
   (ψW.f (n1,ids)).bind fun t6=>bif !t6 then some ((0,[]),false) else some ((n1,ids),true)):=by
  cases ha:ψ1d.f ((φP s).1,false) with
  | none=>rw[ha] at e1;simp at e1
  | some p=>
   obtain ⟨a1,a2⟩:=p
   rw[ha] at e1
   simp only[bS] at e1 ⊢
   cases hb:ψ1d.f a2 with
   | none=>rw[hb] at e1;simp at e1
   | some q=>
    obtain ⟨b1,b2⟩:=q
    rw[hb] at e1
    simp only[bS,Option.some.injEq,Prod.mk.injEq] at e1 ⊢
    obtain ⟨rfl,rfl,rfl⟩:=e1
    rw[eL];rfl
 suffices hs:∃res:φN×Bool,(bif (φP s).2==0 then some (((0,[]):φN),false) else
   bif (φP s).2 != (s.length:Int) then some ((0,[]),false) else
   bif st'.2 then some ((0,[]),false) else
   bif !(st'.1==[]) then some ((0,[]),false) else
   (ψW.f (n1,ids)).bind fun t6=>bif !t6 then some ((0,[]),false) else some ((n1,ids),true))=some res∧(res=(φ16,false)∨∃v,res=(v,true)∧φ3A s v) by
  obtain ⟨res,e,p⟩:=hs
  exact ⟨res,hrest.trans e,p⟩
 by_cases c1:(φP s).2=0
 ·have d1:((φP s).2==0)=true:=by simpa using c1
  exact ⟨(φ16,false),by rw[d1];rfl,.inl rfl⟩
 have d1:((φP s).2==0)=false:=by simpa using c1
 rw[d1,cF]
 by_cases c2:(φP s).2=(s.length:Int)
 rotate_left
 ·have d2:((φP s).2 != (s.length:Int))=true:=by simpa using c2
  exact ⟨(φ16,false),by rw[d2];rfl,.inl rfl⟩
 have d2:((φP s).2 != (s.length:Int))=false:=by simpa using c2
 rw[d2,cF]
 cases c3:st'.2 with
 | true=>exact ⟨(φ16,false),rfl,.inl rfl⟩
 | false=>
  rw[cF]
  obtain ⟨g1,g2,g3,g4⟩:=h2 c3
  by_cases c4:st'.1=[]
  rotate_left
  ·have d4:(st'.1==[])=false:=by simpa using c4
   exact ⟨(φ16,false),by rw[d4];rfl,.inl rfl⟩
  have d4:(st'.1==[])=true:=by simpa using c4
  rw[d4,nZ,cF,φ7e (n1,ids) (by show ids.length<2 ^ 62;omega),bS]
  cases c5:φq (n1,ids) with
  | false=>exact ⟨(φ16,false),rfl,.inl rfl⟩
  | true=>
   refine ⟨((n1,ids),true),rfl,.inr ⟨(n1,ids),rfl,c5,?_⟩⟩
   obtain ⟨t,r,f1,f2,f3⟩:=φBo c1
   obtain ⟨k1,k2,k3,k4⟩:=e3 g1
   have ht:(φP s).1=t:=by rw[f3]
   have hlen:((frame t).length:Int)=(s.length:Int):=by rw[←c2,f3]
   have hr:r=[]:=by
    have:=congrArg List.length f1
    rw[lA] at this
    exact List.length_eq_zero_iff.1 (by omega)
   unfold φ10
   rw[if_neg (by rw[c5];simp)]
   rw[f1,hr,κ6,←ht,g4,k3,c4,←g2]
   simp only[κ6]
theorem φC6 {s:List UInt8} {v:φN} (h:φ3A s v):ψ2m.f s=some (v,true):=by
 obtain ⟨e1,e2,e3⟩:=φEt h
 obtain ⟨n1,n2,n3,n4,n5⟩:=φBZ h.1
 have hbl:=φ7k h.1
 have hsl:s.length≤211:=by rw[e1];exact φ57 _
 have hsh:=h.2
 obtain ⟨nx,ids⟩:=v
 have n4:ids.length≤60:=n4
 have hcnt:φ1E (ids.length:Int):=⟨by omega,by omega⟩
 have hbd:φ4e (nx,ids)=varT nx++(varT (ids.length:Int)++(ids.map varT).flatten):=by unfold φ4e;rw[aA]
 have hbl2:=hbl
 rw[hbd] at hbl2
 simp only[lA] at hbl2
 have r1:=φ3F n1 (varT (ids.length:Int)++(ids.map varT).flatten)
 have r2:=φ3F hcnt (ids.map varT).flatten
 generalize hT:varT nx++(varT (ids.length:Int)++(ids.map varT).flatten)=T at *
 have hTl:T.length=(varT nx).length+((varT (ids.length:Int)).length+((ids.map varT).flatten).length):=by rw[←hT];simp only[lA]
 have hat:∀n,n≤ids.length→T.drop ((varT nx).length+(varT (ids.length:Int)).length+((ids.take n).map varT).flatten.length)=((ids.drop n).map varT).flatten:=fun n hn=>by
  have e:T=(varT nx++varT (ids.length:Int)++((ids.take n).map varT).flatten)++((ids.drop n).map varT).flatten:=by
   rw[←hT]
   simp only[aA]
   congr 2
   rw[←List.flatten_append,←mp,κD]
  rw[e,show (varT nx).length+(varT (ids.length:Int)).length+((ids.take n).map varT).flatten.length=(varT nx++varT (ids.length:Int)++((ids.take n).map varT).flatten).length by simp only[lA],κO]
 have hfle:∀n,((ids.take n).map varT).flatten.length≤200:=fun n=>by
  have:((ids.take n).map varT).flatten.length≤3 * (ids.take n).length:=φAt (fun x hx=>⟨(n2 x (List.mem_of_mem_take hx)).1.1,(n2 x (List.mem_of_mem_take hx)).2⟩)
  rw[lT] at this;omega
 have key:=φd (step:=ψ2m.l0) (fun n (_:Unit)=>(s,((0,[]):φN),T,(ids.length:Int),((nx,ids.take n):φN),(((varT nx).length+(varT (ids.length:Int)).length+((ids.take n).map varT).flatten.length:Nat):Int),(n:Int))) ids.length (fun _ _=>(s,(0,[]),(nx,ids))) (fun _ _=>True)
  (fun rec n _ hn _ ih=>by
   rcases κ2 n ids.length with h1 | h1
   ·have hw:=φL (show n+1<9223372036854775808 by omega)
    have hin:=(n2 _ (gM h1)).1
    have hc60:(n:Int)<60:=by omega
    have hd:((ids.drop n).map varT).flatten=varT ids[n]++((ids.drop (n+1)).map varT).flatten:=by
     rw[dG h1];rfl
    have hta:((ids.take (n+1)).map varT).flatten.length=((ids.take n).map varT).flatten.length+(varT ids[n]).length:=by
     rw[κ3 h1,mp,List.flatten_append,lA]
     show _+(varT ids[n]++[]).length=_
     rw[κ6]
    have hdl:=congrArg List.length (hat n hn)
    rw[lD] at hdl
    have r3:=φ3F hin ((ids.drop (n+1)).map varT).flatten
    have h200:=hfle n
    have hvl:=φm ids[n]
    have hvl1:=φm nx
    have hvl2:=φm (ids.length:Int)
    have hdl2:=congrArg List.length hd
    rw[lA] at hdl2
    have hin2:(decide (0≤(((varT nx).length+(varT (ids.length:Int)).length+((ids.take n).map varT).flatten.length:Nat):Int)) && decide ((((varT nx).length+(varT (ids.length:Int)).length+((ids.take n).map varT).flatten.length:Nat):Int)≤(T.length:Int)))=true:=by
     simp only[bA,decide_eq_true_eq];omega
    have hb:((ids.take n).length+([ids[n]]:List Int).length) * 8≤140737488355328:=lim8 (by rw[lT];omega)
    have hi:ids.take n++[ids[n]]=ids.take (n+1):=(κ3 h1).symm
    have hwo:w64 ((((varT nx).length+(varT (ids.length:Int)).length+((ids.take n).map varT).flatten.length:Nat):Int)+((varT ids[n]).length:Int))=(((varT nx).length+(varT (ids.length:Int)).length+((ids.take (n+1)).map varT).flatten.length:Nat):Int):=by
     rw[φG (by omega) (by omega),hta];omega
    simp only[ψ2m.l0,oL,h1,hc60,dT,cT,hin2,tN,hat n hn]
    rw[φ2V _ (by omega),hd,r3.1,bS]
    simp only[hb,dT,cT,hi,hwo,hw,ih () h1 trivial]
   ·have:n=ids.length:=by omega
    subst this
    simp[ψ2m.l0])
  (by omega) 0 () (κ4 _) trivial
 have key:lp ψ2m.l0 (s,(0,[]),T,(ids.length:Int),(nx,[]),(((varT nx).length+(varT (ids.length:Int)).length+((ids.take 0).map varT).flatten.length:Nat):Int),((0:Nat):Int))=_:=key
 have hv1:=φm nx
 have hv2:=φm (ids.length:Int)
 have c1:((s.length:Int)==0)=false:=by
  have:¬(s.length:Int)=0:=by omega
  simpa using this
 have c2:(((varT nx).length:Int)==0)=false:=by
  have:1≤(varT nx).length:=r1.2
  have:¬((varT nx).length:Int)=0:=by omega
  simpa using this
 have c3:(decide (0≤((varT nx).length:Int)) && decide (((varT nx).length:Int)≤(T.length:Int)))=true:=by simp only[bA,decide_eq_true_eq];omega
 have hd1:T.drop (varT nx).length=varT (ids.length:Int)++(ids.map varT).flatten:=by rw[←hT,κO]
 have hw1:w64 (((varT nx).length:Int)+((varT (ids.length:Int)).length:Int))=(((varT nx).length+(varT (ids.length:Int)).length+((ids.take 0).map varT).flatten.length:Nat):Int):=by
  rw[φG (by omega) (by omega)];simp
 unfold ψ2m.f
 rw[φ7o s (by omega),e2,hbd,bS]
 simp only
 rw[φ2V T (by omega),r1.1,bS]
 simp only[bne_self_eq_false,cF,c1,c2,c3,cT,tN,hd1]
 rw[φ2V _ (by rw[←hd1,lD];omega),r2.1,bS]
 simp only[hw1]
 have key:lp ψ2m.l0 (s,(0,[]),T,(ids.length:Int),(nx,[]),(((varT nx).length+(varT (ids.length:Int)).length+((ids.take 0).map varT).flatten.length:Nat):Int),0)=_:=key
 rw[key,bS]
 simp only[φB4 (nx,ids) (by show ids.length<2 ^ 62;omega),bS,hsh,beq_self_eq_true,nZ,cF]
theorem φHa (s:List UInt8) (hl:s.length<1000000000):∃res:φN×Bool,ψ2m.f s=some res∧(res=(φ16,false)∨∃v,res=(v,true)∧φ3A s v):=by
 have hul:=φ5n s
 unfold ψ2m.f
 rw[φ7o s (by omega),bS]
 simp only
 rw[φ2V _ (by omega),bS]
 by_cases c2:(φP s).2=(s.length:Int)
 rotate_left
 ·have d2:((φP s).2 != (s.length:Int))=true:=by simpa using c2
  exact ⟨(φ16,false),by simp only[d2,cT];rfl,.inl rfl⟩
 have d2:((φP s).2 != (s.length:Int))=false:=by simpa using c2
 simp only[d2,cF]
 by_cases c1:(φP s).2=0
 ·have d1:((φP s).2==0)=true:=by simpa using c1
  exact ⟨(φ16,false),by simp only[d1,cT];rfl,.inl rfl⟩
 have d1:((φP s).2==0)=false:=by simpa using c1
 simp only[d1,cF]
 generalize hT:(φP s).1=T at *
 have v1:=φ5O T
 by_cases c3:(φk T).2=0
 ·have d3:((φk T).2==0)=true:=by simpa using c3
  exact ⟨(φ16,false),by simp only[d3,cT];rfl,.inl rfl⟩
 have d3:((φk T).2==0)=false:=by simpa using c3
 have d4:(decide (0≤(φk T).2) && decide ((φk T).2≤(T.length:Int)))=true:=by simp only[bA,decide_eq_true_eq];omega
 simp only[d3,d4,cF,cT]
 rw[φ2V _ (by rw[lD];omega),bS]
 generalize hR:T.drop (φk T).2.toNat=R
 have v2:=φ5O R
 have hRl:R.length+(φk T).2.toNat=T.length:=by rw[←hR,lD];omega
 generalize (φk T).1=n1
 generalize (φk R).1=cnt
 have hw1:w64 ((φk T).2+(φk R).2)=(φk T).2+(φk R).2:=φG (by omega) (by omega)
 simp only[hw1]
 have hp0:0≤(φk T).2+(φk R).2∧(φk T).2+(φk R).2≤T.length:=by omega
 generalize (φk T).2+(φk R).2=pos at hp0
 have key:=φ5a (step:=ψ2m.l0) (a:=(s,((0,[]):φN),T,cnt,((n1,[]):φN),pos,0))
  (fun a=>∃(ids:List Int) (p:Int),a=(s,(0,[]),T,cnt,(n1,ids),p,(ids.length:Int))∧0≤p∧p≤(T.length:Int)∧ids.length≤60)
  (fun a=>61 - a.2.2.2.2.1.2.length)
  (fun b=>∃ids:List Int,b=(s,(0,[]),(n1,ids))∧ids.length≤60)
  (fun rec a ha=>by
   obtain ⟨ids,p,rfl,h1,h2,h3⟩:=ha
   by_cases c:(ids.length:Int)<cnt
   rotate_left
   ·left;exact ⟨_,by simp only[ψ2m.l0,c,dF,cF,cT],ids,rfl,h3⟩
   by_cases cc:(ids.length:Int)<60
   rotate_left
   ·left;exact ⟨_,by simp only[ψ2m.l0,c,cc,dT,dF,cT,cF,cT],ids,rfl,h3⟩
   right
   have hin:(decide (0≤p) && decide (p≤(T.length:Int)))=true:=by simp only[bA,decide_eq_true_eq];omega
   have v3:=φ5O (T.drop p.toNat)
   rw[lD] at v3
   have hw:=φL (show ids.length+1<9223372036854775808 by omega)
   have hwp:w64 (p+(φk (T.drop p.toNat)).2)=p+(φk (T.drop p.toNat)).2:=φG (by omega) (by omega)
   have hb:(ids.length+([(φk (T.drop p.toNat)).1]:List Int).length) * 8≤140737488355328:=lim8 (by omega)
   refine ⟨(s,(0,[]),T,cnt,(n1,ids++[(φk (T.drop p.toNat)).1]),p+(φk (T.drop p.toNat)).2,((ids.length+1:Nat):Int)),⟨ids++[(φk (T.drop p.toNat)).1],p+(φk (T.drop p.toNat)).2,by simp only[lA,κ5],by omega,by omega,by simp only[lA,κ5];omega⟩,by simp only[lA,κ5];omega,?_⟩
   simp only[ψ2m.l0,c,cc,dT,cT,hin]
   rw[φ2V _ (by rw[lD];omega),bS]
   simp only[hb,dT,cT,hwp,hw])
  ⟨[],pos,rfl,hp0.1,by omega,by simp⟩ (by simp)
 obtain ⟨b,eb,ids,rfl,h60⟩:=key
 rw[eb,bS]
 simp only[φB4 (n1,ids) (by show ids.length<2 ^ 62;omega),bS]
 by_cases c5:φ10 (n1,ids)=s
 rotate_left
 ·have d5:(φ10 (n1,ids)==s)=false:=by simpa using c5
  exact ⟨(φ16,false),by simp only[d5,nF,cT];rfl,.inl rfl⟩
 have d5:(φ10 (n1,ids)==s)=true:=by simpa using c5
 refine ⟨((n1,ids),true),by simp only[d5,nZ,cF],.inr ⟨(n1,ids),rfl,?_,c5⟩⟩
 cases hk:φq (n1,ids) with
 | true=>rfl
 | false=>
  exfalso
  have:φ10 (n1,ids)=[]:=by unfold φ10;rw[if_pos hk]
  rw[this] at c5
  apply c1
  rw[c2,←c5];rfl
noncomputable def φ2v (s:List UInt8):φN×Bool:=@dite (φN×Bool) (∃v,φ3A s v) (Classical.propDecidable _) (fun h=>(h.choose,true)) (fun _=>(φ16,false))
theorem φD1 {s:List UInt8} {o:Option (φN×Bool)} (h1:∀v,φ3A s v→o=some (v,true)) (h2:∃res:φN×Bool,o=some res∧(res=(φ16,false)∨∃v,res=(v,true)∧φ3A s v)):o=some (φ2v s):=by
 unfold φ2v
 by_cases h:∃v,φ3A s v
 ·rw[dif_pos h];exact h1 _ h.choose_spec
 ·rw[dif_neg h]
  obtain ⟨res,e,k | ⟨v,_,hv⟩⟩:=h2
  ·rw[e,k]
  ·exact absurd ⟨v,hv⟩ h
theorem φJL (s:List UInt8) (hl:s.length<1000000000):ψh.f s=some (φ2v s):=φD1 (fun _ h=>φID h) (φM5 s hl)
theorem φEX (s:List UInt8) (hl:s.length<1000000000):ψ2m.f s=some (φ2v s):=φD1 (fun _ h=>φC6 h) (φHa s hl)
theorem φAl (s:List UInt8):φ2v s=(φ16,false)∧(¬∃v,φ3A s v)∨∃v,φ2v s=(v,true)∧φ3A s v:=by
 unfold φ2v
 by_cases h:∃v,φ3A s v
 ·rw[dif_pos h];exact .inr ⟨_,rfl,h.choose_spec⟩
 ·rw[dif_neg h];exact .inl ⟨rfl,h⟩
def φ3e (s:List UInt8) (h:φ13):Prop:=φ2H h=true∧φ1K h=s
def φ3H:φ13:=(0,0,[])
theorem φ5Y (st:φ4F) (hl:st.1.length<2 ^ 62):∃n st',ψ1d.f st=some (n,st')∧st'.1.length≤st.1.length∧(st'.2=false→st.2=false∧st'.1.length+1≤st.1.length):=by
 obtain ⟨s,b⟩:=st
 cases b with
 | true=>exact ⟨0,(s,true),φ6f s hl,κ9 _,fun e=>by simp at e⟩
 | false=>
  rcases φ54 s hl with ⟨n,r,m,e,hn⟩ | m
  ·have h1:=(φ3F hn []).2
   have hle:s.length=(varT n).length+r.length:=by rw[e,lA]
   exact ⟨n,(r,false),m,by show r.length≤s.length;omega,fun _=>⟨rfl,by show r.length+1≤s.length;omega⟩⟩
  ·exact ⟨0,(s,true),m,κ9 _,fun e=>by simp at e⟩
theorem φHz (st:φ4F) (hl:st.1.length<2 ^ 62):∃t st',ψ1e.f st=some (t,st')∧st'.1.length≤st.1.length∧(st'.2=false→st.2=false∧st'.1.length+1≤st.1.length):=by
 obtain ⟨s,b⟩:=st
 cases b with
 | true=>exact ⟨[],(s,true),φ8w s hl,κ9 _,fun e=>by simp at e⟩
 | false=>
  rcases φ8V s hl with ⟨t,r,m,e,hn⟩ | ⟨r,m,hr⟩
  ·have h1:=(φ3F hn []).2
   have hle:s.length=(varT (t.length:Int)).length+(t.length+r.length):=by
    have:=congrArg List.length e
    simp only[lA] at this;exact this
   exact ⟨t,(r,false),m,by show r.length≤s.length;omega,fun _=>⟨rfl,by show r.length+1≤s.length;omega⟩⟩
  ·exact ⟨[],(r,true),m,hr,fun e=>by simp at e⟩
theorem φJJ (s:List UInt8):∃t st',ψ1c.f (s,false) 4=some (t,st')∧st'.1.length≤s.length:=by
 rcases φ9q s 4 (by decide) with ⟨t,r,e,es,_⟩ | e
 ·exact ⟨t,(r,false),e,by rw[es,lA];show r.length≤_;omega⟩
 ·exact ⟨[],(s,true),e,κ9 _⟩
theorem φ84 {a:Nat} (h:a<1000000000001):(a+1) * 48≤140737488355328:=by omega
theorem φKX (s:List UInt8) (hl:s.length<900000000):∃res:φ13×Bool,ψg.f s=some res∧(res=(φ3H,false)∨∃h,res=(h,true)∧φ3e s h):=by
 obtain ⟨t,st1,e1,l1⟩:=φJJ s
 obtain ⟨n2,st2,e2,l2,_⟩:=φ5Y st1 (by omega)
 obtain ⟨n3,st3,e3,l3,_⟩:=φ5Y st2 (by omega)
 obtain ⟨n4,st4,e4,l4,_⟩:=φ5Y st3 (by omega)
 have key:=φ5a (step:=ψg.l0) (a:=(s,((0,0,[]):φ13),st4,((n2,n3,[]):φ13),n4,0))
  (fun a=>∃(st:φ4F) (es:List φB),a=(s,(0,0,[]),st,(n2,n3,es),n4,(es.length:Int))∧st.1.length≤s.length∧(st.2=false→es.length+st.1.length≤s.length)∧es.length≤s.length+1)
  (fun a=>if a.2.2.1.2=true then 0 else a.2.2.1.1.length+1)
  (fun b=>∃(st:φ4F) (es:List φB),b=(s,(0,0,[]),st,(n2,n3,es))∧es.length≤s.length+1)
  (fun rec a ha=>by
   obtain ⟨st,es,rfl,h1,h2,h4⟩:=ha
   by_cases c:(es.length:Int)<n4
   rotate_left
   ·left;exact ⟨_,by simp only[ψg.l0,c,dF,cF],st,es,rfl,h4⟩
   obtain ⟨u,bad⟩:=st
   simp only at h1 h2
   cases bad with
   | true=>
    left
    exact ⟨_,by simp only[ψg.l0,c,dT,cT,nZ,cF],(u,true),es,rfl,h4⟩
   | false=>
    right
    have h2:=h2 rfl
    obtain ⟨x5,s5,m5,q5,r5⟩:=φHz (u,false) (show u.length<2 ^ 62 by omega)
    have q5:s5.1.length≤u.length:=q5
    obtain ⟨x6,s6,m6,q6,r6⟩:=φ5Y s5 (by omega)
    obtain ⟨x7,s7,m7,q7,r7⟩:=φ5Y s6 (by omega)
    obtain ⟨x8,s8,m8,q8,r8⟩:=φ5Y s7 (by omega)
    obtain ⟨x9,s9,m9,q9,r9⟩:=φ5Y s8 (by omega)
    have hw:=φL (show es.length+1<9223372036854775808 by omega)
    have hb:(es.length+([(x5,x6,x7,x8,x9)]:List φB).length) * 48≤140737488355328:=φ84 (by omega)
    have hdec:s9.2=false→s9.1.length+1≤u.length:=fun e=>by
     have a9:=r9 e
     have a8:=r8 a9.1
     have a7:=r7 a8.1
     have a6:=r6 a7.1
     have a5:=(r5 a6.1).2
     have a5:s5.1.length+1≤u.length:=a5
     omega
    refine ⟨(s,(0,0,[]),s9,(n2,n3,es++[(x5,x6,x7,x8,x9)]),n4,((es.length+1:Nat):Int)),⟨s9,es++[(x5,x6,x7,x8,x9)],by simp only[lA,κ5],by omega,fun e=>by simp only[lA,κ5];have:=hdec e;omega,by simp only[lA,κ5];omega⟩,?_,?_⟩
    ·simp only[κ0,if_false]
     split
     ·omega
     ·rename_i z
      have:=hdec (by simpa using z)
      omega
    ·simp only[ψg.l0,c,dT,cT,nF,m5,m6,m7,m8,m9,bS,hb,hw])
  ⟨st4,[],rfl,by omega,fun _=>by simp;omega,by simp⟩ (by simp only;split<;>omega)
 obtain ⟨b,eb,st,es,rfl,hes⟩:=key
 unfold ψg.f
 simp only[e1,e2,e3,e4,bS,eb]
 cases c1:st.2 with
 | true=>exact ⟨(φ3H,false),rfl,.inl rfl⟩
 | false=>
  simp only[cF,φ9p (n2,n3,es) (show es.length<1000000000 by omega),bS]
  cases c2:φ2H (n2,n3,es) with
  | false=>exact ⟨(φ3H,false),rfl,.inl rfl⟩
  | true=>
   simp only[nZ,cF,φ9s (n2,n3,es) (show es.length<1000000000 by omega),bS]
   by_cases c3:φ1K (n2,n3,es)=s
   ·have d3:(φ1K (n2,n3,es)==s)=true:=by simpa using c3
    exact ⟨((n2,n3,es),true),by simp only[d3,nZ,cF],.inr ⟨_,rfl,c2,c3⟩⟩
   ·have d3:(φ1K (n2,n3,es)==s)=false:=by simpa using c3
    exact ⟨(φ3H,false),by simp only[d3,nF,cT];rfl,.inl rfl⟩
theorem φA6 {h:φ13} (k:φ2H h=true):φ1E h.1∧φ1E h.2.1∧h.2.2.length≤20∧∀e∈h.2.2,e.1.length≤8∧φ1E e.2.1∧φ1E e.2.2.1∧φ1E e.2.2.2.1∧φ1E e.2.2.2.2:=by
 unfold φ2H at k
 simp only[bA,decide_eq_true_eq,κN] at k
 obtain ⟨k1,k2,k3,k4⟩:=k
 have hd:=φ46 k4
 refine ⟨⟨k2.1,by omega⟩,⟨k3.1,by omega⟩,hd.1,fun e he=>?_⟩
 have ho:=hd.2 e he
 have hs:=k1 e he
 have hk:=φFr ho
 unfold φ2m at ho
 unfold φ4V at hs
 simp only[bA,decide_eq_true_eq,κL,decide_eq_false_iff_not] at ho hs
 unfold φ1E
 omega
theorem φCs {s:List UInt8} {h:φ13} (k:φ3e s h):s=fix4 (crcT (φ1e h))++φ1e h∧(fix4 (crcT (φ1e h))).length=4:=by
 refine ⟨?_,φ78 (φ5A _)⟩
 rw[←k.2];unfold φ1K;rw[if_neg (by rw[k.1];simp)]
theorem φBh (e:φB) (r:List UInt8):entT e++r=varT (e.1.length:Int)++(e.1++(varT e.2.1++(varT e.2.2.1++(varT e.2.2.2.1++(varT e.2.2.2.2++r))))):=by
 unfold entT;simp only[aA]
theorem φL2 {s:List UInt8} {h:φ13} (k:φ3e s h):ψg.f s=some (h,true):=by
 obtain ⟨es,h4⟩:=φCs k
 obtain ⟨n1,n2,n3,n4⟩:=φA6 k.1
 have hbl:=φ6z k.1
 have hsh:=k.2
 have hok:=k.1
 obtain ⟨z,m,l⟩:=h
 simp only at n1 n2 n3 n4
 have hcnt:φ1E (l.length:Int):=⟨by omega,by omega⟩
 have hbd:φ1e (z,m,l)=varT z++(varT m++(varT (l.length:Int)++(l.map entT).flatten)):=by unfold φ1e;simp only[aA]
 have hbl2:=hbl
 rw[hbd] at hbl2
 simp only[lA] at hbl2
 have b0:=φ6L (fix4 (crcT (φ1e (z,m,l)))) (φ1e (z,m,l))
 rw[←es,h4,hbd] at b0
 have b0:ψ1c.f (s,false) 4=_:=b0
 have m1:=φ2I n1 (varT m++(varT (l.length:Int)++(l.map entT).flatten)) (by simp only[lA];omega)
 have m2:=φ2I n2 (varT (l.length:Int)++(l.map entT).flatten) (by simp only[lA];omega)
 have m3:=φ2I hcnt (l.map entT).flatten (by simp only[lA];omega)
 have hfl:∀n,((l.drop n).map entT).flatten.length≤43 * (l.drop n).length:=fun n=>φB8 (fun x hx=>(n4 x (List.mem_of_mem_drop hx)).1)
 have key:=φd (step:=ψg.l0) (fun n (_:Unit)=>(s,((0,0,[]):φ13),(((l.drop n).map entT).flatten,false),((z,m,l.take n):φ13),(l.length:Int),(n:Int))) l.length (fun _ _=>(s,(0,0,[]),([],false),(z,m,l))) (fun _ _=>True)
  (fun rec n _ hn _ ih=>by
   rcases κ2 n l.length with h1 | h1
   ·have hw:=φL (show n+1<9223372036854775808 by omega)
    obtain ⟨k0,k1,k2,k3,k5⟩:=n4 _ (gM h1)
    have hk0:φ1E (l[n].1.length:Int):=⟨by omega,by omega⟩
    have hd:((l.drop n).map entT).flatten=entT l[n]++((l.drop (n+1)).map entT).flatten:=by
     rw[dG h1];rfl
    have hlen:=hfl n
    rw[hd,φBh] at hlen
    rw[lD] at hlen
    simp only[lA] at hlen
    have t0:=φ9B l[n].1 (varT l[n].2.1++(varT l[n].2.2.1++(varT l[n].2.2.2.1++(varT l[n].2.2.2.2++((l.drop (n+1)).map entT).flatten)))) hk0 (by simp only[lA];omega)
    have t1:=φ2I k1 (varT l[n].2.2.1++(varT l[n].2.2.2.1++(varT l[n].2.2.2.2++((l.drop (n+1)).map entT).flatten))) (by simp only[lA];omega)
    have t2:=φ2I k2 (varT l[n].2.2.2.1++(varT l[n].2.2.2.2++((l.drop (n+1)).map entT).flatten)) (by simp only[lA];omega)
    have t3:=φ2I k3 (varT l[n].2.2.2.2++((l.drop (n+1)).map entT).flatten) (by simp only[lA];omega)
    have t4:=φ2I k5 ((l.drop (n+1)).map entT).flatten (by simp only[lA];omega)
    have hb:((l.take n).length+([l[n]]:List φB).length) * 48≤140737488355328:=φ84 (by rw[lT];omega)
    have hi:l.take n++[l[n]]=l.take (n+1):=(κ3 h1).symm
    have hp:((l[n].1,l[n].2.1,l[n].2.2.1,l[n].2.2.2.1,l[n].2.2.2.2):φB)=l[n]:=rfl
    simp only[ψg.l0,oL,h1,dT,cT,hd,φBh,nF,t0,t1,t2,t3,t4,bS,hp,hb,hw,hi,ih () h1 trivial]
   ·have:n=l.length:=by omega
    subst this
    simp[ψg.l0])
  (by omega) 0 () (κ4 _) trivial
 have key:lp ψg.l0 (s,(0,0,[]),((l.map entT).flatten,false),(z,m,[]),(l.length:Int),0)=_:=key
 unfold ψg.f
 simp only[b0,m1,m2,m3,bS,key,cF,φ9p (z,m,l) (show l.length<1000000000 by omega),hok,nZ,φ9s (z,m,l) (show l.length<1000000000 by omega),hsh,beq_self_eq_true]
end Go.Rf.G
