import Derived.Test.YtleflckegnlgcaaGreatDoorLNoRoomLem2
open Option renaming bind_some→bS
open List renaming length_append→lA,append_assoc→aA,mem_cons_of_mem→mC,mem_append→mA,mem_append_right→mR,mem_append_left→mL,mem_cons→mc,drop_eq_getElem_cons→dG,length_take→lT,length_drop→lD,mem_map→mM,length_map→lM,length_cons→lC,length_nil→lN,getElem_mem→gM,map_append→mp,mem_singleton→mZ,mem_cons_self→κ0,append_nil→κ4,map_cons→κ5,take_succ_eq_append_getElem→κ6,nil_append→κ7,length_singleton→κ9,drop_zero→κC,take_append_drop→κE,cons_append→κF,flatMap_append→κI,replicate→κJ,nodup_append→κK,foldl_cons→κN,drop_left→κO,range'→κQ,nodup_cons→κS,all_eq_true→κU,foldl_append→κW,pairwise_cons→κX,take_length→κb
open Bool renaming and_eq_true→bA,eq_false_or_eq_true→bE,not_true→nZ,not_false→nF,true_and→tA,not_not→nn,false_eq_true→κ2,true_eq_false→κ8,false_and→κD,or_eq_false_iff→κH,and_true→κL,not_eq_true'→κM,false_or→κR,or_eq_true→κV
open Int renaming toNat_natCast→tN,ofNat_lt→oL,le_refl→κP
open Nat renaming lt_or_ge→κ1,zero_le→κ3,eq_of_beq_eq_true→κA,le_refl→κB,lt_of_lt_of_le→κG,zero_add→κT,pow_succ→κY,mod_eq_of_lt→κa
open Array renaming length_toList→κZ
set_option linter.unusedVariables false
set_option linter.unusedSimpArgs false
namespace Go.Rf.G
open Go Go.Rf
set_option synthInstance.maxSize 4000
theorem φJS (m mark:Int) (l:List φ12) (w:φD) (h:φ3 w.1=true) (hl:l.length<1000000) :
  lp ψ36.l0 (m,l,mark,([],0,0,false),[],w.1,w.2,[],0,0)=some (m,mark,([],0,0,false),(φ1y m l [] w [] 0).1,(φ1y m l [] w [] 0).2.1.1,(φ1y m l [] w [] 0).2.1.2,(φ1y m l [] w [] 0).2.2):=by
 have hsn:=φ40 m
 have key:=φc (step:=ψ36.l0) (fun n (a:List φB×φD×List RecT×Nat)=>(m,l,mark,([],0,0,false),a.1,a.2.1.1,a.2.1.2,a.2.2.1,(a.2.2.2:Int),(n:Int))) l.length
  (fun n a=>(m,mark,([],0,0,false),(φ1y m (l.drop n) a.1 a.2.1 a.2.2.1 (a.2.2.2:Int)).1,(φ1y m (l.drop n) a.1 a.2.1 a.2.2.1 (a.2.2.2:Int)).2.1.1,(φ1y m (l.drop n) a.1 a.2.1 a.2.2.1 (a.2.2.2:Int)).2.1.2,(φ1y m (l.drop n) a.1 a.2.1 a.2.2.1 (a.2.2.2:Int)).2.2))
  (fun n a=>φ3 a.2.1.1=true∧a.1.length=n∧a.2.2.1.length=n∧a.2.2.2≤211 * n)
  (fun rec n a hn ha ih=>by
   obtain ⟨dir,⟨x,c⟩,recs,at_⟩:=a
   obtain ⟨ha,hdir,hrecs,hat⟩:=ha
   simp only at ha hdir hrecs hat
   rcases κ1 n l.length with h1 | h1
   ·have hw:=φQ (show n+1<9223372036854775808 by omega)
    rw[dG h1]
    simp only[ψ36.l0,oL,h1,dT,cT,φH,φM,φE h1,φ1y]
    by_cases c1:c=0
    rotate_left
    ·have d1:(c==0)=false:=by simpa using c1
     simp only[d1,cF,c1,ne_eq,not_false_eq_true,if_true]
    subst c1
    have hf:=φ4x (φ7 (φR l[n]))
    have hsr:=φ3R (φR l[n])
    have hb:∀{α:Type} (x:α),decide ((dir.length+[x].length) * 48≤140737488355328)=true:=fun x=>decide_eq_true (φ5C (by omega))
    have hb2:∀{α:Type} (x:α),decide ((recs.length+[x].length) * 64≤140737488355328)=true:=fun x=>decide_eq_true (φ7H (by omega))
    have ek:ψ34.f (l[n].1,l[n].2)=some (φR l[n]):=rfl
    have ea:ψ2K.f x (φ0 m) (frame (φ7 (φR l[n])))=some (φO (φ0 m) (frame (φ7 (φR l[n]))) x):=φ9t x (φ0 m) _ (φ1L (φ10 ha) (by omega)) (by omega)
    have hd:=φ3G ha (φ0 m) (frame (φ7 (φR l[n])))
    have hw2:w64 ((at_:Int)+((frame (φ7 (φR l[n]))).length:Int))=(at_:Int)+((frame (φ7 (φR l[n]))).length:Int):=φG (by omega) (by omega)
    have hcast:((at_+(frame (φ7 (φR l[n]))).length:Nat):Int)=(at_:Int)+((frame (φ7 (φR l[n]))).length:Int):=by omega
    have ih:=ih (dir++[(l[n].1,m,(at_:Int),((frame (φ7 (φR l[n]))).length:Int),l[n].2.2)],φO (φ0 m) (frame (φ7 (φR l[n]))) x,recs++[φR l[n]],at_+(frame (φ7 (φR l[n]))).length) h1 ⟨hd,by rw[lA];show _+1=_;omega,by rw[lA];show _+1=_;omega,by simp only;omega⟩
    simp only at ih
    simp only[beq_self_eq_true,cT,ek,bS,φ79 (φR l[n]),φ7v (φ7 (φR l[n])) (show (φ7 (φR l[n])).length<2 ^ 62 by omega),φ4W,ea,hb,hb2,hw2,hw,ne_eq,not_true_eq_false,if_false]
    rw[hcast] at ih
    exact ih
   ·have:n=l.length:=by omega
    subst this
    simp[ψ36.l0,φ1y])
  (by omega) 0 ([],w,[],0) (κ3 _) ⟨h,rfl,rfl,κ3 _⟩
 have key:lp ψ36.l0 (m,l,mark,([],0,0,false),[],w.1,w.2,[],0,0)=_:=key
 rw[key,κC];rfl
theorem φLc (d:φ1) (m:Int) (l:List φ12) (mark:Int) (h:φ3 d=true) (hl:l.length<1000000) :
  ∃dir,ψ36.f d m l mark=some ((sWM m (φW l mark) (d,0)).1,dir,told (sWM m (φW l mark) (d,0)).2)∧((sWM m (φW l mark) (d,0)).2=0→dir=φv m 0 (φW l mark)):=by
 have hsn:=φ40 m
 have h1:=φ3t (w:=(d,0)) h (φ0 m)
 have h2:=φ6O (φ0 m) (l.map φR) h1
 obtain ⟨q1,q2⟩:=φDg m l [] (sNew (φ0 m) (d,0)) [] 0
 have hml:(l.map φR).length=l.length:=lM _
 refine ⟨(φ1y m l [] (sNew (φ0 m) (d,0)) [] 0).1,?_,?_⟩
 rotate_left
 ·intro e
  unfold sWM φW at e
  rw[φEG] at e
  rw[←q1] at e
  have:(φ1y m l [] (sNew (φ0 m) (d,0)) [] 0).2.1.2=0:=by
   revert e
   generalize (φ1y m l [] (sNew (φ0 m) (d,0)) [] 0).2.1=w
   obtain ⟨x,c⟩:=w
   intro e
   by_cases c1:c=0
   ·exact c1
   ·rw[φ2Z c1,φ2Z c1] at e;exact e
  rw[(q2 this).1]
  unfold φW
  rw[φ8v m _ (show ¬(5:Int)=4 by decide),κ7]
 unfold ψ36.f sWM φW
 rw[φEG]
 simp only[φ4W,bS,φBw d (φ0 m) h (by omega)]
 rw[φJS m mark l (sNew (φ0 m) (d,0)) h1 hl,bS]
 generalize φ1y m l [] (sNew (φ0 m) (d,0)) [] 0=G at *
 obtain ⟨dir,⟨x,c⟩,recs⟩:=G
 simp only at q1 q2 ⊢
 rw[←q1] at h2 ⊢
 by_cases c1:c=0
 rotate_left
 ·have d1:(c==0)=false:=by simpa using c1
  rw[φ2Z c1,φ2Z c1]
  simp only[d1,cF,bS,φ4R]
 subst c1
 obtain ⟨_,e2⟩:=q2 rfl
 rw[κ7] at e2
 subst e2
 have hsl:ψ3Q.f (l.map φR) mark 5=some (5,mark,[],[],(l.length:Int),φ1g (l.map φR)):=by
  unfold ψ3Q.f
  rw[φHA _ (by omega),bS,hml]
 have hf:=φ4x (φ7 (5,mark,[],[],(l.length:Int),φ1g (l.map φR)))
 have hsr:=φ3R (5,mark,[],[],(l.length:Int),φ1g (l.map φR))
 have ea:ψ2K.f x (φ0 m) (frame (φ7 (5,mark,[],[],(l.length:Int),φ1g (l.map φR))))=some (φO (φ0 m) (frame (φ7 (5,mark,[],[],(l.length:Int),φ1g (l.map φR)))) x):=φ9t x (φ0 m) _ (φ1L (φ10 h2) (by omega)) (by omega)
 have h3:=φ3G h2 (φ0 m) (frame (φ7 (5,mark,[],[],(l.length:Int),φ1g (l.map φR))))
 rw[φ2H]
 simp only[beq_self_eq_true,cT,hsl,bS,φ79,φ7v _ (show (φ7 (5,mark,[],[],(l.length:Int),φ1g (l.map φR))).length<2 ^ 62 by omega),ea]
 generalize φO (φ0 m) (frame (φ7 (5,mark,[],[],(l.length:Int),φ1g (l.map φR)))) x=w at *
 obtain ⟨y,c2⟩:=w
 by_cases c3:c2=0
 rotate_left
 ·have d1:(c2==0)=false:=by simpa using c3
  rw[φ2Z c3]
  simp only[d1,cF,bS,φ4R]
 subst c3
 have ey:ψ2u.f y (φ0 m)=some (φI (φ0 m) y):=φGP y (φ0 m) (φ1L (φ10 h3) (by omega))
 rw[φ2H]
 simp only[beq_self_eq_true,cT,ey,bS,φ4R]
theorem φJH (n:List UInt8) (d:φ1):(φ2y n d).2≠2:=by
 unfold φ2y φT
 split
 ·simp
 ·split
  ·simp
  ·unfold φ2I;split<;>simp
theorem φKG (n:List UInt8) (d:φ1):(φC n d).2≠2:=by
 unfold φC;split
 ·exact φJH n d
 ·simp
theorem φGt (c:Int):told c=2↔c=2:=by
 unfold told;split
 ·rename_i h;subst h;simp
 ·split
  ·rename_i h;subst h;simp
  ·split
   ·rename_i h;simp[h]
   ·rename_i h;simp[h]
noncomputable def φ1p (m:Int) (d:φ1):φD:=
 let f:=φ1Y (φK m) (φ1c (φ16 m (φ2 d (φ0 m)).1).1) (d,0)
 if f.2=2 then φC (φK m) f.1 else f
noncomputable def φq (m:Int) (w:φD):φD:=if w.2≠0 then w else φ1p m w.1
theorem φJ1 (m:Int) (d:φ1):(φ1p m d).2≠2:=by
 unfold φ1p
 simp only
 split
 ·exact φKG _ _
 ·rename_i h;exact h
theorem φ6P (m:Int) {d:φ1} (h:φ3 d=true):φ3 (φ1p m d).1=true:=by
 have:=φ4Q (w:=(d,0)) h (φK m) (φ1c (φ16 m (φ2 d (φ0 m)).1).1)
 unfold φ1p
 simp only
 split
 ·exact φ2D this _
 ·exact this
theorem φEz (m:Int) {d:φ1} (h:φ3 d=true):(φ2 d (φ0 m)).1.length≤100000∧(φ16 m (φ2 d (φ0 m)).1).1.2.2.length≤100000:=by
 have hl:=φ10 h
 have h1:=φ4a d (φ0 m) (φ1L hl (by omega))
 have h2:=φGc m (φ2 d (φ0 m)).1
 have:=hl.2.1
 omega
theorem φI3 (m:Int) (w:φD) (h:φ3 w.1=true):ψ2E.f (φ9 w) m=some (φ9 (φq m w)):=by
 obtain ⟨d,c⟩:=w
 have h:φ3 d=true:=h
 unfold ψ2E.f φq
 show (bif told c != 0 then _ else _)=_
 rw[φ69]
 by_cases c1:c=0
 rotate_left
 ·have d1:(c != 0)=true:=by simpa using c1
  simp only[d1,cT,c1,ne_eq,not_false_eq_true,if_true]
 subst c1
 obtain ⟨t1,t2⟩:=φEz m (d:=d) h
 have hn:=φ9p m
 have hsl:=φH1 (φ16 m (φ2 d (φ0 m)).1).1
 have hd:dlim d:=φ1L (φ10 h) (by omega)
 simp only[bne_self_eq_false,cF,ne_eq,not_true_eq_false,if_false,φ3C,bS]
 rw[show ψQ.f (φ9 (d,0)).1 (φ0 m)=some (φ2 d (φ0 m)) from φ4K d (φ0 m) hd]
 simp only[bS,φDy m (φ2 d (φ0 m)).1 (by omega),φ7d,φBS (φ16 m (φ2 d (φ0 m)).1).1 (by omega)]
 rw[φGT (φ9 (d,0)) (φK m) _ (φ10 h) (by omega),bS,φDW]
 unfold φ1p
 have hf:=φ4Q (w:=(d,0)) h (φK m) (φ1c (φ16 m (φ2 d (φ0 m)).1).1)
 simp only
 generalize φ1Y (φK m) (φ1c (φ16 m (φ2 d (φ0 m)).1).1) (d,0)=f at *
 obtain ⟨x,k⟩:=f
 have hf:φ3 x=true:=hf
 show (bif told k==2 then _ else _)=_
 by_cases c2:k=2
 ·subst c2
  have e:ψ25.f (x,0) (φK m)=some (φ17 (φC (φK m)) (x,0)):=φ51 (x,0) (φK m) (φ10 hf) (by omega)
  simp only[show (told 2==2)=true from rfl,cT,if_true]
  show (ψ25.f (x,0) (φK m)).bind _=_
  rw[e,bS]
  rw[show φ17 (φC (φK m)) (x,0)=φ9 (φC (φK m) x) by unfold φ17;simp;rfl]
 ·have c3:¬told k=2:=fun e=>c2 ((φGt k).1 e)
  have d3:(told k==2)=false:=by simpa using c3
  simp only[d3,cF,c2,if_false]
def φ3x (m:Int):List (List UInt8):=[[116,101,109,112],φ0 m,φ0 (m+1),φK m]
def sOld (ids:List Int) (w:φD):φD:=ids.foldl (fun w id=>φj [φ0 id,φK id] w) w
theorem φHU (ids:List Int):∀{w:φD},φ3 w.1=true→φ3 (sOld ids w).1=true:=by
 induction ids with
 | nil=>intro w h;exact h
 | cons n l ih=>intro w h;exact ih (φ4V [φ0 n,φK n] h)
theorem φKR (ids:List Int) {d:φ1} {c:Int} (h:c≠0):sOld ids (d,c)=(d,c):=by
 induction ids with
 | nil=>rfl
 | cons n l ih=>show sOld l (φj _ (d,c))=_;rw[φFs _ h,ih]
noncomputable def φ1A (s:φ8) (d:φ1) (l:List φ12):φ8×φ1×Int:=
 let m:=s.1.1
 let w1:=sNew (φ0 (m+1)) (sWM m (φW l (s.2.2.1 - 1)) (d,0))
 let w2:=φq m w1
 let w3:=if w2.2=0 then φ9 (sPut (m+2,[m,m+1]) w2) else φ9 w2
 if w3.2≠0 then (((m+2,s.1.2),s.2),φ1f (φ3x m) w3) else
 (((m+2,[m,m+1]),φv m 0 (φW l (s.2.2.1 - 1)),s.2.2.1,0,0),φ9 (sOld s.1.2 (w3.1,0)))
theorem φD1 (l:List φ12) (mark:Int):(φW l mark).length=l.length+1:=by unfold φW;simp
theorem φLH (S:φ8) (ids:List Int) (w:φD) (h:φ3 w.1=true) (hl:ids.length<1000000) :
  lp ψ17.l0 (S,φ9 w,ids,(ids.length:Int),0)=some (S,φ9 (sOld ids w)):=by
 have key:=φ3W (step:=ψ17.l0) ids (fun (w:φD) id=>φj [φ0 id,φK id] w) (fun n (a:φD)=>(S,φ9 a,ids,(ids.length:Int),(n:Int))) (fun a=>(S,φ9 a)) (fun _ a=>φ3 a.1=true) (by omega)
  (fun rec n a h1 ha=>by
   have hw:=φQ (show n+1<9223372036854775808 by omega)
   have g1:φ3 (φA (φC (φ0 ids[n])) a).1=true:=φ1j (op:=φC _) ha fun k=>φ2D k _
   have e1:ψ25.f (φ9 a) (φ0 ids[n])=some (φ9 (φA (φC (φ0 ids[n])) a)):=by rw[φ51 (φ9 a) _ (φ10 ha) (by omega),φ2e]
   have e2:ψ25.f (φ9 (φA (φC (φ0 ids[n])) a)) (φK ids[n])=some (φ9 (φA (φC (φK ids[n])) (φA (φC (φ0 ids[n])) a))):=by rw[φ51 (φ9 _) _ (φ10 g1) (by omega),φ2e]
   simp only[ψ17.l0,oL,h1,dT,cT,φH,φM,φE h1,φ3C,φ7d,e1,e2,bS,hw];rfl)
  (fun n a h1 ha=>φ4V [φ0 ids[n],φK ids[n]] ha)
  (fun rec a ha=>by simp[ψ17.l0])
  w h
 exact key
theorem φIn (s:φ8) (d:φ1) (l:List φ12) (h:φ3 d=true) (hv:φk s.1=true) (h2:s.1.1+2≤100000) (hb:1≤s.2.2.1∧s.2.2.1≤1000001) (hl:l.length<100000):ψ17.f s (d,0) l=some (φ1A s d l):=by
 obtain ⟨k1,k2,k3,k4⟩:=(φ15 s.1).1 hv
 have hkl:=φD1 l (s.2.2.1 - 1)
 have g1:=φ6L s.1.1 (φW l (s.2.2.1 - 1)) (w:=(d,0)) h
 have g2:=φ3t g1 (φ0 (s.1.1+1))
 unfold ψ17.f φ1A
 simp only[show w64 (s.1.1+2)=s.1.1+2 from φG (by omega) (by omega),show w64 (s.1.1+1)=s.1.1+1 from φG (by omega) (by omega),show w64 (s.2.2.1 - 1)=s.2.2.1 - 1 from φG (by omega) (by omega),φHd l (s.2.2.1 - 1) (by omega),bS]
 rw[show ((d,0):φD)=φ9 (d,0) from rfl,φKq s.1.1 (φW l (s.2.2.1 - 1)) (d,0) h (by omega) (by omega)]
 simp only[bS]
 rw[show φ9 (d,0)=((d,0):φD) from rfl]
 generalize sNew (φ0 (s.1.1+1)) (sWM s.1.1 (φW l (s.2.2.1 - 1)) (d,0))=w1 at *
 have g3:φ3 (φq s.1.1 w1).1=true:=by
  unfold φq;split
  ·exact g2
  ·exact φ6P _ g2
 rw[φI3 s.1.1 w1 g2,bS]
 generalize φq s.1.1 w1=w2 at *
 obtain ⟨x,c⟩:=w2
 have g3:φ3 x=true:=g3
 have g4:=φ3z (w:=(x,0)) g3 (s.1.1+2,[s.1.1,s.1.1+1])
 have e3:(bif (φ9 (x,c)).2==0 then (ψ29.f (φ9 (x,c)) (s.1.1+2,[s.1.1,s.1.1+1])).bind fun t6=>some ((((s.1.1+2,s.1.2),s.2):φ8),t6,s.1.1,φv s.1.1 0 (φW l (s.2.2.1 - 1)),((s.1.1+2,[s.1.1,s.1.1+1]):φP)) else some (((s.1.1+2,s.1.2),s.2),φ9 (x,c),s.1.1,φv s.1.1 0 (φW l (s.2.2.1 - 1)),(s.1.1+2,[s.1.1,s.1.1+1]))) =
   some (((s.1.1+2,s.1.2),s.2),(if c=0 then φ9 (sPut (s.1.1+2,[s.1.1,s.1.1+1]) (x,c)) else φ9 (x,c)),s.1.1,φv s.1.1 0 (φW l (s.2.2.1 - 1)),(s.1.1+2,[s.1.1,s.1.1+1])):=by
  by_cases c1:c=0
  ·subst c1
   rw[φA9 (φ9 (x,0)) (s.1.1+2,[s.1.1,s.1.1+1]) (φ10 g3) (by omega) (by simp),φ9V];rfl
  ·have c2:¬told c=0:=fun e=>c1 ((φ1R c).1 e)
   have d2:((φ9 (x,c)).2==0)=false:=by simpa [φ9] using c2
   rw[d2];simp only[cF,c1,if_false]
 rw[e3,bS]
 have g5:φ3 (if c=0 then φ9 (sPut (s.1.1+2,[s.1.1,s.1.1+1]) (x,c)) else φ9 (x,c)).1=true:=by
  split
  ·rename_i c1;subst c1;exact g4
  ·exact g3
 simp only
 generalize (if c=0 then φ9 (sPut (s.1.1+2,[s.1.1,s.1.1+1]) (x,c)) else φ9 (x,c))=w3 at *
 obtain ⟨y,c3⟩:=w3
 have g5:φ3 y=true:=g5
 by_cases c4:c3=0
 ·subst c4
  simp only[bne_self_eq_false,cF,ne_eq,not_true_eq_false,if_false]
  rw[show ((y,0):φD)=φ9 (y,0) from rfl,φLH _ s.1.2 (y,0) g5 (by omega)];rfl
 ·have d4:(c3 != 0)=true:=by simpa using c4
  simp only[d4,cT,c4,ne_eq,not_false_eq_true,if_true,φ3C,φ7d,bS,show w64 (s.1.1+1)=s.1.1+1 from φG (by omega) (by omega)]
  rw[φGw (y,c3) [[116,101,109,112],φ0 s.1.1,φ0 (s.1.1+1),φK s.1.1] g5 (by simp)];rfl
theorem φ9f (s:φ8) (d:φ1) (m c:Int) (h:φ3 d=true) (hm:0≤m∧m≤100000) (hc:c≠0):ψ33.f s d m c=some (s,φ1f (φ3x m) (d,c)):=by
 unfold ψ33.f φ1f
 by_cases c1:c=2
 rotate_left
 ·have d1:(c != 2)=true:=by simpa using c1
  simp only[d1,cT,c1,if_false]
 subst c1
 simp only[bne_self_eq_false,cF,if_true,φ4W,φ9h,show w64 (m+1)=m+1 from φG (by omega) (by omega),bS]
 rw[φAC d [[116,101,109,112],φ0 m,φ0 (m+1),φK m] h (by simp),bS]
 show (bif (φj (φ3x m) (d,0)).2 != 0 then _ else _)=_
 rw[show φj [[116,101,109,112],φ0 m,φ0 (m+1),φK m] (d,0)=φj (φ3x m) (d,0) from rfl]
 generalize φj (φ3x m) (d,0)=r
 obtain ⟨x,k⟩:=r
 by_cases c2:k=0
 ·subst c2;rfl
 ·have d2:(k != 0)=true:=by simpa using c2
  have c3:¬told k=0:=fun e=>c2 ((φ1R k).1 e)
  have c4:¬(φ9 (x,k)).2=0:=c3
  simp only[d2,cT,φ4R,bS,c4,if_false];rfl
theorem φMn (S:φ8) (ids:List Int) (d:φ1) (h:φ3 d=true) (hl:ids.length<1000000) :
  lp ψ35.l0 (S,((0,[]),[],0,0,0),([],0,0,false),d,ids,0)=some (if (sOld ids (d,0)).2=0 then .inl (S,((0,[]),[],0,0,0),([],0,0,false),(sOld ids (d,0)).1) else .inr (S,(sOld ids (d,0)).1,told (sOld ids (d,0)).2)):=by
 have key:=φc (step:=ψ35.l0) (fun n (a:φ1)=>(S,((0,[]),[],0,0,0),([],0,0,false),a,ids,(n:Int))) ids.length (fun n a=>if (sOld (ids.drop n) (a,0)).2=0 then .inl (S,((0,[]),[],0,0,0),([],0,0,false),(sOld (ids.drop n) (a,0)).1) else .inr (S,(sOld (ids.drop n) (a,0)).1,told (sOld (ids.drop n) (a,0)).2)) (fun _ a=>φ3 a=true)
  (fun rec n a hn ha ih=>by
   rcases κ1 n ids.length with h1 | h1
   ·have hw:=φQ (show n+1<9223372036854775808 by omega)
    have hk:=φ4V [φ0 ids[n],φK ids[n]] (w:=(a,0)) ha
    rw[dG h1]
    have es:sOld (ids[n]::ids.drop (n+1)) (a,0)=sOld (ids.drop (n+1)) (φj [φ0 ids[n],φK ids[n]] (a,0)):=rfl
    simp only[es,ψ35.l0,oL,h1,dT,cT,φH,φM,φE h1,φ4W,φ9h,φAC a [φ0 ids[n],φK ids[n]] ha (by simp),bS]
    generalize φj [φ0 ids[n],φK ids[n]] (a,0)=r at *
    obtain ⟨x,c⟩:=r
    by_cases c1:c=0
    ·subst c1
     simp only[bne_self_eq_false,cF,hw,ih x h1 hk]
    ·have d1:(c != 0)=true:=by simpa using c1
     simp only[d1,cT,φ4R,bS,φKR _ c1,c1,if_false]
   ·have:n=ids.length:=by omega
    subst this
    simp[ψ35.l0,sOld])
  (by omega) 0 d (κ3 _) h
 have key:lp ψ35.l0 (S,((0,[]),[],0,0,0),([],0,0,false),d,ids,0)=_:=key
 rw[key,κC]
theorem φA0 (m:Int) (h:1≤m) (h2:m+2≤100000):φk (m+2,[m,m+1])=true:=by
 rw[φ15]
 refine ⟨?_,by simp only;omega,by simp,by simp⟩
 simp only[φ1a,κL,tA,bA,decide_eq_true_eq]
 rw[φG (by omega) (by omega)]
 omega
theorem φKb (s:φ8) (d:φ1) (l:List φ12) (h:φ3 d=true) (hv:φk s.1=true) (h2:s.1.1+2≤100000) (hb:1≤s.2.2.1∧s.2.2.1≤1000001) (hl:l.length<100000):ψ35.f s d l=some (φ1A s d l):=by
 obtain ⟨k1,k2,k3,k4⟩:=(φ15 s.1).1 hv
 have hkl:=φD1 l (s.2.2.1 - 1)
 have hlv:=φA0 s.1.1 (by omega) h2
 have hsn:=φ40 s.1.1
 have hsn1:=φ40 (s.1.1+1)
 have hhn:=φ9p s.1.1
 have g1:=φ6L s.1.1 (φW l (s.2.2.1 - 1)) (w:=(d,0)) h
 obtain ⟨dir,ew,edir⟩:=φLc d s.1.1 l (s.2.2.1 - 1) h (by omega)
 unfold ψ35.f φ1A
 simp only[show w64 (s.1.1+2)=s.1.1+2 from φG (by omega) (by omega),show w64 (s.1.1+1)=s.1.1+1 from φG (by omega) (by omega),show w64 (s.2.2.1 - 1)=s.2.2.1 - 1 from φG (by omega) (by omega),ew,bS,φ69]
 generalize sWM s.1.1 (φW l (s.2.2.1 - 1)) (d,0)=w0 at *
 obtain ⟨x0,c0⟩:=w0
 have g1:φ3 x0=true:=g1
 by_cases c1:c0=0
 rotate_left
 ·have d1:(c0 != 0)=true:=by simpa using c1
  have c2:told c0≠0:=fun e=>c1 ((φ1R c0).1 e)
  have e1:φq s.1.1 (x0,c0)=(x0,c0):=by unfold φq;rw[if_pos c1]
  rw[φCO c1,e1]
  simp only[d1,cT,c1,if_false,φ9f _ x0 s.1.1 (told c0) g1 (by omega) c2,bS]
  rw[if_pos (show (φ9 (x0,c0)).2≠0 from c2)];rfl
 subst c1
 have edir:=edir rfl
 subst edir
 have g2:=φ3t (w:=(x0,0)) g1 (φ0 (s.1.1+1))
 simp only[bne_self_eq_false,cF,φ4W,φBw x0 (φ0 (s.1.1+1)) g1 (by omega),bS]
 generalize sNew (φ0 (s.1.1+1)) (x0,0)=w1 at *
 obtain ⟨x1,c1⟩:=w1
 have g2:φ3 x1=true:=g2
 by_cases c2:c1=0
 rotate_left
 ·have d1:(c1 != 0)=true:=by simpa using c2
  have c3:told c1≠0:=fun e=>c2 ((φ1R c1).1 e)
  have e1:φq s.1.1 (x1,c1)=(x1,c1):=by unfold φq;rw[if_pos c2]
  rw[e1]
  simp only[d1,cT,c2,if_false,φ4R,φ9f _ x1 s.1.1 (told c1) g2 (by omega) c3,bS]
  rw[if_pos (show (φ9 (x1,c1)).2≠0 from c3)];rfl
 subst c2
 obtain ⟨t1,t2⟩:=φEz s.1.1 (d:=x1) g2
 have hsl:=φH1 (φ16 s.1.1 (φ2 x1 (φ0 s.1.1)).1).1
 have hd:dlim x1:=φ1L (φ10 g2) (by omega)
 have g3:=φ6P s.1.1 g2
 have n2:=φJ1 s.1.1 x1
 have e1:φq s.1.1 (x1,0)=φ1p s.1.1 x1:=by unfold φq;rw[if_neg (by simp)]
 rw[e1]
 simp only[bne_self_eq_false,cF,φ8C x1 (φ0 s.1.1) hd,bS,φNP s.1.1 (φ2 x1 (φ0 s.1.1)).1 (by omega),φ9h,φLE (φ16 s.1.1 (φ2 x1 (φ0 s.1.1)).1).1 (by omega),φFp x1 (φK s.1.1) _ (φ10 g2) (show 100001+1+(φK s.1.1).length+(φ1c (φ16 s.1.1 (φ2 x1 (φ0 s.1.1)).1).1).length≤1000000000 by omega)]
 have hf:=φ4Q (w:=(x1,0)) g2 (φK s.1.1) (φ1c (φ16 s.1.1 (φ2 x1 (φ0 s.1.1)).1).1)
 have eh:φ1p s.1.1 x1=if (φ1Y (φK s.1.1) (φ1c (φ16 s.1.1 (φ2 x1 (φ0 s.1.1)).1).1) (x1,0)).2=2 then φC (φK s.1.1) (φ1Y (φK s.1.1) (φ1c (φ16 s.1.1 (φ2 x1 (φ0 s.1.1)).1).1) (x1,0)).1 else φ1Y (φK s.1.1) (φ1c (φ16 s.1.1 (φ2 x1 (φ0 s.1.1)).1).1) (x1,0):=rfl
 generalize φ1Y (φK s.1.1) (φ1c (φ16 s.1.1 (φ2 x1 (φ0 s.1.1)).1).1) (x1,0)=f at *
 obtain ⟨xf,cf⟩:=f
 have hf:φ3 xf=true:=hf
 have e4:(bif cf==2 then (ψ32.f xf [φK s.1.1]).bind fun (t15_0,t15_1)=>some ((((s.1.1+2,s.1.2),s.2):φ8),(((0,[]),[],0,0,0):φ8),(([],0,0,false):φ1),s.1.1,t15_0,φv s.1.1 0 (φW l (s.2.2.1 - 1)),t15_1) else some (((s.1.1+2,s.1.2),s.2),((0,[]),[],0,0,0),([],0,0,false),s.1.1,xf,φv s.1.1 0 (φW l (s.2.2.1 - 1)),cf)) =
   some (((s.1.1+2,s.1.2),s.2),((0,[]),[],0,0,0),([],0,0,false),s.1.1,(φ1p s.1.1 x1).1,φv s.1.1 0 (φW l (s.2.2.1 - 1)),(φ1p s.1.1 x1).2):=by
  rw[eh]
  by_cases c5:cf=2
  ·subst c5
   rw[φAC xf [φK s.1.1] hf (by simp)]
   simp only[beq_self_eq_true,cT,bS,if_true]
   rw[show φj [φK s.1.1] (xf,0)=φC (φK s.1.1) xf by show φA (φC (φK s.1.1)) (xf,0)=_;rw[φ2H]]
  ·have d5:(cf==2)=false:=by simpa using c5
   simp only[d5,cF,c5,if_false]
 rw[e4,bS]
 clear e4 eh
 generalize φ1p s.1.1 x1=w2 at *
 obtain ⟨x2,c2⟩:=w2
 have g3:φ3 x2=true:=g3
 have n2:c2≠2:=n2
 by_cases c5:c2=0
 rotate_left
 ·have d1:(c2 != 0)=true:=by simpa using c5
  have c6:told c2≠0:=fun e=>c5 ((φ1R c2).1 e)
  have c7:¬told c2=2:=fun e=>n2 ((φGt c2).1 e)
  simp only[d1,cT,c5,if_false,φ4R,bS]
  rw[if_pos (show (φ9 (x2,c2)).2≠0 from c6)]
  unfold φ1f
  rw[if_neg (show ¬(φ9 (x2,c2)).2=2 from c7)];rfl
 subst c5
 have hb0:(([]:List Int).length+s.1.2.length) * 8≤140737488355328:=φ9i (by omega)
 have g4:=φ3z (w:=(x2,0)) g3 (s.1.1+2,[s.1.1,s.1.1+1])
 have ep:ψ2d.f x2 (s.1.1+2,[s.1.1,s.1.1+1])=some (φ9 (sPut (s.1.1+2,[s.1.1,s.1.1+1]) (x2,0))):=by
  rw[φMI _ _ (φ10 g3) (by omega) (by simp)]
  unfold φAG
  rw[if_neg (by rw[hlv,g3];simp)]
 simp only[bne_self_eq_false,cF,if_true,hb0,dT,cT,κ7,show w64 (s.1.1+2)=s.1.1+2 from φG (by omega) (by omega),show w64 (s.1.1+1)=s.1.1+1 from φG (by omega) (by omega),ep,bS]
 have g5:φ3 (φ9 (sPut (s.1.1+2,[s.1.1,s.1.1+1]) (x2,0))).1=true:=g4
 generalize φ9 (sPut (s.1.1+2,[s.1.1,s.1.1+1]) (x2,0))=w3 at *
 obtain ⟨x3,c3⟩:=w3
 have g5:φ3 x3=true:=g5
 by_cases c6:c3=0
 rotate_left
 ·have d6:(c3 != 0)=true:=by simpa using c6
  simp only[d6,cT,c6,ne_eq,not_false_eq_true,if_true,φ9f _ x3 s.1.1 c3 g5 (by omega) c6,bS]
 subst c6
 simp only[bne_self_eq_false,cF,ne_eq,not_true_eq_false,if_false,φMn _ s.1.2 x3 g5 (by omega),bS]
 generalize sOld s.1.2 (x3,0)=w4
 obtain ⟨x4,c4⟩:=w4
 by_cases c7:c4=0
 ·subst c7;rfl
 ·simp only[c7,if_false,φm];rfl
theorem φ73 {c:CurT} (h:Cur c) (l:List Int) (hl:0<l.length):∃x c',ψ3G.f c l=some (x,c')∧x∈l∧Cur c':=by
 obtain ⟨x,c',e,h1,h2,_,h'⟩:=φ3D h (l.length:Int)
 have h2:=h2 (by omega)
 unfold ψ3G.f
 obtain ⟨n,rfl⟩:∃n:Nat,x=(n:Int):=⟨x.toNat,by omega⟩
 have hn:n<l.length:=by omega
 simp only[e,bS,φH,hn,dT,cT,φM,φE hn]
 exact ⟨_,_,rfl,gM hn,h'⟩
theorem φCJ {α:Type} {l:List (List UInt8×α)} (h:srt l) {i j:Nat} (hi:i<l.length) (hj:j<l.length) (e:l[i].1=l[j].1):i=j:=by
 unfold srt at h
 rw[List.pairwise_iff_getElem] at h
 rcases Nat.lt_trichotomy i j with c | c | c
 ·have:=h i j hi hj c;rw[e,φ4v] at this;simp at this
 ·exact c
 ·have:=h j i hj hi c;rw[e,φ4v] at this;simp at this
theorem φ34 {d:φ1} (h:φ3 d=true) {f:φ6} (hf:f∈d.1):φ2 d f.1=(f.2.1,true):=by
 have hs:=((φ3V d).1 h).2.2.2.2.2
 unfold φ2
 rw[if_neg (by rw[h];simp)]
 rcases φz d.1 f.1 with ⟨e,hno⟩ | ⟨i,hi,e,hn⟩
 ·exact absurd rfl (hno f hf)
 ·rw[φ18 e]
  obtain ⟨j,hj,ej⟩:=List.getElem_of_mem hf
  have:i=j:=φCJ hs hi hj (by rw[hn,ej])
  subst this
  simp only
  rw[φE hi,ej]
theorem φGz {d:φ1} {n:List UInt8} (h:∀f∈d.1,f.1≠n):(φ2 d n).2=false:=by
 unfold φ2
 split
 ·rfl
 ·rcases φz d.1 n with ⟨e,hno⟩ | ⟨i,hi,e,hn⟩
  ·rw[φ1B e]
  ·exact absurd hn (h _ (gM hi))
def φ3S (n:List UInt8) (z:Int) (d:φ1):φ1×Int:=φT d (φ3n n z)
theorem φ6B {d:φ1} {act:List φ6→Int×List φ6} (h:(φT d act).2=0):φ3 d=true∧(act d.1).1=0∧(φT d act).1=((act d.1).2,(tick d).2):=by
 unfold φT at h ⊢
 split at h
 ·simp at h
 rename_i c
 split at h
 ·simp at h
 rename_i c2
 rw[if_neg c,if_neg c2]
 exact ⟨by simpa using c,h,rfl⟩
theorem φ5k {d:φ1} {n t:List UInt8} (h:(φO n t d).2=0):(φ2 d n).2=true∧φ2 (φO n t d).1 n=((φ2 d n).1++t,true):=by
 obtain ⟨k,ha,hx⟩:=φ6B h
 have hk:φ3 (φO n t d).1=true:=φ3G k n t
 have hx:(φO n t d).1=_:=hx
 unfold φ2X at ha hx
 rcases φz d.1 n with ⟨e,_⟩ | ⟨i,hi,e,hn⟩
 ·rw[φ1B e] at ha;simp at ha
 rw[φ18 e] at ha hx
 simp only at ha hx
 split at ha
 ·simp at ha
 rename_i c
 rw[if_neg c,φE hi] at hx
 have e1:=φ34 k (gM hi)
 rw[hn] at e1
 have hm:((n,d.1[i].2.1++t,d.1[i].2.2):φ6)∈(φO n t d).1.1:=by
  rw[hx,←hn]
  exact List.mem_iff_getElem.2 ⟨i,by simpa using hi,by simp⟩
 have e2:=φ34 hk hm
 rw[e1]
 exact ⟨rfl,e2⟩
theorem φKN {d:φ1} {n:List UInt8} (h:(φ2y n d).2=0):(φ2 (φ2y n d).1 n).2=false:=by
 obtain ⟨k,ha,hx⟩:=φ6B h
 have hx:(φ2y n d).1=_:=hx
 unfold φ2I at ha hx
 rcases φz d.1 n with ⟨e,_⟩ | ⟨i,hi,e,hn⟩
 ·rw[φ1B e] at ha;simp at ha
 rw[φ18 e] at hx
 simp only at hx
 apply φGz
 rw[hx]
 intro f hf
 have:=φAN hi (φ6c k) f hf
 rw[hn] at this
 exact this
theorem φLk {d:φ1} {a b:List UInt8} (h:(φ36 a b d).2=0):φ2 (φ36 a b d).1 b=((φ2 d a).1,true):=by
 obtain ⟨k,ha,hx⟩:=φ6B h
 have hk:φ3 (φ36 a b d).1=true:=φBA k a b
 have hx:(φ36 a b d).1=_:=hx
 unfold φ2S at ha hx
 split at ha
 ·simp at ha
 rename_i c
 rw[if_neg c] at hx
 rcases φz d.1 a with ⟨e,_⟩ | ⟨i,hi,e,hn⟩
 ·rw[φ1B e] at ha;simp at ha
 rw[φ18 e] at hx
 simp only at hx
 have e1:=φ34 k (gM hi)
 rw[hn] at e1
 rw[e1]
 have hm:((b,d.1[i].2):φ6)∈(φ36 a b d).1.1:=by
  rw[hx]
  simp only
  split
  ·rename_i c2
   rw[←c2,←hn];exact gM hi
  ·rw[φ3g,φE hi];exact .inl rfl
 exact φ34 hk hm
theorem φEA:∀(l:List φB) (p:Option (List UInt8)),φ2O p l=true→(∀q,p=some q→∀x∈l,Op.bytesLess q x.1=true)∧srt l
 | [],p,_=>⟨fun _ _ x hx=>by simp at hx,List.Pairwise.nil⟩
 | e::l,p,h=>by
  simp only[φ2O,bA] at h
  obtain ⟨h1,h2⟩:=φEA l (some e.1) h.2.2
  refine ⟨fun q hq x hx=>?_,List.Pairwise.cons (h1 e.1 rfl) h2⟩
  subst hq
  have hqe:Op.bytesLess q e.1=true:=h.2.1
  rcases mc.1 hx with c | hx
  ·rw[c];exact hqe
  ·exact φ6s _ _ _ hqe (h1 e.1 rfl x hx)
theorem φ5Y {l:List φB} (h:φ1m l=true):srt l:=by
 unfold φ1m at h
 simp only[bA] at h
 exact (φEA l none h.1).2
theorem φGF {l:List φB} (h:srt l) {e:φB} (he:e∈l):φ2E l e.1=(e,true):=by
 unfold φ2E
 have hf:(l.find? fun x=>x.1==e.1)=some e:=by
  induction l with
  | nil=>simp at he
  | cons x l ih=>
   have h2:=κX.1 h
   rw[List.find?_cons]
   rcases mc.1 he with c | he
   ·subst c;simp
   ·have:(x.1==e.1)=false:=by simpa using φ6z (h2.1 e he)
    rw[this]
    exact ih h2.2 he
 rw[hf]
theorem φHS {l:List φB} {key:List UInt8} (h:∀e∈l,e.1≠key):(φ2E l key).2=false:=by
 unfold φ2E
 have hf:(l.find? fun x=>x.1==key)=none:=by
  rw[List.find?_eq_none]
  intro e he
  simpa using h e he
 rw[hf]
theorem φGG {s:φ8} {d:φ1} (h:φh s d=true):∀e∈s.2.1,φ1u d s.2.2.1 e=true:=by
 unfold φh at h
 simp only[bA,κU] at h
 exact h.2.2.2.2.2
theorem φEL {s:φ8} {d:φ1} (h:φh s d=true) {e:φB} (he:e∈s.2.1):(getP s d e.1).2=0∧(getP s d e.1).1.1=e.1:=by
 obtain ⟨q1,q2,q3,q4,q5⟩:=φ5H h
 have hs:=φ5Y q3
 have k:=φGG h e he
 unfold φ1u at k
 simp only[bA,κV,beq_iff_eq] at k
 unfold getP
 rw[φGF hs he]
 simp only[κ8,if_false]
 rw[if_pos ⟨k.1,k.2.1,k.2.2.1⟩]
 exact ⟨rfl,rfl⟩
theorem φIH {s:φ8} {d:φ1} {key:List UInt8} (h:∀e∈s.2.1,e.1≠key):getP s d key=(([],[],0),8):=by
 unfold getP
 rw[if_pos (φHS h)]
theorem φCl {s:φ8} {d:φ1}:∀(l:List φB) (acc:List φ12),(∀e∈l,(getP s d e.1).2=0)→φ1V s d l acc=(acc++l.map fun e=>(getP s d e.1).1,0)
 | [],acc,_=>by simp[φ1V]
 | e::r,acc,h=>by
  unfold φ1V
  rw[if_neg (by rw[h e κ0];simp),φCl r _ fun x hx=>h x (mC _ hx)]
  simp
theorem φKn {s:φ8} {d:φ1} (h:φh s d=true):φY s d=(s.2.1.map fun e=>(getP s d e.1).1,0):=by
 unfold φY
 rw[φCl s.2.1 [] fun e he=>(φEL h he).1]
 simp
theorem φ6t (n:Int) (h:0≤n∧n≤100000):φ3 (([],n,-1,false):φ1)=true:=by
 rw[φ3V];exact ⟨h,(show (-1:Int)≤-1∧(-1:Int)≤100000 by decide),(show 0≤130 by decide),h.1,by simp,List.Pairwise.nil⟩
theorem φ8E {d:φ1} {n:List UInt8} (h:∀f∈d.1,f.1≠n):φ2 d n=([],false):=by
 unfold φ2
 split
 ·rfl
 ·rcases φz d.1 n with ⟨e,hno⟩ | ⟨i,hi,e,hn⟩
  ·rw[φ1B e]
  ·exact absurd hn (h _ (gM hi))
theorem φFD {d e:φ1} (hd:φ3 d=true) (he:φ3 e=true) (n:List UInt8) (hm:∀t,(∃s,((n,t,s):φ6)∈d.1)↔∃s,((n,t,s):φ6)∈e.1):φ2 e n=φ2 d n:=by
 by_cases c:∃t s,((n,t,s):φ6)∈d.1
 ·obtain ⟨t,s,hs⟩:=c
  obtain ⟨s',hs'⟩:=(hm t).1 ⟨s,hs⟩
  have e1:=φ34 hd hs
  have e2:=φ34 he hs'
  exact e2.trans e1.symm
 ·have h1:∀f∈d.1,f.1≠n:=fun f hf e=>c ⟨f.2.1,f.2.2,by rw[←e];exact hf⟩
  have h2:∀f∈e.1,f.1≠n:=fun f hf e'=>by
   obtain ⟨s,hs⟩:=(hm f.2.1).2 ⟨f.2.2,by rw[←e'];exact hf⟩
   exact c ⟨_,_,hs⟩
  rw[φ8E h1,φ8E h2]
theorem φ5t {d:φ1} {act:List φ6→Int×List φ6} (h:φ3 d=true) (hk:φ3 (φT d act).1=true) (n:List UInt8) (hm:∀t,(∃s,((n,t,s):φ6)∈d.1)↔∃s,((n,t,s):φ6)∈(act d.1).2):φ2 (φT d act).1 n=φ2 d n:=by
 refine φFD h hk n fun t=>?_
 have hx:(φT d act).1.1=d.1∨(φT d act).1.1=(act d.1).2:=by
  unfold φT
  split
  ·exact .inl rfl
  ·split
   ·exact .inl rfl
   ·exact .inr rfl
 rcases hx with e | e
 ·rw[e]
 ·rw[e];exact hm t
theorem φ6H {l:List φ6} {i:Nat} (hi:i<l.length) {f:φ6} (hf:f.1=l[i].1) {x:φ6} (hx:x.1≠l[i].1):x∈l.set i f↔x∈l:=by
 constructor
 ·intro h
  rcases List.mem_or_eq_of_mem_set h with h | e
  ·exact h
  ·rw[e] at hx;exact absurd hf hx
 ·intro h
  obtain ⟨j,hj,e⟩:=List.getElem_of_mem h
  have hij:i≠j:=fun c=>by subst c;rw[e] at hx;exact hx rfl
  exact List.mem_iff_getElem.2 ⟨j,by simpa using hj,by rw[List.getElem_set,if_neg hij];exact e⟩
theorem φ77 {l:List φ6} {i:Nat} (hi:i<l.length) {x:φ6} (hx:x.1≠l[i].1):x∈φg l i↔x∈l:=by
 constructor
 ·intro h;exact (φ5P l i).subset h
 ·intro h
  rw[φ7s hi] at h
  unfold φg
  rcases mA.1 h with h | h
  ·exact mL _ h
  ·rcases mc.1 h with e | h
   ·rw[e] at hx;exact absurd rfl hx
   ·exact mR _ h
theorem φKx {d:φ1} (h:φ3 d=true) {m n:List UInt8} (hne:n≠m):φ2 (φ2y m d).1 n=φ2 d n:=by
 refine φ5t h (φAA h m) n fun t=>?_
 unfold φ2I
 rcases φz d.1 m with ⟨e,_⟩ | ⟨i,hi,e,hn⟩
 ·rw[φ1B e]
 ·rw[φ18 e]
  simp only
  constructor
  ·rintro ⟨s,hs⟩;exact ⟨s,(φ77 hi (by rw[hn];exact hne)).2 hs⟩
  ·rintro ⟨s,hs⟩;exact ⟨s,(φ77 hi (by rw[hn];exact hne)).1 hs⟩
theorem φ58 {d:φ1} (h:φ3 d=true) {m n:List UInt8} (hne:n≠m):φ2 (φC m d).1 n=φ2 d n:=by
 unfold φC;split
 ·exact φKx h hne
 ·rfl
theorem φA7 {d:φ1} (h:φ3 d=true) {m n:List UInt8} (hne:n≠m):φ2 (φU m d).1 n=φ2 d n:=by
 refine φ5t h (φ31 h m) n fun t=>?_
 unfold φ2b
 split
 ·exact Iff.rfl
 split
 ·exact Iff.rfl
 split
 ·exact Iff.rfl
 ·constructor
  ·rintro ⟨s,hs⟩;exact ⟨s,(φ3g _ _ _).2 (.inr hs)⟩
  ·rintro ⟨s,hs⟩
   rcases (φ3g _ _ _).1 hs with e | hs
   ·exact absurd (congrArg (·.1) e) hne
   ·exact ⟨s,hs⟩
theorem φ7B {d:φ1} (h:φ3 d=true) {m n t0:List UInt8} (hne:n≠m):φ2 (φO m t0 d).1 n=φ2 d n:=by
 refine φ5t h (φ3G h m t0) n fun t=>?_
 unfold φ2X
 rcases φz d.1 m with ⟨e,_⟩ | ⟨i,hi,e,hn⟩
 ·rw[φ1B e]
 ·rw[φ18 e]
  simp only
  split
  ·exact Iff.rfl
  ·rw[φE hi]
   constructor
   ·rintro ⟨s,hs⟩;exact ⟨s,(φ6H (f:=(d.1[i].1,d.1[i].2.1++t0,d.1[i].2.2)) hi rfl (by rw[hn];exact hne)).2 hs⟩
   ·rintro ⟨s,hs⟩;exact ⟨s,(φ6H (f:=(d.1[i].1,d.1[i].2.1++t0,d.1[i].2.2)) hi rfl (by rw[hn];exact hne)).1 hs⟩
theorem φ2a {d:φ1} (h:φ3 d=true) (m n:List UInt8):φ2 (φI m d).1 n=φ2 d n:=by
 refine φ5t h (φ3J h m) n fun t=>?_
 unfold φ2R
 rcases φz d.1 m with ⟨e,_⟩ | ⟨i,hi,e,hn⟩
 ·rw[φ1B e]
 ·rw[φ18 e]
  simp only
  rw[φE hi]
  by_cases hne:n=m
  ·subst hne
   have hs:=((φ3V d).1 h).2.2.2.2.2
   have uniq:∀t s,((n,t,s):φ6)∈d.1→d.1[i]=(n,t,s):=fun t s hx=>by
    obtain ⟨j,hj,ej⟩:=List.getElem_of_mem hx
    have:i=j:=φCJ hs hi hj (by rw[hn,ej])
    subst this;exact ej
   constructor
   ·rintro ⟨s,hx⟩
    refine ⟨(d.1[i].2.1.length:Int),List.mem_iff_getElem.2 ⟨i,by simpa using hi,?_⟩⟩
    rw[List.getElem_set_self,uniq t s hx]
   ·rintro ⟨s,hx⟩
    rcases List.mem_or_eq_of_mem_set hx with hx | e
    ·exact ⟨s,hx⟩
    ·have e1:t=d.1[i].2.1:=congrArg (·.2.1) e
     refine ⟨d.1[i].2.2,?_⟩
     rw[e1,←hn];exact gM hi
  ·constructor
   ·rintro ⟨s,hs⟩;exact ⟨s,(φ6H (f:=(d.1[i].1,d.1[i].2.1,(d.1[i].2.1.length:Int))) hi rfl (by rw[hn];exact hne)).2 hs⟩
   ·rintro ⟨s,hs⟩;exact ⟨s,(φ6H (f:=(d.1[i].1,d.1[i].2.1,(d.1[i].2.1.length:Int))) hi rfl (by rw[hn];exact hne)).1 hs⟩
theorem φE7 {l:List φ6} {b:List UInt8} {x:φ6} (hx:x.1≠b):x∈φ1n l b↔x∈l:=by
 unfold φ1n
 rcases φz l b with ⟨e,_⟩ | ⟨i,hi,e,hn⟩
 ·rw[φ1B e]
 ·rw[φ18 e];exact φ77 hi (by rw[hn];exact hx)
theorem φIh {d:φ1} (h:φ3 d=true) {a b n:List UInt8} (h1:n≠a) (h2:n≠b):φ2 (φ36 a b d).1 n=φ2 d n:=by
 refine φ5t h (φBA h a b) n fun t=>?_
 unfold φ2S
 split
 ·exact Iff.rfl
 rcases φz d.1 a with ⟨e,_⟩ | ⟨i,hi,e,hn⟩
 ·rw[φ1B e]
 ·rw[φ18 e]
  simp only
  split
  ·exact Iff.rfl
  ·constructor
   ·rintro ⟨s,hs⟩;exact ⟨s,(φ3g _ _ _).2 (.inr ((φE7 h2).2 ((φ77 hi (by rw[hn];exact h1)).2 hs)))⟩
   ·rintro ⟨s,hs⟩
    rcases (φ3g _ _ _).1 hs with e | hs
    ·exact absurd (congrArg (·.1) e) h2
    ·exact ⟨s,(φ77 hi (by rw[hn];exact h1)).1 ((φE7 h2).1 hs)⟩
theorem φ2f {w:φD} {op:φ1→φ1×Int} {n:List UInt8} (ho:φ2 (op w.1).1 n=φ2 w.1 n):φ2 (φA op w).1 n=φ2 w.1 n:=by
 unfold φA;split
 ·exact ho
 ·rfl
theorem φ5m {w:φD} (h:φ3 w.1=true) {m n:List UInt8} (hne:n≠m):φ2 (sNew m w).1 n=φ2 w.1 n:=by
 have h1:φ3 (φA (φC m) w).1=true:=φ1j (op:=φC m) h fun k=>φ2D k m
 unfold sNew
 rw[φ2f (op:=φU m) (φA7 h1 hne),φ2f (op:=φC m) (φ58 h hne)]
theorem φ4g {w:φD} (h:φ3 w.1=true) {m n t:List UInt8} (hne:n≠m):φ2 (φ1Y m t w).1 n=φ2 w.1 n:=by
 have h2:φ3 (sNew m w).1=true:=φ3t h m
 have h3:φ3 (φA (φO m t) (sNew m w)).1=true:=φ1j (op:=φO m t) h2 fun k=>φ3G k m t
 show φ2 (φA (φI m) (φA (φO m t) (sNew m w))).1 n=_
 rw[φ2f (op:=φI m) (φ2a h3 m n),φ2f (op:=φO m t) (φ7B h2 hne),φ5m h hne]
abbrev φ2J:List UInt8:=[116,101,109,112]
abbrev φi:List UInt8:=[108,105,118,101]
theorem φ7O {w:φD} (h:φ3 w.1=true) (v:φP) {n:List UInt8} (h1:n≠φ2J) (h2:n≠φi):φ2 (sPut v w).1 n=φ2 w.1 n:=by
 have h3:=φ4Q h φ2J (φt v)
 unfold sPut
 rw[φ2f (op:=φ36 φ2J φi) (φIh h3 h1 h2),φ4g h h1]
theorem φ99 {n:List UInt8}:∀(names:List (List UInt8)) {w:φD},φ3 w.1=true→(∀m∈names,n≠m)→φ2 (φj names w).1 n=φ2 w.1 n
 | [],w,_,_=>rfl
 | m::l,w,h,hne=>by
  have h1:φ3 (φA (φC m) w).1=true:=φ1j (op:=φC m) h fun k=>φ2D k m
  show φ2 (φj l (φA (φC m) w)).1 n=_
  rw[φ99 l h1 fun x hx=>hne x (mC _ hx),φ2f (op:=φC m) (φ58 h (hne m κ0))]
theorem φ82 {names:List (List UInt8)} {w:φD} {n:List UInt8} (h:φ3 w.1=true) (hne:∀m∈names,n≠m):φ2 (φ1f names w).1 n=φ2 w.1 n:=by
 have:=φ99 (n:=n) names (w:=(w.1,0)) h hne
 unfold φ1f;split
 ·split
  ·exact this
  ·exact this
 ·rfl
theorem φEi {d:φ1} {n:List UInt8} (h:(φU n d).2=0):φ2 (φU n d).1 n=([],true):=by
 obtain ⟨k,ha,hx⟩:=φ6B h
 have hk:φ3 (φU n d).1=true:=φ31 k n
 have hx:(φU n d).1=_:=hx
 unfold φ2b at ha hx
 split at ha
 ·simp at ha
 rename_i c1
 rw[if_neg c1] at hx
 split at ha
 ·simp at ha
 rename_i c2
 rw[if_neg c2] at hx
 split at ha
 ·simp at ha
 rename_i c3
 rw[if_neg c3] at hx
 have hm:((n,[],0):φ6)∈(φU n d).1.1:=by rw[hx];exact (φ3g _ _ _).2 (.inl rfl)
 exact φ34 hk hm
theorem φ9d:∀(k a b:Nat),a<k→Lib.decDigits a=Lib.decDigits b→a=b
 | 0,a,b,h,_=>by omega
 | k+1,a,b,h,e=>by
  have last:∀n:Nat,(Lib.decDigits n).getLast?=some (UInt8.ofNat (48+n % 10)):=fun n=>by
   by_cases c:n<10
   ·rw[Lib.decDigits_one c,κa c];rfl
   ·have:=φ44 (n:=n) (by omega)
    unfold digs at this
    rw[if_neg (by omega),if_neg (by omega)] at this
    rw[this];simp
  have hm:a % 10=b % 10:=by
   have h1:=last a
   rw[e,last b] at h1
   have h2:UInt8.ofNat (48+b % 10)=UInt8.ofNat (48+a % 10):=Option.some.inj h1
   have h3:=congrArg UInt8.toNat h2
   simp only[UInt8.toNat_ofNat'] at h3
   omega
  by_cases ca:a<10
  ·by_cases cb:b<10
   ·omega
   ·exfalso
    have:=φ44 (n:=b) (by omega)
    unfold digs at this
    rw[if_neg (by omega),if_neg (by omega)] at this
    rw[this,Lib.decDigits_one ca] at e
    have hl:=congrArg List.length e
    have h0:0<(Lib.decDigits (b / 10)).length:=by
     cases hd:Lib.decDigits (b / 10) with
     | nil=>have:=last (b / 10);rw[hd] at this;simp at this
     | cons x l=>simp
    simp only[lA,lC,lN] at hl
    omega
  ·by_cases cb:b<10
   ·exfalso
    have:=φ44 (n:=a) (by omega)
    unfold digs at this
    rw[if_neg (by omega),if_neg (by omega)] at this
    rw[this,Lib.decDigits_one cb] at e
    have hl:=congrArg List.length e
    have h0:0<(Lib.decDigits (a / 10)).length:=by
     cases hd:Lib.decDigits (a / 10) with
     | nil=>have:=last (a / 10);rw[hd] at this;simp at this
     | cons x l=>simp
    simp only[lA,lC,lN] at hl
    omega
   ·have e1:=φ44 (n:=a) (by omega)
    have e2:=φ44 (n:=b) (by omega)
    unfold digs at e1 e2
    rw[if_neg (by omega),if_neg (by omega)] at e1 e2
    rw[e1,e2] at e
    have:=(List.append_inj' e rfl).1
    have:=φ9d k (a / 10) (b / 10) (by omega) this
    omega
theorem φ3r {i j:Int} (hi:1≤i∧i≤100000) (hj:1≤j∧j≤100000) (h:φ0 i=φ0 j):i=j:=by
 unfold φ0 φ23 at h
 rw[if_pos hi,if_pos hj] at h
 have:=φ9d (i.toNat+1) i.toNat j.toNat (by omega) (List.append_cancel_left h)
 omega
theorem φ49 (i:Int):φ0 i≠φ2J:=by
 unfold φ0 φ23
 split
 ·intro h;have:=congrArg List.head? h;simp at this
 ·simp
theorem φ2Q (i:Int):φ0 i≠φi:=by
 unfold φ0 φ23
 split
 ·intro h;have:=congrArg List.head? h;simp at this
 ·simp
theorem φ3y (i j:Int) (hi:1≤i∧i≤100000):φ0 i≠φK j:=by
 unfold φ0 φK φ23
 rw[if_pos hi]
 split
 ·intro h;have:=congrArg List.head? h;simp at this
 ·simp
theorem φ9z {m n:List UInt8} (hne:n≠m):∀(recs:List RecT) {w:φD},φ3 w.1=true→φ2 (sApp m recs w).1 n=φ2 w.1 n
 | [],w,_=>rfl
 | r::l,w,h=>by
  have h1:φ3 (φA (φO m (frame (φ7 r))) w).1=true:=φ1j (op:=φO m _) h fun k=>φ3G k m _
  show φ2 (sApp m l (φA _ w)).1 n=_
  rw[φ9z hne l h1,φ2f (op:=φO m _) (φ7B h hne)]
theorem φBh {s:φ8} {d:φ1} (h:φ3 d=true):((rotP s d).1.1.1=s.1.1∧∀n,φ2 (rotP s d).2.1 n=φ2 d n) ∨
  ((rotP s d).1.1.1=s.1.1+1∧s.1.1<100000∧∀n,n≠φ0 s.1.1→n≠φ2J→n≠φi→φ2 (rotP s d).2.1 n=φ2 d n):=by
 have hs:=φ3J h (actN s)
 have hg:=φ2D hs (φ0 s.1.1)
 have hc:φ3 (φA (φU (φ0 s.1.1)) (φC (φ0 s.1.1) (φI (actN s) d).1)).1=true:=φ1j (op:=φU _) hg fun k=>φ31 k _
 have f1:∀n,φ2 (φI (actN s) d).1 n=φ2 d n:=fun n=>φ2a h _ n
 have f2:∀n,n≠φ0 s.1.1→φ2 (φA (φU (φ0 s.1.1)) (φC (φ0 s.1.1) (φI (actN s) d).1)).1 n=φ2 d n:=fun n hn=>by
  rw[φ2f (op:=φU _) (φA7 hg hn),φ58 hs hn,f1]
 unfold rotP
 split
 ·exact .inl ⟨rfl,fun _=>rfl⟩
 rename_i c1
 simp only[not_or,Nat.not_le,Int.not_le] at c1
 split
 ·exact .inl ⟨rfl,f1⟩
 simp only
 split
 ·exact .inr ⟨rfl,c1.2,fun n h1 _ _=>f2 n h1⟩
 have hp:=φ3z (w:=((φA (φU (φ0 s.1.1)) (φC (φ0 s.1.1) (φI (actN s) d).1)).1,0)) hc (s.1.1+1,s.1.2++[s.1.1])
 have f3:∀n,n≠φ0 s.1.1→n≠φ2J→n≠φi→φ2 (sPut (s.1.1+1,s.1.2++[s.1.1]) ((φA (φU (φ0 s.1.1)) (φC (φ0 s.1.1) (φI (actN s) d).1)).1,0)).1 n=φ2 d n:=fun n h1 h2 h3=>by
  rw[φ7O (w:=((φA (φU (φ0 s.1.1)) (φC (φ0 s.1.1) (φI (actN s) d).1)).1,0)) hc _ h2 h3]
  exact f2 n h1
 split
 ·refine .inr ⟨rfl,c1.2,fun n h1 h2 h3=>?_⟩
  show φ2 (φ1f _ _).1 n=_
  rw[φ82 (w:=φ9 _) hp (fun m hm=>by
   simp only[mc,List.not_mem_nil,or_false] at hm
   rcases hm with rfl | rfl
   ·exact h2
   ·exact h1)]
  exact f3 n h1 h2 h3
 ·exact .inr ⟨rfl,c1.2,f3⟩
theorem φAg {v:φP} (h:φk v=true):1≤φL v.2∧φL v.2<v.1∧φL v.2≤100000:=by
 obtain ⟨k1,k2,k3,k4⟩:=(φ15 v).1 h
 rw[φG (by omega) (by omega)] at k1
 have hm:φL v.2∈v.2:=by
  unfold φL
  rw[φE (show v.2.length - 1<v.2.length by omega)]
  exact gM _
 have:=φ3e _ _ k1 _ hm
 omega
theorem φ5y {n:List UInt8}:∀(ids:List Int) {w:φD},φ3 w.1=true→(∀id∈ids,n≠φ0 id∧n≠φK id)→φ2 (sOld ids w).1 n=φ2 w.1 n
 | [],w,_,_=>rfl
 | i::l,w,h,hne=>by
  have h1:=φ4V [φ0 i,φK i] h
  show φ2 (sOld l (φj [φ0 i,φK i] w)).1 n=_
  rw[φ5y l h1 fun x hx=>hne x (mC _ hx),φ99 _ h (fun m hm=>by
   simp only[mc,List.not_mem_nil,or_false] at hm
   have:=hne i κ0
   rcases hm with rfl | rfl
   ·exact this.1
   ·exact this.2)]
theorem φ4p {v:φP} (h:φk v=true):v.2≠[]:=fun e=>by
 have:=((φ15 v).1 h).2.2.1
 rw[e] at this;simp at this
theorem φK5 (l:List φB) (key:List UInt8):(φ2E l key).2=false∨((φ2E l key).2=true∧(φ2E l key).1∈l):=by
 unfold φ2E
 cases h:l.find? fun e=>e.1==key with
 | none=>exact .inl rfl
 | some e=>exact .inr ⟨rfl,List.mem_of_find?_eq_some h⟩
theorem φLN {d d':φ1} {b:Int} {e:φB} (hf:φ2 d' (φ0 e.2.1)=φ2 d (φ0 e.2.1)):φ1u d' b e=φ1u d b e:=by
 unfold φ1u;rw[hf]
theorem φ7V:scan []=([],0):=by
 have:=φ8n (s:=[])
 exact this
theorem φFc {d d':φ1} {z:Int} {m:Int} (hm:φ2 d' (φ0 m)=([],true)):∀(ids:List Int),(∀id∈ids,φ2 d' (φ0 id)=φ2 d (φ0 id))→φ1b d z ids=true→φ1b d' 0 (ids++[m])=true
 | [],_,_=>by
  show (φ4X d' 0 true m && true)=true
  unfold φ4X
  rw[hm]
  simp only[φ7V]
  simp
 | x::l,hf,h=>by
  unfold φ1b at h
  simp only[bA] at h
  have ih:=φFc hm l (fun id hi=>hf id (mC _ hi)) h.2
  rw[κF]
  unfold φ1b
  rw[ih,κL]
  have hx:=h.1
  unfold φ4X at hx ⊢
  rw[hf x κ0]
  simp only[bA] at hx ⊢
  refine ⟨hx.1,hx.2.1,?_⟩
  have:(l++[m]).isEmpty=false:=by cases l<;>rfl
  rw[this];rfl
theorem φBT {s:φ8} {d:φ1} (h:φ3 d=true) (hc:(rotP s d).2.2=0):(rotP s d).1=((s.1.1+1,s.1.2++[s.1.1]),s.2.1,s.2.2.1,0,s.2.2.2.2)∧φ2 (rotP s d).2.1 (φ0 s.1.1)=([],true)∧s.1.2.length<60∧s.1.1<100000:=by
 have hs:=φ3J h (actN s)
 have hg:=φ2D hs (φ0 s.1.1)
 have hd:φ3 (φA (φU (φ0 s.1.1)) (φC (φ0 s.1.1) (φI (actN s) d).1)).1=true:=φ1j (op:=φU _) hg fun k=>φ31 k _
 unfold rotP at hc ⊢
 split at hc
 ·exact absurd hc (show ¬(5:Int)=0 by decide)
 rename_i c1
 split at hc
 ·rename_i c2;exact absurd ((φ1R _).1 hc) c2
 rename_i c2
 simp only at hc
 split at hc
 ·rename_i c3;exact absurd ((φ1R _).1 hc) c3
 rename_i c3
 split at hc
 ·rename_i c4
  exfalso
  revert hc
  unfold φ1f
  simp only
  split
  ·split
   ·simp
   ·rename_i c5;exact c5
  ·exact c4
 rename_i c4
 rw[if_neg c1,if_neg c2]
 simp only
 rw[if_neg c3,if_neg c4]
 simp only[not_or,Nat.not_le,Int.not_le] at c1
 refine ⟨rfl,?_,c1.1,c1.2⟩
 have c3:(φA (φU (φ0 s.1.1)) (φC (φ0 s.1.1) (φI (actN s) d).1)).2=0:=by simpa using c3
 show φ2 (sPut _ _).1 _=_
 rw[φ7O (w:=((φA (φU (φ0 s.1.1)) (φC (φ0 s.1.1) (φI (actN s) d).1)).1,0)) hd _ (φ49 _) (φ2Q _)]
 show φ2 (φA (φU (φ0 s.1.1)) (φC (φ0 s.1.1) (φI (actN s) d).1)).1 _=_
 generalize φC (φ0 s.1.1) (φI (actN s) d).1=g at *
 obtain ⟨x,k⟩:=g
 by_cases hk:k=0
 ·subst hk
  rw[φ2H] at c3 ⊢
  exact φEi c3
 ·rw[φ2Z hk] at c3;exact absurd c3 hk
theorem φIl {s:φ8} {d:φ1} (hk:φh s d=true) (hx:∀e∈s.2.1,e.2.1≠s.1.1):(∀e∈s.2.1,φ2 (rotP s d).2.1 (φ0 e.2.1)=φ2 d (φ0 e.2.1))∧∀id∈s.1.2,φ2 (rotP s d).2.1 (φ0 id)=φ2 d (φ0 id):=by
 obtain ⟨q1,q2,q3,q4,q5⟩:=φ5H hk
 obtain ⟨k1,k2,k3,k4⟩:=(φ15 s.1).1 q2
 rw[φG (by omega) (by omega)] at k1
 have key:∀i:Int,1≤i∧i≤100000→i≠s.1.1→φ2 (rotP s d).2.1 (φ0 i)=φ2 d (φ0 i):=fun i hi hne=>by
  rcases φBh (s:=s) q1 with ⟨_,e2⟩ | ⟨_,_,e2⟩
  ·exact e2 _
  ·exact e2 _ (fun hh=>hne (φ3r hi (by omega) hh)) (φ49 i) (φ2Q i)
 refine ⟨fun e he=>key _ ?_ (hx e he),fun id hi=>key _ ?_ ?_⟩
 ·have:=(φ43 q3).2 e he
  unfold φ2k at this
  simp only[bA,decide_eq_true_eq] at this
  exact this.2.1
 ·have:=φ3e _ _ k1 id hi;omega
 ·have:=φ3e _ _ k1 id hi;omega
theorem φFA {s:φ8} {d:φ1} (hk:φh s d=true) (hx:∀e∈s.2.1,e.2.1≠s.1.1) (hc:(rotP s d).2.2=0):φh (rotP s d).1 (rotP s d).2.1=true∧segN (rotP s d).2.1 ((rotP s d).1.1.2.take 60)=segN d (s.1.2.take 60):=by
 obtain ⟨q1,q2,q3,q4,q5⟩:=φ5H hk
 obtain ⟨k1,k2,k3,k4⟩:=(φ15 s.1).1 q2
 obtain ⟨r1,r2,r3,r4,r5,r6⟩:=φ7x q1 q2
 obtain ⟨f1,f2⟩:=φIl hk hx
 obtain ⟨e1,e2,e3,e4⟩:=φBT q1 hc
 have hent:=φGG hk
 constructor
 ·unfold φh
  have h5:=φFc (d:=d) (z:=s.2.2.2.1) e2 s.1.2 f2 q5
  rw[e1] at *
  simp only[bA,decide_eq_true_eq,κU]
  refine ⟨r1,φFj q2 e3 e4,q3,q4,h5,fun e he=>?_⟩
  rw[φLN (f1 e he)]
  exact hent e he
 ·rw[e1]
  simp only
  have t1:s.1.2.take 60=s.1.2:=List.take_of_length_le (by omega)
  have t2:(s.1.2++[s.1.1]).take 60=s.1.2++[s.1.1]:=List.take_of_length_le (by simp;omega)
  rw[t1,t2]
  unfold segN
  rw[φEJ]
  simp only[e2,lN,Nat.add_zero]
  generalize s.1.2=l at f2
  induction l with
  | nil=>rfl
  | cons x l ih=>
   simp only[sumN]
   rw[f2 x κ0,ih fun id hi=>f2 id (mC _ hi)]
theorem φ8q {t:List UInt8} (h:t.length≤200):frame t=fix4 (crcT (varT (t.length:Int)++t))++(varN t.length++t)∧(fix4 (crcT (varT (t.length:Int)++t))).length=4:=by
 unfold frame
 rw[if_neg (by omega),φ54 t.length (by omega)]
 exact ⟨rfl,φ6r (φ4n _)⟩
theorem φ7N {t:List UInt8} (h:t.length≤200) (r:List UInt8):φN (frame t++r)=(t,((frame t).length:Int)):=by
 obtain ⟨e,h4⟩:=φ8q h
 have hb:=φ93 7 true t.length (t++r) (by omega) (by simp) (by omega)
 generalize hC:fix4 (crcT (varT (t.length:Int)++t))=C at *
 have hl:(frame t).length=4+(varN t.length).length+t.length:=by rw[e];simp only[lA,h4];omega
 have e1:(frame t++r).drop 4=varN t.length++(t++r):=by
  rw[e,aA,←h4,κO,aA]
 have e2:(frame t++r).take (4+(varN t.length).length+t.length)=frame t:=by rw[←hl,List.take_left]
 have e3:(frame t).drop (4+(varN t.length).length)=t:=by
  rw[e,show C++(varN t.length++t)=(C++varN t.length)++t by rw[aA],show 4+(varN t.length).length=(C++varN t.length).length by rw[lA,h4],κO]
 unfold φN
 rw[if_neg (by rw[lA];omega),e1,hb]
 simp only
 rw[if_neg (by rw[lA];omega),e2,e3,if_pos rfl,hl]
theorem φBH {s:List UInt8} (h:(φN s).2≠0):∃t r,s=frame t++r∧t.length≤200∧φN s=(t,((frame t).length:Int)):=by
 have key:∃t r,s=frame t++r∧t.length≤200:=by
  unfold φN at h
  split at h
  ·exact absurd rfl h
  split at h
  ·exact absurd rfl h
  rename_i n k hr
  split at h
  ·exact absurd rfl h
  rename_i c
  split at h
  ·rename_i c2
   refine ⟨_,s.drop (4+k+n),by rw[c2,κE],?_⟩
   rw[lD,lT];omega
  ·exact absurd rfl h
 obtain ⟨t,r,e,hl⟩:=key
 exact ⟨t,r,e,hl,by rw[e];exact φ7N hl r⟩
theorem φ7f {t:List UInt8} (h:t.length≤200):5≤(frame t).length:=by
 obtain ⟨e,h4⟩:=φ8q h
 have:=(φ8x 6 t.length (by omega)).1
 rw[e];simp only[lA,h4];omega
theorem φHc {s:List UInt8} {r q:RecT} (h:φ2n s r) (k:φ2n s q):r=q:=by
 have a:=φ9R h
 rw[φ9R k] at a
 simp only[Option.some.injEq,Prod.mk.injEq,and_true] at a
 exact a.symm
theorem φBc {r:RecT} (h:φZ r=true):φ1M (φ7 r)=(r,true):=by
 rcases φ6l (φ7 r) with ⟨_,e⟩ | ⟨q,e,hq⟩
 ·exact absurd ⟨r,h,rfl⟩ e
 ·rw[e,φHc hq ⟨h,rfl⟩]
def fr (r:RecT):List UInt8:=frame (φ7 r)
def txt (rs:List RecT):List UInt8:=(rs.map fr).flatten
theorem φ6T (r:RecT):5≤(fr r).length∧(fr r).length≤71:=by
 have h:=φ3R r
 refine ⟨φ7f (by omega),?_⟩
 obtain ⟨e,h4⟩:=φ8q (t:=φ7 r) (by omega)
 have:=(φ8x 0 (φ7 r).length (by omega)).2
 unfold fr
 rw[e];simp only[lA,h4];omega
theorem φ3Q (r:RecT) (rs:List RecT):txt (r::rs)=fr r++txt rs:=rfl
theorem φAr (rs:List RecT) (r:RecT):txt (rs++[r])=txt rs++fr r:=by unfold txt;simp
theorem φHH (rs qs:List RecT):txt (rs++qs)=txt rs++txt qs:=by unfold txt;simp
theorem φFl:∀(rs:List RecT) (p:List UInt8),(∀r∈rs,φZ r=true)→(φ24 (p++txt rs) p.length).2=p.length+(txt rs).length
 | [],p,_=>by
  have:p++txt []=p:=by simp[txt]
  rw[this,φ8n];simp[txt]
 | r::rs,p,h=>by
  have hs:=φ3R r
  have hb:=φ7N (t:=φ7 r) (by omega) (txt rs)
  have hd:(p++txt (r::rs)).drop p.length=frame (φ7 r)++txt rs:=by rw[κO];rfl
  have hl:=φ6T r
  rw[φ5E (n:=(fr r).length) (by rw[hd,hb];rfl) hl.1 (by rw[φ3Q];simp only[lA];omega) (by rw[hd,hb];simp only;rw[φBc (h r κ0)])]
  have ih:=φFl rs (p++fr r) (fun x hx=>h x (mC _ hx))
  rw[aA,lA] at ih
  show (φ24 (p++(fr r++txt rs)) (p.length+(fr r).length)).2=_
  rw[ih,φ3Q,lA];omega
theorem φEa {rs:List RecT} (h:∀r∈rs,φZ r=true):(scan (txt rs)).2=(txt rs).length:=by
 have:=φFl rs [] h
 simpa [scan] using this
theorem φIz:∀(k:Nat) (s:List UInt8) (a:Nat),a≤s.length→s.length - a=k→(φ24 s a).2=s.length→∃rs:List RecT,(∀r∈rs,φZ r=true)∧s.drop a=txt rs:=by
 intro k
 induction k using Nat.strongRecOn with
 | ind k ih=>
  intro s a ha hk hw
  by_cases c:(φN (s.drop a)).2=0∨(φ1M (φN (s.drop a)).1).2=false
  ·rw[φ4s ha c] at hw
   have hw:a=s.length:=hw
   exact ⟨[],by simp,by rw[hw,List.drop_length];rfl⟩
  ·have c1:(φN (s.drop a)).2≠0:=fun e=>c (.inl e)
   have hr:(φ1M (φN (s.drop a)).1).2=true:=by
    cases e:(φ1M (φN (s.drop a)).1).2 with
    | true=>rfl
    | false=>exact absurd (.inr e) c
   obtain ⟨t,r,e1,e2,e3⟩:=φBH c1
   have h5:=φ7f e2
   have hlen:a+(frame t).length≤s.length:=by
    have:(s.drop a).length=(frame t++r).length:=by rw[←e1]
    rw[lD,lA] at this;omega
   rw[φ5E (n:=(frame t).length) (by rw[e3]) h5 hlen hr] at hw
   obtain ⟨rs,g1,g2⟩:=ih (s.length - (a+(frame t).length)) (by omega) s (a+(frame t).length) hlen rfl hw
   have hd:s.drop (a+(frame t).length)=r:=by rw[←List.drop_drop,e1,κO]
   rw[e3] at hr
   rcases φ6l t with ⟨z,_⟩ | ⟨q,z,hq⟩
   ·rw[z] at hr;simp at hr
   ·refine ⟨q::rs,?_,?_⟩
    ·intro x hx
     rcases mc.1 hx with rfl | hx
     ·exact hq.1
     ·exact g1 x hx
    ·rw[e1,φ3Q,←g2,hd]
     show _=frame (φ7 q)++r
     rw[hq.2]
def φ2P (s:List UInt8):Prop:=(scan s).2=s.length
theorem φ8p (s:List UInt8):φ2P s↔∃rs:List RecT,(∀r∈rs,φZ r=true)∧s=txt rs:=by
 constructor
 ·intro h
  obtain ⟨rs,h1,h2⟩:=φIz s.length s 0 (κ3 _) rfl h
  exact ⟨rs,h1,by simpa using h2⟩
 ·rintro ⟨rs,h1,rfl⟩
  exact φEa h1
theorem φGE:φ2P []:=(φ8p []).2 ⟨[],by simp,rfl⟩
theorem φKK {s:List UInt8} {r:RecT} (h:φ2P s) (hr:φZ r=true):φ2P (s++fr r):=by
 obtain ⟨rs,h1,rfl⟩:=(φ8p s).1 h
 refine (φ8p _).2 ⟨rs++[r],?_,(φAr rs r).symm⟩
 intro x hx
 rcases mA.1 hx with hx | hx
 ·exact h1 x hx
 ·rw[mZ.1 hx];exact hr
theorem φDT {s:List UInt8} {a n:Int} (t:List UInt8) (h:(φ1F s a n).2=true):φ1F (s++t) a n=φ1F s a n:=by
 unfold φ1F at h ⊢
 split at h
 ·rename_i c
  rw[if_pos c,if_pos (show 0≤a∧a≤((s++t).length:Int)∧1≤n∧n≤((s++t).length:Int) - a by rw[lA];omega)]
  rw[show (s++t).take (a+n).toNat=s.take (a+n).toNat from List.take_append_of_le_length (by omega)]
 ·simp at h
theorem φCc (s:List UInt8) {r:RecT} (h:φZ r=true):φ1F (s++fr r) (s.length:Int) ((fr r).length:Int)=(r,true):=by
 have hl:=φ6T r
 have hs:=φ3R r
 unfold φ1F
 rw[if_pos (by rw[lA];omega)]
 have e1:((s.length:Int)+((fr r).length:Int)).toNat=(s++fr r).length:=by rw[lA];omega
 rw[e1,κb,tN,κO]
 have hb:=φ7N (t:=φ7 r) (by omega) []
 rw[κ4] at hb
 rw[show φN (fr r)=_ from hb]
 show (if ((fr r).length:Int)=((fr r).length:Int) then φ1M (φ7 r) else _)=_
 rw[if_pos rfl]
 exact φBc h
theorem φ8U (x:Int):φL [x]=x:=rfl
theorem φ8r (x y:Int) (l:List Int):φL (x::y::l)=φL (y::l):=by
 unfold φL
 simp only[lC,Nat.add_sub_cancel]
 rfl
theorem φ3l:∀{l:List Int},l≠[]→φL l∈l
 | [],h=>absurd rfl h
 | [x],_=>by simp[φ8U]
 | x::y::l,_=>by rw[φ8r];exact mC _ (φ3l (by simp))
theorem φHu (l:List Int) (x:Int):φL (l++[x])=x:=by
 unfold φL;simp
theorem φ20 {d:φ1} {z:Int}:∀(ids:List Int),φ1b d z ids=true↔(∀id∈ids,(φ2 d (φ0 id)).2=true∧φ2P (φ2 d (φ0 id)).1)∧(ids≠[]→z=((φ2 d (φ0 (φL ids))).1.length:Int))
 | []=>by simp[φ1b]
 | [x]=>by
  unfold φ1b φ4X φ1b φ2P
  simp only[List.isEmpty_nil,nZ,κR,κL,bA,decide_eq_true_eq,mZ,forall_eq,φ8U]
  constructor
  ·rintro ⟨h1,h2,h3⟩;exact ⟨⟨h1,h2⟩,fun _=>h3⟩
  ·rintro ⟨⟨h1,h2⟩,h3⟩;exact ⟨h1,h2,h3 (by simp)⟩
 | x::y::l=>by
  have ih:=φ20 (d:=d) (z:=z) (y::l)
  unfold φ1b φ4X
  rw[bA,ih]
  simp only[List.isEmpty_cons,nF,Bool.true_or,κL,bA,decide_eq_true_eq,φ8r]
  constructor
  ·rintro ⟨⟨h1,h2⟩,h3,h4⟩
   refine ⟨fun id hid=>?_,fun _=>h4 (by simp)⟩
   rcases mc.1 hid with rfl | hid
   ·exact ⟨h1,h2⟩
   ·exact h3 id hid
  ·rintro ⟨h3,h4⟩
   exact ⟨h3 x κ0,fun id hid=>h3 id (mC _ hid),fun _=>h4 (by simp)⟩
noncomputable def φ1C (d:φ1) (e:φB):RecT×Bool:=φ1F (φ2 d (φ0 e.2.1)).1 e.2.2.1 e.2.2.2.1
theorem φ32 {d:φ1} {b:Int} {e:φB}:φ1u d b e=true↔(φ1C d e).2=true∧((φ1C d e).1.1=1∨(φ1C d e).1.1=4)∧(φ1C d e).1.2.2.1=e.1∧(φ1C d e).1.2.1=e.2.2.2.2∧e.2.2.2.2<b:=by
 unfold φ1u φ1C
 simp only[bA,κV,beq_iff_eq,κM,decide_eq_false_iff_not,ge_iff_le,Int.not_le]
def φ2v (m:Int) (d d':φ1):Prop:=∀e:φB,1≤e.2.1→e.2.1<m→(φ1C d e).2=true→φ1C d' e=φ1C d e
theorem φ2v.trans {m m':Int} {d d' d'':φ1} (h:φ2v m d d') (h':φ2v m' d' d'') (hm:m≤m'):φ2v m d d'':=fun e h1 h2 h3=>by
 have k:=h e h1 h2 h3
 rw[h' e h1 (by omega) (by rw[k];exact h3),k]
def φ41 (s:φ8):Prop:=∀e∈s.2.1,e.2.1<s.1.1
theorem φr {s:φ8} {d:φ1}:φh s d=true↔φ3 d=true∧φk s.1=true∧φ1m s.2.1=true∧(1≤s.2.2.1∧s.2.2.1≤1000001)∧φ1b d s.2.2.2.1 s.1.2=true∧∀e∈s.2.1,φ1u d s.2.2.1 e=true:=by
 unfold φh
 simp only[bA,decide_eq_true_eq,κU]
theorem φAI {l:List φB} (h:φ1m l=true) {e:φB} (he:e∈l):1≤e.2.1∧e.2.1≤100000:=by
 have:=(φ43 h).2 e he
 unfold φ2k at this
 simp only[bA,decide_eq_true_eq] at this
 exact this.2.1
theorem φ6X {s:φ8} {d d':φ1} {m b':Int} (h:φh s d=true) (hk:φ2v m d d') (hm:∀e∈s.2.1,e.2.1<m) (hb:s.2.2.1≤b'):∀e∈s.2.1,φ1u d' b' e=true:=fun e he=>by
 obtain ⟨q1,q2,q3,q4,q5,q6⟩:=φr.1 h
 have k:=φ32.1 (q6 e he)
 have:=hk e (φAI q3 he).1 (hm e he) k.1
 rw[φ32,this]
 exact ⟨k.1,k.2.1,k.2.2.1,k.2.2.2.1,by omega⟩
theorem φCB {s:φ8} {d:φ1} (hk:φ3 d=true) (hm:s.1.1≤100000):φ2v s.1.1 d (rotP s d).2.1:=fun e h1 h2 h3=>by
 unfold φ1C
 rcases φBh (s:=s) hk with ⟨_,e2⟩ | ⟨_,_,e2⟩
 ·rw[e2]
 ·rw[e2 _ (fun hh=>by have:=φ3r (by omega) (by omega) hh;omega) (φ49 _) (φ2Q _)]
theorem φDr {s:φ8} {d:φ1} {r:RecT} (h:φh s d=true) (hr:φZ r=true) (hc:(φO (actN s) (fr r) d).2=0) :
  φh (s.1,s.2.1,s.2.2.1,s.2.2.2.1+((fr r).length:Int),s.2.2.2.2) (φO (actN s) (fr r) d).1=true∧φ2v 100001 d (φO (actN s) (fr r) d).1 ∧
  ∀k b,φ1C (φO (actN s) (fr r) d).1 (k,φL s.1.2,s.2.2.2.1,((fr r).length:Int),b)=(r,true):=by
 obtain ⟨q1,q2,q3,q4,q5,q6⟩:=φr.1 h
 obtain ⟨k1,k2,k3,k4⟩:=(φ15 s.1).1 q2
 rw[φG (by omega) (by omega)] at k1
 obtain ⟨g1,g2⟩:=(φ20 _).1 q5
 have hne:s.1.2≠[]:=φ4p q2
 have g2:=g2 hne
 obtain ⟨a1,a2⟩:=φ5k hc
 have hl:=φAg q2
 have a2:φ2 (φO (actN s) (fr r) d).1 (φ0 (φL s.1.2))=((φ2 d (φ0 (φL s.1.2))).1++fr r,true):=a2
 have hoth:∀id,1≤id∧id≤100000→id≠φL s.1.2→φ2 (φO (actN s) (fr r) d).1 (φ0 id)=φ2 d (φ0 id):=fun id h1 h2=>
  φ7B q1 (fun hh=>h2 (φ3r h1 ⟨hl.1,hl.2.2⟩ hh))
 have hkeep:φ2v 100001 d (φO (actN s) (fr r) d).1:=fun e h1 h2 h3=>by
  unfold φ1C at h3 ⊢
  by_cases c:e.2.1=φL s.1.2
  ·rw[c] at h3 ⊢;rw[a2];exact φDT _ h3
  ·rw[hoth _ ⟨h1,by omega⟩ c]
 have hents:∀e∈s.2.1,φ1u (φO (actN s) (fr r) d).1 s.2.2.1 e=true:=φ6X h hkeep (fun e he=>by have:=φAI q3 he;omega) (κP _)
 refine ⟨φr.2 ⟨φ3G q1 _ _,q2,q3,q4,?_,hents⟩,hkeep,fun k b=>?_⟩
 ·refine (φ20 _).2 ⟨fun id hid=>?_,fun _=>?_⟩
  ·have hm:=φ3e _ _ k1 id hid
   by_cases c:id=φL s.1.2
   ·rw[c,a2];exact ⟨rfl,φKK (g1 _ (φ3l hne)).2 hr⟩
   ·rw[hoth id (by omega) c];exact g1 id hid
  ·show s.2.2.2.1+_=_
   rw[a2,g2];simp
 ·unfold φ1C
  show φ1F (φ2 _ (φ0 (φL s.1.2))).1 s.2.2.2.1 _=_
  rw[a2,g2]
  exact φCc _ hr
structure NewOk (d:φ1) (m:Int) (r:RecT) (e:φB):Prop where
 key:e.1=r.2.2.1
 at_:φ1C d e=(r,true)
 seg:1≤e.2.1∧e.2.1<m∧e.2.1≤100000
 off:0≤e.2.2.1
 len:1≤e.2.2.2.1∧e.2.2.2.1≤210
 bat:e.2.2.2.2=r.2.1
theorem NewOk.keep {d d':φ1} {m m':Int} {r:RecT} {e:φB} (h:NewOk d m r e) (hk:φ2v m d d') (hm:m≤m'):NewOk d' m' r e:=
 ⟨h.key,by rw[hk e h.seg.1 h.seg.2.1 (by rw[h.at_]),h.at_],⟨h.seg.1,by have:=h.seg.2.1;omega,h.seg.2.2⟩,h.off,h.len,h.bat⟩
structure AddOk (s:φ8) (d:φ1) (s':φ8) (d':φ1):Prop where
 ok:φh s' d'=true
 dir:s'.2.1=s.2.1
 bat:s'.2.2.1=s.2.2.1
 nxt:s.1.1≤s'.1.1
 kp:φ2v s.1.1 d d'
theorem AddOk.lt {s:φ8} {d:φ1} {s':φ8} {d':φ1} (h:AddOk s d s' d') (hl:φ41 s):φ41 s':=fun e he=>by
 rw[h.dir] at he
 have:=hl e he
 have:=h.nxt
 omega
theorem AddOk.trans {s:φ8} {d:φ1} {s':φ8} {d':φ1} {s'':φ8} {d'':φ1} (h:AddOk s d s' d') (k:AddOk s' d' s'' d''):AddOk s d s'' d'':=
 ⟨k.ok,by rw[k.dir,h.dir],by rw[k.bat,h.bat],by have:=h.nxt;have:=k.nxt;omega,h.kp.trans k.kp h.nxt⟩
theorem φM9 {s:φ8} {d:φ1} (t:List UInt8) (h:φh s d=true) (hl:φ41 s) (hc:(addR s d t).2.2=0):AddOk s d (addR s d t).1 (addR s d t).2.1:=by
 obtain ⟨q1,q2,q3,q4,q5,q6⟩:=φr.1 h
 have k:=(φ15 s.1).1 q2
 unfold addR at hc ⊢
 split
 ·rename_i c
  rw[if_pos c] at hc
  obtain ⟨r1,r2,r3,r4,r5,r6⟩:=φ7x q1 q2
  have hr:=φFA h (fun e he=>by have:=hl e he;omega) hc
  have hn:=φBT q1 hc
  exact ⟨hr.1,r3,r4,by rw[hn.1];show s.1.1≤s.1.1+1;omega,φCB q1 k.2.1.2⟩
 ·exact ⟨h,rfl,rfl,κP _,fun e _ _ _=>rfl⟩
theorem φLI {s:φ8} {d:φ1} {r:RecT} (h:φh s d=true) (hl:φ41 s) (hr:φZ r=true) (hc:(addP s d r).2.2.1=0) :
  AddOk s d (addP s d r).1 (addP s d r).2.1∧NewOk (addP s d r).2.1 (addP s d r).1.1.1 r (addP s d r).2.2.2:=by
 have hR:=φM9 (frame (φ7 r)) h hl
 have hf:=φ6T r
 unfold addP at hc ⊢
 generalize addR s d (frame (φ7 r))=R at *
 simp only at hc ⊢
 by_cases c:R.2.2=0
 rotate_left
 ·rw[if_pos c] at hc;exact absurd hc c
 rw[if_neg (by simpa using c)] at hc ⊢
 have hR:=hR c
 have hA:=φDr hR.ok hr
 by_cases c2:(φO (actN R.1) (frame (φ7 r)) R.2.1).2=0
 rotate_left
 ·rw[if_pos c2] at hc;exact absurd ((φ1R _).1 hc) c2
 rw[if_neg (by simpa using c2)]
 obtain ⟨a1,a2,a3⟩:=hA c2
 obtain ⟨q1,q2,q3,q4,q5,q6⟩:=φr.1 hR.ok
 have k:=(φ15 _).1 q2
 have hll:=φAg q2
 have hg:=φDI hR.ok
 exact ⟨hR.trans ⟨a1,rfl,rfl,κP _,fun e h1 h2 h3=>a2 e h1 (by omega) h3⟩,⟨rfl,a3 _ _,⟨hll.1,hll.2.1,hll.2.2⟩,hg.s0,by show 1≤((fr r).length:Int)∧((fr r).length:Int)≤210;omega,rfl⟩⟩
theorem φEF:∀(rs:List RecT) (s:φ8) (d:φ1),φh s d=true→φ41 s→(∀r∈rs,φZ r=true)→(φe rs s d).2.2.1=0 →
  AddOk s d (φe rs s d).1 (φe rs s d).2.1∧(φe rs s d).2.2.2.length=rs.length∧∀p∈rs.zip (φe rs s d).2.2.2,NewOk (φe rs s d).2.1 (φe rs s d).1.1.1 p.1 p.2
 | [],s,d,h,hl,_,_=>⟨⟨h,rfl,rfl,κP _,fun _ _ _ _=>rfl⟩,rfl,fun p hp=>by simp at hp⟩
 | r::rs,s,d,h,hl,hr,hc=>by
  have hA:=φLI h hl (hr r κ0)
  unfold φe at hc ⊢
  by_cases c:(addP s d r).2.2.1=0
  rotate_left
  ·rw[if_pos c] at hc;exact absurd hc c
  rw[if_neg (by simpa using c)] at hc ⊢
  obtain ⟨a1,a2⟩:=hA c
  obtain ⟨b1,b2,b3⟩:=φEF rs _ _ a1.ok (a1.lt hl) (fun x hx=>hr x (mC _ hx)) hc
  refine ⟨a1.trans b1,by simp[b2],fun p hp=>?_⟩
  simp only[List.zip_cons_cons] at hp
  rcases mc.1 hp with rfl | hp
  ·exact a2.keep b1.kp b1.nxt
  ·exact b3 p hp
def mapG {α β:Type} (g:α→β) (l:List (List UInt8×α)):List (List UInt8×β):=l.map fun x=>(x.1,g x.2)
theorem φB1 {α β:Type} (g:α→β) (k:List UInt8):∀l:List (List UInt8×α),mapG g (φ1E l k)=φ1E (mapG g l) k
 | []=>rfl
 | x::l=>by
  have ih:=φB1 g k l
  unfold mapG φ1E at *
  simp only[List.filter_cons,κ5]
  by_cases c:x.1=k
  ·simp only[c,beq_self_eq_true,nZ,κ2,if_false];exact ih
  ·have:(x.1==k)=false:=by simpa using c
   simp only[this,nF,if_true,κ5];rw[ih]
theorem φDJ {α β:Type} (g:α→β) (p:List UInt8×α):∀l:List (List UInt8×α),mapG g (insB l p)=insB (mapG g l) (p.1,g p.2)
 | []=>rfl
 | x::l=>by
  have ih:=φDJ g p l
  show mapG g (insB (x::l) p)=insB ((x.1,g x.2)::mapG g l) (p.1,g p.2)
  rw[φ67,φ67]
  simp only
  split
  ·show (x.1,g x.2)::mapG g (insB l p)=_
   rw[ih]
  ·rfl
theorem φ8z {β:Type} (g:Int×Int×Int×Int→β) (v:PutT→β):∀(l:List (PutT×φB)) (dir:List φB),(∀p∈l,p.2.1=p.1.1∧(p.1.2.1=false→g p.2.2=v p.1)) →
  mapG g (dirW dir l)=(l.map (·.1)).foldl (fun a p=>if p.2.1=true then φ1E a p.1 else insB (φ1E a p.1) (p.1,v p)) (mapG g dir)
 | [],dir,_=>rfl
 | p::l,dir,h=>by
  have ih:=φ8z g v l (φ2g dir p) (fun q hq=>h q (mC _ hq))
  obtain ⟨h1,h2⟩:=h p κ0
  show mapG g (dirW (φ2g dir p) l)=(l.map (·.1)).foldl _ _
  rw[ih]
  congr 1
  show mapG g (φ2g dir p)=if p.1.2.1=true then φ1E (mapG g dir) p.1.1 else insB (φ1E (mapG g dir) p.1.1) (p.1.1,v p.1)
  unfold φ2g
  by_cases c:p.1.2.1=true
  ·rw[if_pos c,if_pos c,φB1]
  ·rw[if_neg c,if_neg c,φDJ,φB1,h1,h2 (by simpa using c)]
theorem φNE (dir:List φB) (l:List (PutT×φB)) (h:∀p∈l,p.2.1=p.1.1):(dirW dir l).length=(dirW dir ((l.map (·.1)).zip ((l.map (·.1)).map φ6w))).length:=by
 have e1:=φ8z (fun _=>()) (fun _=>()) l dir (fun p hp=>⟨h p hp,fun _=>rfl⟩)
 have e2:=φ8z (fun _=>()) (fun _=>()) ((l.map (·.1)).zip ((l.map (·.1)).map φ6w)) dir (fun p hp=>⟨by
  generalize l.map (·.1)=m at hp
  induction m with
  | nil=>simp at hp
  | cons x m ih=>
   simp only[κ5,List.zip_cons_cons] at hp
   rcases mc.1 hp with rfl | hp
   ·rfl
   ·exact ih hp,fun _=>rfl⟩)
 have e3:((l.map (·.1)).zip ((l.map (·.1)).map φ6w)).map (·.1)=l.map (·.1):=List.map_fst_zip (by simp)
 rw[e3] at e2
 have:=congrArg List.length (e1.trans e2.symm)
 simpa [mapG] using this
theorem φ9A:∀(l:List (PutT×φB)) (dir:List φB) (x:φB),x∈dirW dir l→x∈dir∨∃p∈l,x=p.2∧p.1.2.1=false
 | [],dir,x,h=>.inl h
 | p::l,dir,x,h=>by
  rcases φ9A l (φ2g dir p) x h with h | ⟨q,hq,e⟩
  ·unfold φ2g at h
   split at h
   ·exact .inl ((φ6b _ _ _).1 h).1
   ·rename_i c
    rcases (φ3g _ _ _).1 h with e | h
    ·exact .inr ⟨p,κ0,e,by simpa using c⟩
    ·exact .inl ((φ6b _ _ _).1 h).1
  ·exact .inr ⟨q,mC _ hq,e⟩
theorem φDw:∀(l:List (PutT×φB)) {dir:List φB},srt dir→srt (dirW dir l)
 | [],_,h=>h
 | p::l,dir,h=>by
  refine φDw l (dir:=φ2g dir p) ?_
  unfold φ2g
  split
  ·exact φER h _
  ·exact φBL _ _ (φER h _) (fun x hx=>((φ6b _ _ _).1 hx).2)
theorem φBv:∀(l:List φB) (p:Option (List UInt8)),srt l→(∀e∈l,φ2k e=true)→(∀q,p=some q→∀x∈l,Op.bytesLess q x.1=true)→φ2O p l=true
 | [],_,_,_,_=>rfl
 | e::l,p,h,ho,hp=>by
  have h2:=κX.1 h
  have ih:=φBv l (some e.1) h2.2 (fun x hx=>ho x (mC _ hx)) (fun q hq x hx=>by
   have hq:e.1=q:=by simpa using hq
   rw[←hq];exact h2.1 x hx)
  unfold φ2O
  rw[ho e κ0,ih]
  cases p with
  | none=>rfl
  | some q=>simp[hp q rfl e κ0]
theorem φFY {l:List φB} (h:srt l) (ho:∀e∈l,φ2k e=true) (hl:l.length≤20):φ1m l=true:=by
 unfold φ1m
 rw[φBv l none h ho (fun q hq=>by simp at hq)]
 simpa using hl
noncomputable def φ1O (d:φ1) (x:Int×Int×Int×Int):List UInt8×Int:=
 ((φ1F (φ2 d (φ0 x.1)).1 x.2.1 x.2.2.1).1.2.2.2.1,(φ1F (φ2 d (φ0 x.1)).1 x.2.1 x.2.2.1).1.2.1)
theorem φ3A {s:φ8} {d:φ1} (h:φh s d=true):φY s d=(mapG (φ1O d) s.2.1,0):=by
 rw[φKn h]
 congr 1
 unfold mapG
 refine List.map_congr_left fun e he=>?_
 obtain ⟨q1,q2,q3,q4,q5,q6⟩:=φr.1 h
 have k:=φ32.1 (q6 e he)
 unfold φ1C at k
 unfold getP
 rw[φGF (φ5Y q3) he]
 simp only[κ8,if_false]
 rw[if_pos ⟨k.1,k.2.1,k.2.2.1⟩]
 rfl
theorem φF5 {s:φ8} {d d':φ1} {m:Int} (h:φh s d=true) (hk:φ2v m d d') (hm:∀e∈s.2.1,e.2.1<m):mapG (φ1O d') s.2.1=mapG (φ1O d) s.2.1:=by
 unfold mapG
 refine List.map_congr_left fun e he=>?_
 obtain ⟨q1,q2,q3,q4,q5,q6⟩:=φr.1 h
 have k:=φ32.1 (q6 e he)
 have:=hk e (φAI q3 he).1 (hm e he) k.1
 unfold φ1C at this
 unfold φ1O
 rw[this]
theorem φLg {b:Int} {p:PutT} (hb:1≤b∧b≤1000000) (hp:φ2h p=true):φZ (φ1K b p)=true:=by
 unfold φ2h at hp
 simp only[bA,decide_eq_true_eq,κV,κM,beq_iff_eq] at hp
 obtain ⟨h1,h2,h3⟩:=hp
 have hb0:(b==0)=false:=by
  have:¬b=0:=by omega
  simpa using this
 unfold φ1K
 split
 ·rename_i c
  unfold φZ
  simp[h1,hb0];omega
 ·unfold φZ
  simp[h1,h2,hb0];omega
theorem φKW {b c z:Int} (hb:1≤b∧b≤1000000) (hc:0≤c∧c≤8) (hz:0≤z∧z≤4294967295):φZ (3,b,[],[],c,z)=true:=by
 have hb0:(b==0)=false:=by
  have:¬b=0:=by omega
  simpa using this
 unfold φZ
 simp[hb0];omega
theorem φ8F {b:Int} {l:List PutT} (hb:1≤b∧b≤1000000) (hl:φ2U l=true):∀r∈φ1z b l,φZ r=true:=fun r hr=>by
 unfold φ2U at hl
 simp only[bA,decide_eq_true_eq,κU] at hl
 unfold φ1z at hr
 rcases mA.1 hr with hr | hr
 ·obtain ⟨p,hp,rfl⟩:=mM.1 hr
  exact φLg hb (hl.2 p hp)
 ·rw[mZ.1 hr]
  exact φKW hb (by have:=hl.1;omega) (φ4n _)
theorem φCa {b:Int}:∀(l:List PutT) (es:List φB) (x:List RecT) (P:RecT→φB→Prop),(∀p∈(l.map (φ1K b)++x).zip es,P p.1 p.2)→∀p∈l.zip es,P (φ1K b p.1) p.2
 | [],es,x,P,_=>fun p hp=>by simp at hp
 | a::l,[],x,P,_=>fun p hp=>by simp at hp
 | a::l,e::es,x,P,h=>fun p hp=>by
  simp only[κ5,κF,List.zip_cons_cons] at h
  rcases mc.1 hp with rfl | hp
  ·exact h _ κ0
  ·exact φCa l es x P (fun q hq=>h q (mC _ hq)) p hp
theorem φE5 {s:φ8} {d:φ1} {l:List PutT} (h:φh s d=true) (hl:φ41 s) (hp:φ2U l=true) (hb:s.2.2.1≤1000000) (hk:φ3X s.2.1 l≤20) (hc:(φ1t s d l).2.2=0) :
  φh (φ1t s d l).1 (φ1t s d l).2.1=true∧φ41 (φ1t s d l).1∧(φY (φ1t s d l).1 (φ1t s d l).2.1).1=φ9q (φY s d).1 l s.2.2.1∧(φ1t s d l).1.2.2.1=s.2.2.1+1∧(φ1t s d l).1.2.1.length=φ3X s.2.1 l:=by
 obtain ⟨q1,q2,q3,q4,q5,q6⟩:=φr.1 h
 have hents:∀e∈s.2.1,φ1u d (s.2.2.1+1) e=true:=φ6X (m:=s.1.1) h (fun e _ _ _=>rfl) hl (by omega)
 have h0:φh (s.1,s.2.1,s.2.2.1+1,s.2.2.2) d=true:=φr.2 ⟨q1,q2,q3,by show 1≤s.2.2.1+1∧s.2.2.1+1≤1000001;omega,q5,hents⟩
 have hl0:φ41 (s.1,s.2.1,s.2.2.1+1,s.2.2.2):=hl
 have hG:=φEF (φ1z s.2.2.1 l) _ d h0 hl0 (φ8F ⟨q4.1,hb⟩ hp)
 have hnum:=φBB s.2.2.1 l
 unfold φ1t at hc ⊢
 generalize φe (φ1z s.2.2.1 l) (s.1,s.2.1,s.2.2.1+1,s.2.2.2) d=g at *
 obtain ⟨S,D,gc,es⟩:=g
 simp only at hc hG ⊢
 by_cases c:gc=0
 rotate_left
 ·rw[if_pos c] at hc;exact absurd hc c
 rw[if_neg (by simpa using c)] at hc ⊢
 obtain ⟨g1,g2,g3⟩:=hG c
 have hdir:S.2.1=s.2.1:=g1.dir
 have hbat:S.2.2.1=s.2.2.1+1:=g1.bat
 obtain ⟨p1,p2,p3,p4,p5,p6⟩:=φr.1 g1.ok
 by_cases c2:(φI (actN S) D).2=0
 rotate_left
 ·rw[if_pos c2] at hc;exact absurd ((φ1R _).1 hc) c2
 rw[if_neg (by simpa using c2)]
 simp only
 have ft:∀n,φ2 (φI (actN S) D).1 n=φ2 D n:=fun n=>φ2a p1 _ n
 have hea:∀e,φ1C (φI (actN S) D).1 e=φ1C D e:=fun e=>by unfold φ1C;rw[ft]
 have hva:∀x,φ1O (φI (actN S) D).1 x=φ1O D x:=fun x=>by unfold φ1O;rw[ft]
 have hes:∀p∈l.zip es,NewOk D S.1.1 (φ1K s.2.2.1 p.1) p.2:=φCa l es _ (fun r e=>NewOk D S.1.1 r e) (by
  intro p hp;exact g3 p hp)
 have hlen:l.length≤es.length:=by omega
 have hz:(l.zip es).map (·.1)=l:=List.map_fst_zip hlen
 have hkey:∀p∈l.zip es,p.2.1=p.1.1:=fun p hp=>by
  rw[(hes p hp).key];unfold φ1K;split<;>rfl
 have hkl:(dirW s.2.1 (l.zip es)).length=φ3X s.2.1 l:=by
  rw[φNE s.2.1 _ hkey,hz];rfl
 rw[hdir] at *
 have hput:∀p∈l.zip es,φ2h p.1=true:=fun p hpm=>by
  unfold φ2U at hp
  simp only[bA,decide_eq_true_eq,κU] at hp
  exact hp.2 _ (List.of_mem_zip hpm).1
 have hnew:∀p∈l.zip es,p.1.2.1=false→φ1K s.2.2.1 p.1=(1,s.2.2.1,p.1.1,p.1.2.2,0,0):=fun p hpm hd=>by
  unfold φ1K;rw[if_neg (by rw[hd];simp)]
 have hold:=φ6X (b':=s.2.2.1+1) h g1.kp hl (by omega)
 have hlt:∀e∈dirW s.2.1 (l.zip es),e.2.1<S.1.1:=fun e he=>by
  rcases φ9A _ _ _ he with he | ⟨p,hpm,rfl,_⟩
  ·have:=hl e he;have:=g1.nxt;have:s.1.1≤S.1.1:=this;omega
  ·exact (hes p hpm).seg.2.1
 have hdirok:φ1m (dirW s.2.1 (l.zip es))=true:=by
  refine φFY (φDw _ (φ5Y q3)) (fun e he=>?_) (by rw[hkl];exact hk)
  rcases φ9A _ _ _ he with he | ⟨p,hpm,rfl,hd⟩
  ·exact (φ43 q3).2 e he
  ·have n:=hes p hpm
   have ho:=hput p hpm
   unfold φ2h at ho
   simp only[bA] at ho
   unfold φ2k
   rw[hkey p hpm,ho.1,n.bat,hnew p hpm hd]
   have h1:=n.seg
   have h2:=n.off
   have h3:=n.len
   simp only[tA,bA,decide_eq_true_eq]
   exact ⟨⟨h1.1,h1.2.2⟩,h2,h3,q4.1,hb⟩
 have hent:∀e∈dirW s.2.1 (l.zip es),φ1u (φI (actN S) D).1 S.2.2.1 e=true:=fun e he=>by
  rw[φ32,hea,hbat,←φ32]
  rcases φ9A _ _ _ he with he | ⟨p,hpm,rfl,hd⟩
  ·exact hold e he
  ·have n:=hes p hpm
   rw[φ32,n.at_,n.bat,hkey p hpm,hnew p hpm hd]
   refine ⟨rfl,.inl rfl,rfl,rfl,?_⟩
   show s.2.2.1<s.2.2.1+1
   omega
 have hfin:φh (S.1,dirW s.2.1 (l.zip es),S.2.2) (φI (actN S) D).1=true:=φr.2 ⟨φ3J p1 _,p2,hdirok,p4,by
  refine (φ20 _).2 ?_
  simp only[ft]
  exact (φ20 _).1 p5,hent⟩
 refine ⟨hfin,hlt,?_,hbat,hkl⟩
 rw[φ3A hfin,φ3A h]
 show mapG (φ1O (φI (actN S) D).1) (dirW s.2.1 (l.zip es))=φ9q (mapG (φ1O d) s.2.1) l s.2.2.1
 rw[show mapG (φ1O (φI (actN S) D).1) (dirW s.2.1 (l.zip es))=mapG (φ1O D) (dirW s.2.1 (l.zip es)) by unfold mapG;simp only[hva]]
 rw[φ8z (φ1O D) (fun p=>(p.2.2,s.2.2.1)) _ _ (fun p hpm=>⟨hkey p hpm,fun hd=>by
  have n:=(hes p hpm).at_
  unfold φ1C at n
  unfold φ1O
  rw[n,hnew p hpm hd]⟩),hz,φF5 h g1.kp hl]
 rfl
theorem φBd:∀(k n:Nat),n<k→(Lib.decDigits n).all φ45=true
 | 0,n,h=>by omega
 | k+1,n,h=>by
  have hb:∀m,m<10→φ45 (UInt8.ofNat (48+m))=true:=fun m hm=>by
   unfold φ45
   have:(UInt8.ofNat (48+m)).toNat=48+m:=by simp only[UInt8.toNat_ofNat'];omega
   rw[this]
   simp;omega
  by_cases c:n<10
  ·rw[Lib.decDigits_one c,List.all_cons,hb n c];rfl
  ·have:=φ44 (n:=n) (by omega)
   unfold digs at this
   rw[if_neg (by omega),if_neg (by omega)] at this
   rw[this,List.all_append,φBd k (n / 10) (by omega),List.all_cons,hb (n % 10) (by omega)];rfl
theorem φ7T {id:Int} (h:1≤id∧id≤100000):φ1s (φ0 id)=true:=by
 have hl:=φ40 id
 unfold φ1s
 have e:φ0 id=[115,101,103]++Lib.decDigits id.toNat:=by unfold φ0 φ23;rw[if_pos h]
 rw[bA]
 constructor
 ·rw[e,List.all_append,φBd (id.toNat+1) id.toNat (by omega)];decide
 ·have:3≤(φ0 id).length:=by rw[e,lA];simp
  simp only[decide_eq_true_eq];omega
theorem φ6Z {d:φ1} {n:List UInt8} (h:(φ2 d n).2=true):∃i:Nat,∃hi:i<d.1.length,d.1.findIdx? (fun f=>f.1==n)=some i∧d.1[i].1=n∧φ1e d.1 n=(i:Int):=by
 rcases φz d.1 n with ⟨e,_⟩ | ⟨i,hi,e,hn⟩
 ·unfold φ2 at h
  split at h
  ·simp at h
  ·rw[φ1B e] at h;simp at h
 ·exact ⟨i,hi,φ18 e,hn,e⟩
theorem φKH {d:φ1} {n:List UInt8} (hk:φ3 d=true) (h:(φ2 d n).2=false):φ1e d.1 n=-1:=by
 rcases φz d.1 n with ⟨e,_⟩ | ⟨i,hi,e,hn⟩
 ·exact e
 ·unfold φ2 at h
  rw[if_neg (by rw[hk];simp),φ18 e] at h;simp at h
noncomputable def φ2T (s:φ8) (d:φ1) (l:List PutT):φ8×φ1×Int:=
 if φh s d=false∨φ2U l=false then (s,d,4) else if l.length=0 then (s,d,0) else
 if 20<φ3X s.2.1 l∨s.2.2.1 > 1000000 then (s,d,5) else φ1t s d l
structure SmallS (s:φ8) (d:φ1):Prop where
 sm:dl 200000 d
 ids:s.1.2.length≤1000
 dir:s.2.1.length≤1000
theorem SmallS.lim {s:φ8} {d:φ1} (h:SmallS s d):dlim d∧φJ d.1<1000000000:=⟨φ1L h.sm (by omega),by have:=h.sm.2.1;omega⟩
theorem φHk {s:φ8} {d:φ1} (h:SmallS s d) (l:List PutT) (hl:l.length≤1000):ψ2.f s d l=some (φ2T s d l):=by
 obtain ⟨hd,hu⟩:=h.lim
 have h1:=h.ids
 have h2:=h.dir
 have h3:=h.sm.1
 unfold ψ2.f φ2T
 simp only[φCz s d hd hu (show s.1.2.length<1000000000 by omega) (show s.2.1.length<1000000000 by omega),bS,φ9n s (show s.1.2.length<1000000000 by omega) (show s.2.1.length<1000000000 by omega),φ5Q d (show d.1.length<1000000000000 by omega),φKE l (show l.length<2 ^ 62 by omega),φMs s.2.1 l (show s.2.1.length<100000000 by omega) (show l.length<100000000 by omega)]
 cases hk:φh s d with
 | false=>simp
 | true=>
  obtain ⟨q1,q2,q3,q4,q5⟩:=φ5H hk
  have hg:=φDI hk
  cases hp:φ2U l with
  | false=>simp
  | true=>
   have hl8:l.length≤8:=by
    unfold φ2U at hp
    simp only[bA,decide_eq_true_eq] at hp
    exact hp.1
   simp only[nZ,cF,κ8,or_self,if_false]
   by_cases e1:l.length=0
   ·have d1:((l.length:Int)==0)=true:=by rw[e1];rfl
    simp only[d1,cT]
    rw[if_pos e1]
   have d1:((l.length:Int)==0)=false:=by
    have:¬(l.length:Int)=0:=by omega
    simpa using this
   simp only[d1,cF]
   rw[if_neg e1]
   by_cases e2:(φ3X s.2.1 l:Int) > 20
   ·simp only[e2,dT,cT]
    rw[if_pos (by omega)]
   simp only[e2,dF,cF]
   by_cases e3:s.2.2.1 > 1000000
   ·simp only[e3,dT,cT,or_true,if_true]
   have e4:¬(20<φ3X s.2.1 l∨s.2.2.1 > 1000000):=by omega
   rw[if_neg e4]
   simp only[e3,dF,cF,φHY hg (by omega) l hl8 (by omega) (by omega),bS]
theorem φIg {s:φ8} {d:φ1} (h:φh s d=true):SmallS s d:=by
 obtain ⟨q1,q2,q3,q4,q5⟩:=φ5H h
 have:=((φ15 s.1).1 q2).2.2.2
 exact ⟨φ3H (φ10 q1) (by omega),by omega,by have:=(φ43 q3).1;omega⟩
theorem φIK {α β:Type} (g:α→β) {l:List (List UInt8×α)} (h:srt l):srt (mapG g l):=by
 unfold srt mapG
 rw[List.pairwise_map]
 exact h
def φ5W (b:UInt8):Bool:=decide (48≤b.toNat) && decide (b.toNat≤57)
def φ9Z (a:Nat×Nat) (b:UInt8):Nat×Nat:=if φ5W b=true then (a.1 * 10+(b.toNat - 48),a.2+1) else a
theorem φBi:∀(k n:Nat),n<k→∀(a:Nat×Nat),(Lib.decDigits n).foldl φ9Z a=(a.1 * 10 ^ (Lib.decDigits n).length+n,a.2+(Lib.decDigits n).length)
 | 0,n,h,a=>by omega
 | k+1,n,h,a=>by
  have hd:∀m,m<10→∀a:Nat×Nat,φ9Z a (UInt8.ofNat (48+m))=(a.1 * 10+m,a.2+1):=fun m hm a=>by
   have e:(UInt8.ofNat (48+m)).toNat=48+m:=by simp only[UInt8.toNat_ofNat'];omega
   unfold φ9Z φ5W
   rw[e,if_pos (by simp;omega)]
   simp
  by_cases c:n<10
  ·rw[Lib.decDigits_one c]
   simp only[κN,List.foldl_nil,lC,lN]
   rw[hd n c]
  ·have:=φ44 (n:=n) (by omega)
   unfold digs at this
   rw[if_neg (by omega),if_neg (by omega)] at this
   rw[this,κW,φBi k (n / 10) (by omega),κN,List.foldl_nil,hd _ (by omega)]
   simp only[lA,lC,lN,κT,Prod.mk.injEq]
   constructor
   ·rw[κY,←Nat.mul_assoc,Nat.add_mul];omega
   ·omega
theorem φFi {i j:Int} (hi:1≤i∧i≤100000) (hj:1≤j∧j≤100000) (h:φK i=φK j):i=j:=by
 unfold φK φ23 at h
 rw[if_pos hi,if_pos hj] at h
 have:=φ9d (i.toNat+1) i.toNat j.toNat (by omega) (List.append_cancel_left h)
 omega
def φ3M (name:List UInt8) (id:Int):Prop:=(1≤id∧id≤100000)∧(name=φ0 id∨name=φK id)
theorem φFv {name:List UInt8} {i j:Int} (hi:φ3M name i) (hj:φ3M name j):i=j:=by
 obtain ⟨h1,h2⟩:=hi
 obtain ⟨k1,k2⟩:=hj
 rcases h2 with h2 | h2<;>rcases k2 with k2 | k2
 ·exact φ3r h1 k1 (h2.symm.trans k2)
 ·exact absurd (h2.symm.trans k2) (φ3y i j h1)
 ·exact absurd (k2.symm.trans h2) (φ3y j i k1)
 ·exact φFi h1 k1 (h2.symm.trans k2)
noncomputable def idOf (name:List UInt8):Int×Bool:=@dite (Int×Bool) (∃id,φ3M name id) (Classical.propDecidable _) (fun h=>(h.choose,true)) (fun _=>(0,false))
theorem φEU {name:List UInt8} {id:Int} (h:φ3M name id):idOf name=(id,true):=by
 have hx:∃id,φ3M name id:=⟨id,h⟩
 unfold idOf
 rw[dif_pos hx,φFv hx.choose_spec h]
theorem φ9g {name:List UInt8} (h:¬∃id,φ3M name id):idOf name=(0,false):=by
 unfold idOf;rw[dif_neg h]
theorem φIN {name:List UInt8} {id:Int} (h:idOf name=(id,true)):φ3M name id:=by
 by_cases hx:∃id,φ3M name id
 ·obtain ⟨j,hj⟩:=hx
  rw[φEU hj] at h
  simp only[Prod.mk.injEq,and_true] at h
  rw[←h];exact hj
 ·rw[φ9g hx] at h;simp at h
noncomputable def φ4O (v:φP) (f:φ6):Bool:=((idOf f.1).2 && !(v.2.any fun i=>i==(idOf f.1).1)) || f.1==φ2J
noncomputable def φ35 (d:φ1) (v:φP):List (List UInt8):=if φ3 d=false then [] else (d.1.filter (φ4O v)).map (·.1)
theorem φLC {a:Nat} (h:a<1000000000001):(a+1) * 16≤140737488355328:=by omega
theorem φ47 {op:φ1→φ1×Int} {w:φD} (h:(φA op w).2=0):w.2=0∧(op w.1).2=0∧φA op w=op w.1:=by
 unfold φA at h ⊢
 split at h
 ·rename_i c;rw[if_pos c];exact ⟨c,h,rfl⟩
 ·rename_i c;exact absurd h c
theorem φAa {d:φ1} {n:List UInt8} (h:(φC n d).2=0):(φ2 (φC n d).1 n).2=false:=by
 unfold φC at h ⊢
 rcases φz d.1 n with ⟨e,hno⟩ | ⟨i,hi,e,hn⟩
 ·rw[if_neg (by omega)]
  show (φ2 d n).2=false
  unfold φ2
  split
  ·rfl
  ·rw[φ1B e]
 ·rw[if_pos (by omega)] at h ⊢
  exact φKN h
theorem φJJ {d:φ1} (hk:φ3 d=true) {n m:List UInt8} (h:(φ2 d n).2=false):(φ2 (φC m d).1 n).2=false:=by
 by_cases c:n=m
 ·subst c
  unfold φC
  rw[if_neg (by rw[φKH hk h];omega)]
  exact h
 ·rw[φ58 hk c];exact h
theorem φ6m {w:φD} {n:List UInt8} (h:(sNew n w).2=0):w.2=0∧φ2 (sNew n w).1 n=([],true):=by
 unfold sNew at h ⊢
 obtain ⟨h1,h2,h3⟩:=φ47 (op:=φU n) h
 obtain ⟨k1,_,_⟩:=φ47 (op:=φC n) h1
 rw[h3]
 exact ⟨k1,φEi h2⟩
theorem φDv {n:List UInt8}:∀(recs:List RecT) {w:φD},(sApp n recs w).2=0→(φ2 w.1 n).2=true→w.2=0∧φ2 (sApp n recs w).1 n=((φ2 w.1 n).1++txt recs,true)
 | [],w,h,ht=>⟨h,by
  show φ2 w.1 n=_
  have:txt []=[]:=rfl
  rw[this,κ4,←ht]⟩
 | r::recs,w,h,ht=>by
  have h:(sApp n recs (φA (φO n (frame (φ7 r))) w)).2=0:=h
  have hz:(φA (φO n (frame (φ7 r))) w).2=0:=by
   by_cases c:(φA (φO n (frame (φ7 r))) w).2=0
   ·exact c
   ·generalize φA (φO n (frame (φ7 r))) w=v at h c
    obtain ⟨x,k⟩:=v
    rw[φ9x n recs c] at h
    exact h
  obtain ⟨h1,h2,h3⟩:=φ47 (op:=φO n _) hz
  obtain ⟨a1,a2⟩:=φ5k h2
  obtain ⟨b1,b2⟩:=φDv recs h (by rw[h3,a2])
  refine ⟨h1,?_⟩
  show φ2 (sApp n recs (φA (φO n (frame (φ7 r))) w)).1 n=_
  rw[b2,h3,a2,φ3Q,←aA];rfl
theorem φGH:∀(names:List (List UInt8)) {w:φD},φ3 w.1=true→(φj names w).2=0→w.2=0∧(∀n,(φ2 w.1 n).2=false→(φ2 (φj names w).1 n).2=false)∧∀n∈names,(φ2 (φj names w).1 n).2=false
 | [],w,_,h=>⟨h,fun n hn=>hn,fun n hn=>by simp at hn⟩
 | m::names,w,hk,h=>by
  have h:(φj names (φA (φC m) w)).2=0:=h
  have hk1:φ3 (φA (φC m) w).1=true:=φ1j (op:=φC m) hk fun k=>φ2D k m
  obtain ⟨a1,a2,a3⟩:=φGH names hk1 h
  obtain ⟨h1,h2,h3⟩:=φ47 (op:=φC m) a1
  have hab:∀n,(φ2 w.1 n).2=false→(φ2 (φA (φC m) w).1 n).2=false:=fun n hn=>by
   rw[h3];exact φJJ hk hn
  refine ⟨h1,fun n hn=>a2 n (hab n hn),fun n hn=>?_⟩
  rcases mc.1 hn with rfl | hn
  ·refine a2 _ ?_
   rw[h3];exact φAa h2
  ·exact a3 n hn
theorem φDP:∀(ids:List Int) {w:φD},φ3 w.1=true→(sOld ids w).2=0→w.2=0∧(∀n,(φ2 w.1 n).2=false→(φ2 (sOld ids w).1 n).2=false)∧∀id∈ids,(φ2 (sOld ids w).1 (φ0 id)).2=false∧(φ2 (sOld ids w).1 (φK id)).2=false
 | [],w,_,h=>⟨h,fun n hn=>hn,fun n hn=>by simp at hn⟩
 | i::ids,w,hk,h=>by
  have h:(sOld ids (φj [φ0 i,φK i] w)).2=0:=h
  have hk1:φ3 (φj [φ0 i,φK i] w).1=true:=φ4V _ hk
  obtain ⟨a1,a2,a3⟩:=φDP ids hk1 h
  obtain ⟨h1,h2,h3⟩:=φGH [φ0 i,φK i] hk a1
  refine ⟨h1,fun n hn=>a2 n (h2 n hn),fun id hid=>?_⟩
  rcases mc.1 hid with rfl | hid
  ·exact ⟨a2 _ (h3 _ (by simp)),a2 _ (h3 _ (by simp))⟩
  ·exact a3 id hid
structure Merged (s:φ8) (d:φ1) (l:List φ12) (S:φ8) (y:φ1):Prop where
 st:S=((s.1.1+2,[s.1.1,s.1.1+1]),φv s.1.1 0 (φW l (s.2.2.1 - 1)),s.2.2.1,0,0)
 dk:φ3 y=true
 one:φ2 y (φ0 s.1.1)=(txt (φW l (s.2.2.1 - 1)),true)
 two:φ2 y (φ0 (s.1.1+1))=([],true)
 old:∀id∈s.1.2,(φ2 y (φ0 id)).2=false∧(φ2 y (φK id)).2=false
 oth:∀n,n≠φ0 s.1.1→n≠φ0 (s.1.1+1)→n≠φK s.1.1→n≠φ2J→n≠φi→(∀id∈s.1.2,n≠φ0 id∧n≠φK id)→φ2 y n=φ2 d n
theorem φDZ {s:φ8} {d:φ1} (l:List φ12) (h:φ3 d=true) (hv:φk s.1=true) (h2:s.1.1+2≤100000) (hc:(φ1A s d l).2.2=0):Merged s d l (φ1A s d l).1 (φ1A s d l).2.1:=by
 obtain ⟨k1,k2,k3,k4⟩:=(φ15 s.1).1 hv
 rw[φG (by omega) (by omega)] at k1
 have hids:=φ3e _ _ k1
 have g0:=φ3t (w:=(d,0)) h (φ0 s.1.1)
 have g0a:=φ6O (φ0 s.1.1) (φW l (s.2.2.1 - 1)) g0
 have g1:=φ6L s.1.1 (φW l (s.2.2.1 - 1)) (w:=(d,0)) h
 have g2:=φ3t g1 (φ0 (s.1.1+1))
 have f1:∀n,n≠φ0 s.1.1→n≠φ0 (s.1.1+1)→φ2 (sNew (φ0 (s.1.1+1)) (sWM s.1.1 (φW l (s.2.2.1 - 1)) (d,0))).1 n=φ2 d n:=fun n q1 q2=>by
  rw[φ5m g1 q2]
  unfold sWM
  rw[φ2f (op:=φI _) (φ2a g0a _ n),φ9z q1 _ g0,φ5m (w:=(d,0)) h q1]
 have hne:φ0 s.1.1≠φ0 (s.1.1+1):=fun hh=>by have:=φ3r (by omega) (by omega) hh;omega
 have t1:(sNew (φ0 (s.1.1+1)) (sWM s.1.1 (φW l (s.2.2.1 - 1)) (d,0))).2=0→φ2 (sNew (φ0 (s.1.1+1)) (sWM s.1.1 (φW l (s.2.2.1 - 1)) (d,0))).1 (φ0 s.1.1)=(txt (φW l (s.2.2.1 - 1)),true) ∧
   φ2 (sNew (φ0 (s.1.1+1)) (sWM s.1.1 (φW l (s.2.2.1 - 1)) (d,0))).1 (φ0 (s.1.1+1))=([],true):=fun e=>by
  obtain ⟨n1,n2⟩:=φ6m e
  refine ⟨?_,n2⟩
  rw[φ5m g1 hne]
  unfold sWM at n1 ⊢
  obtain ⟨s1,s2,s3⟩:=φ47 (op:=φI _) n1
  rw[φ2f (op:=φI _) (φ2a g0a _ _)]
  have hz:(sNew (φ0 s.1.1) (d,0)).2=0:=by
   by_cases c:(sNew (φ0 s.1.1) (d,0)).2=0
   ·exact c
   ·generalize sNew (φ0 s.1.1) (d,0)=v at s1 c
    obtain ⟨x,k⟩:=v
    rw[φ9x _ _ c] at s1
    exact s1
  obtain ⟨m1,m2⟩:=φ6m hz
  obtain ⟨a1,a2⟩:=φDv (φW l (s.2.2.1 - 1)) s1 (by rw[m2])
  rw[a2,m2];rfl
 unfold φ1A at hc ⊢
 simp only at hc ⊢
 generalize sNew (φ0 (s.1.1+1)) (sWM s.1.1 (φW l (s.2.2.1 - 1)) (d,0))=w1 at *
 have g3:φ3 (φq s.1.1 w1).1=true:=by
  unfold φq;split
  ·exact g2
  ·exact φ6P _ g2
 have z2:(φq s.1.1 w1).2=0→w1.2=0:=fun e=>by
  unfold φq at e
  split at e
  ·exact e
  ·rename_i c;simpa using c
 have f2:∀n,n≠φK s.1.1→φ2 (φq s.1.1 w1).1 n=φ2 w1.1 n:=fun n q=>by
  unfold φq
  split
  ·rfl
  ·unfold φ1p
   simp only
   have hf:=φ4Q (w:=(w1.1,0)) g2 (φK s.1.1) (φ1c (φ16 s.1.1 (φ2 w1.1 (φ0 s.1.1)).1).1)
   split
   ·rw[φ58 hf q,φ4g (w:=(w1.1,0)) g2 q]
   ·rw[φ4g (w:=(w1.1,0)) g2 q]
 generalize φq s.1.1 w1=w2 at *
 have g5:φ3 (if w2.2=0 then φ9 (sPut (s.1.1+2,[s.1.1,s.1.1+1]) w2) else φ9 w2).1=true:=by
  split
  ·exact φ3z g3 _
  ·exact g3
 have z3:(if w2.2=0 then φ9 (sPut (s.1.1+2,[s.1.1,s.1.1+1]) w2) else φ9 w2).2=0→w2.2=0:=fun e=>by
  by_cases c:w2.2=0
  ·exact c
  ·rw[if_neg c] at e;exact (φ1R _).1 e
 have f3:∀n,n≠φ2J→n≠φi→φ2 (if w2.2=0 then φ9 (sPut (s.1.1+2,[s.1.1,s.1.1+1]) w2) else φ9 w2).1 n=φ2 w2.1 n:=fun n q1 q2=>by
  split
  ·exact φ7O g3 _ q1 q2
  ·rfl
 generalize (if w2.2=0 then φ9 (sPut (s.1.1+2,[s.1.1,s.1.1+1]) w2) else φ9 w2)=w3 at *
 by_cases c:w3.2=0
 rotate_left
 ·rw[if_pos c] at hc
  exfalso
  revert hc
  unfold φ1f
  split
  ·split
   ·simp
   ·rename_i c4;exact c4
  ·exact c
 rw[if_neg (by simpa using c)] at hc ⊢
 have hc:(sOld s.1.2 (w3.1,0)).2=0:=(φ1R _).1 hc
 obtain ⟨o1,o2,o3⟩:=φDP s.1.2 (w:=(w3.1,0)) g5 hc
 obtain ⟨u1,u2⟩:=t1 (z2 (z3 c))
 have hseg:∀id,1≤id∧id≤100000→s.1.1≤id→∀i∈s.1.2,φ0 id≠φ0 i∧φ0 id≠φK i:=fun id q1 q2 i hi=>⟨fun hh=>by
  have:=hids i hi
  have:=φ3r q1 (by omega) hh;omega,φ3y id _ q1⟩
 refine ⟨rfl,φHU s.1.2 (w:=(w3.1,0)) g5,?_,?_,o3,fun n q1 q2 q3 q4 q5 q6=>?_⟩
 ·show φ2 (sOld s.1.2 (w3.1,0)).1 _=_
  rw[φ5y s.1.2 (w:=(w3.1,0)) g5 (hseg _ (by omega) (by omega)),f3 _ (φ49 _) (φ2Q _),f2 _ (φ3y _ _ (by omega)),u1]
 ·show φ2 (sOld s.1.2 (w3.1,0)).1 _=_
  rw[φ5y s.1.2 (w:=(w3.1,0)) g5 (hseg _ (by omega) (by omega)),f3 _ (φ49 _) (φ2Q _),f2 _ (φ3y _ _ (by omega)),u2]
 ·show φ2 (sOld s.1.2 (w3.1,0)).1 _=_
  rw[φ5y s.1.2 (w:=(w3.1,0)) g5 q6,f3 _ q4 q5,f2 _ q3,f1 _ q1 q2]
theorem φKa (A B:List UInt8) {r:RecT} (h:φZ r=true):φ1F (A++(fr r++B)) (A.length:Int) ((fr r).length:Int)=(r,true):=by
 have k:=φCc A h
 rw[←aA,φDT _ (by rw[k]),k]
theorem φCu (m:Int) (g:Int×Int×Int×Int→List UInt8×Int):∀(recs:List RecT) (pre post:List UInt8),(∀r∈recs,φZ r=true∧r.1=4) →
  (∀a n b,g (m,a,n,b)=((φ1F (pre++(txt recs++post)) a n).1.2.2.2.1,(φ1F (pre++(txt recs++post)) a n).1.2.1)) →
  mapG g (φv m (pre.length:Int) recs)=recs.map (fun r=>(r.2.2.1,r.2.2.2.1,r.2.1)) ∧
  ∀e∈φv m (pre.length:Int) recs,∃r∈recs,e.1=r.2.2.1∧e.2.1=m∧0≤e.2.2.1∧1≤e.2.2.2.1∧e.2.2.2.1≤210∧e.2.2.2.2=r.2.1∧φ1F (pre++(txt recs++post)) e.2.2.1 e.2.2.2.1=(r,true)
 | [],pre,post,_,_=>⟨rfl,fun e he=>by simp[φv] at he⟩
 | r::recs,pre,post,h,hg=>by
  obtain ⟨hr,h4⟩:=h r κ0
  have hfr:=φ6T r
  have hT:pre++(txt (r::recs)++post)=(pre++fr r)++(txt recs++post):=by rw[φ3Q];simp only[aA]
  have hat:φ1F (pre++(txt (r::recs)++post)) (pre.length:Int) ((fr r).length:Int)=(r,true):=by
   rw[show pre++(txt (r::recs)++post)=pre++(fr r++(txt recs++post)) by rw[φ3Q,aA]]
   exact φKa _ _ hr
  obtain ⟨i1,i2⟩:=φCu m g recs (pre++fr r) post (fun x hx=>h x (mC _ hx)) (fun a n b=>by rw[hg,hT])
  have hl:((pre++fr r).length:Int)=(pre.length:Int)+((frame (φ7 r)).length:Int):=by rw[lA];simp only[fr];omega
  rw[hl] at i1 i2
  have hent:φv m (pre.length:Int) (r::recs)=(r.2.2.1,m,(pre.length:Int),((frame (φ7 r)).length:Int),r.2.1)::φv m ((pre.length:Int)+((frame (φ7 r)).length:Int)) recs:=by
   rw[φv,if_pos h4]
  rw[hent]
  constructor
  ·show (r.2.2.1,g (m,(pre.length:Int),((fr r).length:Int),r.2.1))::mapG g (φv m _ recs)=_
   rw[i1,hg,hat];rfl
  ·intro e he
   rcases mc.1 he with rfl | he
   ·exact ⟨r,κ0,rfl,rfl,by show 0≤(pre.length:Int);omega,by show 1≤((fr r).length:Int);omega,by show ((fr r).length:Int)≤210;omega,rfl,hat⟩
   ·obtain ⟨q,hq,z⟩:=i2 e he
    rw[←hT] at z
    exact ⟨q,mC _ hq,z⟩
theorem φHE {s:List UInt8} {a n:Int} (h:(φ1F s a n).2=true):φZ (φ1F s a n).1=true:=by
 unfold φ1F at h ⊢
 split at h
 ·rename_i c1
  rw[if_pos c1]
  split at h
  ·rename_i c2
   rw[if_pos c2]
   rcases φ6l (φN ((s.take (a+n).toNat).drop a.toNat)).1 with ⟨e,_⟩ | ⟨r,e,hr⟩
   ·rw[e] at h;simp at h
   ·rw[e];exact hr.1
  ·simp at h
 ·simp at h
theorem φGL {s:φ8} {d:φ1} (h:φh s d=true):∀r∈(φY s d).1.map φR,φZ r=true∧r.1=4:=fun r hr=>by
 obtain ⟨p,hp,rfl⟩:=mM.1 hr
 rw[φ3A h] at hp
 obtain ⟨e,he,rfl⟩:=mM.1 hp
 obtain ⟨q1,q2,q3,q4,q5,q6⟩:=φr.1 h
 have k:=φ32.1 (q6 e he)
 have ho:=φHE (s:=(φ2 d (φ0 e.2.1)).1) (a:=e.2.2.1) (n:=e.2.2.2.1) k.1
 have hkey:=(φ43 q3).2 e he
 unfold φ2k at hkey
 simp only[bA,decide_eq_true_eq] at hkey
 refine ⟨?_,rfl⟩
 have hb:(φ1C d e).1.2.1=e.2.2.2.2:=k.2.2.2.1
 have hbb:=hkey.2.2.2.2
 unfold φ1C at k hb
 obtain ⟨R,hR⟩:∃R,φ1F (φ2 d (φ0 e.2.1)).1 e.2.2.1 e.2.2.2.1=R:=⟨_,rfl⟩
 rw[hR] at k hb ho
 have hvl:=(φAq ho).2.2.1 k.2.1
 show φZ (φR (e.1,φ1O d e.2))=true
 have hv:(φR (e.1,φ1O d e.2))=(4,(φ1O d e.2).2,e.1,(φ1O d e.2).1,0,0):=rfl
 rw[hv]
 have e2:φ1O d e.2=(R.1.2.2.2.1,R.1.2.1):=by
  unfold φ1O
  rw[hR]
 rw[e2]
 have hb0:(R.1.2.1==0)=false:=by
  have:¬R.1.2.1=0:=by omega
  simpa using this
 unfold φZ
 simp[hkey.1,hb0]
 omega
theorem φL3 {α β:Type} (g:α→β) {l:List (List UInt8×α)} (h:srt (mapG g l)):srt l:=by
 unfold srt mapG at *
 rw[List.pairwise_map] at h
 exact h
theorem φEs:∀rs:List RecT,(txt rs).length=φEI rs
 | []=>rfl
 | r::rs=>by
  rw[φ3Q,lA,φEs rs];rfl
theorem φKT {r:RecT} (h:φZ r=true) (h4:r.1=4):φ1Q r.2.2.1=true∧1≤r.2.1∧r.2.1≤1000000:=by
 obtain ⟨k,b,ky,v,c,s⟩:=r
 have h4:k=4:=h4
 subst h4
 unfold φZ at h
 simp only[bA,decide_eq_true_eq] at h
 obtain ⟨⟨h1,h2⟩,h⟩:=h
 rw[if_pos (by simp)] at h
 simp only[bA] at h
 have hb:¬b=0:=fun e=>by subst e;simp at h2
 exact ⟨h.1,by show 1≤b;omega,by show b≤1000000;omega⟩
theorem φGA {b c z:Int} (hb:0≤b∧b≤1000000) (hc:0≤c∧c≤20) (hz:0≤z∧z≤4294967295):φZ (5,b,[],[],c,z)=true:=by
 unfold φZ
 simp;omega
theorem φG1 {s:φ8} {d:φ1} (h:φh s d=true):∀p∈(φY s d).1,p.2.2<s.2.2.1:=fun p hp=>by
 rw[φ3A h] at hp
 obtain ⟨e,he,rfl⟩:=mM.1 hp
 obtain ⟨q1,q2,q3,q4,q5,q6⟩:=φr.1 h
 have k:=φ32.1 (q6 e he)
 have hb:(φ1O d e.2).2=(φ1C d e).1.2.1:=rfl
 show (φ1O d e.2).2<s.2.2.1
 rw[hb,k.2.2.2.1];exact k.2.2.2.2
theorem φAX {s:φ8} {d:φ1} {S:φ8} {y:φ1} (h:φh s d=true) (h2:s.1.1+2≤100000) (hM:Merged s d (φY s d).1 S y) :
  φh S y=true∧φY S y=φY s d∧φ41 S∧segN y (S.1.2.take 60)=φEI (φW (φY s d).1 (s.2.2.1 - 1)):=by
 obtain ⟨q1,q2,q3,q4,q5,q6⟩:=φr.1 h
 obtain ⟨k1,k2,k3,k4⟩:=(φ15 s.1).1 q2
 have hkeep:=φGL h
 have hbat:=φG1 h
 have hsl:srt (φY s d).1:=by rw[φ3A h];exact φIK _ (φ5Y q3)
 have hd0:φY s d=((φY s d).1,0):=by rw[φ3A h]
 have hl20:(φY s d).1.length≤20:=by have:=φ7i s d;have:=(φ43 q3).1;omega
 obtain ⟨hst,hdk,hone,htwo,_,_⟩:=hM
 generalize (φY s d).1=l at *
 have hmk:φZ (5,s.2.2.1 - 1,[],[],(l.length:Int),φ1g (l.map φR))=true:=φGA (by omega) (by omega) (φ4n _)
 have hall:∀r∈φW l (s.2.2.1 - 1),φZ r=true:=fun r hr=>by
  unfold φW at hr
  rcases mA.1 hr with hr | hr
  ·exact (hkeep r hr).1
  ·rw[mZ.1 hr];exact hmk
 have hents:φv s.1.1 0 (φW l (s.2.2.1 - 1))=φv s.1.1 0 (l.map φR):=φ8v s.1.1 _ (show (5:Int)≠4 by decide) _ _
 have htx:txt (φW l (s.2.2.1 - 1))=[]++(txt (l.map φR)++fr (5,s.2.2.1 - 1,[],[],(l.length:Int),φ1g (l.map φR))):=by
  unfold φW;rw[φAr];rfl
 obtain ⟨e1,e2⟩:=φCu s.1.1 (φ1O y) (l.map φR) [] (fr (5,s.2.2.1 - 1,[],[],(l.length:Int),φ1g (l.map φR))) hkeep (fun a n b=>by
  unfold φ1O
  simp only
  rw[hone,htx])
 have e1:mapG (φ1O y) (φv s.1.1 0 (l.map φR))=l:=by
  have:(([]:List UInt8).length:Int)=0:=rfl
  rw[this] at e1
  rw[e1,List.map_map]
  exact List.map_id' l
 have e2:∀e∈φv s.1.1 0 (l.map φR),∃r∈l.map φR,e.1=r.2.2.1∧e.2.1=s.1.1∧0≤e.2.2.1∧1≤e.2.2.2.1∧e.2.2.2.1≤210∧e.2.2.2.2=r.2.1∧φ1C y e=(r,true):=fun e he=>by
  obtain ⟨r,hr,z1,z2,z3,z4,z5,z6,z7⟩:=e2 e he
  refine ⟨r,hr,z1,z2,z3,z4,z5,z6,?_⟩
  unfold φ1C
  rw[z2,hone,htx];exact z7
 subst hst
 rw[hents]
 have hdir:φ1m (φv s.1.1 0 (l.map φR))=true:=by
  refine φFY (φL3 (φ1O y) (by rw[e1];exact hsl)) (fun e he=>?_) ?_
  ·obtain ⟨r,hr,z1,z2,z3,z4,z5,z6,z7⟩:=e2 e he
   obtain ⟨w1,w2,w3⟩:=φKT (hkeep r hr).1 (hkeep r hr).2
   unfold φ2k
   rw[z1,w1,z2,z6]
   simp only[tA,bA,decide_eq_true_eq]
   exact ⟨⟨k2.1,k2.2⟩,z3,⟨z4,z5⟩,w2,w3⟩
  ·have:=congrArg List.length e1
   unfold mapG at this
   rw[lM] at this
   omega
 have hent:∀e∈φv s.1.1 0 (l.map φR),φ1u y s.2.2.1 e=true:=fun e he=>by
  obtain ⟨r,hr,z1,z2,z3,z4,z5,z6,z7⟩:=e2 e he
  obtain ⟨p,hp,rfl⟩:=mM.1 hr
  rw[φ32,z7,z6]
  exact ⟨rfl,.inr rfl,z1.symm,rfl,hbat p hp⟩
 have hok:φh ((s.1.1+2,[s.1.1,s.1.1+1]),φv s.1.1 0 (l.map φR),s.2.2.1,0,0) y=true:=φr.2 ⟨hdk,φA0 s.1.1 k2.1 h2,hdir,q4,by
  refine (φ20 _).2 ⟨fun id hid=>?_,fun _=>?_⟩
  ·simp only[mc,List.not_mem_nil,or_false] at hid
   rcases hid with rfl | rfl
   ·rw[hone];exact ⟨rfl,φEa hall⟩
   ·rw[htwo];exact ⟨rfl,φGE⟩
  ·show (0:Int)=((φ2 y (φ0 (s.1.1+1))).1.length:Int)
   rw[htwo];rfl,hent⟩
 refine ⟨hok,?_,fun e he=>?_,?_⟩
 ·rw[φ3A hok,hd0]
  show (mapG (φ1O y) (φv s.1.1 0 (l.map φR)),(0:Int))=_
  rw[e1]
 ·obtain ⟨r,hr,z1,z2,_⟩:=e2 e he
  show e.2.1<s.1.1+2
  omega
 ·show segN y [s.1.1,s.1.1+1]=_
  unfold segN
  simp only[sumN]
  rw[hone,htwo,φEs];simp
noncomputable def φ2s (s:φ8) (d:φ1):φ8×φ1×Int:=
 if φh s d=false then (s,d,4) else if s.1.1+2 > 100000 then (s,d,5) else φ1A s d (φY s d).1
theorem φMe {s:φ8} {d:φ1} (h:SmallS s d):ψb.f s d=some (φ2s s d)∧ψ2b.f s d=some (φ2s s d):=by
 obtain ⟨hd,hu⟩:=h.lim
 have h1:=h.ids
 have h2:=h.dir
 have h3:=h.sm.1
 unfold ψ2b.f ψb.f φ2s
 simp only[φCz s d hd hu (show s.1.2.length<1000000000 by omega) (show s.2.1.length<1000000000 by omega),φDq s d hd hu (show s.1.2.length<1000000000 by omega) (show s.2.1.length<1000000000 by omega),bS,φJ4 s (show s.1.2.length<1000000000 by omega) (show s.2.1.length<1000000000 by omega),φ9n s (show s.1.2.length<1000000000 by omega) (show s.2.1.length<1000000000 by omega),φ80 d (show d.1.length<1000000000000 by omega),φ5Q d (show d.1.length<1000000000000 by omega),
   φEv s d hd hu (show s.2.1.length<1000000000 by omega),φK9 s d hd hu (show s.2.1.length<1000000000 by omega)]
 cases hk:φh s d with
 | false=>simp
 | true=>
  obtain ⟨q1,q2,q3,q4,q5⟩:=φ5H hk
  have hd20:s.2.1.length≤20:=(φ43 q3).1
  have hdl:=φ7i s d
  have hlv:=(φ15 s.1).1 q2
  have hc0:(φY s d).2=0:=by rw[φ3A hk]
  simp only[nZ,cF,show w64 (s.1.1+2)=s.1.1+2 from φG (by omega) (by omega),κ8,if_false]
  by_cases e1:s.1.1+2 > 100000
  ·rw[if_pos e1]
   simp only[e1,dT,cT,and_self]
  ·rw[if_neg e1]
   simp only[e1,dF,cF,hc0,bne_self_eq_false,φIn s d _ q1 q2 (show s.1.1+2≤100000 by omega) q4 (show (φY s d).1.length<100000 by omega),φKb s d _ q1 q2 (show s.1.1+2≤100000 by omega) q4 (show (φY s d).1.length<100000 by omega),bS,and_self]
theorem φEc (d:UInt8):∀(l:List UInt8) (a u:Nat),Lib.parseUint10 a l=.ok u→(48≤d.toNat∧d.toNat≤57)→u<1000000000000→Lib.parseUint10 a (l++[d])=.ok (u * 10+(d.toNat - 48))
 | [],a,u,h,hd,hu=>by
  have h:a=u:=by simp only[Lib.parseUint10] at h;injection h
  subst h
  show Lib.parseUint10 a [d]=_
  rw[Lib.parseUint10,if_pos hd,if_neg (by omega),if_neg (by omega)]
  rfl
 | c::l,a,u,h,hd,hu=>by
  rw[κF,Lib.parseUint10]
  rw[Lib.parseUint10] at h
  split
  ·rename_i c1
   rw[if_pos c1] at h
   split
   ·rename_i c2;rw[if_pos c2] at h;cases h
   ·rename_i c2
    rw[if_neg c2] at h
    split
    ·rename_i c3;rw[if_pos c3] at h;cases h
    ·rename_i c3
     rw[if_neg c3] at h
     exact φEc d l _ u h hd hu
  ·rename_i c1
   rw[if_neg c1] at h;cases h
theorem φCH:∀(k n:Nat),n<k→n<1000000000000→Lib.parseUint10 0 (Lib.decDigits n)=.ok n
 | 0,n,h,_=>by omega
 | k+1,n,h,hn=>by
  have e:∀m,m<10→(UInt8.ofNat (48+m)).toNat=48+m:=fun m hm=>by simp only[UInt8.toNat_ofNat'];omega
  by_cases c:n<10
  ·rw[Lib.decDigits_one c,Lib.parseUint10,e n c,if_pos (by omega),if_neg (by omega),if_neg (by omega),Lib.parseUint10]
   congr 1;omega
  ·have:=φ44 (n:=n) (by omega)
   unfold digs at this
   rw[if_neg (by omega),if_neg (by omega)] at this
   rw[this,φEc _ _ 0 (n / 10) (φCH k (n / 10) (by omega) (by omega)) (by rw[e _ (by omega)];omega) (by omega),e _ (by omega)]
   congr 1;omega
theorem φND (n:Nat):Lib.decDigits n≠[]:=fun e=>by
 have h1:=φBi (n+1) n (by omega) (1,0)
 rw[e] at h1
 have h2:=φBi (n+1) n (by omega) (0,0)
 rw[e] at h2
 simp at h1 h2
 subst h2
 rw[Lib.decDigits_one (by omega)] at e
 simp at e
theorem φJk (n:Nat) {c:UInt8} {r:List UInt8} (h:Lib.decDigits n=c::r):φ5W c=true:=by
 have ha:=φBd (n+1) n (by omega)
 have key:∀(k n:Nat),n<k→∀b∈Lib.decDigits n,φ5W b=true:=by
  intro k
  induction k with
  | zero=>intro n h;omega
  | succ k ih=>
   intro n h b hb
   have e:∀m,m<10→φ5W (UInt8.ofNat (48+m))=true:=fun m hm=>by
    unfold φ5W
    have:(UInt8.ofNat (48+m)).toNat=48+m:=by simp only[UInt8.toNat_ofNat'];omega
    rw[this];simp;omega
   by_cases c:n<10
   ·rw[Lib.decDigits_one c] at hb
    rw[mZ.1 hb];exact e n c
   ·have:=φ44 (n:=n) (by omega)
    unfold digs at this
    rw[if_neg (by omega),if_neg (by omega)] at this
    rw[this] at hb
    rcases mA.1 hb with hb | hb
    ·exact ih (n / 10) (by omega) b hb
    ·rw[mZ.1 hb];exact e _ (by omega)
 exact key (n+1) n (by omega) c (by rw[h];exact κ0)
theorem φNF {n:Nat} (hn:n<1000000000000):Lib.atoiAll (Lib.decDigits n)=.ok (n:Int):=by
 have hp:=φCH (n+1) n (by omega) hn
 cases e:Lib.decDigits n with
 | nil=>exact absurd e (φND n)
 | cons c r=>
  have hd:=φJk n e
  unfold φ5W at hd
  simp only[bA,decide_eq_true_eq] at hd
  rw[Lib.atoiAll_plain c r (by omega) (by omega)]
  rw[e] at hp
  unfold Lib.parseMag
  rw[if_neg (by simp),hp]
  unfold Lib.signless
  simp
  omega
def φ21 (s:List UInt8):Int×Bool:=
 match Lib.atoiAll s with
 | .ok n=>if Lib.itoa n=s∧-999999999≤n∧n≤999999999 then (n,true) else (0,false)
 | _=>(0,false)
theorem φMr (n:Int) (h:-9223372036854775808≤n∧n≤9223372036854775807):ψ6.f n=some (Lib.itoa n):=by
 unfold ψ6.f strconv_Itoa.f
 have:(decide (-9223372036854775808≤n) && decide (n≤9223372036854775807))=true:=by simp;omega
 rw[this];rfl
theorem φCx (s:List UInt8) (hl:s.length<1000000000000):ψj.f s=some (φ21 s):=by
 unfold ψj.f φ21 strconv_Atoi.f
 have h1:decide (s.length≤281474976710656)=true:=by simp;omega
 rw[h1,cT]
 rcases num3 (Lib.atoiAll s) with ⟨n,ha⟩ | ha | ha
 ·rw[ha]
  have hb:=Lib.atoiAll_bounds ha
  simp only[bS,cF,φMr n hb,φ1U]
  by_cases c:Lib.itoa n=s
  ·have:(Lib.itoa n==s)=true:=by simpa using c
   simp only[this,nZ,cF]
   by_cases c2:-999999999≤n∧n≤999999999
   ·rw[if_pos ⟨c,c2⟩]
    simp[c2]
   ·rw[if_neg (fun z=>c2 z.2)]
    have:decide (-999999999≤n∧n≤999999999)=false:=decide_eq_false c2
    simp only[this,nF,cT]
  ·have:(Lib.itoa n==s)=false:=by simpa using c
   rw[if_neg (fun z=>c z.1)]
   simp only[this,nF,cT]
 ·simp[ha]
 ·simp[ha]
theorem φJT {s:List UInt8} {n:Int} (h:φ21 s=(n,true)):Lib.itoa n=s:=by
 unfold φ21 at h
 split at h
 ·split at h
  ·rename_i c
   simp only[Prod.mk.injEq,and_true] at h
   rw[←h];exact c.1
  ·simp at h
 ·simp at h
theorem φKp {n:Nat} (h:n≤100000):φ21 (Lib.decDigits n)=((n:Int),true):=by
 unfold φ21
 rw[φNF (by omega)]
 simp only
 rw[if_pos ⟨φAP n,by omega,by omega⟩]
theorem φGx (s p:List UInt8):ψ3T.f s p=some (decide (p.length≤s.length) && (s.take p.length==p)):=by
 unfold ψ3T.f
 by_cases c:p.length≤s.length
 ·have c1:(s.length:Int)≥(p.length:Int):=by omega
  have c2:(decide (0≤(p.length:Int)) && decide ((p.length:Int)≤(s.length:Int)))=true:=by simp;omega
  rw[c2,decide_eq_true c1,cT,cT,decide_eq_true c,tA,tN]
 ·have c1:¬(s.length:Int)≥(p.length:Int):=by omega
  simp only[c1,c,dF,cF,κD]
theorem φGk (p r:List UInt8):ψ3R.f (p++r) p=some (r,true):=by
 unfold ψ3R.f ψ3S.f
 rw[φGx]
 have c1:decide (p.length≤(p++r).length)=true:=by simp
 have c2:((p++r).take p.length==p)=true:=by rw[List.take_left];simp
 have c3:(decide (0≤(p.length:Int)) && decide ((p.length:Int)≤((p++r).length:Int)))=true:=by rw[lA];simp;omega
 simp only[c1,c2,tA,bS,nZ,cF,c3,cT,tN,κO]
theorem φEb {s p:List UInt8} (h:¬∃r,s=p++r):ψ3R.f s p=some (s,false):=by
 unfold ψ3R.f ψ3S.f
 rw[φGx]
 have c:(decide (p.length≤s.length) && (s.take p.length==p))=false:=by
  cases e:(decide (p.length≤s.length) && (s.take p.length==p)) with
  | false=>rfl
  | true=>
   simp only[bA,decide_eq_true_eq,beq_iff_eq] at e
   exact absurd ⟨s.drop p.length,by rw[←e.2,lT,Nat.min_eq_left e.1,κE]⟩ h
 simp only[c,bS,nF,cT]
theorem φ78 {id:Int} (h:1≤id∧id≤100000):φ0 id=[115,101,103]++Lib.decDigits id.toNat:=by unfold φ0 φ23;rw[if_pos h]
theorem φ7Q {id:Int} (h:1≤id∧id≤100000):φK id=[104,105,110,116]++Lib.decDigits id.toNat:=by unfold φK φ23;rw[if_pos h]
theorem φCo {w r:List UInt8} {name:List UInt8} (hn:name=w++r) (hw:(w=[115,101,103]∧∀id,1≤id∧id≤100000→name≠φK id)∨(w=[104,105,110,116]∧∀id,1≤id∧id≤100000→name≠φ0 id)) :
  (if (φ21 r).2=true∧1≤(φ21 r).1∧(φ21 r).1≤100000 then ((φ21 r).1,true) else (0,false))=idOf name:=by
 have hnm:∀id,1≤id∧id≤100000→Lib.decDigits id.toNat=r→φ3M name id:=fun id hid e=>by
  refine ⟨hid,?_⟩
  rcases hw with ⟨hw,_⟩ | ⟨hw,_⟩
  ·left;rw[hn,hw,←e,φ78 hid]
  ·right;rw[hn,hw,←e,φ7Q hid]
 by_cases c:(φ21 r).2=true∧1≤(φ21 r).1∧(φ21 r).1≤100000
 ·rw[if_pos c]
  have ht:φ21 r=((φ21 r).1,true):=by rw[←c.1]
  have hi:=φJT ht
  generalize (φ21 r).1=n at c hi
  obtain ⟨m,rfl⟩:∃m:Nat,n=(m:Int):=⟨n.toNat,by omega⟩
  rw[φAP] at hi
  exact (φEU (hnm (m:Int) c.2 (by rw[tN];exact hi))).symm
 ·rw[if_neg c,φ9g]
  rintro ⟨id,hid,hor⟩
  apply c
  have hr:r=Lib.decDigits id.toNat:=by
   rcases hw with ⟨hw,hno⟩ | ⟨hw,hno⟩
   ·rcases hor with e | e
    ·rw[hn,hw,φ78 hid] at e;exact List.append_cancel_left e
    ·exact absurd e (hno id hid)
   ·rcases hor with e | e
    ·exact absurd e (hno id hid)
    ·rw[hn,hw,φ7Q hid] at e;exact List.append_cancel_left e
  have:=φKp (n:=id.toNat) (by omega)
  rw[←hr] at this
  rw[this]
  exact ⟨rfl,by show (1:Int)≤(id.toNat:Int);omega,by show (id.toNat:Int)≤100000;omega⟩
theorem φN9 (name:List UInt8) (hl:name.length<1000000000000):ψY.f name=some (idOf name):=by
 have fin:∀(r:List UInt8),r.length<1000000000000→((ψj.f r).bind fun (t3_0,t3_1)=>
   bif !true then some ((0:Int),false) else
   bif !t3_1 then some (0,false) else
   (ψ1Z.f t3_0 1 100000).bind fun t4=>bif !t4 then some (0,false) else some (t3_0,true))=some (if (φ21 r).2=true∧1≤(φ21 r).1∧(φ21 r).1≤100000 then ((φ21 r).1,true) else (0,false)):=fun r hr=>by
  rw[φCx r hr,bS]
  generalize φ21 r=p
  obtain ⟨n,b⟩:=p
  simp only[nZ,cF,φ1U,bS]
  cases b
  ·simp
  ·by_cases c:1≤n∧n≤100000
   ·simp[c]
   ·have:decide (1≤n∧n≤100000)=false:=decide_eq_false c
    simp only[nZ,cF,this,nF,cT]
    rw[if_neg (fun z=>c z.2)]
 unfold ψY.f
 by_cases h1:∃r,name=[115,101,103]++r
 ·obtain ⟨r,rfl⟩:=h1
  rw[lA] at hl
  rw[φGk]
  have:=fin r (by omega)
  simp only[bS,nZ,cF] at this ⊢
  rw[this,φCo rfl (.inl ⟨rfl,fun id hid e=>by
   rw[φ7Q hid] at e
   have:=congrArg (fun l=>l.getD 0 0) e
   simp at this⟩)]
 ·rw[φEb h1]
  by_cases h2:∃r,name=[104,105,110,116]++r
  ·obtain ⟨r,rfl⟩:=h2
   rw[lA] at hl
   rw[bS]
   simp only[nF,cT]
   rw[φGk]
   have:=fin r (by omega)
   simp only[bS,nZ,cF] at this ⊢
   rw[this,φCo rfl (.inr ⟨rfl,fun id hid e=>by
    rw[φ78 hid] at e
    have:=congrArg (fun l=>l.getD 0 0) e
    simp at this⟩)]
  ·rw[bS]
   simp only[nF,cT]
   rw[φEb h2]
   simp only[bS,φCx name hl,nF,cT]
   rw[φ9g]
   rintro ⟨id,hid,e | e⟩
   ·exact h1 ⟨_,e.trans (φ78 hid)⟩
   ·exact h2 ⟨_,e.trans (φ7Q hid)⟩
theorem φJm (l:List Int) (n:Int) (hl:l.length<1000000000):ψ1X.f l n=some (l.any fun x=>x==n):=by
 have key:=φc (step:=ψ1X.l0) (fun k (_:Unit)=>(n,l,(l.length:Int),(k:Int))) l.length (fun k _=>if (l.drop k).any (fun x=>x==n)=true then .inr true else .inl ()) (fun _ _=>True)
  (fun rec k _ hk _ ih=>by
   rcases κ1 k l.length with h | h
   ·have hw:=φQ (show k+1<9223372036854775808 by omega)
    rw[dG h,List.any_cons]
    simp only[ψ1X.l0,oL,h,dT,cT,φH,φM,φE h]
    cases hq:(l[k]==n)
    ·simp only[cF,hw,ih () h trivial,κR]
    ·simp
   ·have:k=l.length:=by omega
    subst this
    simp[ψ1X.l0])
  (by omega) 0 () (κ3 _) trivial
 have key:lp ψ1X.l0 (n,l,(l.length:Int),0)=_:=key
 unfold ψ1X.f
 rw[key,bS,κC]
 cases l.any fun x=>x==n
 ·simp[φb]
 ·simp[φm]
theorem φMS (d:φ1) (v:φP) (hd:dlim d) (hv:v.2.length<1000000000):ψf.f d v=some (φ35 d v):=by
 have key:=φc (step:=ψf.l0) (fun n (acc:List (List UInt8))=>(v,acc,d.1,(d.1.length:Int),(n:Int))) d.1.length (fun n acc=>acc++((d.1.drop n).filter (φ4O v)).map (·.1)) (fun n acc=>acc.length≤n)
  (fun rec n acc hn ha ih=>by
   rcases κ1 n d.1.length with h | h
   ·have hlen:=hd.1
    have hw:=φQ (show n+1<9223372036854775808 by omega)
    have hnm:=hd.2.2 _ (gM h)
    have hb:(acc.length+([d.1[n].1]:List (List UInt8)).length) * 16≤140737488355328:=φLC (by omega)
    have i1:=ih (acc++[d.1[n].1]) h (by rw[lA];show acc.length+1≤n+1;omega)
    have i2:=ih acc h (by omega)
    rw[dG h,List.filter_cons]
    simp only[ψf.l0,oL,h,dT,cT,φH,φM,φE h]
    rw[φN9 d.1[n].1 hnm,bS]
    have hob:φ4O v d.1[n]=(((idOf d.1[n].1).2 && !(v.2.any fun i=>i==(idOf d.1[n].1).1)) || d.1[n].1==φ2J):=rfl
    rw[hob]
    obtain ⟨tb,hT⟩:∃tb,(d.1[n].1==φ2J)=tb:=⟨_,rfl⟩
    have ht:(d.1[n].1==[116,101,109,112])=tb:=hT
    rw[hT]
    simp only[φJm v.2 _ hv,ht]
    cases (idOf d.1[n].1).2<;>cases (v.2.any fun i=>i==(idOf d.1[n].1).1)<;>cases tb <;>
     simp only[φH,h,φM,φE h,ht,hb,dT,cT,cF,bS,nZ,nF,κL,Bool.and_false,Bool.or_true,Bool.or_false,tA,κD,κR,Bool.true_or,if_true,κ2,if_false,hw,i1,i2,κ5,aA,List.singleton_append]
   ·have:n=d.1.length:=by omega
    subst this
    simp[ψf.l0])
  (by have:=hd.1;omega) 0 [] (κ3 _) (κB _)
 have key:lp ψf.l0 (v,[],d.1,(d.1.length:Int),0)=_:=key
 unfold ψf.f φ35
 rw[φ4m d hd,bS]
 cases φ3 d
 ·simp
 ·simp only[nZ,cF,key,bS,κC,κ7,κ8,if_false]
def φ33 (s:List UInt8) (v:φP):Prop:=φk v=true∧φt v=s
def φ19:φP:=(0,[])
def φ4Z (v:φP):List UInt8:=varT v.1++varT (v.2.length:Int)++(v.2.map varT).flatten
theorem φ9w {v:φP} (h:φk v=true):φ1J v.1∧(∀x∈v.2,φ1J x∧x≤100000)∧1≤v.2.length∧v.2.length≤60∧v.1≤100000:=by
 obtain ⟨k1,k2,k3,k4⟩:=(φ15 v).1 h
 rw[φG (by omega) (by omega)] at k1
 have:=φ3e _ _ k1
 refine ⟨⟨by omega,by omega⟩,fun x hx=>?_,k3,k4,k2.2⟩
 have:=this x hx
 exact ⟨⟨by omega,by omega⟩,by omega⟩
theorem φB3 {n:Int} (h:0≤n∧n≤100000):(varT n).length≤3:=by
 obtain ⟨m,rfl⟩:∃m:Nat,n=(m:Int):=⟨n.toNat,by omega⟩
 rw[φ54 m (by omega)]
 exact (φ8x 2 m (by show m<2097152;omega)).2
theorem φAo {l:List Int} (h:∀x∈l,0≤x∧x≤100000):((l.map varT).flatten).length≤3 * l.length:=by
 induction l with
 | nil=>simp
 | cons x l ih=>
  have h1:=φB3 (h x κ0)
  have h2:=ih (fun y hy=>h y (mC _ hy))
  simp only[κ5,List.flatten_cons,lA,lC]
  omega
theorem φ97 {v:φP} (h:φk v=true):(φ4Z v).length≤200:=by
 obtain ⟨h1,h2,h3,h4,h5⟩:=φ9w h
 have a1:=φB3 ⟨h1.1,h5⟩
 have a2:=φB3 (n:=(v.2.length:Int)) (by omega)
 have a3:=φAo (l:=v.2) (fun x hx=>⟨(h2 x hx).1.1,(h2 x hx).2⟩)
 unfold φ4Z
 simp only[lA];omega
theorem φE1 {s:List UInt8} {v:φP} (h:φ33 s v):s=frame (φ4Z v)∧φN s=(φ4Z v,(s.length:Int))∧5≤s.length:=by
 have e:s=frame (φ4Z v):=by
  rw[←h.2];unfold φt;rw[if_neg (by rw[h.1];simp)];rfl
 have hb:=φ7N (φ97 h.1) []
 rw[κ4,←e] at hb
 exact ⟨e,hb,by rw[e];exact φ7f (φ97 h.1)⟩
theorem φHe {s:List UInt8} {v:φP} (h:φ33 s v):ψm.f s=some (v,true):=by
 obtain ⟨e1,e2,e3⟩:=φE1 h
 obtain ⟨n1,n2,n3,n4,n5⟩:=φ9w h.1
 have hbl:=φ97 h.1
 have hsl:s.length≤211:=by rw[e1];exact φ4x _
 obtain ⟨nx,ids⟩:=v
 have hcnt:φ1J (ids.length:Int):=⟨by omega,by have:ids.length≤60:=n4;omega⟩
 have hbd:φ4Z (nx,ids)=varT nx++(varT (ids.length:Int)++(ids.map varT).flatten):=by unfold φ4Z;rw[aA]
 have hbl2:=hbl
 rw[hbd] at hbl2
 simp only[lA] at hbl2
 have m1:=φ2F n1 (varT (ids.length:Int)++(ids.map varT).flatten) (by simp only[lA];omega)
 have m2:=φ2F hcnt (ids.map varT).flatten (by simp only[lA];omega)
 have n4:ids.length≤60:=n4
 have key:=φc (step:=ψm.l0) (fun n (_:Unit)=>(s,((0,[]):φP),(s.length:Int),(((ids.drop n).map varT).flatten,false),((nx,ids.take n):φP),(ids.length:Int),(n:Int))) ids.length (fun _ _=>(s,(0,[]),(s.length:Int),([],false),(nx,ids))) (fun _ _=>True)
  (fun rec n _ hn _ ih=>by
   rcases κ1 n ids.length with h1 | h1
   ·have hw:=φQ (show n+1<9223372036854775808 by omega)
    have hin:=(n2 _ (gM h1)).1
    have hd:((ids.drop n).map varT).flatten=varT ids[n]++((ids.drop (n+1)).map varT).flatten:=by
     rw[dG h1];rfl
    have hfl:((ids.drop n).map varT).flatten.length≤3 * (ids.drop n).length:=φAo (fun x hx=>⟨(n2 x (List.mem_of_mem_drop hx)).1.1,(n2 x (List.mem_of_mem_drop hx)).2⟩)
    have m3:=φ2F hin ((ids.drop (n+1)).map varT).flatten (by rw[←hd];rw[lD] at hfl;omega)
    have hb:((ids.take n).length+([ids[n]]:List Int).length) * 8≤140737488355328:=lim8 (by rw[lT];omega)
    have hi:ids.take n++[ids[n]]=ids.take (n+1):=(κ6 h1).symm
    simp only[ψm.l0,oL,h1,dT,cT,hd,nF,m3,bS,hb,hw,hi,ih () h1 trivial]
   ·have:n=ids.length:=by omega
    subst this
    simp[ψm.l0])
  (by omega) 0 () (κ3 _) trivial
 have key:lp ψm.l0 (s,(0,[]),(s.length:Int),((ids.map varT).flatten,false),(nx,[]),(ids.length:Int),0)=_:=key
 unfold ψm.f
 rw[φ8D s (by omega),e2,hbd,bS]
 simp only[m1,m2,bS,key]
 have c1:((s.length:Int)==0)=false:=by
  have:¬(s.length:Int)=0:=by omega
  simpa using this
 have hok:φk (nx,ids)=true:=h.1
 simp only[c1,cF,bne_self_eq_false,beq_self_eq_true,nZ,φ84 (nx,ids) (by show ids.length<2 ^ 62;omega),bS,hok]
theorem φHC (s:List UInt8) (u:Int) (B:List UInt8) (hB:B.length<1000000000000) (n1:Int) (st:φ42) (pre:List UInt8) (cnt:Int) (hst:st.1.length≤B.length) (hpre:st.2=false→0≤cnt∧B=pre++st.1) :
  ∃st' ids,lp ψm.l0 (s,(0,[]),u,st,(n1,[]),cnt,0)=some (s,(0,[]),u,st',(n1,ids))∧ids.length≤B.length+1 ∧
   (st'.2=false→st.2=false∧(ids.length:Int)=cnt∧(∀x∈ids,φ1J x)∧B=pre++((ids.map varT).flatten++st'.1)):=by
 have key:=φ6o (step:=ψm.l0) (a:=(s,((0,[]):φP),u,st,((n1,[]):φP),cnt,0))
  (fun a=>∃(st':φ42) (ids:List Int),a=(s,(0,[]),u,st',(n1,ids),cnt,(ids.length:Int))∧st'.1.length≤B.length∧(st'.2=false→ids.length+st'.1.length≤B.length)∧ids.length≤B.length+1 ∧
   (st'.2=false→st.2=false∧(ids.length:Int)≤cnt∧(∀x∈ids,φ1J x)∧B=pre++((ids.map varT).flatten++st'.1)))
  (fun a=>if a.2.2.2.1.2=true then 0 else a.2.2.2.1.1.length+1)
  (fun b=>∃(st':φ42) (ids:List Int),b=(s,(0,[]),u,st',(n1,ids))∧ids.length≤B.length+1∧(st'.2=false→st.2=false∧(ids.length:Int)=cnt∧(∀x∈ids,φ1J x)∧B=pre++((ids.map varT).flatten++st'.1)))
  (fun rec a ha=>by
   obtain ⟨st',ids,rfl,h1,h2,h4,h3⟩:=ha
   obtain ⟨t,bad⟩:=st'
   simp only at h1 h2 h3 h4
   by_cases c:(ids.length:Int)<cnt
   ·cases bad with
    | true=>
     left
     exact ⟨(s,(0,[]),u,(t,true),(n1,ids)),by simp only[ψm.l0,c,dT,cT,nZ,cF],(t,true),ids,rfl,h4,fun e=>by simp at e⟩
    | false=>
     right
     obtain ⟨g1,g2,g3,g4⟩:=h3 rfl
     have g5:=h2 rfl
     have hw:=φQ (show ids.length+1<9223372036854775808 by omega)
     rcases φ50 t (by omega) with ⟨x,r,m,et,hx⟩ | m
     ·have hx1:=(φ3w hx []).2
      have hle:t.length=(varT x).length+r.length:=by rw[et,lA]
      have hb:(ids.length+([x]:List Int).length) * 8≤140737488355328:=lim8 (by omega)
      refine ⟨(s,(0,[]),u,(r,false),(n1,ids++[x]),cnt,((ids.length+1:Nat):Int)),⟨(r,false),ids++[x],by simp only[lA,κ9],by show r.length≤_;omega,fun _=>by simp only[lA,κ9];omega,by simp only[lA,κ9];omega,fun _=>⟨g1,by simp only[lA,κ9];omega,fun y hy=>?_,?_⟩⟩,?_,?_⟩
      ·rcases mA.1 hy with hy | hy
       ·exact g3 y hy
       ·rw[mZ.1 hy];exact hx
      ·rw[g4,et];simp
      ·simp only[κ2,if_false];omega
      ·simp only[ψm.l0,c,dT,cT,nF,m,bS,hb,hw]
     ·have hb:(ids.length+([0]:List Int).length) * 8≤140737488355328:=lim8 (by omega)
      refine ⟨(s,(0,[]),u,(t,true),(n1,ids++[0]),cnt,((ids.length+1:Nat):Int)),⟨(t,true),ids++[0],by simp only[lA,κ9],h1,fun e=>by simp at e,by simp only[lA,κ9];omega,fun e=>by simp at e⟩,?_,?_⟩
      ·simp only[if_true,κ2,if_false];omega
      ·simp only[ψm.l0,c,dT,cT,nF,m,bS,hb,hw]
   ·left
    refine ⟨(s,(0,[]),u,(t,bad),(n1,ids)),by simp only[ψm.l0,c,dF,cF],(t,bad),ids,rfl,h4,fun e=>?_⟩
    obtain ⟨g1,g2,g3,g4⟩:=h3 e
    exact ⟨g1,by omega,g3,g4⟩)
  ⟨st,[],rfl,hst,fun _=>by simp;exact hst,by simp,fun e=>⟨e,by simpa using (hpre e).1,by simp,by simpa using (hpre e).2⟩⟩ (by simp only;split<;>omega)
 obtain ⟨b,eb,st',ids,rfl,h1,h2⟩:=key
 exact ⟨st',ids,eb,h1,h2⟩
theorem φNK (s:List UInt8) (hl:s.length<1000000000):∃res:φP×Bool,ψm.f s=some res∧(res=(φ19,false)∨∃v,res=(v,true)∧φ33 s v):=by
 have hul:=φ6J s
 unfold ψm.f
 rw[φ8D s (by omega),bS]
 -- the two numbers ahead
 have first:∃(n1 n2:Int) (st:φ42) (pre:List UInt8),((ψ1m.f ((φN s).1,false)).bind fun (t2_0,t2_1)=>(ψ1m.f t2_1).bind fun (t3_0,t3_1)=>some (t2_0,t3_0,t3_1))=some (n1,n2,st)∧st.1.length≤(φN s).1.length ∧
   (st.2=false→φ1J n1∧φ1J n2∧pre=varT n1++varT n2∧(φN s).1=pre++st.1):=by
  rcases φ50 (φN s).1 (by omega) with ⟨x,r,m,et,hx⟩ | m
  ·have hle:(φN s).1.length=(varT x).length+r.length:=by
    have:=congrArg List.length et
    rw[lA] at this;exact this
   rcases φ50 r (by omega) with ⟨y,q,m2,et2,hy⟩ | m2
   ·have hle2:r.length=(varT y).length+q.length:=by
     have:=congrArg List.length et2
     rw[lA] at this;exact this
    exact ⟨x,y,(q,false),varT x++varT y,by simp only[m,m2,bS],by show q.length≤_;omega,fun _=>⟨hx,hy,rfl,by rw[et,et2,aA]⟩⟩
   ·exact ⟨x,0,(r,true),[],by simp only[m,m2,bS],by show r.length≤_;omega,fun e=>by simp at e⟩
  ·exact ⟨0,0,((φN s).1,true),[],by simp only[m,φ7G _ (show (φN s).1.length<2 ^ 62 by omega),bS],κB _,fun e=>by simp at e⟩
 obtain ⟨n1,n2,st,pre,e1,e2,e3⟩:=first
 obtain ⟨st',ids,eL,h1,h2⟩:=φHC s (φN s).2 (φN s).1 (by omega) n1 st pre n2 e2 (fun e=>⟨(e3 e).2.1.1,(e3 e).2.2.2⟩)
 have hrest:((ψ1m.f ((φN s).1,false)).bind fun (t2_0,t2_1)=>(ψ1m.f t2_1).bind fun (t3_0,t3_1)=>
   (lp ψm.l0 (s,((0,[]):φP),(φN s).2,t3_1,(t2_0,[]),t3_0,0)).bind (fun (x0,x2,x5,x6,x7)=>
   bif x5==0 then some ((0,[]),false) else
   bif x5 != (x0.length:Int) then some ((0,[]),false) else
   bif x6.2 then some ((0,[]),false) else
   bif !(x6.1==[]) then some ((0,[]),false) else
   (ψa.f x7).bind fun t6=>bif !t6 then some ((0,[]),false) else some (x7,true))) =
   (bif (φN s).2==0 then some (((0,[]):φP),false) else
   bif (φN s).2 != (s.length:Int) then some ((0,[]),false) else
   bif st'.2 then some ((0,[]),false) else
   bif !(st'.1==[]) then some ((0,[]),false) else
   (ψa.f (n1,ids)).bind fun t6=>bif !t6 then some ((0,[]),false) else some ((n1,ids),true)):=by
  cases ha:ψ1m.f ((φN s).1,false) with
  | none=>rw[ha] at e1;simp at e1
  | some p=>
   obtain ⟨a1,a2⟩:=p
   rw[ha] at e1
   simp only[bS] at e1 ⊢
   cases hb:ψ1m.f a2 with
   | none=>rw[hb] at e1;simp at e1
   | some q=>
    obtain ⟨b1,b2⟩:=q
    rw[hb] at e1
    simp only[bS,Option.some.injEq,Prod.mk.injEq] at e1 ⊢
    obtain ⟨rfl,rfl,rfl⟩:=e1
    rw[eL];rfl
 suffices hs:∃res:φP×Bool,(bif (φN s).2==0 then some (((0,[]):φP),false) else
   bif (φN s).2 != (s.length:Int) then some ((0,[]),false) else
   bif st'.2 then some ((0,[]),false) else
   bif !(st'.1==[]) then some ((0,[]),false) else
   (ψa.f (n1,ids)).bind fun t6=>bif !t6 then some ((0,[]),false) else some ((n1,ids),true))=some res∧(res=(φ19,false)∨∃v,res=(v,true)∧φ33 s v) by
  obtain ⟨res,e,p⟩:=hs
  exact ⟨res,hrest.trans e,p⟩
 by_cases c1:(φN s).2=0
 ·have d1:((φN s).2==0)=true:=by simpa using c1
  exact ⟨(φ19,false),by rw[d1];rfl,.inl rfl⟩
 have d1:((φN s).2==0)=false:=by simpa using c1
 rw[d1,cF]
 by_cases c2:(φN s).2=(s.length:Int)
 rotate_left
 ·have d2:((φN s).2 != (s.length:Int))=true:=by simpa using c2
  exact ⟨(φ19,false),by rw[d2];rfl,.inl rfl⟩
 have d2:((φN s).2 != (s.length:Int))=false:=by simpa using c2
 rw[d2,cF]
 cases c3:st'.2 with
 | true=>exact ⟨(φ19,false),rfl,.inl rfl⟩
 | false=>
  rw[cF]
  obtain ⟨g1,g2,g3,g4⟩:=h2 c3
  by_cases c4:st'.1=[]
  rotate_left
  ·have d4:(st'.1==[])=false:=by simpa using c4
   exact ⟨(φ19,false),by rw[d4];rfl,.inl rfl⟩
  have d4:(st'.1==[])=true:=by simpa using c4
  rw[d4,nZ,cF,φ84 (n1,ids) (by show ids.length<2 ^ 62;omega),bS]
  cases c5:φk (n1,ids) with
  | false=>exact ⟨(φ19,false),rfl,.inl rfl⟩
  | true=>
   refine ⟨((n1,ids),true),rfl,.inr ⟨(n1,ids),rfl,c5,?_⟩⟩
   obtain ⟨t,r,f1,f2,f3⟩:=φBH c1
   obtain ⟨k1,k2,k3,k4⟩:=e3 g1
   have ht:(φN s).1=t:=by rw[f3]
   have hlen:((frame t).length:Int)=(s.length:Int):=by rw[←c2,f3]
   have hr:r=[]:=by
    have:=congrArg List.length f1
    rw[lA] at this
    exact List.length_eq_zero_iff.1 (by omega)
   unfold φt
   rw[if_neg (by rw[c5];simp)]
   rw[f1,hr,κ4,←ht,g4,k3,c4,←g2]
   simp only[κ4]
theorem φC7 {s:List UInt8} {v:φP} (h:φ33 s v):ψ2f.f s=some (v,true):=by
 obtain ⟨e1,e2,e3⟩:=φE1 h
 obtain ⟨n1,n2,n3,n4,n5⟩:=φ9w h.1
 have hbl:=φ97 h.1
 have hsl:s.length≤211:=by rw[e1];exact φ4x _
 have hsh:=h.2
 obtain ⟨nx,ids⟩:=v
 have n4:ids.length≤60:=n4
 have hcnt:φ1J (ids.length:Int):=⟨by omega,by omega⟩
 have hbd:φ4Z (nx,ids)=varT nx++(varT (ids.length:Int)++(ids.map varT).flatten):=by unfold φ4Z;rw[aA]
 have hbl2:=hbl
 rw[hbd] at hbl2
 simp only[lA] at hbl2
 have r1:=φ3w n1 (varT (ids.length:Int)++(ids.map varT).flatten)
 have r2:=φ3w hcnt (ids.map varT).flatten
 generalize hT:varT nx++(varT (ids.length:Int)++(ids.map varT).flatten)=T at *
 have hTl:T.length=(varT nx).length+((varT (ids.length:Int)).length+((ids.map varT).flatten).length):=by rw[←hT];simp only[lA]
 have hat:∀n,n≤ids.length→T.drop ((varT nx).length+(varT (ids.length:Int)).length+((ids.take n).map varT).flatten.length)=((ids.drop n).map varT).flatten:=fun n hn=>by
  have e:T=(varT nx++varT (ids.length:Int)++((ids.take n).map varT).flatten)++((ids.drop n).map varT).flatten:=by
   rw[←hT]
   simp only[aA]
   congr 2
   rw[←List.flatten_append,←mp,κE]
  rw[e,show (varT nx).length+(varT (ids.length:Int)).length+((ids.take n).map varT).flatten.length=(varT nx++varT (ids.length:Int)++((ids.take n).map varT).flatten).length by simp only[lA],κO]
 have hfle:∀n,((ids.take n).map varT).flatten.length≤200:=fun n=>by
  have:((ids.take n).map varT).flatten.length≤3 * (ids.take n).length:=φAo (fun x hx=>⟨(n2 x (List.mem_of_mem_take hx)).1.1,(n2 x (List.mem_of_mem_take hx)).2⟩)
  rw[lT] at this;omega
 have key:=φc (step:=ψ2f.l0) (fun n (_:Unit)=>(s,((0,[]):φP),T,(ids.length:Int),((nx,ids.take n):φP),(((varT nx).length+(varT (ids.length:Int)).length+((ids.take n).map varT).flatten.length:Nat):Int),(n:Int))) ids.length (fun _ _=>(s,(0,[]),(nx,ids))) (fun _ _=>True)
  (fun rec n _ hn _ ih=>by
   rcases κ1 n ids.length with h1 | h1
   ·have hw:=φQ (show n+1<9223372036854775808 by omega)
    have hin:=(n2 _ (gM h1)).1
    have hc60:(n:Int)<60:=by omega
    have hd:((ids.drop n).map varT).flatten=varT ids[n]++((ids.drop (n+1)).map varT).flatten:=by
     rw[dG h1];rfl
    have hta:((ids.take (n+1)).map varT).flatten.length=((ids.take n).map varT).flatten.length+(varT ids[n]).length:=by
     rw[κ6 h1,mp,List.flatten_append,lA]
     show _+(varT ids[n]++[]).length=_
     rw[κ4]
    have hdl:=congrArg List.length (hat n hn)
    rw[lD] at hdl
    have r3:=φ3w hin ((ids.drop (n+1)).map varT).flatten
    have h200:=hfle n
    have hvl:=φf ids[n]
    have hvl1:=φf nx
    have hvl2:=φf (ids.length:Int)
    have hdl2:=congrArg List.length hd
    rw[lA] at hdl2
    have hin2:(decide (0≤(((varT nx).length+(varT (ids.length:Int)).length+((ids.take n).map varT).flatten.length:Nat):Int)) && decide ((((varT nx).length+(varT (ids.length:Int)).length+((ids.take n).map varT).flatten.length:Nat):Int)≤(T.length:Int)))=true:=by
     simp only[bA,decide_eq_true_eq];omega
    have hb:((ids.take n).length+([ids[n]]:List Int).length) * 8≤140737488355328:=lim8 (by rw[lT];omega)
    have hi:ids.take n++[ids[n]]=ids.take (n+1):=(κ6 h1).symm
    have hwo:w64 ((((varT nx).length+(varT (ids.length:Int)).length+((ids.take n).map varT).flatten.length:Nat):Int)+((varT ids[n]).length:Int))=(((varT nx).length+(varT (ids.length:Int)).length+((ids.take (n+1)).map varT).flatten.length:Nat):Int):=by
     rw[φG (by omega) (by omega),hta];omega
    simp only[ψ2f.l0,oL,h1,hc60,dT,cT,hin2,tN,hat n hn]
    rw[φ2d _ (by omega),hd,r3.1,bS]
    simp only[hb,dT,cT,hi,hwo,hw,ih () h1 trivial]
   ·have:n=ids.length:=by omega
    subst this
    simp[ψ2f.l0])
  (by omega) 0 () (κ3 _) trivial
 have key:lp ψ2f.l0 (s,(0,[]),T,(ids.length:Int),(nx,[]),(((varT nx).length+(varT (ids.length:Int)).length+((ids.take 0).map varT).flatten.length:Nat):Int),((0:Nat):Int))=_:=key
 have hv1:=φf nx
 have hv2:=φf (ids.length:Int)
 have c1:((s.length:Int)==0)=false:=by
  have:¬(s.length:Int)=0:=by omega
  simpa using this
 have c2:(((varT nx).length:Int)==0)=false:=by
  have:1≤(varT nx).length:=r1.2
  have:¬((varT nx).length:Int)=0:=by omega
  simpa using this
 have c3:(decide (0≤((varT nx).length:Int)) && decide (((varT nx).length:Int)≤(T.length:Int)))=true:=by simp only[bA,decide_eq_true_eq];omega
 have hd1:T.drop (varT nx).length=varT (ids.length:Int)++(ids.map varT).flatten:=by rw[←hT,κO]
 have hw1:w64 (((varT nx).length:Int)+((varT (ids.length:Int)).length:Int))=(((varT nx).length+(varT (ids.length:Int)).length+((ids.take 0).map varT).flatten.length:Nat):Int):=by
  rw[φG (by omega) (by omega)];simp
 unfold ψ2f.f
 rw[φ7n s (by omega),e2,hbd,bS]
 simp only
 rw[φ2d T (by omega),r1.1,bS]
 simp only[bne_self_eq_false,cF,c1,c2,c3,cT,tN,hd1]
 rw[φ2d _ (by rw[←hd1,lD];omega),r2.1,bS]
 simp only[hw1]
 have key:lp ψ2f.l0 (s,(0,[]),T,(ids.length:Int),(nx,[]),(((varT nx).length+(varT (ids.length:Int)).length+((ids.take 0).map varT).flatten.length:Nat):Int),0)=_:=key
 rw[key,bS]
 simp only[φBC (nx,ids) (by show ids.length<2 ^ 62;omega),bS,hsh,beq_self_eq_true,nZ,cF]
theorem φL6 (s:List UInt8) (hl:s.length<1000000000):∃res:φP×Bool,ψ2f.f s=some res∧(res=(φ19,false)∨∃v,res=(v,true)∧φ33 s v):=by
 have hul:=φ6J s
 unfold ψ2f.f
 rw[φ7n s (by omega),bS]
 simp only
 rw[φ2d _ (by omega),bS]
 by_cases c2:(φN s).2=(s.length:Int)
 rotate_left
 ·have d2:((φN s).2 != (s.length:Int))=true:=by simpa using c2
  exact ⟨(φ19,false),by simp only[d2,cT];rfl,.inl rfl⟩
 have d2:((φN s).2 != (s.length:Int))=false:=by simpa using c2
 simp only[d2,cF]
 by_cases c1:(φN s).2=0
 ·have d1:((φN s).2==0)=true:=by simpa using c1
  exact ⟨(φ19,false),by simp only[d1,cT];rfl,.inl rfl⟩
 have d1:((φN s).2==0)=false:=by simpa using c1
 simp only[d1,cF]
 generalize hT:(φN s).1=T at *
 have v1:=φ5l T
 by_cases c3:(φu T).2=0
 ·have d3:((φu T).2==0)=true:=by simpa using c3
  exact ⟨(φ19,false),by simp only[d3,cT];rfl,.inl rfl⟩
 have d3:((φu T).2==0)=false:=by simpa using c3
 have d4:(decide (0≤(φu T).2) && decide ((φu T).2≤(T.length:Int)))=true:=by simp only[bA,decide_eq_true_eq];omega
 simp only[d3,d4,cF,cT]
 rw[φ2d _ (by rw[lD];omega),bS]
 generalize hR:T.drop (φu T).2.toNat=R
 have v2:=φ5l R
 have hRl:R.length+(φu T).2.toNat=T.length:=by rw[←hR,lD];omega
 generalize (φu T).1=n1
 generalize (φu R).1=cnt
 have hw1:w64 ((φu T).2+(φu R).2)=(φu T).2+(φu R).2:=φG (by omega) (by omega)
 simp only[hw1]
 have hp0:0≤(φu T).2+(φu R).2∧(φu T).2+(φu R).2≤T.length:=by omega
 generalize (φu T).2+(φu R).2=pos at hp0
 have key:=φ6o (step:=ψ2f.l0) (a:=(s,((0,[]):φP),T,cnt,((n1,[]):φP),pos,0))
  (fun a=>∃(ids:List Int) (p:Int),a=(s,(0,[]),T,cnt,(n1,ids),p,(ids.length:Int))∧0≤p∧p≤(T.length:Int)∧ids.length≤60)
  (fun a=>61 - a.2.2.2.2.1.2.length)
  (fun b=>∃ids:List Int,b=(s,(0,[]),(n1,ids))∧ids.length≤60)
  (fun rec a ha=>by
   obtain ⟨ids,p,rfl,h1,h2,h3⟩:=ha
   by_cases c:(ids.length:Int)<cnt
   rotate_left
   ·left;exact ⟨_,by simp only[ψ2f.l0,c,dF,cF,cT],ids,rfl,h3⟩
   by_cases cc:(ids.length:Int)<60
   rotate_left
   ·left;exact ⟨_,by simp only[ψ2f.l0,c,cc,dT,dF,cT,cF,cT],ids,rfl,h3⟩
   right
   have hin:(decide (0≤p) && decide (p≤(T.length:Int)))=true:=by simp only[bA,decide_eq_true_eq];omega
   have v3:=φ5l (T.drop p.toNat)
   rw[lD] at v3
   have hw:=φQ (show ids.length+1<9223372036854775808 by omega)
   have hwp:w64 (p+(φu (T.drop p.toNat)).2)=p+(φu (T.drop p.toNat)).2:=φG (by omega) (by omega)
   have hb:(ids.length+([(φu (T.drop p.toNat)).1]:List Int).length) * 8≤140737488355328:=lim8 (by omega)
   refine ⟨(s,(0,[]),T,cnt,(n1,ids++[(φu (T.drop p.toNat)).1]),p+(φu (T.drop p.toNat)).2,((ids.length+1:Nat):Int)),⟨ids++[(φu (T.drop p.toNat)).1],p+(φu (T.drop p.toNat)).2,by simp only[lA,κ9],by omega,by omega,by simp only[lA,κ9];omega⟩,by simp only[lA,κ9];omega,?_⟩
   simp only[ψ2f.l0,c,cc,dT,cT,hin]
   rw[φ2d _ (by rw[lD];omega),bS]
   simp only[hb,dT,cT,hwp,hw])
  ⟨[],pos,rfl,hp0.1,by omega,by simp⟩ (by simp)
 obtain ⟨b,eb,ids,rfl,h60⟩:=key
 rw[eb,bS]
 simp only[φBC (n1,ids) (by show ids.length<2 ^ 62;omega),bS]
 by_cases c5:φt (n1,ids)=s
 rotate_left
 ·have d5:(φt (n1,ids)==s)=false:=by simpa using c5
  exact ⟨(φ19,false),by simp only[d5,nF,cT];rfl,.inl rfl⟩
 have d5:(φt (n1,ids)==s)=true:=by simpa using c5
 refine ⟨((n1,ids),true),by simp only[d5,nZ,cF],.inr ⟨(n1,ids),rfl,?_,c5⟩⟩
 cases hk:φk (n1,ids) with
 | true=>rfl
 | false=>
  exfalso
  have:φt (n1,ids)=[]:=by unfold φt;rw[if_pos hk]
  rw[this] at c5
  apply c1
  rw[c2,←c5];rfl
noncomputable def φ2t (s:List UInt8):φP×Bool:=@dite (φP×Bool) (∃v,φ33 s v) (Classical.propDecidable _) (fun h=>(h.choose,true)) (fun _=>(φ19,false))
theorem φCq {s:List UInt8} {o:Option (φP×Bool)} (h1:∀v,φ33 s v→o=some (v,true)) (h2:∃res:φP×Bool,o=some res∧(res=(φ19,false)∨∃v,res=(v,true)∧φ33 s v)):o=some (φ2t s):=by
 unfold φ2t
 by_cases h:∃v,φ33 s v
 ·rw[dif_pos h];exact h1 _ h.choose_spec
 ·rw[dif_neg h]
  obtain ⟨res,e,k | ⟨v,_,hv⟩⟩:=h2
  ·rw[e,k]
  ·exact absurd ⟨v,hv⟩ h
theorem φJs (s:List UInt8) (hl:s.length<1000000000):ψm.f s=some (φ2t s):=φCq (fun _ h=>φHe h) (φNK s hl)
theorem φIm (s:List UInt8) (hl:s.length<1000000000):ψ2f.f s=some (φ2t s):=φCq (fun _ h=>φC7 h) (φL6 s hl)
theorem φCU (s:List UInt8):φ2t s=(φ19,false)∧(¬∃v,φ33 s v)∨∃v,φ2t s=(v,true)∧φ33 s v:=by
 unfold φ2t
 by_cases h:∃v,φ33 s v
 ·rw[dif_pos h];exact .inr ⟨_,rfl,h.choose_spec⟩
 ·rw[dif_neg h];exact .inl ⟨rfl,h⟩
def φ4A (s:List UInt8) (h:φ1D):Prop:=φ2L h=true∧φ1c h=s
def φ5O:φ1D:=(0,0,[])
theorem φ5D (st:φ42) (hl:st.1.length<2 ^ 62):∃n st',ψ1m.f st=some (n,st')∧st'.1.length≤st.1.length∧(st'.2=false→st.2=false∧st'.1.length+1≤st.1.length):=by
 obtain ⟨s,b⟩:=st
 cases b with
 | true=>exact ⟨0,(s,true),φ7G s hl,κB _,fun e=>by simp at e⟩
 | false=>
  rcases φ50 s hl with ⟨n,r,m,e,hn⟩ | m
  ·have h1:=(φ3w hn []).2
   have hle:s.length=(varT n).length+r.length:=by rw[e,lA]
   exact ⟨n,(r,false),m,by show r.length≤s.length;omega,fun _=>⟨rfl,by show r.length+1≤s.length;omega⟩⟩
  ·exact ⟨0,(s,true),m,κB _,fun e=>by simp at e⟩
theorem φM5 (st:φ42) (hl:st.1.length<2 ^ 62):∃t st',ψ1n.f st=some (t,st')∧st'.1.length≤st.1.length∧(st'.2=false→st.2=false∧st'.1.length+1≤st.1.length):=by
 obtain ⟨s,b⟩:=st
 cases b with
 | true=>exact ⟨[],(s,true),φ8Q s hl,κB _,fun e=>by simp at e⟩
 | false=>
  rcases φ8f s hl with ⟨t,r,m,e,hn⟩ | ⟨r,m,hr⟩
  ·have h1:=(φ3w hn []).2
   have hle:s.length=(varT (t.length:Int)).length+(t.length+r.length):=by
    have:=congrArg List.length e
    simp only[lA] at this;exact this
   exact ⟨t,(r,false),m,by show r.length≤s.length;omega,fun _=>⟨rfl,by show r.length+1≤s.length;omega⟩⟩
  ·exact ⟨[],(r,true),m,hr,fun e=>by simp at e⟩
theorem φKy (s:List UInt8):∃t st',ψ1l.f (s,false) 4=some (t,st')∧st'.1.length≤s.length:=by
 rcases φ9S s 4 (by decide) with ⟨t,r,e,es,_⟩ | e
 ·exact ⟨t,(r,false),e,by rw[es,lA];show r.length≤_;omega⟩
 ·exact ⟨[],(s,true),e,κB _⟩
theorem φEW {a:Nat} (h:a<1000000000001):(a+1) * 48≤140737488355328:=by omega
theorem φMM (s:List UInt8) (hl:s.length<900000000):∃res:φ1D×Bool,ψl.f s=some res∧(res=(φ5O,false)∨∃h,res=(h,true)∧φ4A s h):=by
 obtain ⟨t,st1,e1,l1⟩:=φKy s
 obtain ⟨n2,st2,e2,l2,_⟩:=φ5D st1 (by omega)
 obtain ⟨n3,st3,e3,l3,_⟩:=φ5D st2 (by omega)
 obtain ⟨n4,st4,e4,l4,_⟩:=φ5D st3 (by omega)
 have key:=φ6o (step:=ψl.l0) (a:=(s,((0,0,[]):φ1D),st4,((n2,n3,[]):φ1D),n4,0))
  (fun a=>∃(st:φ42) (es:List φB),a=(s,(0,0,[]),st,(n2,n3,es),n4,(es.length:Int))∧st.1.length≤s.length∧(st.2=false→es.length+st.1.length≤s.length)∧es.length≤s.length+1)
  (fun a=>if a.2.2.1.2=true then 0 else a.2.2.1.1.length+1)
  (fun b=>∃(st:φ42) (es:List φB),b=(s,(0,0,[]),st,(n2,n3,es))∧es.length≤s.length+1)
  (fun rec a ha=>by
   obtain ⟨st,es,rfl,h1,h2,h4⟩:=ha
   by_cases c:(es.length:Int)<n4
   rotate_left
   ·left;exact ⟨_,by simp only[ψl.l0,c,dF,cF],st,es,rfl,h4⟩
   obtain ⟨u,bad⟩:=st
   simp only at h1 h2
   cases bad with
   | true=>
    left
    exact ⟨_,by simp only[ψl.l0,c,dT,cT,nZ,cF],(u,true),es,rfl,h4⟩
   | false=>
    right
    have h2:=h2 rfl
    obtain ⟨x5,s5,m5,q5,r5⟩:=φM5 (u,false) (show u.length<2 ^ 62 by omega)
    have q5:s5.1.length≤u.length:=q5
    obtain ⟨x6,s6,m6,q6,r6⟩:=φ5D s5 (by omega)
    obtain ⟨x7,s7,m7,q7,r7⟩:=φ5D s6 (by omega)
    obtain ⟨x8,s8,m8,q8,r8⟩:=φ5D s7 (by omega)
    obtain ⟨x9,s9,m9,q9,r9⟩:=φ5D s8 (by omega)
    have hw:=φQ (show es.length+1<9223372036854775808 by omega)
    have hb:(es.length+([(x5,x6,x7,x8,x9)]:List φB).length) * 48≤140737488355328:=φEW (by omega)
    have hdec:s9.2=false→s9.1.length+1≤u.length:=fun e=>by
     have a9:=r9 e
     have a8:=r8 a9.1
     have a7:=r7 a8.1
     have a6:=r6 a7.1
     have a5:=(r5 a6.1).2
     have a5:s5.1.length+1≤u.length:=a5
     omega
    refine ⟨(s,(0,0,[]),s9,(n2,n3,es++[(x5,x6,x7,x8,x9)]),n4,((es.length+1:Nat):Int)),⟨s9,es++[(x5,x6,x7,x8,x9)],by simp only[lA,κ9],by omega,fun e=>by simp only[lA,κ9];have:=hdec e;omega,by simp only[lA,κ9];omega⟩,?_,?_⟩
    ·simp only[κ2,if_false]
     split
     ·omega
     ·rename_i z
      have:=hdec (by simpa using z)
      omega
    ·simp only[ψl.l0,c,dT,cT,nF,m5,m6,m7,m8,m9,bS,hb,hw])
  ⟨st4,[],rfl,by omega,fun _=>by simp;omega,by simp⟩ (by simp only;split<;>omega)
 obtain ⟨b,eb,st,es,rfl,hes⟩:=key
 unfold ψl.f
 simp only[e1,e2,e3,e4,bS,eb]
 cases c1:st.2 with
 | true=>exact ⟨(φ5O,false),rfl,.inl rfl⟩
 | false=>
  simp only[cF,φB2 (n2,n3,es) (show es.length<1000000000 by omega),bS]
  cases c2:φ2L (n2,n3,es) with
  | false=>exact ⟨(φ5O,false),rfl,.inl rfl⟩
  | true=>
   simp only[nZ,cF,φBS (n2,n3,es) (show es.length<1000000000 by omega),bS]
   by_cases c3:φ1c (n2,n3,es)=s
   ·have d3:(φ1c (n2,n3,es)==s)=true:=by simpa using c3
    exact ⟨((n2,n3,es),true),by simp only[d3,nZ,cF],.inr ⟨_,rfl,c2,c3⟩⟩
   ·have d3:(φ1c (n2,n3,es)==s)=false:=by simpa using c3
    exact ⟨(φ5O,false),by simp only[d3,nF,cT];rfl,.inl rfl⟩
theorem φE2 {h:φ1D} (k:φ2L h=true):φ1J h.1∧φ1J h.2.1∧h.2.2.length≤20∧∀e∈h.2.2,e.1.length≤8∧φ1J e.2.1∧φ1J e.2.2.1∧φ1J e.2.2.2.1∧φ1J e.2.2.2.2:=by
 unfold φ2L at k
 simp only[bA,decide_eq_true_eq,κU] at k
 obtain ⟨k1,k2,k3,k4⟩:=k
 have hd:=φ43 k4
 refine ⟨⟨k2.1,by omega⟩,⟨k3.1,by omega⟩,hd.1,fun e he=>?_⟩
 have ho:=hd.2 e he
 have hs:=k1 e he
 have hk:=φGu ho
 unfold φ2k at ho
 unfold φ4b at hs
 simp only[bA,decide_eq_true_eq,κM,decide_eq_false_iff_not] at ho hs
 unfold φ1J
 omega
theorem φKO {s:List UInt8} {h:φ1D} (k:φ4A s h):s=fix4 (crcT (φ1l h))++φ1l h∧(fix4 (crcT (φ1l h))).length=4:=by
 refine ⟨?_,φ6r (φ4n _)⟩
 rw[←k.2];unfold φ1c;rw[if_neg (by rw[k.1];simp)]
theorem φDc (e:φB) (r:List UInt8):entT e++r=varT (e.1.length:Int)++(e.1++(varT e.2.1++(varT e.2.2.1++(varT e.2.2.2.1++(varT e.2.2.2.2++r))))):=by
 unfold entT;simp only[aA]
theorem φJb {s:List UInt8} {h:φ1D} (k:φ4A s h):ψl.f s=some (h,true):=by
 obtain ⟨es,h4⟩:=φKO k
 obtain ⟨n1,n2,n3,n4⟩:=φE2 k.1
 have hbl:=φ7e k.1
 have hsh:=k.2
 have hok:=k.1
 obtain ⟨z,m,l⟩:=h
 simp only at n1 n2 n3 n4
 have hcnt:φ1J (l.length:Int):=⟨by omega,by omega⟩
 have hbd:φ1l (z,m,l)=varT z++(varT m++(varT (l.length:Int)++(l.map entT).flatten)):=by unfold φ1l;simp only[aA]
 have hbl2:=hbl
 rw[hbd] at hbl2
 simp only[lA] at hbl2
 have b0:=φ5f (fix4 (crcT (φ1l (z,m,l)))) (φ1l (z,m,l))
 rw[←es,h4,hbd] at b0
 have b0:ψ1l.f (s,false) 4=_:=b0
 have m1:=φ2F n1 (varT m++(varT (l.length:Int)++(l.map entT).flatten)) (by simp only[lA];omega)
 have m2:=φ2F n2 (varT (l.length:Int)++(l.map entT).flatten) (by simp only[lA];omega)
 have m3:=φ2F hcnt (l.map entT).flatten (by simp only[lA];omega)
 have hfl:∀n,((l.drop n).map entT).flatten.length≤43 * (l.drop n).length:=fun n=>φAE (fun x hx=>(n4 x (List.mem_of_mem_drop hx)).1)
 have key:=φc (step:=ψl.l0) (fun n (_:Unit)=>(s,((0,0,[]):φ1D),(((l.drop n).map entT).flatten,false),((z,m,l.take n):φ1D),(l.length:Int),(n:Int))) l.length (fun _ _=>(s,(0,0,[]),([],false),(z,m,l))) (fun _ _=>True)
  (fun rec n _ hn _ ih=>by
   rcases κ1 n l.length with h1 | h1
   ·have hw:=φQ (show n+1<9223372036854775808 by omega)
    obtain ⟨k0,k1,k2,k3,k5⟩:=n4 _ (gM h1)
    have hk0:φ1J (l[n].1.length:Int):=⟨by omega,by omega⟩
    have hd:((l.drop n).map entT).flatten=entT l[n]++((l.drop (n+1)).map entT).flatten:=by
     rw[dG h1];rfl
    have hlen:=hfl n
    rw[hd,φDc] at hlen
    rw[lD] at hlen
    simp only[lA] at hlen
    have t0:=φ91 l[n].1 (varT l[n].2.1++(varT l[n].2.2.1++(varT l[n].2.2.2.1++(varT l[n].2.2.2.2++((l.drop (n+1)).map entT).flatten)))) hk0 (by simp only[lA];omega)
    have t1:=φ2F k1 (varT l[n].2.2.1++(varT l[n].2.2.2.1++(varT l[n].2.2.2.2++((l.drop (n+1)).map entT).flatten))) (by simp only[lA];omega)
    have t2:=φ2F k2 (varT l[n].2.2.2.1++(varT l[n].2.2.2.2++((l.drop (n+1)).map entT).flatten)) (by simp only[lA];omega)
    have t3:=φ2F k3 (varT l[n].2.2.2.2++((l.drop (n+1)).map entT).flatten) (by simp only[lA];omega)
    have t4:=φ2F k5 ((l.drop (n+1)).map entT).flatten (by simp only[lA];omega)
    have hb:((l.take n).length+([l[n]]:List φB).length) * 48≤140737488355328:=φEW (by rw[lT];omega)
    have hi:l.take n++[l[n]]=l.take (n+1):=(κ6 h1).symm
    have hp:((l[n].1,l[n].2.1,l[n].2.2.1,l[n].2.2.2.1,l[n].2.2.2.2):φB)=l[n]:=rfl
    simp only[ψl.l0,oL,h1,dT,cT,hd,φDc,nF,t0,t1,t2,t3,t4,bS,hp,hb,hw,hi,ih () h1 trivial]
   ·have:n=l.length:=by omega
    subst this
    simp[ψl.l0])
  (by omega) 0 () (κ3 _) trivial
 have key:lp ψl.l0 (s,(0,0,[]),((l.map entT).flatten,false),(z,m,[]),(l.length:Int),0)=_:=key
 unfold ψl.f
 simp only[b0,m1,m2,m3,bS,key,cF,φB2 (z,m,l) (show l.length<1000000000 by omega),hok,nZ,φBS (z,m,l) (show l.length<1000000000 by omega),hsh,beq_self_eq_true]
noncomputable def φ3K (s:List UInt8):φ1D×Bool:=@dite (φ1D×Bool) (∃v,φ4A s v) (Classical.propDecidable _) (fun h=>(h.choose,true)) (fun _=>(φ5O,false))
theorem φKe {s:List UInt8} {o:Option (φ1D×Bool)} (h1:∀v,φ4A s v→o=some (v,true)) (h2:∃res:φ1D×Bool,o=some res∧(res=(φ5O,false)∨∃v,res=(v,true)∧φ4A s v)):o=some (φ3K s):=by
 unfold φ3K
 by_cases h:∃v,φ4A s v
 ·rw[dif_pos h];exact h1 _ h.choose_spec
 ·rw[dif_neg h]
  obtain ⟨res,e,k | ⟨v,_,hv⟩⟩:=h2
  ·rw[e,k]
  ·exact absurd ⟨v,hv⟩ h
theorem φJt (s:List UInt8) (hl:s.length<900000000):ψl.f s=some (φ3K s):=φKe (fun _ h=>φJb h) (φMM s hl)
theorem φE4 (s:List UInt8):φ3K s=(φ5O,false)∧(¬∃v,φ4A s v)∨∃v,φ3K s=(v,true)∧φ4A s v:=by
 unfold φ3K
 by_cases h:∃v,φ4A s v
 ·rw[dif_pos h];exact .inr ⟨_,rfl,h.choose_spec⟩
 ·rw[dif_neg h];exact .inl ⟨rfl,h⟩
theorem φLS (x y:φB):(x.1==y.1 && (x.2.1==y.2.1 && (x.2.2.1==y.2.2.1 && (x.2.2.2.1==y.2.2.2.1 && x.2.2.2.2==y.2.2.2.2))))=decide (x=y):=by
 obtain ⟨a,b,c,d,e⟩:=x
 obtain ⟨a',b',c',d',e'⟩:=y
 apply Bool.eq_iff_iff.2
 simp
theorem φLp (a b:List φB) (ha:a.length<2 ^ 62):ψx.f a b=some (decide (a=b)):=by
 unfold ψx.f
 by_cases hl:a.length=b.length
 rotate_left
 ·rw[φ8X hl]
  have:¬a=b:=fun e=>hl (by rw[e])
  rw[decide_eq_false this];rfl
 rw[φ85 hl,cF]
 have key:=φ4I (step:=ψx.l0) (List.range a.length) (fun i=>decide (a.getD i ([],0,0,0,0)=b.getD i ([],0,0,0,0))) (fun n=>(a,b,(a.length:Int),(n:Int))) () (by simpa using ha)
  (fun rec n h=>by
   have h1:n<a.length:=by simpa using h
   have h2:n<b.length:=by omega
   have hw:=φQ (show n+1<9223372036854775808 by omega)
   have hr:(List.range a.length)[n]=n:=by simp
   simp only[ψx.l0,oL,h1,dT,cT,φH,h2,φM,φLS,hw,hr]
   cases decide (a.getD n ([],0,0,0,0)=b.getD n ([],0,0,0,0))<;>simp)
  (fun rec=>by simp[ψx.l0])
 have key:lp ψx.l0 (a,b,(a.length:Int),0)=_:=key
 rw[key,bS]
 have hall:(List.range a.length).all (fun i=>decide (a.getD i ([],0,0,0,0)=b.getD i ([],0,0,0,0)))=decide (a=b):=by
  apply Bool.eq_iff_iff.2
  rw[κU,decide_eq_true_eq]
  constructor
  ·intro h
   apply List.ext_getElem hl
   intro i h1 h2
   have:=h i (by simpa using h1)
   simp only[decide_eq_true_eq] at this
   rwa [φE h1,φE h2] at this
  ·rintro rfl i _;simp
 rw[hall]
 by_cases e:a=b
 ·rw[decide_eq_true e];simp[φb]
 ·rw[decide_eq_false e];simp[φm]
noncomputable def φ6W (id:Int) (t:List UInt8) (h:φ1D):Bool:=decide (φ16 id t=(h,true))
theorem φKV (x:φ1D×Bool) (h:φ1D):(bif x.2 then bif x.1.1==h.1 then bif x.1.2.1==h.2.1 then decide (x.1.2.2=h.2.2) else false else false else false)=decide (x=(h,true)):=by
 obtain ⟨⟨a,b,c⟩,d⟩:=x
 obtain ⟨a',b',c'⟩:=h
 apply Bool.eq_iff_iff.2
 cases d
 ·simp
 ·simp only[cT,decide_eq_true_eq,Prod.mk.injEq,and_true]
  by_cases e1:a=a'
  ·by_cases e2:b=b'
   ·simp[e1,e2]
   ·have:(b==b')=false:=by simpa using e2
    simp[e1,e2,this]
  ·have:(a==a')=false:=by simpa using e1
   simp[e1,this]
theorem φKf (id:Int) (t:List UInt8) (h:φ1D) (ht:t.length<100000000):ψV.f id t h=some (φ6W id t h):=by
 unfold ψV.f φ6W
 rw[φDy id t ht,bS,←φKV]
 have hl:=φGc id t
 generalize φ16 id t=x at hl ⊢
 obtain ⟨⟨a,b,c⟩,d⟩:=x
 simp only[φLp c h.2.2 (show c.length<2 ^ 62 by have:c.length≤t.length:=hl;omega),bS]
 cases d<;>simp only[cT,cF]
 cases (a==h.1)<;>cases (b==h.2.1)<;>rfl
abbrev φ13:=List φB×Int×Int
abbrev φKF:φF:=(0,0,0,0,0,[],[],0,0)
def φ1Z (k b:Int) (acc:List φF) (p:φF):List φF:=
 if k=3∧p.2.2.2.2.1≠b then acc
 else if p.2.2.2.1=k then []
 else if (k=3∧(p.2.2.2.1=1∨p.2.2.2.1=2))∨(k=5∧p.2.2.2.1=4) then acc++[p] else acc
def ownL (k b:Int) (l:List φF):List φF:=l.foldl (φ1Z k b) []
theorem φGp (k b:Int) (acc:List φF) (p:φF):(φ1Z k b acc p).length≤acc.length+1:=by
 unfold φ1Z
 split
 ·omega
 ·split
  ·simp
  ·split
   ·simp
   ·omega
theorem φCd (k b:Int) (l:List φF):(ownL k b l).length≤l.length:=by
 have:∀(l acc:List φF),(l.foldl (φ1Z k b) acc).length≤acc.length+l.length:=by
  intro l
  induction l with
  | nil=>intro acc;simp
  | cons x l ih=>intro acc;have:=ih (φ1Z k b acc x);have:=φGp k b acc x;simp only[κN,lC];omega
 have:=this l []
 unfold ownL
 simpa using this
theorem φKs {a:Nat} (h:a<1000000000001):(a+1) * 88≤140737488355328:=by omega
theorem φF2 (l:List φF) (r:RecT) (hl:l.length<1000000000):ψ1g.f l r=some (ownL r.1 r.2.1 l):=by
 have hk:=φ3W (step:=ψ1g.l0) l (φ1Z r.1 r.2.1) (fun n (s:List φF)=>(r,s,l,(l.length:Int),(n:Int))) (fun s=>s) (fun n s=>s.length≤n) (by omega)
  (fun rec n s h hi=>by
   have hw:=φQ (show n+1<9223372036854775808 by omega)
   have hb:(s.length+([l[n]]:List φF).length) * 88≤140737488355328:=φKs (by omega)
   have hb2:decide ((s.length+1) * 88≤140737488355328)=true:=by simp only[decide_eq_true_eq];omega
   unfold φ1Z
   simp only[ψ1g.l0,oL,h,dT,cT,φH,φM,φE h]
   generalize l[n]=p at *
   obtain ⟨sg,at_,ln,k,b,key,v,c,z⟩:=p
   obtain ⟨rk,rb,rr⟩:=r
   simp only at hb ⊢
   by_cases c1:rk=3
   ·subst c1
    simp only[beq_self_eq_true,cT,true_and,show ¬((3:Int)=5) by decide,false_and,or_false]
    by_cases c2:b=rb
    ·subst c2
     simp only[bne_self_eq_false,cF,ne_eq,not_true,if_false]
     by_cases c3:k=3
     ·subst c3;simp[hw]
     ·have d3:(k==3)=false:=by simpa using c3
      simp only[d3,cF,c3,if_false]
      by_cases c4:k=1
      ·subst c4;simp[hw,hb2]
      ·have d4:(k==1)=false:=by simpa using c4
       simp only[d4,cF,c4,false_or]
       by_cases c5:k=2
       ·subst c5;simp[hw,hb2]
       ·have d5:(k==2)=false:=by simpa using c5
        have d6:((3:Int)==5)=false:=rfl
        simp[d5,c5,d6,hw]
    ·have d2:(b != rb)=true:=by simpa using c2
     simp[d2,c2,hw]
   ·have d1:(rk==3)=false:=by simpa using c1
    simp only[d1,cF,c1,false_and,if_false,false_or]
    by_cases c3:k=rk
    ·have d3:(k==rk)=true:=by simpa using c3
     simp[d3,c3,hw]
    ·have d3:(k==rk)=false:=by simpa using c3
     simp only[d3,cF,c3,if_false]
     by_cases c4:rk=5
     ·subst c4
      simp only[beq_self_eq_true,cT,true_and]
      by_cases c5:k=4
      ·subst c5;simp[hw,hb2]
      ·have d5:(k==4)=false:=by simpa using c5
       simp[d5,c5,hw]
     ·have d4:(rk==5)=false:=by simpa using c4
      simp[d4,c4,hw])
  (fun n s h hi=>by have:=φGp r.1 r.2.1 s l[n];omega)
  (fun rec s hi=>by simp[ψ1g.l0]) [] (κB _)
 have hk:lp ψ1g.l0 (r,[],l,(l.length:Int),0)=_:=hk
 unfold ψ1g.f
 rw[hk];rfl
def putD (dir:List φB) (p:φF):List φB:=
 if p.2.2.2.1=2 then φ1E dir p.2.2.2.2.2.1 else insB (φ1E dir p.2.2.2.2.2.1) (p.2.2.2.2.2.1,p.1,p.2.1,p.2.2.1,p.2.2.2.2.1)
def φ1q (dir:List φB) (own:List φF):List φB:=own.foldl putD dir
theorem φGZ (dir:List φB) (p:φF):(putD dir p).length≤dir.length+1:=by
 unfold putD
 have:=φ92 dir p.2.2.2.2.2.1
 split
 ·omega
 ·rw[φ8V];omega
theorem φLq (own:List φF):∀dir,(φ1q dir own).length≤dir.length+own.length:=by
 unfold φ1q
 induction own with
 | nil=>intro dir;simp
 | cons x l ih=>intro dir;have:=ih (putD dir x);have:=φGZ dir x;simp only[κN,lC];omega
def φ4i (dir:List φB) (c:Int):Int:=if 20<dir.length then 2 else c
theorem φMc (g:φ13) (own:List φF) (hg:g.1.length<100000000) (ho:own.length<100000000):ψU.f g own=some (φ1q g.1 own,g.2.1,φ4i (φ1q g.1 own) g.2.2):=by
 have hk:=φ3W (step:=ψU.l0) own putD (fun n (s:List φB)=>((s,g.2),own,(own.length:Int),(n:Int))) (fun s=>(s,g.2)) (fun n s=>s.length≤g.1.length+n) (by omega)
  (fun rec n s h hi=>by
   have hw:=φQ (show n+1<9223372036854775808 by omega)
   unfold putD
   simp only[ψU.l0,oL,h,dT,cT,φH,φM,φE h]
   by_cases c:own[n].2.2.2.1=2
   ·have d:(own[n].2.2.2.1==2)=true:=by simpa using c
    rw[if_pos c]
    simp only[d,cT,φA4 s own[n].2.2.2.2.2.1 (by omega),bS,hw]
   ·have d:(own[n].2.2.2.1==2)=false:=by simpa using c
    rw[if_neg c]
    simp only[d,cF,φEX s (own[n].2.2.2.2.2.1,own[n].1,own[n].2.1,own[n].2.2.1,own[n].2.2.2.2.1) (by omega),bS,hw])
  (fun n s h hi=>by have:=φGZ s own[n];omega)
  (fun rec s hi=>by simp[ψU.l0]) g.1 (κB _)
 have hk:lp ψU.l0 (g,own,(own.length:Int),0)=some (φ1q g.1 own,g.2):=hk
 unfold ψU.f φ4i
 rw[hk,bS]
 simp only
 by_cases c:20<(φ1q g.1 own).length
 ·have d:decide (((φ1q g.1 own).length:Int) > 20)=true:=by simp;omega
  rw[d,if_pos c];rfl
 ·have d:decide (((φ1q g.1 own).length:Int) > 20)=false:=by simp;omega
  rw[d,if_neg c];rfl
def φ1X (pre:List φF) (p:φF) (g:φ13):φ13:=
 let last:=if p.2.2.2.2.1 > g.2.1 then p.2.2.2.2.1 else g.2.1
 if p.2.2.2.1=3∨p.2.2.2.1=5 then
  let own:=ownL p.2.2.2.1 p.2.2.2.2.1 pre
  if φ3I p.2.2.2 (own.map (·.2.2.2))=true then (φ1q g.1 own,last,φ4i (φ1q g.1 own) g.2.2)
  else if p.2.2.2.1=5 then (g.1,last,1) else (g.1,last,g.2.2)
 else (g.1,last,g.2.2)
def φl:List φF→List φF→φ13→φ13
 | _,[],g=>g
 | pre,p::r,g=>if g.2.2≠0 then g else φl (pre++[p]) r (φ1X pre p g)
def φ6u (l:List φF) (g:φ13):φ13:=if g.2.2=0∧0<(ownL 5 0 l).length then (g.1,g.2.1,1) else g
def φ2A (g:φ13) (l:List φF):φ13:=φ6u l (φl [] l g)
theorem φHl (pre:List φF) (p:φF) (g:φ13):(φ1X pre p g).1.length≤g.1.length+pre.length:=by
 unfold φ1X
 have h1:=φLq (ownL p.2.2.2.1 p.2.2.2.2.1 pre) g.1
 have h2:=φCd p.2.2.2.1 p.2.2.2.2.1 pre
 simp only
 split
 ·split
  ·show (φ1q g.1 (ownL p.2.2.2.1 p.2.2.2.2.1 pre)).length≤_;omega
  ·split<;>exact Nat.le_add_right _ _
 ·exact Nat.le_add_right _ _
theorem φKl (pre:List φF) (p:φF) (g:φ13) (h:g.2.2=0) (hc:(φ1X pre p g).2.2=0):(φ1X pre p g).1.length≤max g.1.length 20:=by
 unfold φ1X at hc ⊢
 simp only at hc ⊢
 split
 ·rename_i c
  rw[if_pos c] at hc
  split
  ·rename_i c2
   rw[if_pos c2] at hc
   have hc:φ4i (φ1q g.1 (ownL p.2.2.2.1 p.2.2.2.2.1 pre)) g.2.2=0:=hc
   show (φ1q g.1 (ownL p.2.2.2.1 p.2.2.2.2.1 pre)).length≤_
   unfold φ4i at hc
   split at hc
   ·simp at hc
   ·omega
  ·split<;>exact Nat.le_max_left _ _
 ·exact Nat.le_max_left _ _
def regF (l:List φF):List φF→List φF→φ13→(List φF×φ13×φ13) ⊕ φ13
 | _,[],g=>.inl (l,([],0,0),g)
 | pre,p::r,g=>if g.2.2≠0 then .inr g else regF l (pre++[p]) r (φ1X pre p g)
theorem φFR (l:List φF):∀(r pre:List φF) (g:φ13),regF l pre r g=.inl (l,([],0,0),φl pre r g)∨(regF l pre r g=.inr (φl pre r g)∧(φl pre r g).2.2≠0)
 | [],pre,g=>.inl rfl
 | p::r,pre,g=>by
  unfold regF φl
  by_cases c:g.2.2≠0
  ·rw[if_pos c,if_pos c];exact .inr ⟨rfl,c⟩
  ·rw[if_neg c,if_neg c];exact φFR l r _ _
def φ2W (g:φ13):Prop:=g.1.length≤(if g.2.2=0 then 1000020 else 11000020)
theorem φCf {pre:List φF} {p:φF} {g:φ13} (h:φ2W g) (hc:g.2.2=0) (hp:pre.length<10000000):φ2W (φ1X pre p g):=by
 unfold φ2W at h ⊢
 rw[if_pos hc] at h
 split
 ·rename_i c
  have:=φKl pre p g hc c
  omega
 ·have:=φHl pre p g
  omega
theorem φMK (l:List φF) (hl:l.length<10000000) (g0:φ13) (hg:φ2W g0) :
  lp ψr.l0 (l,([],0,0),g0,l,(l.length:Int),0)=some (regF l [] l g0):=by
 have key:=φc (step:=ψr.l0) (fun n (g:φ13)=>(l,(([],0,0):φ13),g,l,(l.length:Int),(n:Int))) l.length (fun n g=>regF l (l.take n) (l.drop n) g) (fun _ g=>φ2W g)
  (fun rec n g hn hi ih=>by
   rcases κ1 n l.length with h | h
   ·have hw:=φQ (show n+1<9223372036854775808 by omega)
    have htl:(l.take n).length=n:=by rw[lT];omega
    rw[dG h]
    unfold regF
    obtain ⟨⟨sg,at_,ln,k,b,key,v,c,z⟩,hp⟩:∃p,l[n]=p:=⟨_,rfl⟩
    have hr:rdA φKF l (n:Int)=(sg,at_,ln,k,b,key,v,c,z):=by rw[φM,φE h,hp]
    have hx:inB (n:Int) l.length=true:=by rw[φH,decide_eq_true h]
    have ht:l.take n++[(sg,at_,ln,k,b,key,v,c,z)]=l.take (n+1):=by rw[←hp];exact (κ6 h).symm
    by_cases c0:g.2.2=0
    rotate_left
    ·rw[if_pos c0]
     have d0:(g.2.2 != 0)=true:=by simpa using c0
     simp only[ψr.l0,oL,h,dT,cT,hx,d0,bS,φm]
    rw[if_neg (fun z=>z c0),hp]
    have d0:(g.2.2 != 0)=false:=by simpa using c0
    have hs:=ih (φ1X (l.take n) (sg,at_,ln,k,b,key,v,c,z) g) h (φCf hi c0 (by omega))
    rw[ht]
    rw[←hs]
    have hg1:g.1.length<100000000:=by unfold φ2W at hi;rw[if_pos c0] at hi;omega
    have hin:(decide (0≤(n:Int)) && decide ((n:Int)≤(l.length:Int)))=true:=by simp only[bA,decide_eq_true_eq];omega
    have how:=φF2 (l.take n) (k,b,key,v,c,z) (by omega)
    have hol:=φCd k b (l.take n)
    have hft:=φEy (k,b,key,v,c,z) (ownL k b (l.take n)) (by omega)
    have hap:=fun last=>φMc (g.1,last,g.2.2) (ownL k b (l.take n)) hg1 (by omega)
    simp only[ψr.l0,oL,h,dT,cT,hx,hr,d0,cF]
    unfold φ1X
    simp only
    by_cases c3:k=3
    ·subst c3
     simp only[bne_self_eq_false,cF,bS,φb,hin,cT,tN,how,hft,true_or,if_true,show ¬((3:Int)=5) by decide,if_false,show ((3:Int)==5)=false from rfl]
     cases φ3I (3,b,key,v,c,z) ((ownL 3 b (l.take n)).map (·.2.2.2))
     ·simp only[cF,bS,φb,hw,κ2,if_false]
     ·simp only[cT,hap,bS,φb,hw,if_true]
    ·have d3:(k != 3)=true:=by simpa using c3
     simp only[d3,cT,c3,false_or]
     by_cases c5:k=5
     ·subst c5
      simp only[bne_self_eq_false,cF,bS,φb,hin,cT,tN,how,hft,if_true,beq_self_eq_true]
      cases φ3I (5,b,key,v,c,z) ((ownL 5 b (l.take n)).map (·.2.2.2))
      ·simp only[cF,bS,φb,hw,κ2,if_false]
      ·simp only[cT,hap,bS,φb,hw,if_true]
     ·have d5:(k != 5)=true:=by simpa using c5
      simp only[d5,cT,c5,if_false,bS,φm,φb,hw]
   ·have:n=l.length:=by omega
    subst this
    simp only[ψr.l0,Int.lt_irrefl,dF,cF,κb,List.drop_length,regF])
  (by omega) 0 g0 (κ3 _) hg
 exact key
theorem φIf (g:φ13) (l:List φF) (hl:l.length<10000000) (hg:φ2W g):ψr.f g l=some (φ2A g l):=by
 have hg1:g.1.length<1000000000:=by unfold φ2W at hg;split at hg<;>omega
 unfold ψr.f
 rw[φBI g.1 hg1,bS,φMK l hl (g.1,g.2) hg,bS]
 unfold φ2A φ6u
 rcases φFR l l [] g with e | ⟨e,hc⟩
 ·rw[show ((g.1,g.2):φ13)=g from rfl,e]
  simp only[φb]
  by_cases c:(φl [] l g).2.2=0
  ·have d:((φl [] l g).2.2==0)=true:=by simpa using c
   have ho:=φF2 l (5,0,[],[],0,0) (by omega)
   simp only[d,cT,ho,bS]
   by_cases c2:0<(ownL 5 0 l).length
   ·have d2:decide (((ownL 5 0 l).length:Int) > 0)=true:=by simp;omega
    rw[d2,if_pos ⟨c,c2⟩];rfl
   ·have d2:decide (((ownL 5 0 l).length:Int) > 0)=false:=by simp only[decide_eq_false_iff_not];omega
    rw[d2,if_neg (fun z=>c2 z.2)];rfl
  ·have d:((φl [] l g).2.2==0)=false:=by simpa using c
   simp only[d,cF]
   rw[if_neg (fun z=>c z.1)]
 ·rw[show ((g.1,g.2):φ13)=g from rfl,e]
  simp only[φm]
  rw[if_neg (fun z=>hc z.1)]
def φ1N:Nat→List RecT→List φ1i
 | _,[]=>[]
 | a,r::rs=>((a:Int),((fr r).length:Int),r)::φ1N (a+(fr r).length) rs
theorem φC0:∀(rs:List RecT) (a:Nat),(φ1N a rs).map (·.2.2)=rs
 | [],_=>rfl
 | r::rs,a=>by simp[φ1N,φC0 rs]
theorem φBp:∀(rs qs:List RecT) (a:Nat),φ1N a (rs++qs)=φ1N a rs++φ1N (a+(txt rs).length) qs
 | [],qs,a=>by simp[φ1N,txt]
 | r::rs,qs,a=>by
  rw[κF,φ1N,φ1N,φBp rs qs,φ3Q,lA,κF,Nat.add_assoc]
theorem φFC:∀(rs:List RecT) (p:List UInt8),(∀r∈rs,φZ r=true)→φ24 (p++txt rs) p.length=(φ1N p.length rs,p.length+(txt rs).length)
 | [],p,_=>by
  have:p++txt []=p:=by simp[txt]
  rw[this,φ8n];simp[txt,φ1N]
 | r::rs,p,h=>by
  have hs:=φ3R r
  have hb:=φ7N (t:=φ7 r) (by omega) (txt rs)
  have hd:(p++txt (r::rs)).drop p.length=frame (φ7 r)++txt rs:=by rw[κO];rfl
  have hl:=φ6T r
  have hrr:=φBc (h r κ0)
  rw[φ5E (n:=(fr r).length) (by rw[hd,hb];rfl) hl.1 (by rw[φ3Q];simp only[lA];omega) (by rw[hd,hb];simp only;rw[hrr])]
  have ih:=φFC rs (p++fr r) (fun x hx=>h x (mC _ hx))
  rw[aA,lA] at ih
  rw[hd,hb]
  simp only[hrr]
  have e:p++txt (r::rs)=p++(fr r++txt rs):=rfl
  rw[e,ih]
  simp only[φ1N,φ3Q,lA,Nat.add_assoc]
theorem φ9C {rs:List RecT} (h:∀r∈rs,φZ r=true):scan (txt rs)=(φ1N 0 rs,(txt rs).length):=by
 have:=φFC rs [] h
 simp only[κ7,lN,κT] at this
 exact this
theorem φID:∀(k:Nat) (s:List UInt8) (a:Nat),a≤s.length→s.length - a=k→∃(rs:List RecT) (q:List UInt8),(∀r∈rs,φZ r=true)∧s.drop a=txt rs++q∧φ24 s a=(φ1N a rs,a+(txt rs).length):=by
 intro k
 induction k using Nat.strongRecOn with
 | ind k ih=>
  intro s a ha hk
  by_cases c:(φN (s.drop a)).2=0∨(φ1M (φN (s.drop a)).1).2=false
  ·exact ⟨[],s.drop a,by simp,rfl,φ4s ha c⟩
  ·have c1:(φN (s.drop a)).2≠0:=fun e=>c (.inl e)
   have hr:(φ1M (φN (s.drop a)).1).2=true:=by
    cases e:(φ1M (φN (s.drop a)).1).2 with
    | true=>rfl
    | false=>exact absurd (.inr e) c
   obtain ⟨t,r,e1,e2,e3⟩:=φBH c1
   have h5:=φ7f e2
   have hlen:a+(frame t).length≤s.length:=by
    have:(s.drop a).length=(frame t++r).length:=by rw[←e1]
    rw[lD,lA] at this;omega
   have hst:=φ5E (n:=(frame t).length) (by rw[e3]) h5 hlen hr
   obtain ⟨rs,q,g1,g2,g3⟩:=ih (s.length - (a+(frame t).length)) (by omega) s (a+(frame t).length) hlen rfl
   have hd:s.drop (a+(frame t).length)=r:=by rw[←List.drop_drop,e1,κO]
   rw[e3] at hr
   rcases φ6l t with ⟨z,_⟩ | ⟨x,z,hx⟩
   ·rw[z] at hr;simp at hr
   ·refine ⟨x::rs,q,?_,?_,?_⟩
    ·intro y hy
     rcases mc.1 hy with rfl | hy
     ·exact hx.1
     ·exact g1 y hy
    ·rw[e1,φ3Q,←hd,g2]
     show frame t++(txt rs++q)=frame (φ7 x)++txt rs++q
     rw[hx.2,aA]
    ·rw[hst,g3,e3]
     have hf:(fr x).length=(frame t).length:=by show (frame (φ7 x)).length=_;rw[hx.2]
     simp only[z,φ1N,φ3Q,lA,hf,Nat.add_assoc]
theorem φIu (s:List UInt8):∃(rs:List RecT) (q:List UInt8),(∀r∈rs,φZ r=true)∧s=txt rs++q∧scan s=(φ1N 0 rs,(txt rs).length):=by
 obtain ⟨rs,q,h1,h2,h3⟩:=φID s.length s 0 (κ3 _) (by omega)
 rw[κC] at h2
 rw[κT] at h3
 exact ⟨rs,q,h1,h2,h3⟩
theorem φLB (s:List UInt8):scan (s.take (scan s).2)=scan s:=by
 obtain ⟨rs,q,h1,h2,h3⟩:=φIu s
 rw[h3]
 have:s.take (txt rs).length=txt rs:=by rw[h2,List.take_left]
 rw[this,φ9C h1]
theorem φJe {d:φ1} (h:φ3 d=true) (v:φP):(φ35 d v).length≤130:=by
 unfold φ35
 rw[if_neg (by rw[h];simp),lM]
 exact Nat.le_trans (List.length_filter_le _ _) (φ9J h).2.2
noncomputable def φo (v:φP) (d:φ1):φD:=φj (φ35 d v) (d,0)
theorem φ9I {d:φ1} (h:φ3 d=true) (v:φP):φ3 (φo v d).1=true:=φ4V _ h
theorem φFJ (w:φD) (v:φP) (h:φ3 w.1=true) (hv:v.2.length<1000000000):ψ27.f w v=some (φ4j (φ35 w.1 v) w):=by
 unfold ψ27.f
 rw[φMS w.1 v (φ1L (φ10 h) (by omega)) hv,bS]
 have hl:=φJe h v
 generalize φ35 w.1 v=names at hl ⊢
 have key:=φ3W (step:=ψ27.l0) names (fun (w:φD) n=>φ17 (φC n) w) (fun n (a:φD)=>(a,names,(names.length:Int),(n:Int))) (fun a=>a) (fun _ a=>φ3 a.1=true) (by omega)
  (fun rec n a h1 ha=>by
   have hw:=φQ (show n+1<9223372036854775808 by omega)
   simp only[ψ27.l0,oL,h1,dT,cT,φH,φM,φE h1,φ51 a names[n] (φ10 ha) (by omega),bS,hw])
  (fun n a h1 ha=>φ8S (op:=φC names[n]) ha fun k=>φ2D k _)
  (fun rec a ha=>by simp[ψ27.l0])
  w h
 have key:lp ψ27.l0 (w,names,(names.length:Int),0)=some (φ4j names w):=key
 rw[key];rfl
noncomputable def φ11 (d:φ1) (id:Int):List φF:=(scan (φ2 d (φ0 id)).1).1.map fun x=>((id,x):φF)
theorem φ5i {d:φ1} (h:φ3 d=true) (n:List UInt8):(φ2 d n).1.length≤100000:=by
 have h1:=φ4a d n (φ1L (φ10 h) (by omega))
 have h2:=φ8B h
 omega
theorem φBt {d:φ1} (h:φ3 d=true) (id:Int):(φ11 d id).length≤100000:=by
 unfold φ11
 rw[lM]
 exact Nat.le_trans (φ5h _).2 (φ5i h _)
theorem φFQ {d:φ1} (h:φ3 d=true):∀ids:List Int,(ids.flatMap (φ11 d)).length≤100000 * ids.length
 | []=>by simp
 | id::r=>by
  have:=φBt h id
  have:=φFQ h r
  simp only[List.flatMap_cons,lA,lC];omega
abbrev φ1T:φ8:=((0,[]),[],0,0,0)
noncomputable def φ94 (d:φ1):φ8×φ1×Int:=
 let w:=sPut (2,[1]) (φA (φU (φ0 1)) (φo φ19 d))
 if w.2≠0 then (φ1T,w.1,told w.2) else (((2,[1]),[],1,0,0),w.1,0)
theorem φKt:φk (2,[1])=true:=by decide
theorem φKc (d:φ1) (h:φ3 d=true):∃w:φD,ψ23.f (d,0)=some (((2,[1]),[],1,0,0),w)∧w=φ9 (sPut (2,[1]) (φA (φU (φ0 1)) (φo φ19 d))):=by
 refine ⟨_,?_,rfl⟩
 unfold ψ23.f
 have h1:=φFJ (d,0) φ19 h (by show 0<_;omega)
 have e1:φ4j (φ35 d φ19) (d,0)=φ9 (φo φ19 d):=φ9O _ (d,0)
 have hd1:=φ9I h φ19
 have h2:=φ7q (φ9 (φo φ19 d)) (φ0 1) (k:=100001) (φ10 hd1) (by omega) (by have:=φ40 1;omega)
 have e2:φ17 (φU (φ0 1)) (φ9 (φo φ19 d))=φ9 (φA (φU (φ0 1)) (φo φ19 d)):=φ2e _ _
 have hd2:φ3 (φA (φU (φ0 1)) (φo φ19 d)).1=true:=φ1j hd1 fun k=>φ31 k _
 have h3:=φA9 (φ9 (φA (φU (φ0 1)) (φo φ19 d))) (2,[1]) (k:=100001) (φ10 hd2) (by omega) (by show 1<_;decide)
 have e3:=φ9V (2,[1]) (φA (φU (φ0 1)) (φo φ19 d))
 have h1:ψ27.f (d,0) (0,[])=some (φ9 (φo φ19 d)):=h1.trans (by rw[e1])
 rw[e2] at h2
 rw[e3] at h3
 simp only[h1,bS,φ3C,h2,h3]
noncomputable def φ2N (d:φ1):List Int→Bool
 | []=>true
 | id::r=>(φ2 d (φ0 id)).2 && ((r.isEmpty || decide ((scan (φ2 d (φ0 id)).1).2=(φ2 d (φ0 id)).1.length)) && φ2N d r)
noncomputable def φ3q (d:φ1):List Int→Int→Int
 | [],z=>z
 | id::r,_=>φ3q d r ((scan (φ2 d (φ0 id)).1).2:Int)
theorem φDQ (d:φ1):∀(l:List Int) (z:Int),l≠[]→φ3q d l z=((scan (φ2 d (φ0 (φL l))).1).2:Int)
 | [],_,h=>absurd rfl h
 | [x],z,_=>by rw[φ3q,φ3q,φ8U]
 | x::y::l,z,_=>by rw[φ3q,φ8r];exact φDQ d (y::l) _ (by simp)
theorem φHn {α:Type} (l:List α) (n:Nat) (h:n<l.length):(l.drop (n+1)).isEmpty=decide (¬n<l.length - 1):=by
 apply Bool.eq_iff_iff.2
 rw[List.isEmpty_iff,List.drop_eq_nil_iff,decide_eq_true_eq];omega
end Go.Rf.G
