import Derived.Test.YtleflckegnlgcaaGreatDoorLTwiceLem2
open Option renaming bind_some→bS
open List renaming length_append→lA,append_assoc→aA,mem_cons_of_mem→mC,mem_append→mA,mem_append_right→mR,mem_append_left→mL,mem_cons→mc,drop_eq_getElem_cons→dG,length_take→lT,length_drop→lD,mem_map→mM,length_map→lM,length_cons→lC,length_nil→lN,getElem_mem→gM,map_append→mp,mem_singleton→mZ,mem_cons_self→κ0,take_succ_eq_append_getElem→κ3,map_cons→κ6,append_nil→κ7,nil_append→κ9,length_singleton→κA,drop_zero→κC,take_append_drop→κE,cons_append→κF,flatMap_append→κJ,replicate→κK,nodup_append→κL,foldl_cons→κO,drop_left→κP,nodup_cons→κQ,range'→κR,all_eq_true→κT,foldl_append→κU,take_length→κW,pairwise_cons→κY,mem_or_eq_of_mem_set→κd,pairwise_append→κe,mem_of_mem_take→κf
open Bool renaming and_eq_true→bA,eq_false_or_eq_true→bE,not_true→nZ,not_false→nF,true_and→tA,not_not→nn,false_eq_true→κ2,true_eq_false→κ8,false_and→κD,or_eq_false_iff→κI,and_true→κM,not_eq_true'→κN,false_or→κS,or_eq_true→κX
open Int renaming toNat_natCast→tN,ofNat_lt→oL,le_refl→κH
open Nat renaming lt_or_ge→κ1,zero_le→κ4,le_refl→κ5,eq_of_beq_eq_true→κB,lt_of_lt_of_le→κG,zero_add→κV,le_trans→κZ,pow_succ→κa,mod_eq_of_lt→κc
open Array renaming length_toList→κb
set_option linter.unusedVariables false
set_option linter.unusedSimpArgs false
namespace Go.Rf.G
open Go Go.Rf
set_option synthInstance.maxSize 4000
theorem φJu (m mark:Int) (l:List φZ) (w:φE) (h:φ3 w.1=true) (hl:l.length<1000000) :
  lp ψ32.l0 (m,l,mark,([],0,0,false),[],w.1,w.2,[],0,0)=some (m,mark,([],0,0,false),(φ2B m l [] w [] 0).1,(φ2B m l [] w [] 0).2.1.1,(φ2B m l [] w [] 0).2.1.2,(φ2B m l [] w [] 0).2.2):=by
 have hsn:=φ4J m
 have key:=φj (step:=ψ32.l0) (fun n (a:List φD×φE×List RecT×Nat)=>(m,l,mark,([],0,0,false),a.1,a.2.1.1,a.2.1.2,a.2.2.1,(a.2.2.2:Int),(n:Int))) l.length
  (fun n a=>(m,mark,([],0,0,false),(φ2B m (l.drop n) a.1 a.2.1 a.2.2.1 (a.2.2.2:Int)).1,(φ2B m (l.drop n) a.1 a.2.1 a.2.2.1 (a.2.2.2:Int)).2.1.1,(φ2B m (l.drop n) a.1 a.2.1 a.2.2.1 (a.2.2.2:Int)).2.1.2,(φ2B m (l.drop n) a.1 a.2.1 a.2.2.1 (a.2.2.2:Int)).2.2))
  (fun n a=>φ3 a.2.1.1=true∧a.1.length=n∧a.2.2.1.length=n∧a.2.2.2≤211 * n)
  (fun rec n a hn ha ih=>by
   obtain ⟨dir,⟨x,c⟩,recs,at_⟩:=a
   obtain ⟨ha,hdir,hrecs,hat⟩:=ha
   simp only at ha hdir hrecs hat
   rcases κ1 n l.length with h1 | h1
   ·have hw:=φS (show n+1<9223372036854775808 by omega)
    rw[dG h1]
    simp only[ψ32.l0,oL,h1,dT,cT,φJ,φN,φB h1,φ2B]
    by_cases c1:c=0
    rotate_left
    ·have d1:(c==0)=false:=by simpa using c1
     simp only[d1,cF,c1,ne_eq,not_false_eq_true,if_true]
    subst c1
    have hf:=φ5C (φ6 (φR l[n]))
    have hsr:=φ3Z (φR l[n])
    have hb:∀{α:Type} (x:α),decide ((dir.length+[x].length) * 48≤140737488355328)=true:=fun x=>decide_eq_true (φ5E (by omega))
    have hb2:∀{α:Type} (x:α),decide ((recs.length+[x].length) * 64≤140737488355328)=true:=fun x=>decide_eq_true (φ7Q (by omega))
    have ek:ψ30.f (l[n].1,l[n].2)=some (φR l[n]):=rfl
    have ea:ψ2H.f x (φ0 m) (frame (φ6 (φR l[n])))=some (φL (φ0 m) (frame (φ6 (φR l[n]))) x):=φB8 x (φ0 m) _ (φ1d (φ13 ha) (by omega)) (by omega)
    have hd:=φ3M ha (φ0 m) (frame (φ6 (φR l[n])))
    have hw2:w64 ((at_:Int)+((frame (φ6 (φR l[n]))).length:Int))=(at_:Int)+((frame (φ6 (φR l[n]))).length:Int):=φH (by omega) (by omega)
    have hcast:((at_+(frame (φ6 (φR l[n]))).length:Nat):Int)=(at_:Int)+((frame (φ6 (φR l[n]))).length:Int):=by omega
    have ih:=ih (dir++[(l[n].1,m,(at_:Int),((frame (φ6 (φR l[n]))).length:Int),l[n].2.2)],φL (φ0 m) (frame (φ6 (φR l[n]))) x,recs++[φR l[n]],at_+(frame (φ6 (φR l[n]))).length) h1 ⟨hd,by rw[lA];show _+1=_;omega,by rw[lA];show _+1=_;omega,by simp only;omega⟩
    simp only at ih
    simp only[beq_self_eq_true,cT,ek,bS,φ7n (φR l[n]),φ98 (φ6 (φR l[n])) (show (φ6 (φR l[n])).length<2 ^ 62 by omega),φ4R,ea,hb,hb2,hw2,hw,ne_eq,not_true_eq_false,if_false]
    rw[hcast] at ih
    exact ih
   ·have:n=l.length:=by omega
    subst this
    simp[ψ32.l0,φ2B])
  (by omega) 0 ([],w,[],0) (κ4 _) ⟨h,rfl,rfl,κ4 _⟩
 have key:lp ψ32.l0 (m,l,mark,([],0,0,false),[],w.1,w.2,[],0,0)=_:=key
 rw[key,κC];rfl
theorem φOn (d:φ1) (m:Int) (l:List φZ) (mark:Int) (h:φ3 d=true) (hl:l.length<1000000) :
  ∃dir,ψ32.f d m l mark=some ((sWM m (φY l mark) (d,0)).1,dir,told (sWM m (φY l mark) (d,0)).2)∧((sWM m (φY l mark) (d,0)).2=0→dir=φw m 0 (φY l mark)):=by
 have hsn:=φ4J m
 have h1:=φ41 (w:=(d,0)) h (φ0 m)
 have h2:=φ7P (φ0 m) (l.map φR) h1
 obtain ⟨q1,q2⟩:=φF9 m l [] (sNew (φ0 m) (d,0)) [] 0
 have hml:(l.map φR).length=l.length:=lM _
 refine ⟨(φ2B m l [] (sNew (φ0 m) (d,0)) [] 0).1,?_,?_⟩
 rotate_left
 ·intro e
  unfold sWM φY at e
  rw[φDt] at e
  rw[←q1] at e
  have:(φ2B m l [] (sNew (φ0 m) (d,0)) [] 0).2.1.2=0:=by
   revert e
   generalize (φ2B m l [] (sNew (φ0 m) (d,0)) [] 0).2.1=w
   obtain ⟨x,c⟩:=w
   intro e
   by_cases c1:c=0
   ·exact c1
   ·rw[φ2p c1,φ2p c1] at e;exact e
  rw[(q2 this).1]
  unfold φY
  rw[φ90 m _ (show ¬(5:Int)=4 by decide),κ9]
 unfold ψ32.f sWM φY
 rw[φDt]
 simp only[φ4R,bS,φGy d (φ0 m) h (by omega)]
 rw[φJu m mark l (sNew (φ0 m) (d,0)) h1 hl,bS]
 generalize φ2B m l [] (sNew (φ0 m) (d,0)) [] 0=G at *
 obtain ⟨dir,⟨x,c⟩,recs⟩:=G
 simp only at q1 q2 ⊢
 rw[←q1] at h2 ⊢
 by_cases c1:c=0
 rotate_left
 ·have d1:(c==0)=false:=by simpa using c1
  rw[φ2p c1,φ2p c1]
  simp only[d1,cF,bS,φ4i]
 subst c1
 obtain ⟨_,e2⟩:=q2 rfl
 rw[κ9] at e2
 subst e2
 have hsl:ψ3L.f (l.map φR) mark 5=some (5,mark,[],[],(l.length:Int),φ1l (l.map φR)):=by
  unfold ψ3L.f
  rw[φDP _ (by omega),bS,hml]
 have hf:=φ5C (φ6 (5,mark,[],[],(l.length:Int),φ1l (l.map φR)))
 have hsr:=φ3Z (5,mark,[],[],(l.length:Int),φ1l (l.map φR))
 have ea:ψ2H.f x (φ0 m) (frame (φ6 (5,mark,[],[],(l.length:Int),φ1l (l.map φR))))=some (φL (φ0 m) (frame (φ6 (5,mark,[],[],(l.length:Int),φ1l (l.map φR)))) x):=φB8 x (φ0 m) _ (φ1d (φ13 h2) (by omega)) (by omega)
 have h3:=φ3M h2 (φ0 m) (frame (φ6 (5,mark,[],[],(l.length:Int),φ1l (l.map φR))))
 rw[φ2R]
 simp only[beq_self_eq_true,cT,hsl,bS,φ7n,φ98 _ (show (φ6 (5,mark,[],[],(l.length:Int),φ1l (l.map φR))).length<2 ^ 62 by omega),ea]
 generalize φL (φ0 m) (frame (φ6 (5,mark,[],[],(l.length:Int),φ1l (l.map φR)))) x=w at *
 obtain ⟨y,c2⟩:=w
 by_cases c3:c2=0
 rotate_left
 ·have d1:(c2==0)=false:=by simpa using c3
  rw[φ2p c3]
  simp only[d1,cF,bS,φ4i]
 subst c3
 have ey:ψ2q.f y (φ0 m)=some (φG (φ0 m) y):=φGe y (φ0 m) (φ1d (φ13 h3) (by omega))
 rw[φ2R]
 simp only[beq_self_eq_true,cT,ey,bS,φ4i]
theorem φJO (n:List UInt8) (d:φ1):(φ2x n d).2≠2:=by
 unfold φ2x φV
 split
 ·simp
 ·split
  ·simp
  ·unfold φ28;split<;>simp
theorem φOE (n:List UInt8) (d:φ1):(φC n d).2≠2:=by
 unfold φC;split
 ·exact φJO n d
 ·simp
theorem φHc (c:Int):told c=2↔c=2:=by
 unfold told;split
 ·rename_i h;subst h;simp
 ·split
  ·rename_i h;subst h;simp
  ·split
   ·rename_i h;simp[h]
   ·rename_i h;simp[h]
noncomputable def φ1s (m:Int) (d:φ1):φE:=
 let f:=φ1R (φK m) (φ1W (φ14 m (φ2 d (φ0 m)).1).1) (d,0)
 if f.2=2 then φC (φK m) f.1 else f
noncomputable def φo (m:Int) (w:φE):φE:=if w.2≠0 then w else φ1s m w.1
theorem φKp (m:Int) (d:φ1):(φ1s m d).2≠2:=by
 unfold φ1s
 simp only
 split
 ·exact φOE _ _
 ·rename_i h;exact h
theorem φ7D (m:Int) {d:φ1} (h:φ3 d=true):φ3 (φ1s m d).1=true:=by
 have:=φ4k (w:=(d,0)) h (φK m) (φ1W (φ14 m (φ2 d (φ0 m)).1).1)
 unfold φ1s
 simp only
 split
 ·exact φ2O this _
 ·exact this
theorem φE3 (m:Int) {d:φ1} (h:φ3 d=true):(φ2 d (φ0 m)).1.length≤100000∧(φ14 m (φ2 d (φ0 m)).1).1.2.2.length≤100000:=by
 have hl:=φ13 h
 have h1:=φ4X d (φ0 m) (φ1d hl (by omega))
 have h2:=φFv m (φ2 d (φ0 m)).1
 have:=hl.2.1
 omega
theorem φJA (m:Int) (w:φE) (h:φ3 w.1=true):ψ2B.f (φA w) m=some (φA (φo m w)):=by
 obtain ⟨d,c⟩:=w
 have h:φ3 d=true:=h
 unfold ψ2B.f φo
 show (bif told c != 0 then _ else _)=_
 rw[φ6Z]
 by_cases c1:c=0
 rotate_left
 ·have d1:(c != 0)=true:=by simpa using c1
  simp only[d1,cT,c1,ne_eq,not_false_eq_true,if_true]
 subst c1
 obtain ⟨t1,t2⟩:=φE3 m (d:=d) h
 have hn:=φCV m
 have hsl:=φ83 (φ14 m (φ2 d (φ0 m)).1).1
 have hd:dlim d:=φ1d (φ13 h) (by omega)
 simp only[bne_self_eq_false,cF,ne_eq,not_true_eq_false,if_false,φ3D,bS]
 rw[show ψO.f (φA (d,0)).1 (φ0 m)=some (φ2 d (φ0 m)) from φ4j d (φ0 m) hd]
 simp only[bS,φEP m (φ2 d (φ0 m)).1 (by omega),φ8Z,φB4 (φ14 m (φ2 d (φ0 m)).1).1 (by omega)]
 rw[φF8 (φA (d,0)) (φK m) _ (φ13 h) (by omega),bS,φEH]
 unfold φ1s
 have hf:=φ4k (w:=(d,0)) h (φK m) (φ1W (φ14 m (φ2 d (φ0 m)).1).1)
 simp only
 generalize φ1R (φK m) (φ1W (φ14 m (φ2 d (φ0 m)).1).1) (d,0)=f at *
 obtain ⟨x,k⟩:=f
 have hf:φ3 x=true:=hf
 show (bif told k==2 then _ else _)=_
 by_cases c2:k=2
 ·subst c2
  have e:ψ22.f (x,0) (φK m)=some (φ1B (φC (φK m)) (x,0)):=φ5M (x,0) (φK m) (φ13 hf) (by omega)
  simp only[show (told 2==2)=true from rfl,cT,if_true]
  show (ψ22.f (x,0) (φK m)).bind _=_
  rw[e,bS]
  rw[show φ1B (φC (φK m)) (x,0)=φA (φC (φK m) x) by unfold φ1B;simp;rfl]
 ·have c3:¬told k=2:=fun e=>c2 ((φHc k).1 e)
  have d3:(told k==2)=false:=by simpa using c3
  simp only[d3,cF,c2,if_false]
def φ48 (m:Int):List (List UInt8):=[[116,101,109,112],φ0 m,φ0 (m+1),φK m]
def sOld (ids:List Int) (w:φE):φE:=ids.foldl (fun w id=>φl [φ0 id,φK id] w) w
theorem φIJ (ids:List Int):∀{w:φE},φ3 w.1=true→φ3 (sOld ids w).1=true:=by
 induction ids with
 | nil=>intro w h;exact h
 | cons n l ih=>intro w h;exact ih (φ4a [φ0 n,φK n] h)
theorem φIh (ids:List Int) {d:φ1} {c:Int} (h:c≠0):sOld ids (d,c)=(d,c):=by
 induction ids with
 | nil=>rfl
 | cons n l ih=>show sOld l (φl _ (d,c))=_;rw[φFc _ h,ih]
noncomputable def φ15 (s:φ7) (d:φ1) (l:List φZ):φ7×φ1×Int:=
 let m:=s.1.1
 let w1:=sNew (φ0 (m+1)) (sWM m (φY l (s.2.2.1 - 1)) (d,0))
 let w2:=φo m w1
 let w3:=if w2.2=0 then φA (sPut (m+2,[m,m+1]) w2) else φA w2
 if w3.2≠0 then (((m+2,s.1.2),s.2),φ1h (φ48 m) w3) else
 (((m+2,[m,m+1]),φw m 0 (φY l (s.2.2.1 - 1)),s.2.2.1,0,0),φA (sOld s.1.2 (w3.1,0)))
theorem φ7r (l:List φZ) (mark:Int):(φY l mark).length=l.length+1:=by unfold φY;simp
theorem φJJ (S:φ7) (ids:List Int) (w:φE) (h:φ3 w.1=true) (hl:ids.length<1000000) :
  lp ψ15.l0 (S,φA w,ids,(ids.length:Int),0)=some (S,φA (sOld ids w)):=by
 have key:=φ3g (step:=ψ15.l0) ids (fun (w:φE) id=>φl [φ0 id,φK id] w) (fun n (a:φE)=>(S,φA a,ids,(ids.length:Int),(n:Int))) (fun a=>(S,φA a)) (fun _ a=>φ3 a.1=true) (by omega)
  (fun rec n a h1 ha=>by
   have hw:=φS (show n+1<9223372036854775808 by omega)
   have g1:φ3 (φ9 (φC (φ0 ids[n])) a).1=true:=φ1q (op:=φC _) ha fun k=>φ2O k _
   have e1:ψ22.f (φA a) (φ0 ids[n])=some (φA (φ9 (φC (φ0 ids[n])) a)):=by rw[φ5M (φA a) _ (φ13 ha) (by omega),φ2q]
   have e2:ψ22.f (φA (φ9 (φC (φ0 ids[n])) a)) (φK ids[n])=some (φA (φ9 (φC (φK ids[n])) (φ9 (φC (φ0 ids[n])) a))):=by rw[φ5M (φA _) _ (φ13 g1) (by omega),φ2q]
   simp only[ψ15.l0,oL,h1,dT,cT,φJ,φN,φB h1,φ3D,φ8Z,e1,e2,bS,hw];rfl)
  (fun n a h1 ha=>φ4a [φ0 ids[n],φK ids[n]] ha)
  (fun rec a ha=>by simp[ψ15.l0])
  w h
 exact key
theorem φOA (s:φ7) (d:φ1) (l:List φZ) (h:φ3 d=true) (hv:φm s.1=true) (h2:s.1.1+2≤100000) (hb:1≤s.2.2.1∧s.2.2.1≤1000001) (hl:l.length<100000):ψ15.f s (d,0) l=some (φ15 s d l):=by
 obtain ⟨k1,k2,k3,k4⟩:=(φ12 s.1).1 hv
 have hkl:=φ7r l (s.2.2.1 - 1)
 have g1:=φ6P s.1.1 (φY l (s.2.2.1 - 1)) (w:=(d,0)) h
 have g2:=φ41 g1 (φ0 (s.1.1+1))
 unfold ψ15.f φ15
 simp only[show w64 (s.1.1+2)=s.1.1+2 from φH (by omega) (by omega),show w64 (s.1.1+1)=s.1.1+1 from φH (by omega) (by omega),show w64 (s.2.2.1 - 1)=s.2.2.1 - 1 from φH (by omega) (by omega),φMQ l (s.2.2.1 - 1) (by omega),bS]
 rw[show ((d,0):φE)=φA (d,0) from rfl,φMT s.1.1 (φY l (s.2.2.1 - 1)) (d,0) h (by omega) (by omega)]
 simp only[bS]
 rw[show φA (d,0)=((d,0):φE) from rfl]
 generalize sNew (φ0 (s.1.1+1)) (sWM s.1.1 (φY l (s.2.2.1 - 1)) (d,0))=w1 at *
 have g3:φ3 (φo s.1.1 w1).1=true:=by
  unfold φo;split
  ·exact g2
  ·exact φ7D _ g2
 rw[φJA s.1.1 w1 g2,bS]
 generalize φo s.1.1 w1=w2 at *
 obtain ⟨x,c⟩:=w2
 have g3:φ3 x=true:=g3
 have g4:=φ3n (w:=(x,0)) g3 (s.1.1+2,[s.1.1,s.1.1+1])
 have e3:(bif (φA (x,c)).2==0 then (ψ26.f (φA (x,c)) (s.1.1+2,[s.1.1,s.1.1+1])).bind fun t6=>some ((((s.1.1+2,s.1.2),s.2):φ7),t6,s.1.1,φw s.1.1 0 (φY l (s.2.2.1 - 1)),((s.1.1+2,[s.1.1,s.1.1+1]):φQ)) else some (((s.1.1+2,s.1.2),s.2),φA (x,c),s.1.1,φw s.1.1 0 (φY l (s.2.2.1 - 1)),(s.1.1+2,[s.1.1,s.1.1+1]))) =
   some (((s.1.1+2,s.1.2),s.2),(if c=0 then φA (sPut (s.1.1+2,[s.1.1,s.1.1+1]) (x,c)) else φA (x,c)),s.1.1,φw s.1.1 0 (φY l (s.2.2.1 - 1)),(s.1.1+2,[s.1.1,s.1.1+1])):=by
  by_cases c1:c=0
  ·subst c1
   rw[φBE (φA (x,0)) (s.1.1+2,[s.1.1,s.1.1+1]) (φ13 g3) (by omega) (by simp),φBz];rfl
  ·have c2:¬told c=0:=fun e=>c1 ((φ1F c).1 e)
   have d2:((φA (x,c)).2==0)=false:=by simpa [φA] using c2
   rw[d2];simp only[cF,c1,if_false]
 rw[e3,bS]
 have g5:φ3 (if c=0 then φA (sPut (s.1.1+2,[s.1.1,s.1.1+1]) (x,c)) else φA (x,c)).1=true:=by
  split
  ·rename_i c1;subst c1;exact g4
  ·exact g3
 simp only
 generalize (if c=0 then φA (sPut (s.1.1+2,[s.1.1,s.1.1+1]) (x,c)) else φA (x,c))=w3 at *
 obtain ⟨y,c3⟩:=w3
 have g5:φ3 y=true:=g5
 by_cases c4:c3=0
 ·subst c4
  simp only[bne_self_eq_false,cF,ne_eq,not_true_eq_false,if_false]
  rw[show ((y,0):φE)=φA (y,0) from rfl,φJJ _ s.1.2 (y,0) g5 (by omega)];rfl
 ·have d4:(c3 != 0)=true:=by simpa using c4
  simp only[d4,cT,c4,ne_eq,not_false_eq_true,if_true,φ3D,φ8Z,bS,show w64 (s.1.1+1)=s.1.1+1 from φH (by omega) (by omega)]
  rw[φDi (y,c3) [[116,101,109,112],φ0 s.1.1,φ0 (s.1.1+1),φK s.1.1] g5 (by simp)];rfl
theorem φCC (s:φ7) (d:φ1) (m c:Int) (h:φ3 d=true) (hm:0≤m∧m≤100000) (hc:c≠0):ψ2z.f s d m c=some (s,φ1h (φ48 m) (d,c)):=by
 unfold ψ2z.f φ1h
 by_cases c1:c=2
 rotate_left
 ·have d1:(c != 2)=true:=by simpa using c1
  simp only[d1,cT,c1,if_false]
 subst c1
 simp only[bne_self_eq_false,cF,if_true,φ4R,φAk,show w64 (m+1)=m+1 from φH (by omega) (by omega),bS]
 rw[φAc d [[116,101,109,112],φ0 m,φ0 (m+1),φK m] h (by simp),bS]
 show (bif (φl (φ48 m) (d,0)).2 != 0 then _ else _)=_
 rw[show φl [[116,101,109,112],φ0 m,φ0 (m+1),φK m] (d,0)=φl (φ48 m) (d,0) from rfl]
 generalize φl (φ48 m) (d,0)=r
 obtain ⟨x,k⟩:=r
 by_cases c2:k=0
 ·subst c2;rfl
 ·have d2:(k != 0)=true:=by simpa using c2
  have c3:¬told k=0:=fun e=>c2 ((φ1F k).1 e)
  have c4:¬(φA (x,k)).2=0:=c3
  simp only[d2,cT,φ4i,bS,c4,if_false];rfl
theorem φJj (S:φ7) (ids:List Int) (d:φ1) (h:φ3 d=true) (hl:ids.length<1000000) :
  lp ψ31.l0 (S,((0,[]),[],0,0,0),([],0,0,false),d,ids,0)=some (if (sOld ids (d,0)).2=0 then .inl (S,((0,[]),[],0,0,0),([],0,0,false),(sOld ids (d,0)).1) else .inr (S,(sOld ids (d,0)).1,told (sOld ids (d,0)).2)):=by
 have key:=φj (step:=ψ31.l0) (fun n (a:φ1)=>(S,((0,[]),[],0,0,0),([],0,0,false),a,ids,(n:Int))) ids.length (fun n a=>if (sOld (ids.drop n) (a,0)).2=0 then .inl (S,((0,[]),[],0,0,0),([],0,0,false),(sOld (ids.drop n) (a,0)).1) else .inr (S,(sOld (ids.drop n) (a,0)).1,told (sOld (ids.drop n) (a,0)).2)) (fun _ a=>φ3 a=true)
  (fun rec n a hn ha ih=>by
   rcases κ1 n ids.length with h1 | h1
   ·have hw:=φS (show n+1<9223372036854775808 by omega)
    have hk:=φ4a [φ0 ids[n],φK ids[n]] (w:=(a,0)) ha
    rw[dG h1]
    have es:sOld (ids[n]::ids.drop (n+1)) (a,0)=sOld (ids.drop (n+1)) (φl [φ0 ids[n],φK ids[n]] (a,0)):=rfl
    simp only[es,ψ31.l0,oL,h1,dT,cT,φJ,φN,φB h1,φ4R,φAk,φAc a [φ0 ids[n],φK ids[n]] ha (by simp),bS]
    generalize φl [φ0 ids[n],φK ids[n]] (a,0)=r at *
    obtain ⟨x,c⟩:=r
    by_cases c1:c=0
    ·subst c1
     simp only[bne_self_eq_false,cF,hw,ih x h1 hk]
    ·have d1:(c != 0)=true:=by simpa using c1
     simp only[d1,cT,φ4i,bS,φIh _ c1,c1,if_false]
   ·have:n=ids.length:=by omega
    subst this
    simp[ψ31.l0,sOld])
  (by omega) 0 d (κ4 _) h
 have key:lp ψ31.l0 (S,((0,[]),[],0,0,0),([],0,0,false),d,ids,0)=_:=key
 rw[key,κC]
theorem φAu (m:Int) (h:1≤m) (h2:m+2≤100000):φm (m+2,[m,m+1])=true:=by
 rw[φ12]
 refine ⟨?_,by simp only;omega,by simp,by simp⟩
 simp only[φ1f,κM,tA,bA,decide_eq_true_eq]
 rw[φH (by omega) (by omega)]
 omega
theorem φJQ (s:φ7) (d:φ1) (l:List φZ) (h:φ3 d=true) (hv:φm s.1=true) (h2:s.1.1+2≤100000) (hb:1≤s.2.2.1∧s.2.2.1≤1000001) (hl:l.length<100000):ψ31.f s d l=some (φ15 s d l):=by
 obtain ⟨k1,k2,k3,k4⟩:=(φ12 s.1).1 hv
 have hkl:=φ7r l (s.2.2.1 - 1)
 have hlv:=φAu s.1.1 (by omega) h2
 have hsn:=φ4J s.1.1
 have hsn1:=φ4J (s.1.1+1)
 have hhn:=φCV s.1.1
 have g1:=φ6P s.1.1 (φY l (s.2.2.1 - 1)) (w:=(d,0)) h
 obtain ⟨dir,ew,edir⟩:=φOn d s.1.1 l (s.2.2.1 - 1) h (by omega)
 unfold ψ31.f φ15
 simp only[show w64 (s.1.1+2)=s.1.1+2 from φH (by omega) (by omega),show w64 (s.1.1+1)=s.1.1+1 from φH (by omega) (by omega),show w64 (s.2.2.1 - 1)=s.2.2.1 - 1 from φH (by omega) (by omega),ew,bS,φ6Z]
 generalize sWM s.1.1 (φY l (s.2.2.1 - 1)) (d,0)=w0 at *
 obtain ⟨x0,c0⟩:=w0
 have g1:φ3 x0=true:=g1
 by_cases c1:c0=0
 rotate_left
 ·have d1:(c0 != 0)=true:=by simpa using c1
  have c2:told c0≠0:=fun e=>c1 ((φ1F c0).1 e)
  have e1:φo s.1.1 (x0,c0)=(x0,c0):=by unfold φo;rw[if_pos c1]
  rw[φDc c1,e1]
  simp only[d1,cT,c1,if_false,φCC _ x0 s.1.1 (told c0) g1 (by omega) c2,bS]
  rw[if_pos (show (φA (x0,c0)).2≠0 from c2)];rfl
 subst c1
 have edir:=edir rfl
 subst edir
 have g2:=φ41 (w:=(x0,0)) g1 (φ0 (s.1.1+1))
 simp only[bne_self_eq_false,cF,φ4R,φGy x0 (φ0 (s.1.1+1)) g1 (by omega),bS]
 generalize sNew (φ0 (s.1.1+1)) (x0,0)=w1 at *
 obtain ⟨x1,c1⟩:=w1
 have g2:φ3 x1=true:=g2
 by_cases c2:c1=0
 rotate_left
 ·have d1:(c1 != 0)=true:=by simpa using c2
  have c3:told c1≠0:=fun e=>c2 ((φ1F c1).1 e)
  have e1:φo s.1.1 (x1,c1)=(x1,c1):=by unfold φo;rw[if_pos c2]
  rw[e1]
  simp only[d1,cT,c2,if_false,φ4i,φCC _ x1 s.1.1 (told c1) g2 (by omega) c3,bS]
  rw[if_pos (show (φA (x1,c1)).2≠0 from c3)];rfl
 subst c2
 obtain ⟨t1,t2⟩:=φE3 s.1.1 (d:=x1) g2
 have hsl:=φ83 (φ14 s.1.1 (φ2 x1 (φ0 s.1.1)).1).1
 have hd:dlim x1:=φ1d (φ13 g2) (by omega)
 have g3:=φ7D s.1.1 g2
 have n2:=φKp s.1.1 x1
 have e1:φo s.1.1 (x1,0)=φ1s s.1.1 x1:=by unfold φo;rw[if_neg (by simp)]
 rw[e1]
 simp only[bne_self_eq_false,cF,φ9C x1 (φ0 s.1.1) hd,bS,φNy s.1.1 (φ2 x1 (φ0 s.1.1)).1 (by omega),φAk,φLk (φ14 s.1.1 (φ2 x1 (φ0 s.1.1)).1).1 (by omega),φEz x1 (φK s.1.1) _ (φ13 g2) (show 100001+1+(φK s.1.1).length+(φ1W (φ14 s.1.1 (φ2 x1 (φ0 s.1.1)).1).1).length≤1000000000 by omega)]
 have hf:=φ4k (w:=(x1,0)) g2 (φK s.1.1) (φ1W (φ14 s.1.1 (φ2 x1 (φ0 s.1.1)).1).1)
 have eh:φ1s s.1.1 x1=if (φ1R (φK s.1.1) (φ1W (φ14 s.1.1 (φ2 x1 (φ0 s.1.1)).1).1) (x1,0)).2=2 then φC (φK s.1.1) (φ1R (φK s.1.1) (φ1W (φ14 s.1.1 (φ2 x1 (φ0 s.1.1)).1).1) (x1,0)).1 else φ1R (φK s.1.1) (φ1W (φ14 s.1.1 (φ2 x1 (φ0 s.1.1)).1).1) (x1,0):=rfl
 generalize φ1R (φK s.1.1) (φ1W (φ14 s.1.1 (φ2 x1 (φ0 s.1.1)).1).1) (x1,0)=f at *
 obtain ⟨xf,cf⟩:=f
 have hf:φ3 xf=true:=hf
 have e4:(bif cf==2 then (ψ2y.f xf [φK s.1.1]).bind fun (t15_0,t15_1)=>some ((((s.1.1+2,s.1.2),s.2):φ7),(((0,[]),[],0,0,0):φ7),(([],0,0,false):φ1),s.1.1,t15_0,φw s.1.1 0 (φY l (s.2.2.1 - 1)),t15_1) else some (((s.1.1+2,s.1.2),s.2),((0,[]),[],0,0,0),([],0,0,false),s.1.1,xf,φw s.1.1 0 (φY l (s.2.2.1 - 1)),cf)) =
   some (((s.1.1+2,s.1.2),s.2),((0,[]),[],0,0,0),([],0,0,false),s.1.1,(φ1s s.1.1 x1).1,φw s.1.1 0 (φY l (s.2.2.1 - 1)),(φ1s s.1.1 x1).2):=by
  rw[eh]
  by_cases c5:cf=2
  ·subst c5
   rw[φAc xf [φK s.1.1] hf (by simp)]
   simp only[beq_self_eq_true,cT,bS,if_true]
   rw[show φl [φK s.1.1] (xf,0)=φC (φK s.1.1) xf by show φ9 (φC (φK s.1.1)) (xf,0)=_;rw[φ2R]]
  ·have d5:(cf==2)=false:=by simpa using c5
   simp only[d5,cF,c5,if_false]
 rw[e4,bS]
 clear e4 eh
 generalize φ1s s.1.1 x1=w2 at *
 obtain ⟨x2,c2⟩:=w2
 have g3:φ3 x2=true:=g3
 have n2:c2≠2:=n2
 by_cases c5:c2=0
 rotate_left
 ·have d1:(c2 != 0)=true:=by simpa using c5
  have c6:told c2≠0:=fun e=>c5 ((φ1F c2).1 e)
  have c7:¬told c2=2:=fun e=>n2 ((φHc c2).1 e)
  simp only[d1,cT,c5,if_false,φ4i,bS]
  rw[if_pos (show (φA (x2,c2)).2≠0 from c6)]
  unfold φ1h
  rw[if_neg (show ¬(φA (x2,c2)).2=2 from c7)];rfl
 subst c5
 have hb0:(([]:List Int).length+s.1.2.length) * 8≤140737488355328:=φ9s (by omega)
 have g4:=φ3n (w:=(x2,0)) g3 (s.1.1+2,[s.1.1,s.1.1+1])
 have ep:ψ2a.f x2 (s.1.1+2,[s.1.1,s.1.1+1])=some (φA (sPut (s.1.1+2,[s.1.1,s.1.1+1]) (x2,0))):=by
  rw[φLj _ _ (φ13 g3) (by omega) (by simp)]
  unfold φA0
  rw[if_neg (by rw[hlv,g3];simp)]
 simp only[bne_self_eq_false,cF,if_true,hb0,dT,cT,κ9,show w64 (s.1.1+2)=s.1.1+2 from φH (by omega) (by omega),show w64 (s.1.1+1)=s.1.1+1 from φH (by omega) (by omega),ep,bS]
 have g5:φ3 (φA (sPut (s.1.1+2,[s.1.1,s.1.1+1]) (x2,0))).1=true:=g4
 generalize φA (sPut (s.1.1+2,[s.1.1,s.1.1+1]) (x2,0))=w3 at *
 obtain ⟨x3,c3⟩:=w3
 have g5:φ3 x3=true:=g5
 by_cases c6:c3=0
 rotate_left
 ·have d6:(c3 != 0)=true:=by simpa using c6
  simp only[d6,cT,c6,ne_eq,not_false_eq_true,if_true,φCC _ x3 s.1.1 c3 g5 (by omega) c6,bS]
 subst c6
 simp only[bne_self_eq_false,cF,ne_eq,not_true_eq_false,if_false,φJj _ s.1.2 x3 g5 (by omega),bS]
 generalize sOld s.1.2 (x3,0)=w4
 obtain ⟨x4,c4⟩:=w4
 by_cases c7:c4=0
 ·subst c7;rfl
 ·simp only[c7,if_false,φq];rfl
theorem φA7 {c:CurT} (h:Cur c) (l:List Int) (hl:0<l.length):∃x c',ψ3B.f c l=some (x,c')∧x∈l∧Cur c':=by
 obtain ⟨x,c',e,h1,h2,_,h'⟩:=φ57 h (l.length:Int)
 have h2:=h2 (by omega)
 unfold ψ3B.f
 obtain ⟨n,rfl⟩:∃n:Nat,x=(n:Int):=⟨x.toNat,by omega⟩
 have hn:n<l.length:=by omega
 simp only[e,bS,φJ,hn,dT,cT,φN,φB hn]
 exact ⟨_,_,rfl,gM hn,h'⟩
theorem φC4 {α:Type} {l:List (List UInt8×α)} (h:srt l) {i j:Nat} (hi:i<l.length) (hj:j<l.length) (e:l[i].1=l[j].1):i=j:=by
 unfold srt at h
 rw[List.pairwise_iff_getElem] at h
 rcases Nat.lt_trichotomy i j with c | c | c
 ·have:=h i j hi hj c;rw[e,φ58] at this;simp at this
 ·exact c
 ·have:=h j i hj hi c;rw[e,φ58] at this;simp at this
theorem φ2m {d:φ1} (h:φ3 d=true) {f:φ4} (hf:f∈d.1):φ2 d f.1=(f.2.1,true):=by
 have hs:=((φ3W d).1 h).2.2.2.2.2
 unfold φ2
 rw[if_neg (by rw[h];simp)]
 rcases φv d.1 f.1 with ⟨e,hno⟩ | ⟨i,hi,e,hn⟩
 ·exact absurd rfl (hno f hf)
 ·rw[φ16 e]
  obtain ⟨j,hj,ej⟩:=List.getElem_of_mem hf
  have:i=j:=φC4 hs hi hj (by rw[hn,ej])
  subst this
  simp only
  rw[φB hi,ej]
theorem φCI {d:φ1} {n:List UInt8} (h:∀f∈d.1,f.1≠n):(φ2 d n).2=false:=by
 unfold φ2
 split
 ·rfl
 ·rcases φv d.1 n with ⟨e,hno⟩ | ⟨i,hi,e,hn⟩
  ·rw[φ1E e]
  ·exact absurd hn (h _ (gM hi))
def φ3c (n:List UInt8) (z:Int) (d:φ1):φ1×Int:=φV d (φ3v n z)
theorem φ5f {d:φ1} {act:List φ4→Int×List φ4} (h:(φV d act).2=0):φ3 d=true∧(act d.1).1=0∧(φV d act).1=((act d.1).2,(tick d).2):=by
 unfold φV at h ⊢
 split at h
 ·simp at h
 rename_i c
 split at h
 ·simp at h
 rename_i c2
 rw[if_neg c,if_neg c2]
 exact ⟨by simpa using c,h,rfl⟩
theorem φ4G {d:φ1} {n t:List UInt8} (h:(φL n t d).2=0):(φ2 d n).2=true∧φ2 (φL n t d).1 n=((φ2 d n).1++t,true):=by
 obtain ⟨k,ha,hx⟩:=φ5f h
 have hk:φ3 (φL n t d).1=true:=φ3M k n t
 have hx:(φL n t d).1=_:=hx
 unfold φ2Q at ha hx
 rcases φv d.1 n with ⟨e,_⟩ | ⟨i,hi,e,hn⟩
 ·rw[φ1E e] at ha;simp at ha
 rw[φ16 e] at ha hx
 simp only at ha hx
 split at ha
 ·simp at ha
 rename_i c
 rw[if_neg c,φB hi] at hx
 have e1:=φ2m k (gM hi)
 rw[hn] at e1
 have hm:((n,d.1[i].2.1++t,d.1[i].2.2):φ4)∈(φL n t d).1.1:=by
  rw[hx,←hn]
  exact List.mem_iff_getElem.2 ⟨i,by simpa using hi,by simp⟩
 have e2:=φ2m hk hm
 rw[e1]
 exact ⟨rfl,e2⟩
theorem φEw {d:φ1} {n:List UInt8} (h:(φ2x n d).2=0):(φ2 (φ2x n d).1 n).2=false:=by
 obtain ⟨k,ha,hx⟩:=φ5f h
 have hx:(φ2x n d).1=_:=hx
 unfold φ28 at ha hx
 rcases φv d.1 n with ⟨e,_⟩ | ⟨i,hi,e,hn⟩
 ·rw[φ1E e] at ha;simp at ha
 rw[φ16 e] at hx
 simp only at hx
 apply φCI
 rw[hx]
 intro f hf
 have:=φB9 hi (φ5k k) f hf
 rw[hn] at this
 exact this
theorem φNt {d:φ1} {a b:List UInt8} (h:(φ2W a b d).2=0):φ2 (φ2W a b d).1 b=((φ2 d a).1,true):=by
 obtain ⟨k,ha,hx⟩:=φ5f h
 have hk:φ3 (φ2W a b d).1=true:=φ8A k a b
 have hx:(φ2W a b d).1=_:=hx
 unfold φ2E at ha hx
 split at ha
 ·simp at ha
 rename_i c
 rw[if_neg c] at hx
 rcases φv d.1 a with ⟨e,_⟩ | ⟨i,hi,e,hn⟩
 ·rw[φ1E e] at ha;simp at ha
 rw[φ16 e] at hx
 simp only at hx
 have e1:=φ2m k (gM hi)
 rw[hn] at e1
 rw[e1]
 have hm:((b,d.1[i].2):φ4)∈(φ2W a b d).1.1:=by
  rw[hx]
  simp only
  split
  ·rename_i c2
   rw[←c2,←hn];exact gM hi
  ·rw[φ3F,φB hi];exact .inl rfl
 exact φ2m hk hm
theorem φHD:∀(l:List φD) (p:Option (List UInt8)),φ2d p l=true→(∀q,p=some q→∀x∈l,Op.bytesLess q x.1=true)∧srt l
 | [],p,_=>⟨fun _ _ x hx=>by simp at hx,List.Pairwise.nil⟩
 | e::l,p,h=>by
  simp only[φ2d,bA] at h
  obtain ⟨h1,h2⟩:=φHD l (some e.1) h.2.2
  refine ⟨fun q hq x hx=>?_,List.Pairwise.cons (h1 e.1 rfl) h2⟩
  subst hq
  have hqe:Op.bytesLess q e.1=true:=h.2.1
  rcases mc.1 hx with c | hx
  ·rw[c];exact hqe
  ·exact φ7g _ _ _ hqe (h1 e.1 rfl x hx)
theorem φ5m {l:List φD} (h:φ1v l=true):srt l:=by
 unfold φ1v at h
 simp only[bA] at h
 exact (φHD l none h.1).2
theorem φI1 {l:List φD} (h:srt l) {e:φD} (he:e∈l):φ22 l e.1=(e,true):=by
 unfold φ22
 have hf:(l.find? fun x=>x.1==e.1)=some e:=by
  induction l with
  | nil=>simp at he
  | cons x l ih=>
   have h2:=κY.1 h
   rw[List.find?_cons]
   rcases mc.1 he with c | he
   ·subst c;simp
   ·have:(x.1==e.1)=false:=by simpa using φ6N (h2.1 e he)
    rw[this]
    exact ih h2.2 he
 rw[hf]
theorem φML {l:List φD} {key:List UInt8} (h:∀e∈l,e.1≠key):(φ22 l key).2=false:=by
 unfold φ22
 have hf:(l.find? fun x=>x.1==key)=none:=by
  rw[List.find?_eq_none]
  intro e he
  simpa using h e he
 rw[hf]
theorem φHC {s:φ7} {d:φ1} (h:φh s d=true):∀e∈s.2.1,φ24 d s.2.2.1 e=true:=by
 unfold φh at h
 simp only[bA,κT] at h
 exact h.2.2.2.2.2
theorem φ7t {s:φ7} {d:φ1} (h:φh s d=true) {e:φD} (he:e∈s.2.1):(getP s d e.1).2=0∧(getP s d e.1).1.1=e.1:=by
 obtain ⟨q1,q2,q3,q4,q5⟩:=φ5r h
 have hs:=φ5m q3
 have k:=φHC h e he
 unfold φ24 at k
 simp only[bA,κX,beq_iff_eq] at k
 unfold getP
 rw[φI1 hs he]
 simp only[κ8,if_false]
 rw[if_pos ⟨k.1,k.2.1,k.2.2.1⟩]
 exact ⟨rfl,rfl⟩
theorem φEv {s:φ7} {d:φ1} {key:List UInt8} (h:∀e∈s.2.1,e.1≠key):getP s d key=(([],[],0),8):=by
 unfold getP
 rw[if_pos (φML h)]
theorem φHj {s:φ7} {d:φ1}:∀(l:List φD) (acc:List φZ),(∀e∈l,(getP s d e.1).2=0)→φ1Z s d l acc=(acc++l.map fun e=>(getP s d e.1).1,0)
 | [],acc,_=>by simp[φ1Z]
 | e::r,acc,h=>by
  unfold φ1Z
  rw[if_neg (by rw[h e κ0];simp),φHj r _ fun x hx=>h x (mC _ hx)]
  simp
theorem φGE {s:φ7} {d:φ1} (h:φh s d=true):φW s d=(s.2.1.map fun e=>(getP s d e.1).1,0):=by
 unfold φW
 rw[φHj s.2.1 [] fun e he=>(φ7t h he).1]
 simp
theorem φ7E (n:Int) (h:0≤n∧n≤100000):φ3 (([],n,-1,false):φ1)=true:=by
 rw[φ3W];exact ⟨h,(show (-1:Int)≤-1∧(-1:Int)≤100000 by decide),(show 0≤130 by decide),h.1,by simp,List.Pairwise.nil⟩
theorem φ9G {d:φ1} {n:List UInt8} (h:∀f∈d.1,f.1≠n):φ2 d n=([],false):=by
 unfold φ2
 split
 ·rfl
 ·rcases φv d.1 n with ⟨e,hno⟩ | ⟨i,hi,e,hn⟩
  ·rw[φ1E e]
  ·exact absurd hn (h _ (gM hi))
theorem φGR {d e:φ1} (hd:φ3 d=true) (he:φ3 e=true) (n:List UInt8) (hm:∀t,(∃s,((n,t,s):φ4)∈d.1)↔∃s,((n,t,s):φ4)∈e.1):φ2 e n=φ2 d n:=by
 by_cases c:∃t s,((n,t,s):φ4)∈d.1
 ·obtain ⟨t,s,hs⟩:=c
  obtain ⟨s',hs'⟩:=(hm t).1 ⟨s,hs⟩
  have e1:=φ2m hd hs
  have e2:=φ2m he hs'
  exact e2.trans e1.symm
 ·have h1:∀f∈d.1,f.1≠n:=fun f hf e=>c ⟨f.2.1,f.2.2,by rw[←e];exact hf⟩
  have h2:∀f∈e.1,f.1≠n:=fun f hf e'=>by
   obtain ⟨s,hs⟩:=(hm f.2.1).2 ⟨f.2.2,by rw[←e'];exact hf⟩
   exact c ⟨_,_,hs⟩
  rw[φ9G h1,φ9G h2]
theorem φ5u {d:φ1} {act:List φ4→Int×List φ4} (h:φ3 d=true) (hk:φ3 (φV d act).1=true) (n:List UInt8) (hm:∀t,(∃s,((n,t,s):φ4)∈d.1)↔∃s,((n,t,s):φ4)∈(act d.1).2):φ2 (φV d act).1 n=φ2 d n:=by
 refine φGR h hk n fun t=>?_
 have hx:(φV d act).1.1=d.1∨(φV d act).1.1=(act d.1).2:=by
  unfold φV
  split
  ·exact .inl rfl
  ·split
   ·exact .inl rfl
   ·exact .inr rfl
 rcases hx with e | e
 ·rw[e]
 ·rw[e];exact hm t
theorem φ6j {l:List φ4} {i:Nat} (hi:i<l.length) {f:φ4} (hf:f.1=l[i].1) {x:φ4} (hx:x.1≠l[i].1):x∈l.set i f↔x∈l:=by
 constructor
 ·intro h
  rcases κd h with h | e
  ·exact h
  ·rw[e] at hx;exact absurd hf hx
 ·intro h
  obtain ⟨j,hj,e⟩:=List.getElem_of_mem h
  have hij:i≠j:=fun c=>by subst c;rw[e] at hx;exact hx rfl
  exact List.mem_iff_getElem.2 ⟨j,by simpa using hj,by rw[List.getElem_set,if_neg hij];exact e⟩
theorem φ6q {l:List φ4} {i:Nat} (hi:i<l.length) {x:φ4} (hx:x.1≠l[i].1):x∈φc l i↔x∈l:=by
 constructor
 ·intro h;exact (φ5Y l i).subset h
 ·intro h
  rw[φ9S hi] at h
  unfold φc
  rcases mA.1 h with h | h
  ·exact mL _ h
  ·rcases mc.1 h with e | h
   ·rw[e] at hx;exact absurd rfl hx
   ·exact mR _ h
theorem φOl {d:φ1} (h:φ3 d=true) {m n:List UInt8} (hne:n≠m):φ2 (φ2x m d).1 n=φ2 d n:=by
 refine φ5u h (φ8L h m) n fun t=>?_
 unfold φ28
 rcases φv d.1 m with ⟨e,_⟩ | ⟨i,hi,e,hn⟩
 ·rw[φ1E e]
 ·rw[φ16 e]
  simp only
  constructor
  ·rintro ⟨s,hs⟩;exact ⟨s,(φ6q hi (by rw[hn];exact hne)).2 hs⟩
  ·rintro ⟨s,hs⟩;exact ⟨s,(φ6q hi (by rw[hn];exact hne)).1 hs⟩
theorem φ5K {d:φ1} (h:φ3 d=true) {m n:List UInt8} (hne:n≠m):φ2 (φC m d).1 n=φ2 d n:=by
 unfold φC;split
 ·exact φOl h hne
 ·rfl
theorem φAR {d:φ1} (h:φ3 d=true) {m n:List UInt8} (hne:n≠m):φ2 (φX m d).1 n=φ2 d n:=by
 refine φ5u h (φ2t h m) n fun t=>?_
 unfold φ2b
 split
 ·exact Iff.rfl
 split
 ·exact Iff.rfl
 split
 ·exact Iff.rfl
 ·constructor
  ·rintro ⟨s,hs⟩;exact ⟨s,(φ3F _ _ _).2 (.inr hs)⟩
  ·rintro ⟨s,hs⟩
   rcases (φ3F _ _ _).1 hs with e | hs
   ·exact absurd (congrArg (·.1) e) hne
   ·exact ⟨s,hs⟩
theorem φ5o {d:φ1} (h:φ3 d=true) {m n t0:List UInt8} (hne:n≠m):φ2 (φL m t0 d).1 n=φ2 d n:=by
 refine φ5u h (φ3M h m t0) n fun t=>?_
 unfold φ2Q
 rcases φv d.1 m with ⟨e,_⟩ | ⟨i,hi,e,hn⟩
 ·rw[φ1E e]
 ·rw[φ16 e]
  simp only
  split
  ·exact Iff.rfl
  ·rw[φB hi]
   constructor
   ·rintro ⟨s,hs⟩;exact ⟨s,(φ6j (f:=(d.1[i].1,d.1[i].2.1++t0,d.1[i].2.2)) hi rfl (by rw[hn];exact hne)).2 hs⟩
   ·rintro ⟨s,hs⟩;exact ⟨s,(φ6j (f:=(d.1[i].1,d.1[i].2.1++t0,d.1[i].2.2)) hi rfl (by rw[hn];exact hne)).1 hs⟩
theorem φ2D {d:φ1} (h:φ3 d=true) (m n:List UInt8):φ2 (φG m d).1 n=φ2 d n:=by
 refine φ5u h (φ3I h m) n fun t=>?_
 unfold φ27
 rcases φv d.1 m with ⟨e,_⟩ | ⟨i,hi,e,hn⟩
 ·rw[φ1E e]
 ·rw[φ16 e]
  simp only
  rw[φB hi]
  by_cases hne:n=m
  ·subst hne
   have hs:=((φ3W d).1 h).2.2.2.2.2
   have uniq:∀t s,((n,t,s):φ4)∈d.1→d.1[i]=(n,t,s):=fun t s hx=>by
    obtain ⟨j,hj,ej⟩:=List.getElem_of_mem hx
    have:i=j:=φC4 hs hi hj (by rw[hn,ej])
    subst this;exact ej
   constructor
   ·rintro ⟨s,hx⟩
    refine ⟨(d.1[i].2.1.length:Int),List.mem_iff_getElem.2 ⟨i,by simpa using hi,?_⟩⟩
    rw[List.getElem_set_self,uniq t s hx]
   ·rintro ⟨s,hx⟩
    rcases κd hx with hx | e
    ·exact ⟨s,hx⟩
    ·have e1:t=d.1[i].2.1:=congrArg (·.2.1) e
     refine ⟨d.1[i].2.2,?_⟩
     rw[e1,←hn];exact gM hi
  ·constructor
   ·rintro ⟨s,hs⟩;exact ⟨s,(φ6j (f:=(d.1[i].1,d.1[i].2.1,(d.1[i].2.1.length:Int))) hi rfl (by rw[hn];exact hne)).2 hs⟩
   ·rintro ⟨s,hs⟩;exact ⟨s,(φ6j (f:=(d.1[i].1,d.1[i].2.1,(d.1[i].2.1.length:Int))) hi rfl (by rw[hn];exact hne)).1 hs⟩
theorem φFb {l:List φ4} {b:List UInt8} {x:φ4} (hx:x.1≠b):x∈φ1b l b↔x∈l:=by
 unfold φ1b
 rcases φv l b with ⟨e,_⟩ | ⟨i,hi,e,hn⟩
 ·rw[φ1E e]
 ·rw[φ16 e];exact φ6q hi (by rw[hn];exact hx)
theorem φKs {d:φ1} (h:φ3 d=true) {a b n:List UInt8} (h1:n≠a) (h2:n≠b):φ2 (φ2W a b d).1 n=φ2 d n:=by
 refine φ5u h (φ8A h a b) n fun t=>?_
 unfold φ2E
 split
 ·exact Iff.rfl
 rcases φv d.1 a with ⟨e,_⟩ | ⟨i,hi,e,hn⟩
 ·rw[φ1E e]
 ·rw[φ16 e]
  simp only
  split
  ·exact Iff.rfl
  ·constructor
   ·rintro ⟨s,hs⟩;exact ⟨s,(φ3F _ _ _).2 (.inr ((φFb h2).2 ((φ6q hi (by rw[hn];exact h1)).2 hs)))⟩
   ·rintro ⟨s,hs⟩
    rcases (φ3F _ _ _).1 hs with e | hs
    ·exact absurd (congrArg (·.1) e) h2
    ·exact ⟨s,(φ6q hi (by rw[hn];exact h1)).1 ((φFb h2).1 hs)⟩
theorem φ2k {w:φE} {op:φ1→φ1×Int} {n:List UInt8} (ho:φ2 (op w.1).1 n=φ2 w.1 n):φ2 (φ9 op w).1 n=φ2 w.1 n:=by
 unfold φ9;split
 ·exact ho
 ·rfl
theorem φ6G {w:φE} (h:φ3 w.1=true) {m n:List UInt8} (hne:n≠m):φ2 (sNew m w).1 n=φ2 w.1 n:=by
 have h1:φ3 (φ9 (φC m) w).1=true:=φ1q (op:=φC m) h fun k=>φ2O k m
 unfold sNew
 rw[φ2k (op:=φX m) (φAR h1 hne),φ2k (op:=φC m) (φ5K h hne)]
theorem φ5J {w:φE} (h:φ3 w.1=true) {m n t:List UInt8} (hne:n≠m):φ2 (φ1R m t w).1 n=φ2 w.1 n:=by
 have h2:φ3 (sNew m w).1=true:=φ41 h m
 have h3:φ3 (φ9 (φL m t) (sNew m w)).1=true:=φ1q (op:=φL m t) h2 fun k=>φ3M k m t
 show φ2 (φ9 (φG m) (φ9 (φL m t) (sNew m w))).1 n=_
 rw[φ2k (op:=φG m) (φ2D h3 m n),φ2k (op:=φL m t) (φ5o h2 hne),φ6G h hne]
abbrev φ1H:List UInt8:=[116,101,109,112]
abbrev φb:List UInt8:=[108,105,118,101]
theorem φ7l {w:φE} (h:φ3 w.1=true) (v:φQ) {n:List UInt8} (h1:n≠φ1H) (h2:n≠φb):φ2 (sPut v w).1 n=φ2 w.1 n:=by
 have h3:=φ4k h φ1H (φn v)
 unfold sPut
 rw[φ2k (op:=φ2W φ1H φb) (φKs h3 h1 h2),φ5J h h1]
theorem φ89 {n:List UInt8}:∀(names:List (List UInt8)) {w:φE},φ3 w.1=true→(∀m∈names,n≠m)→φ2 (φl names w).1 n=φ2 w.1 n
 | [],w,_,_=>rfl
 | m::l,w,h,hne=>by
  have h1:φ3 (φ9 (φC m) w).1=true:=φ1q (op:=φC m) h fun k=>φ2O k m
  show φ2 (φl l (φ9 (φC m) w)).1 n=_
  rw[φ89 l h1 fun x hx=>hne x (mC _ hx),φ2k (op:=φC m) (φ5K h (hne m κ0))]
theorem φ9D {names:List (List UInt8)} {w:φE} {n:List UInt8} (h:φ3 w.1=true) (hne:∀m∈names,n≠m):φ2 (φ1h names w).1 n=φ2 w.1 n:=by
 have:=φ89 (n:=n) names (w:=(w.1,0)) h hne
 unfold φ1h;split
 ·split
  ·exact this
  ·exact this
 ·rfl
theorem φ9f {d:φ1} {n:List UInt8} (h:(φX n d).2=0):φ2 (φX n d).1 n=([],true):=by
 obtain ⟨k,ha,hx⟩:=φ5f h
 have hk:φ3 (φX n d).1=true:=φ2t k n
 have hx:(φX n d).1=_:=hx
 unfold φ2b at ha hx
 split at ha
 ·simp at ha
 rename_i c1
 rw[if_neg c1] at hx
 split at ha
 ·simp at ha
 rename_i c2
 rw[if_neg c2] at hx
 split at ha
 ·simp at ha
 rename_i c3
 rw[if_neg c3] at hx
 have hm:((n,[],0):φ4)∈(φX n d).1.1:=by rw[hx];exact (φ3F _ _ _).2 (.inl rfl)
 exact φ2m hk hm
theorem φAK:∀(k a b:Nat),a<k→Lib.decDigits a=Lib.decDigits b→a=b
 | 0,a,b,h,_=>by omega
 | k+1,a,b,h,e=>by
  have last:∀n:Nat,(Lib.decDigits n).getLast?=some (UInt8.ofNat (48+n % 10)):=fun n=>by
   by_cases c:n<10
   ·rw[Lib.decDigits_one c,κc c];rfl
   ·have:=φ4A (n:=n) (by omega)
    unfold digs at this
    rw[if_neg (by omega),if_neg (by omega)] at this
    rw[this];simp
  have hm:a % 10=b % 10:=by
   have h1:=last a
   rw[e,last b] at h1
   have h2:UInt8.ofNat (48+b % 10)=UInt8.ofNat (48+a % 10):=Option.some.inj h1
   have h3:=congrArg UInt8.toNat h2
   simp only[UInt8.toNat_ofNat'] at h3
   omega
  by_cases ca:a<10
  ·by_cases cb:b<10
   ·omega
   ·exfalso
    have:=φ4A (n:=b) (by omega)
    unfold digs at this
    rw[if_neg (by omega),if_neg (by omega)] at this
    rw[this,Lib.decDigits_one ca] at e
    have hl:=congrArg List.length e
    have h0:0<(Lib.decDigits (b / 10)).length:=by
     cases hd:Lib.decDigits (b / 10) with
     | nil=>have:=last (b / 10);rw[hd] at this;simp at this
     | cons x l=>simp
    simp only[lA,lC,lN] at hl
    omega
  ·by_cases cb:b<10
   ·exfalso
    have:=φ4A (n:=a) (by omega)
    unfold digs at this
    rw[if_neg (by omega),if_neg (by omega)] at this
    rw[this,Lib.decDigits_one cb] at e
    have hl:=congrArg List.length e
    have h0:0<(Lib.decDigits (a / 10)).length:=by
     cases hd:Lib.decDigits (a / 10) with
     | nil=>have:=last (a / 10);rw[hd] at this;simp at this
     | cons x l=>simp
    simp only[lA,lC,lN] at hl
    omega
   ·have e1:=φ4A (n:=a) (by omega)
    have e2:=φ4A (n:=b) (by omega)
    unfold digs at e1 e2
    rw[if_neg (by omega),if_neg (by omega)] at e1 e2
    rw[e1,e2] at e
    have:=(List.append_inj' e rfl).1
    have:=φAK k (a / 10) (b / 10) (by omega) this
    omega
theorem φ45 {i j:Int} (hi:1≤i∧i≤100000) (hj:1≤j∧j≤100000) (h:φ0 i=φ0 j):i=j:=by
 unfold φ0 φ2I at h
 rw[if_pos hi,if_pos hj] at h
 have:=φAK (i.toNat+1) i.toNat j.toNat (by omega) (List.append_cancel_left h)
 omega
theorem φ4K (i:Int):φ0 i≠φ1H:=by
 unfold φ0 φ2I
 split
 ·intro h;have:=congrArg List.head? h;simp at this
 ·simp
theorem φ2c (i:Int):φ0 i≠φb:=by
 unfold φ0 φ2I
 split
 ·intro h;have:=congrArg List.head? h;simp at this
 ·simp
theorem φ43 (i j:Int) (hi:1≤i∧i≤100000):φ0 i≠φK j:=by
 unfold φ0 φK φ2I
 rw[if_pos hi]
 split
 ·intro h;have:=congrArg List.head? h;simp at this
 ·simp
theorem φBV {m n:List UInt8} (hne:n≠m):∀(recs:List RecT) {w:φE},φ3 w.1=true→φ2 (sApp m recs w).1 n=φ2 w.1 n
 | [],w,_=>rfl
 | r::l,w,h=>by
  have h1:φ3 (φ9 (φL m (frame (φ6 r))) w).1=true:=φ1q (op:=φL m _) h fun k=>φ3M k m _
  show φ2 (sApp m l (φ9 _ w)).1 n=_
  rw[φBV hne l h1,φ2k (op:=φL m _) (φ5o h hne)]
theorem φ8x {s:φ7} {d:φ1} (h:φ3 d=true):((rotP s d).1.1.1=s.1.1∧∀n,φ2 (rotP s d).2.1 n=φ2 d n) ∨
  ((rotP s d).1.1.1=s.1.1+1∧s.1.1<100000∧∀n,n≠φ0 s.1.1→n≠φ1H→n≠φb→φ2 (rotP s d).2.1 n=φ2 d n):=by
 have hs:=φ3I h (actN s)
 have hg:=φ2O hs (φ0 s.1.1)
 have hc:φ3 (φ9 (φX (φ0 s.1.1)) (φC (φ0 s.1.1) (φG (actN s) d).1)).1=true:=φ1q (op:=φX _) hg fun k=>φ2t k _
 have f1:∀n,φ2 (φG (actN s) d).1 n=φ2 d n:=fun n=>φ2D h _ n
 have f2:∀n,n≠φ0 s.1.1→φ2 (φ9 (φX (φ0 s.1.1)) (φC (φ0 s.1.1) (φG (actN s) d).1)).1 n=φ2 d n:=fun n hn=>by
  rw[φ2k (op:=φX _) (φAR hg hn),φ5K hs hn,f1]
 unfold rotP
 split
 ·exact .inl ⟨rfl,fun _=>rfl⟩
 rename_i c1
 simp only[not_or,Nat.not_le,Int.not_le] at c1
 split
 ·exact .inl ⟨rfl,f1⟩
 simp only
 split
 ·exact .inr ⟨rfl,c1.2,fun n h1 _ _=>f2 n h1⟩
 have hp:=φ3n (w:=((φ9 (φX (φ0 s.1.1)) (φC (φ0 s.1.1) (φG (actN s) d).1)).1,0)) hc (s.1.1+1,s.1.2++[s.1.1])
 have f3:∀n,n≠φ0 s.1.1→n≠φ1H→n≠φb→φ2 (sPut (s.1.1+1,s.1.2++[s.1.1]) ((φ9 (φX (φ0 s.1.1)) (φC (φ0 s.1.1) (φG (actN s) d).1)).1,0)).1 n=φ2 d n:=fun n h1 h2 h3=>by
  rw[φ7l (w:=((φ9 (φX (φ0 s.1.1)) (φC (φ0 s.1.1) (φG (actN s) d).1)).1,0)) hc _ h2 h3]
  exact f2 n h1
 split
 ·refine .inr ⟨rfl,c1.2,fun n h1 h2 h3=>?_⟩
  show φ2 (φ1h _ _).1 n=_
  rw[φ9D (w:=φA _) hp (fun m hm=>by
   simp only[mc,List.not_mem_nil,or_false] at hm
   rcases hm with rfl | rfl
   ·exact h2
   ·exact h1)]
  exact f3 n h1 h2 h3
 ·exact .inr ⟨rfl,c1.2,f3⟩
theorem φBu {v:φQ} (h:φm v=true):1≤φM v.2∧φM v.2<v.1∧φM v.2≤100000:=by
 obtain ⟨k1,k2,k3,k4⟩:=(φ12 v).1 h
 rw[φH (by omega) (by omega)] at k1
 have hm:φM v.2∈v.2:=by
  unfold φM
  rw[φB (show v.2.length - 1<v.2.length by omega)]
  exact gM _
 have:=φ3r _ _ k1 _ hm
 omega
theorem φ61 {n:List UInt8}:∀(ids:List Int) {w:φE},φ3 w.1=true→(∀id∈ids,n≠φ0 id∧n≠φK id)→φ2 (sOld ids w).1 n=φ2 w.1 n
 | [],w,_,_=>rfl
 | i::l,w,h,hne=>by
  have h1:=φ4a [φ0 i,φK i] h
  show φ2 (sOld l (φl [φ0 i,φK i] w)).1 n=_
  rw[φ61 l h1 fun x hx=>hne x (mC _ hx),φ89 _ h (fun m hm=>by
   simp only[mc,List.not_mem_nil,or_false] at hm
   have:=hne i κ0
   rcases hm with rfl | rfl
   ·exact this.1
   ·exact this.2)]
theorem φ3K {v:φQ} (h:φm v=true):v.2≠[]:=fun e=>by
 have:=((φ12 v).1 h).2.2.1
 rw[e] at this;simp at this
theorem φEI (l:List φD) (key:List UInt8):(φ22 l key).2=false∨((φ22 l key).2=true∧(φ22 l key).1∈l):=by
 unfold φ22
 cases h:l.find? fun e=>e.1==key with
 | none=>exact .inl rfl
 | some e=>exact .inr ⟨rfl,List.mem_of_find?_eq_some h⟩
theorem φNk {d d':φ1} {b:Int} {e:φD} (hf:φ2 d' (φ0 e.2.1)=φ2 d (φ0 e.2.1)):φ24 d' b e=φ24 d b e:=by
 unfold φ24;rw[hf]
theorem φ7H:scan []=([],0):=by
 have:=φ8E (s:=[])
 exact this
theorem φGd {d d':φ1} {z:Int} {m:Int} (hm:φ2 d' (φ0 m)=([],true)):∀(ids:List Int),(∀id∈ids,φ2 d' (φ0 id)=φ2 d (φ0 id))→φ1e d z ids=true→φ1e d' 0 (ids++[m])=true
 | [],_,_=>by
  show (φ4f d' 0 true m && true)=true
  unfold φ4f
  rw[hm]
  simp only[φ7H]
  simp
 | x::l,hf,h=>by
  unfold φ1e at h
  simp only[bA] at h
  have ih:=φGd hm l (fun id hi=>hf id (mC _ hi)) h.2
  rw[κF]
  unfold φ1e
  rw[ih,κM]
  have hx:=h.1
  unfold φ4f at hx ⊢
  rw[hf x κ0]
  simp only[bA] at hx ⊢
  refine ⟨hx.1,hx.2.1,?_⟩
  have:(l++[m]).isEmpty=false:=by cases l<;>rfl
  rw[this];rfl
theorem φ6u {s:φ7} {d:φ1} (h:φ3 d=true) (hc:(rotP s d).2.2=0):(rotP s d).1=((s.1.1+1,s.1.2++[s.1.1]),s.2.1,s.2.2.1,0,s.2.2.2.2)∧φ2 (rotP s d).2.1 (φ0 s.1.1)=([],true)∧s.1.2.length<60∧s.1.1<100000:=by
 have hs:=φ3I h (actN s)
 have hg:=φ2O hs (φ0 s.1.1)
 have hd:φ3 (φ9 (φX (φ0 s.1.1)) (φC (φ0 s.1.1) (φG (actN s) d).1)).1=true:=φ1q (op:=φX _) hg fun k=>φ2t k _
 unfold rotP at hc ⊢
 split at hc
 ·exact absurd hc (show ¬(5:Int)=0 by decide)
 rename_i c1
 split at hc
 ·rename_i c2;exact absurd ((φ1F _).1 hc) c2
 rename_i c2
 simp only at hc
 split at hc
 ·rename_i c3;exact absurd ((φ1F _).1 hc) c3
 rename_i c3
 split at hc
 ·rename_i c4
  exfalso
  revert hc
  unfold φ1h
  simp only
  split
  ·split
   ·simp
   ·rename_i c5;exact c5
  ·exact c4
 rename_i c4
 rw[if_neg c1,if_neg c2]
 simp only
 rw[if_neg c3,if_neg c4]
 simp only[not_or,Nat.not_le,Int.not_le] at c1
 refine ⟨rfl,?_,c1.1,c1.2⟩
 have c3:(φ9 (φX (φ0 s.1.1)) (φC (φ0 s.1.1) (φG (actN s) d).1)).2=0:=by simpa using c3
 show φ2 (sPut _ _).1 _=_
 rw[φ7l (w:=((φ9 (φX (φ0 s.1.1)) (φC (φ0 s.1.1) (φG (actN s) d).1)).1,0)) hd _ (φ4K _) (φ2c _)]
 show φ2 (φ9 (φX (φ0 s.1.1)) (φC (φ0 s.1.1) (φG (actN s) d).1)).1 _=_
 generalize φC (φ0 s.1.1) (φG (actN s) d).1=g at *
 obtain ⟨x,k⟩:=g
 by_cases hk:k=0
 ·subst hk
  rw[φ2R] at c3 ⊢
  exact φ9f c3
 ·rw[φ2p hk] at c3;exact absurd c3 hk
theorem φLR {s:φ7} {d:φ1} (hk:φh s d=true) (hx:∀e∈s.2.1,e.2.1≠s.1.1):(∀e∈s.2.1,φ2 (rotP s d).2.1 (φ0 e.2.1)=φ2 d (φ0 e.2.1))∧∀id∈s.1.2,φ2 (rotP s d).2.1 (φ0 id)=φ2 d (φ0 id):=by
 obtain ⟨q1,q2,q3,q4,q5⟩:=φ5r hk
 obtain ⟨k1,k2,k3,k4⟩:=(φ12 s.1).1 q2
 rw[φH (by omega) (by omega)] at k1
 have key:∀i:Int,1≤i∧i≤100000→i≠s.1.1→φ2 (rotP s d).2.1 (φ0 i)=φ2 d (φ0 i):=fun i hi hne=>by
  rcases φ8x (s:=s) q1 with ⟨_,e2⟩ | ⟨_,_,e2⟩
  ·exact e2 _
  ·exact e2 _ (fun hh=>hne (φ45 hi (by omega) hh)) (φ4K i) (φ2c i)
 refine ⟨fun e he=>key _ ?_ (hx e he),fun id hi=>key _ ?_ ?_⟩
 ·have:=(φ46 q3).2 e he
  unfold φ32 at this
  simp only[bA,decide_eq_true_eq] at this
  exact this.2.1
 ·have:=φ3r _ _ k1 id hi;omega
 ·have:=φ3r _ _ k1 id hi;omega
theorem φHy {s:φ7} {d:φ1} (hk:φh s d=true) (hx:∀e∈s.2.1,e.2.1≠s.1.1) (hc:(rotP s d).2.2=0):φh (rotP s d).1 (rotP s d).2.1=true∧segN (rotP s d).2.1 ((rotP s d).1.1.2.take 60)=segN d (s.1.2.take 60):=by
 obtain ⟨q1,q2,q3,q4,q5⟩:=φ5r hk
 obtain ⟨k1,k2,k3,k4⟩:=(φ12 s.1).1 q2
 obtain ⟨r1,r2,r3,r4,r5,r6⟩:=φ9k q1 q2
 obtain ⟨f1,f2⟩:=φLR hk hx
 obtain ⟨e1,e2,e3,e4⟩:=φ6u q1 hc
 have hent:=φHC hk
 constructor
 ·unfold φh
  have h5:=φGd (d:=d) (z:=s.2.2.2.1) e2 s.1.2 f2 q5
  rw[e1] at *
  simp only[bA,decide_eq_true_eq,κT]
  refine ⟨r1,φFU q2 e3 e4,q3,q4,h5,fun e he=>?_⟩
  rw[φNk (f1 e he)]
  exact hent e he
 ·rw[e1]
  simp only
  have t1:s.1.2.take 60=s.1.2:=List.take_of_length_le (by omega)
  have t2:(s.1.2++[s.1.1]).take 60=s.1.2++[s.1.1]:=List.take_of_length_le (by simp;omega)
  rw[t1,t2]
  unfold segN
  rw[φGZ]
  simp only[e2,lN,Nat.add_zero]
  generalize s.1.2=l at f2
  induction l with
  | nil=>rfl
  | cons x l ih=>
   simp only[sumN]
   rw[f2 x κ0,ih fun id hi=>f2 id (mC _ hi)]
theorem φ9T {t:List UInt8} (h:t.length≤200):frame t=fix4 (crcT (varT (t.length:Int)++t))++(varN t.length++t)∧(fix4 (crcT (varT (t.length:Int)++t))).length=4:=by
 unfold frame
 rw[if_neg (by omega),φ5I t.length (by omega)]
 exact ⟨rfl,φ70 (φ4o _)⟩
theorem φ7L {t:List UInt8} (h:t.length≤200) (r:List UInt8):φP (frame t++r)=(t,((frame t).length:Int)):=by
 obtain ⟨e,h4⟩:=φ9T h
 have hb:=φ9B 7 true t.length (t++r) (by omega) (by simp) (by omega)
 generalize hC:fix4 (crcT (varT (t.length:Int)++t))=C at *
 have hl:(frame t).length=4+(varN t.length).length+t.length:=by rw[e];simp only[lA,h4];omega
 have e1:(frame t++r).drop 4=varN t.length++(t++r):=by
  rw[e,aA,←h4,κP,aA]
 have e2:(frame t++r).take (4+(varN t.length).length+t.length)=frame t:=by rw[←hl,List.take_left]
 have e3:(frame t).drop (4+(varN t.length).length)=t:=by
  rw[e,show C++(varN t.length++t)=(C++varN t.length)++t by rw[aA],show 4+(varN t.length).length=(C++varN t.length).length by rw[lA,h4],κP]
 unfold φP
 rw[if_neg (by rw[lA];omega),e1,hb]
 simp only
 rw[if_neg (by rw[lA];omega),e2,e3,if_pos rfl,hl]
theorem φ9r {s:List UInt8} (h:(φP s).2≠0):∃t r,s=frame t++r∧t.length≤200∧φP s=(t,((frame t).length:Int)):=by
 have key:∃t r,s=frame t++r∧t.length≤200:=by
  unfold φP at h
  split at h
  ·exact absurd rfl h
  split at h
  ·exact absurd rfl h
  rename_i n k hr
  split at h
  ·exact absurd rfl h
  rename_i c
  split at h
  ·rename_i c2
   refine ⟨_,s.drop (4+k+n),by rw[c2,κE],?_⟩
   rw[lD,lT];omega
  ·exact absurd rfl h
 obtain ⟨t,r,e,hl⟩:=key
 exact ⟨t,r,e,hl,by rw[e];exact φ7L hl r⟩
theorem φ9V {t:List UInt8} (h:t.length≤200):5≤(frame t).length:=by
 obtain ⟨e,h4⟩:=φ9T h
 have:=(φ8w 6 t.length (by omega)).1
 rw[e];simp only[lA,h4];omega
theorem φLP {s:List UInt8} {r q:RecT} (h:φ2z s r) (k:φ2z s q):r=q:=by
 have a:=φBI h
 rw[φBI k] at a
 simp only[Option.some.injEq,Prod.mk.injEq,and_true] at a
 exact a.symm
theorem φBN {r:RecT} (h:φa r=true):φ1T (φ6 r)=(r,true):=by
 rcases φ73 (φ6 r) with ⟨_,e⟩ | ⟨q,e,hq⟩
 ·exact absurd ⟨r,h,rfl⟩ e
 ·rw[e,φLP hq ⟨h,rfl⟩]
def fr (r:RecT):List UInt8:=frame (φ6 r)
def txt (rs:List RecT):List UInt8:=(rs.map fr).flatten
theorem φ4Z (r:RecT):5≤(fr r).length∧(fr r).length≤71:=by
 have h:=φ3Z r
 refine ⟨φ9V (by omega),?_⟩
 obtain ⟨e,h4⟩:=φ9T (t:=φ6 r) (by omega)
 have:=(φ8w 0 (φ6 r).length (by omega)).2
 unfold fr
 rw[e];simp only[lA,h4];omega
theorem φ3H (r:RecT) (rs:List RecT):txt (r::rs)=fr r++txt rs:=rfl
theorem φBk (rs:List RecT) (r:RecT):txt (rs++[r])=txt rs++fr r:=by unfold txt;simp
theorem φOG (rs qs:List RecT):txt (rs++qs)=txt rs++txt qs:=by unfold txt;simp
theorem φHz:∀(rs:List RecT) (p:List UInt8),(∀r∈rs,φa r=true)→(φ2N (p++txt rs) p.length).2=p.length+(txt rs).length
 | [],p,_=>by
  have:p++txt []=p:=by simp[txt]
  rw[this,φ8E];simp[txt]
 | r::rs,p,h=>by
  have hs:=φ3Z r
  have hb:=φ7L (t:=φ6 r) (by omega) (txt rs)
  have hd:(p++txt (r::rs)).drop p.length=frame (φ6 r)++txt rs:=by rw[κP];rfl
  have hl:=φ4Z r
  rw[φ5U (n:=(fr r).length) (by rw[hd,hb];rfl) hl.1 (by rw[φ3H];simp only[lA];omega) (by rw[hd,hb];simp only;rw[φBN (h r κ0)])]
  have ih:=φHz rs (p++fr r) (fun x hx=>h x (mC _ hx))
  rw[aA,lA] at ih
  show (φ2N (p++(fr r++txt rs)) (p.length+(fr r).length)).2=_
  rw[ih,φ3H,lA];omega
theorem φDo {rs:List RecT} (h:∀r∈rs,φa r=true):(scan (txt rs)).2=(txt rs).length:=by
 have:=φHz rs [] h
 simpa [scan] using this
theorem φMJ:∀(k:Nat) (s:List UInt8) (a:Nat),a≤s.length→s.length - a=k→(φ2N s a).2=s.length→∃rs:List RecT,(∀r∈rs,φa r=true)∧s.drop a=txt rs:=by
 intro k
 induction k using Nat.strongRecOn with
 | ind k ih=>
  intro s a ha hk hw
  by_cases c:(φP (s.drop a)).2=0∨(φ1T (φP (s.drop a)).1).2=false
  ·rw[φ51 ha c] at hw
   have hw:a=s.length:=hw
   exact ⟨[],by simp,by rw[hw,List.drop_length];rfl⟩
  ·have c1:(φP (s.drop a)).2≠0:=fun e=>c (.inl e)
   have hr:(φ1T (φP (s.drop a)).1).2=true:=by
    cases e:(φ1T (φP (s.drop a)).1).2 with
    | true=>rfl
    | false=>exact absurd (.inr e) c
   obtain ⟨t,r,e1,e2,e3⟩:=φ9r c1
   have h5:=φ9V e2
   have hlen:a+(frame t).length≤s.length:=by
    have:(s.drop a).length=(frame t++r).length:=by rw[←e1]
    rw[lD,lA] at this;omega
   rw[φ5U (n:=(frame t).length) (by rw[e3]) h5 hlen hr] at hw
   obtain ⟨rs,g1,g2⟩:=ih (s.length - (a+(frame t).length)) (by omega) s (a+(frame t).length) hlen rfl hw
   have hd:s.drop (a+(frame t).length)=r:=by rw[←List.drop_drop,e1,κP]
   rw[e3] at hr
   rcases φ73 t with ⟨z,_⟩ | ⟨q,z,hq⟩
   ·rw[z] at hr;simp at hr
   ·refine ⟨q::rs,?_,?_⟩
    ·intro x hx
     rcases mc.1 hx with rfl | hx
     ·exact hq.1
     ·exact g1 x hx
    ·rw[e1,φ3H,←g2,hd]
     show _=frame (φ6 q)++r
     rw[hq.2]
def φ2Z (s:List UInt8):Prop:=(scan s).2=s.length
theorem φ8e (s:List UInt8):φ2Z s↔∃rs:List RecT,(∀r∈rs,φa r=true)∧s=txt rs:=by
 constructor
 ·intro h
  obtain ⟨rs,h1,h2⟩:=φMJ s.length s 0 (κ4 _) rfl h
  exact ⟨rs,h1,by simpa using h2⟩
 ·rintro ⟨rs,h1,rfl⟩
  exact φDo h1
theorem φG9:φ2Z []:=(φ8e []).2 ⟨[],by simp,rfl⟩
theorem φMM {s:List UInt8} {r:RecT} (h:φ2Z s) (hr:φa r=true):φ2Z (s++fr r):=by
 obtain ⟨rs,h1,rfl⟩:=(φ8e s).1 h
 refine (φ8e _).2 ⟨rs++[r],?_,(φBk rs r).symm⟩
 intro x hx
 rcases mA.1 hx with hx | hx
 ·exact h1 x hx
 ·rw[mZ.1 hx];exact hr
theorem φHK {s:List UInt8} {a n:Int} (t:List UInt8) (h:(φ1K s a n).2=true):φ1K (s++t) a n=φ1K s a n:=by
 unfold φ1K at h ⊢
 split at h
 ·rename_i c
  rw[if_pos c,if_pos (show 0≤a∧a≤((s++t).length:Int)∧1≤n∧n≤((s++t).length:Int) - a by rw[lA];omega)]
  rw[show (s++t).take (a+n).toNat=s.take (a+n).toNat from List.take_append_of_le_length (by omega)]
 ·simp at h
theorem φFT (s:List UInt8) {r:RecT} (h:φa r=true):φ1K (s++fr r) (s.length:Int) ((fr r).length:Int)=(r,true):=by
 have hl:=φ4Z r
 have hs:=φ3Z r
 unfold φ1K
 rw[if_pos (by rw[lA];omega)]
 have e1:((s.length:Int)+((fr r).length:Int)).toNat=(s++fr r).length:=by rw[lA];omega
 rw[e1,κW,tN,κP]
 have hb:=φ7L (t:=φ6 r) (by omega) []
 rw[κ7] at hb
 rw[show φP (fr r)=_ from hb]
 show (if ((fr r).length:Int)=((fr r).length:Int) then φ1T (φ6 r) else _)=_
 rw[if_pos rfl]
 exact φBN h
theorem φ91 (x:Int):φM [x]=x:=rfl
theorem φ9N (x y:Int) (l:List Int):φM (x::y::l)=φM (y::l):=by
 unfold φM
 simp only[lC,Nat.add_sub_cancel]
 rfl
theorem φ3C:∀{l:List Int},l≠[]→φM l∈l
 | [],h=>absurd rfl h
 | [x],_=>by simp[φ91]
 | x::y::l,_=>by rw[φ9N];exact mC _ (φ3C (by simp))
theorem φMs (l:List Int) (x:Int):φM (l++[x])=x:=by
 unfold φM;simp
theorem φ1t {d:φ1} {z:Int}:∀(ids:List Int),φ1e d z ids=true↔(∀id∈ids,(φ2 d (φ0 id)).2=true∧φ2Z (φ2 d (φ0 id)).1)∧(ids≠[]→z=((φ2 d (φ0 (φM ids))).1.length:Int))
 | []=>by simp[φ1e]
 | [x]=>by
  unfold φ1e φ4f φ1e φ2Z
  simp only[List.isEmpty_nil,nZ,κS,κM,bA,decide_eq_true_eq,mZ,forall_eq,φ91]
  constructor
  ·rintro ⟨h1,h2,h3⟩;exact ⟨⟨h1,h2⟩,fun _=>h3⟩
  ·rintro ⟨⟨h1,h2⟩,h3⟩;exact ⟨h1,h2,h3 (by simp)⟩
 | x::y::l=>by
  have ih:=φ1t (d:=d) (z:=z) (y::l)
  unfold φ1e φ4f
  rw[bA,ih]
  simp only[List.isEmpty_cons,nF,Bool.true_or,κM,bA,decide_eq_true_eq,φ9N]
  constructor
  ·rintro ⟨⟨h1,h2⟩,h3,h4⟩
   refine ⟨fun id hid=>?_,fun _=>h4 (by simp)⟩
   rcases mc.1 hid with rfl | hid
   ·exact ⟨h1,h2⟩
   ·exact h3 id hid
  ·rintro ⟨h3,h4⟩
   exact ⟨h3 x κ0,fun id hid=>h3 id (mC _ hid),fun _=>h4 (by simp)⟩
noncomputable def φ1G (d:φ1) (e:φD):RecT×Bool:=φ1K (φ2 d (φ0 e.2.1)).1 e.2.2.1 e.2.2.2.1
theorem φ33 {d:φ1} {b:Int} {e:φD}:φ24 d b e=true↔(φ1G d e).2=true∧((φ1G d e).1.1=1∨(φ1G d e).1.1=4)∧(φ1G d e).1.2.2.1=e.1∧(φ1G d e).1.2.1=e.2.2.2.2∧e.2.2.2.2<b:=by
 unfold φ24 φ1G
 simp only[bA,κX,beq_iff_eq,κN,decide_eq_false_iff_not,ge_iff_le,Int.not_le]
def φ3B (m:Int) (d d':φ1):Prop:=∀e:φD,1≤e.2.1→e.2.1<m→(φ1G d e).2=true→φ1G d' e=φ1G d e
theorem φ3B.trans {m m':Int} {d d' d'':φ1} (h:φ3B m d d') (h':φ3B m' d' d'') (hm:m≤m'):φ3B m d d'':=fun e h1 h2 h3=>by
 have k:=h e h1 h2 h3
 rw[h' e h1 (by omega) (by rw[k];exact h3),k]
def φ42 (s:φ7):Prop:=∀e∈s.2.1,e.2.1<s.1.1
theorem φg {s:φ7} {d:φ1}:φh s d=true↔φ3 d=true∧φm s.1=true∧φ1v s.2.1=true∧(1≤s.2.2.1∧s.2.2.1≤1000001)∧φ1e d s.2.2.2.1 s.1.2=true∧∀e∈s.2.1,φ24 d s.2.2.1 e=true:=by
 unfold φh
 simp only[bA,decide_eq_true_eq,κT]
theorem φBl {l:List φD} (h:φ1v l=true) {e:φD} (he:e∈l):1≤e.2.1∧e.2.1≤100000:=by
 have:=(φ46 h).2 e he
 unfold φ32 at this
 simp only[bA,decide_eq_true_eq] at this
 exact this.2.1
theorem φ7i {s:φ7} {d d':φ1} {m b':Int} (h:φh s d=true) (hk:φ3B m d d') (hm:∀e∈s.2.1,e.2.1<m) (hb:s.2.2.1≤b'):∀e∈s.2.1,φ24 d' b' e=true:=fun e he=>by
 obtain ⟨q1,q2,q3,q4,q5,q6⟩:=φg.1 h
 have k:=φ33.1 (q6 e he)
 have:=hk e (φBl q3 he).1 (hm e he) k.1
 rw[φ33,this]
 exact ⟨k.1,k.2.1,k.2.2.1,k.2.2.2.1,by omega⟩
theorem φH2 {s:φ7} {d:φ1} (hk:φ3 d=true) (hm:s.1.1≤100000):φ3B s.1.1 d (rotP s d).2.1:=fun e h1 h2 h3=>by
 unfold φ1G
 rcases φ8x (s:=s) hk with ⟨_,e2⟩ | ⟨_,_,e2⟩
 ·rw[e2]
 ·rw[e2 _ (fun hh=>by have:=φ45 (by omega) (by omega) hh;omega) (φ4K _) (φ2c _)]
theorem φEx {s:φ7} {d:φ1} {r:RecT} (h:φh s d=true) (hr:φa r=true) (hc:(φL (actN s) (fr r) d).2=0) :
  φh (s.1,s.2.1,s.2.2.1,s.2.2.2.1+((fr r).length:Int),s.2.2.2.2) (φL (actN s) (fr r) d).1=true∧φ3B 100001 d (φL (actN s) (fr r) d).1 ∧
  ∀k b,φ1G (φL (actN s) (fr r) d).1 (k,φM s.1.2,s.2.2.2.1,((fr r).length:Int),b)=(r,true):=by
 obtain ⟨q1,q2,q3,q4,q5,q6⟩:=φg.1 h
 obtain ⟨k1,k2,k3,k4⟩:=(φ12 s.1).1 q2
 rw[φH (by omega) (by omega)] at k1
 obtain ⟨g1,g2⟩:=(φ1t _).1 q5
 have hne:s.1.2≠[]:=φ3K q2
 have g2:=g2 hne
 obtain ⟨a1,a2⟩:=φ4G hc
 have hl:=φBu q2
 have a2:φ2 (φL (actN s) (fr r) d).1 (φ0 (φM s.1.2))=((φ2 d (φ0 (φM s.1.2))).1++fr r,true):=a2
 have hoth:∀id,1≤id∧id≤100000→id≠φM s.1.2→φ2 (φL (actN s) (fr r) d).1 (φ0 id)=φ2 d (φ0 id):=fun id h1 h2=>
  φ5o q1 (fun hh=>h2 (φ45 h1 ⟨hl.1,hl.2.2⟩ hh))
 have hkeep:φ3B 100001 d (φL (actN s) (fr r) d).1:=fun e h1 h2 h3=>by
  unfold φ1G at h3 ⊢
  by_cases c:e.2.1=φM s.1.2
  ·rw[c] at h3 ⊢;rw[a2];exact φHK _ h3
  ·rw[hoth _ ⟨h1,by omega⟩ c]
 have hents:∀e∈s.2.1,φ24 (φL (actN s) (fr r) d).1 s.2.2.1 e=true:=φ7i h hkeep (fun e he=>by have:=φBl q3 he;omega) (κH _)
 refine ⟨φg.2 ⟨φ3M q1 _ _,q2,q3,q4,?_,hents⟩,hkeep,fun k b=>?_⟩
 ·refine (φ1t _).2 ⟨fun id hid=>?_,fun _=>?_⟩
  ·have hm:=φ3r _ _ k1 id hid
   by_cases c:id=φM s.1.2
   ·rw[c,a2];exact ⟨rfl,φMM (g1 _ (φ3C hne)).2 hr⟩
   ·rw[hoth id (by omega) c];exact g1 id hid
  ·show s.2.2.2.1+_=_
   rw[a2,g2];simp
 ·unfold φ1G
  show φ1K (φ2 _ (φ0 (φM s.1.2))).1 s.2.2.2.1 _=_
  rw[a2,g2]
  exact φFT _ hr
structure NewOk (d:φ1) (m:Int) (r:RecT) (e:φD):Prop where
 key:e.1=r.2.2.1
 at_:φ1G d e=(r,true)
 seg:1≤e.2.1∧e.2.1<m∧e.2.1≤100000
 off:0≤e.2.2.1
 len:1≤e.2.2.2.1∧e.2.2.2.1≤210
 bat:e.2.2.2.2=r.2.1
theorem NewOk.keep {d d':φ1} {m m':Int} {r:RecT} {e:φD} (h:NewOk d m r e) (hk:φ3B m d d') (hm:m≤m'):NewOk d' m' r e:=
 ⟨h.key,by rw[hk e h.seg.1 h.seg.2.1 (by rw[h.at_]),h.at_],⟨h.seg.1,by have:=h.seg.2.1;omega,h.seg.2.2⟩,h.off,h.len,h.bat⟩
structure AddOk (s:φ7) (d:φ1) (s':φ7) (d':φ1):Prop where
 ok:φh s' d'=true
 dir:s'.2.1=s.2.1
 bat:s'.2.2.1=s.2.2.1
 nxt:s.1.1≤s'.1.1
 kp:φ3B s.1.1 d d'
theorem AddOk.lt {s:φ7} {d:φ1} {s':φ7} {d':φ1} (h:AddOk s d s' d') (hl:φ42 s):φ42 s':=fun e he=>by
 rw[h.dir] at he
 have:=hl e he
 have:=h.nxt
 omega
theorem AddOk.trans {s:φ7} {d:φ1} {s':φ7} {d':φ1} {s'':φ7} {d'':φ1} (h:AddOk s d s' d') (k:AddOk s' d' s'' d''):AddOk s d s'' d'':=
 ⟨k.ok,by rw[k.dir,h.dir],by rw[k.bat,h.bat],by have:=h.nxt;have:=k.nxt;omega,h.kp.trans k.kp h.nxt⟩
theorem φI0 {s:φ7} {d:φ1} (t:List UInt8) (h:φh s d=true) (hl:φ42 s) (hc:(addR s d t).2.2=0):AddOk s d (addR s d t).1 (addR s d t).2.1:=by
 obtain ⟨q1,q2,q3,q4,q5,q6⟩:=φg.1 h
 have k:=(φ12 s.1).1 q2
 unfold addR at hc ⊢
 split
 ·rename_i c
  rw[if_pos c] at hc
  obtain ⟨r1,r2,r3,r4,r5,r6⟩:=φ9k q1 q2
  have hr:=φHy h (fun e he=>by have:=hl e he;omega) hc
  have hn:=φ6u q1 hc
  exact ⟨hr.1,r3,r4,by rw[hn.1];show s.1.1≤s.1.1+1;omega,φH2 q1 k.2.1.2⟩
 ·exact ⟨h,rfl,rfl,κH _,fun e _ _ _=>rfl⟩
theorem φL0 {s:φ7} {d:φ1} {r:RecT} (h:φh s d=true) (hl:φ42 s) (hr:φa r=true) (hc:(addP s d r).2.2.1=0) :
  AddOk s d (addP s d r).1 (addP s d r).2.1∧NewOk (addP s d r).2.1 (addP s d r).1.1.1 r (addP s d r).2.2.2:=by
 have hR:=φI0 (frame (φ6 r)) h hl
 have hf:=φ4Z r
 unfold addP at hc ⊢
 generalize addR s d (frame (φ6 r))=R at *
 simp only at hc ⊢
 by_cases c:R.2.2=0
 rotate_left
 ·rw[if_pos c] at hc;exact absurd hc c
 rw[if_neg (by simpa using c)] at hc ⊢
 have hR:=hR c
 have hA:=φEx hR.ok hr
 by_cases c2:(φL (actN R.1) (frame (φ6 r)) R.2.1).2=0
 rotate_left
 ·rw[if_pos c2] at hc;exact absurd ((φ1F _).1 hc) c2
 rw[if_neg (by simpa using c2)]
 obtain ⟨a1,a2,a3⟩:=hA c2
 obtain ⟨q1,q2,q3,q4,q5,q6⟩:=φg.1 hR.ok
 have k:=(φ12 _).1 q2
 have hll:=φBu q2
 have hg:=φ8b hR.ok
 exact ⟨hR.trans ⟨a1,rfl,rfl,κH _,fun e h1 h2 h3=>a2 e h1 (by omega) h3⟩,⟨rfl,a3 _ _,⟨hll.1,hll.2.1,hll.2.2⟩,hg.s0,by show 1≤((fr r).length:Int)∧((fr r).length:Int)≤210;omega,rfl⟩⟩
theorem φDs:∀(rs:List RecT) (s:φ7) (d:φ1),φh s d=true→φ42 s→(∀r∈rs,φa r=true)→(φe rs s d).2.2.1=0 →
  AddOk s d (φe rs s d).1 (φe rs s d).2.1∧(φe rs s d).2.2.2.length=rs.length∧∀p∈rs.zip (φe rs s d).2.2.2,NewOk (φe rs s d).2.1 (φe rs s d).1.1.1 p.1 p.2
 | [],s,d,h,hl,_,_=>⟨⟨h,rfl,rfl,κH _,fun _ _ _ _=>rfl⟩,rfl,fun p hp=>by simp at hp⟩
 | r::rs,s,d,h,hl,hr,hc=>by
  have hA:=φL0 h hl (hr r κ0)
  unfold φe at hc ⊢
  by_cases c:(addP s d r).2.2.1=0
  rotate_left
  ·rw[if_pos c] at hc;exact absurd hc c
  rw[if_neg (by simpa using c)] at hc ⊢
  obtain ⟨a1,a2⟩:=hA c
  obtain ⟨b1,b2,b3⟩:=φDs rs _ _ a1.ok (a1.lt hl) (fun x hx=>hr x (mC _ hx)) hc
  refine ⟨a1.trans b1,by simp[b2],fun p hp=>?_⟩
  simp only[List.zip_cons_cons] at hp
  rcases mc.1 hp with rfl | hp
  ·exact a2.keep b1.kp b1.nxt
  ·exact b3 p hp
def mapG {α β:Type} (g:α→β) (l:List (List UInt8×α)):List (List UInt8×β):=l.map fun x=>(x.1,g x.2)
theorem φ7I {α β:Type} (g:α→β) (k:List UInt8):∀l:List (List UInt8×α),mapG g (φ1C l k)=φ1C (mapG g l) k
 | []=>rfl
 | x::l=>by
  have ih:=φ7I g k l
  unfold mapG φ1C at *
  simp only[List.filter_cons,κ6]
  by_cases c:x.1=k
  ·simp only[c,beq_self_eq_true,nZ,κ2,if_false];exact ih
  ·have:(x.1==k)=false:=by simpa using c
   simp only[this,nF,if_true,κ6];rw[ih]
theorem φCJ {α β:Type} (g:α→β) (p:List UInt8×α):∀l:List (List UInt8×α),mapG g (insB l p)=insB (mapG g l) (p.1,g p.2)
 | []=>rfl
 | x::l=>by
  have ih:=φCJ g p l
  show mapG g (insB (x::l) p)=insB ((x.1,g x.2)::mapG g l) (p.1,g p.2)
  rw[φ6O,φ6O]
  simp only
  split
  ·show (x.1,g x.2)::mapG g (insB l p)=_
   rw[ih]
  ·rfl
theorem φ6p {β:Type} (g:Int×Int×Int×Int→β) (v:PutT→β):∀(l:List (PutT×φD)) (dir:List φD),(∀p∈l,p.2.1=p.1.1∧(p.1.2.1=false→g p.2.2=v p.1)) →
  mapG g (dirW dir l)=(l.map (·.1)).foldl (fun a p=>if p.2.1=true then φ1C a p.1 else insB (φ1C a p.1) (p.1,v p)) (mapG g dir)
 | [],dir,_=>rfl
 | p::l,dir,h=>by
  have ih:=φ6p g v l (φ2l dir p) (fun q hq=>h q (mC _ hq))
  obtain ⟨h1,h2⟩:=h p κ0
  show mapG g (dirW (φ2l dir p) l)=(l.map (·.1)).foldl _ _
  rw[ih]
  congr 1
  show mapG g (φ2l dir p)=if p.1.2.1=true then φ1C (mapG g dir) p.1.1 else insB (φ1C (mapG g dir) p.1.1) (p.1.1,v p.1)
  unfold φ2l
  by_cases c:p.1.2.1=true
  ·rw[if_pos c,if_pos c,φ7I]
  ·rw[if_neg c,if_neg c,φCJ,φ7I,h1,h2 (by simpa using c)]
theorem φJV (dir:List φD) (l:List (PutT×φD)) (h:∀p∈l,p.2.1=p.1.1):(dirW dir l).length=(dirW dir ((l.map (·.1)).zip ((l.map (·.1)).map φ4E))).length:=by
 have e1:=φ6p (fun _=>()) (fun _=>()) l dir (fun p hp=>⟨h p hp,fun _=>rfl⟩)
 have e2:=φ6p (fun _=>()) (fun _=>()) ((l.map (·.1)).zip ((l.map (·.1)).map φ4E)) dir (fun p hp=>⟨by
  generalize l.map (·.1)=m at hp
  induction m with
  | nil=>simp at hp
  | cons x m ih=>
   simp only[κ6,List.zip_cons_cons] at hp
   rcases mc.1 hp with rfl | hp
   ·rfl
   ·exact ih hp,fun _=>rfl⟩)
 have e3:((l.map (·.1)).zip ((l.map (·.1)).map φ4E)).map (·.1)=l.map (·.1):=List.map_fst_zip (by simp)
 rw[e3] at e2
 have:=congrArg List.length (e1.trans e2.symm)
 simpa [mapG] using this
theorem φ7z:∀(l:List (PutT×φD)) (dir:List φD) (x:φD),x∈dirW dir l→x∈dir∨∃p∈l,x=p.2∧p.1.2.1=false
 | [],dir,x,h=>.inl h
 | p::l,dir,x,h=>by
  rcases φ7z l (φ2l dir p) x h with h | ⟨q,hq,e⟩
  ·unfold φ2l at h
   split at h
   ·exact .inl ((φ55 _ _ _).1 h).1
   ·rename_i c
    rcases (φ3F _ _ _).1 h with e | h
    ·exact .inr ⟨p,κ0,e,by simpa using c⟩
    ·exact .inl ((φ55 _ _ _).1 h).1
  ·exact .inr ⟨q,mC _ hq,e⟩
theorem φFO:∀(l:List (PutT×φD)) {dir:List φD},srt dir→srt (dirW dir l)
 | [],_,h=>h
 | p::l,dir,h=>by
  refine φFO l (dir:=φ2l dir p) ?_
  unfold φ2l
  split
  ·exact φ85 h _
  ·exact φ7w _ _ (φ85 h _) (fun x hx=>((φ55 _ _ _).1 hx).2)
theorem φHx:∀(l:List φD) (p:Option (List UInt8)),srt l→(∀e∈l,φ32 e=true)→(∀q,p=some q→∀x∈l,Op.bytesLess q x.1=true)→φ2d p l=true
 | [],_,_,_,_=>rfl
 | e::l,p,h,ho,hp=>by
  have h2:=κY.1 h
  have ih:=φHx l (some e.1) h2.2 (fun x hx=>ho x (mC _ hx)) (fun q hq x hx=>by
   have hq:e.1=q:=by simpa using hq
   rw[←hq];exact h2.1 x hx)
  unfold φ2d
  rw[ho e κ0,ih]
  cases p with
  | none=>rfl
  | some q=>simp[hp q rfl e κ0]
theorem φGG {l:List φD} (h:srt l) (ho:∀e∈l,φ32 e=true) (hl:l.length≤20):φ1v l=true:=by
 unfold φ1v
 rw[φHx l none h ho (fun q hq=>by simp at hq)]
 simpa using hl
noncomputable def φ1S (d:φ1) (x:Int×Int×Int×Int):List UInt8×Int:=
 ((φ1K (φ2 d (φ0 x.1)).1 x.2.1 x.2.2.1).1.2.2.2.1,(φ1K (φ2 d (φ0 x.1)).1 x.2.1 x.2.2.1).1.2.1)
theorem φ2n {s:φ7} {d:φ1} (h:φh s d=true):φW s d=(mapG (φ1S d) s.2.1,0):=by
 rw[φGE h]
 congr 1
 unfold mapG
 refine List.map_congr_left fun e he=>?_
 obtain ⟨q1,q2,q3,q4,q5,q6⟩:=φg.1 h
 have k:=φ33.1 (q6 e he)
 unfold φ1G at k
 unfold getP
 rw[φI1 (φ5m q3) he]
 simp only[κ8,if_false]
 rw[if_pos ⟨k.1,k.2.1,k.2.2.1⟩]
 rfl
theorem φEg {s:φ7} {d d':φ1} {m:Int} (h:φh s d=true) (hk:φ3B m d d') (hm:∀e∈s.2.1,e.2.1<m):mapG (φ1S d') s.2.1=mapG (φ1S d) s.2.1:=by
 unfold mapG
 refine List.map_congr_left fun e he=>?_
 obtain ⟨q1,q2,q3,q4,q5,q6⟩:=φg.1 h
 have k:=φ33.1 (q6 e he)
 have:=hk e (φBl q3 he).1 (hm e he) k.1
 unfold φ1G at this
 unfold φ1S
 rw[this]
theorem φLY {b:Int} {p:PutT} (hb:1≤b∧b≤1000000) (hp:φ2a p=true):φa (φ1Q b p)=true:=by
 unfold φ2a at hp
 simp only[bA,decide_eq_true_eq,κX,κN,beq_iff_eq] at hp
 obtain ⟨h1,h2,h3⟩:=hp
 have hb0:(b==0)=false:=by
  have:¬b=0:=by omega
  simpa using this
 unfold φ1Q
 split
 ·rename_i c
  unfold φa
  simp[h1,hb0];omega
 ·unfold φa
  simp[h1,h2,hb0];omega
theorem φO3 {b c z:Int} (hb:1≤b∧b≤1000000) (hc:0≤c∧c≤8) (hz:0≤z∧z≤4294967295):φa (3,b,[],[],c,z)=true:=by
 have hb0:(b==0)=false:=by
  have:¬b=0:=by omega
  simpa using this
 unfold φa
 simp[hb0];omega
theorem φ7k {b:Int} {l:List PutT} (hb:1≤b∧b≤1000000) (hl:φ2A l=true):∀r∈φ1r b l,φa r=true:=fun r hr=>by
 unfold φ2A at hl
 simp only[bA,decide_eq_true_eq,κT] at hl
 unfold φ1r at hr
 rcases mA.1 hr with hr | hr
 ·obtain ⟨p,hp,rfl⟩:=mM.1 hr
  exact φLY hb (hl.2 p hp)
 ·rw[mZ.1 hr]
  exact φO3 hb (by have:=hl.1;omega) (φ4o _)
theorem φCb {b:Int}:∀(l:List PutT) (es:List φD) (x:List RecT) (P:RecT→φD→Prop),(∀p∈(l.map (φ1Q b)++x).zip es,P p.1 p.2)→∀p∈l.zip es,P (φ1Q b p.1) p.2
 | [],es,x,P,_=>fun p hp=>by simp at hp
 | a::l,[],x,P,_=>fun p hp=>by simp at hp
 | a::l,e::es,x,P,h=>fun p hp=>by
  simp only[κ6,κF,List.zip_cons_cons] at h
  rcases mc.1 hp with rfl | hp
  ·exact h _ κ0
  ·exact φCb l es x P (fun q hq=>h q (mC _ hq)) p hp
theorem φBM {s:φ7} {d:φ1} {l:List PutT} (h:φh s d=true) (hl:φ42 s) (hp:φ2A l=true) (hb:s.2.2.1≤1000000) (hk:φ2s s.2.1 l≤20) (hc:(φ1P s d l).2.2=0) :
  φh (φ1P s d l).1 (φ1P s d l).2.1=true∧φ42 (φ1P s d l).1∧(φW (φ1P s d l).1 (φ1P s d l).2.1).1=φ1j (φW s d).1 l s.2.2.1∧(φ1P s d l).1.2.2.1=s.2.2.1+1∧(φ1P s d l).1.2.1.length=φ2s s.2.1 l:=by
 obtain ⟨q1,q2,q3,q4,q5,q6⟩:=φg.1 h
 have hents:∀e∈s.2.1,φ24 d (s.2.2.1+1) e=true:=φ7i (m:=s.1.1) h (fun e _ _ _=>rfl) hl (by omega)
 have h0:φh (s.1,s.2.1,s.2.2.1+1,s.2.2.2) d=true:=φg.2 ⟨q1,q2,q3,by show 1≤s.2.2.1+1∧s.2.2.1+1≤1000001;omega,q5,hents⟩
 have hl0:φ42 (s.1,s.2.1,s.2.2.1+1,s.2.2.2):=hl
 have hG:=φDs (φ1r s.2.2.1 l) _ d h0 hl0 (φ7k ⟨q4.1,hb⟩ hp)
 have hnum:=φ99 s.2.2.1 l
 unfold φ1P at hc ⊢
 generalize φe (φ1r s.2.2.1 l) (s.1,s.2.1,s.2.2.1+1,s.2.2.2) d=g at *
 obtain ⟨S,D,gc,es⟩:=g
 simp only at hc hG ⊢
 by_cases c:gc=0
 rotate_left
 ·rw[if_pos c] at hc;exact absurd hc c
 rw[if_neg (by simpa using c)] at hc ⊢
 obtain ⟨g1,g2,g3⟩:=hG c
 have hdir:S.2.1=s.2.1:=g1.dir
 have hbat:S.2.2.1=s.2.2.1+1:=g1.bat
 obtain ⟨p1,p2,p3,p4,p5,p6⟩:=φg.1 g1.ok
 by_cases c2:(φG (actN S) D).2=0
 rotate_left
 ·rw[if_pos c2] at hc;exact absurd ((φ1F _).1 hc) c2
 rw[if_neg (by simpa using c2)]
 simp only
 have ft:∀n,φ2 (φG (actN S) D).1 n=φ2 D n:=fun n=>φ2D p1 _ n
 have hea:∀e,φ1G (φG (actN S) D).1 e=φ1G D e:=fun e=>by unfold φ1G;rw[ft]
 have hva:∀x,φ1S (φG (actN S) D).1 x=φ1S D x:=fun x=>by unfold φ1S;rw[ft]
 have hes:∀p∈l.zip es,NewOk D S.1.1 (φ1Q s.2.2.1 p.1) p.2:=φCb l es _ (fun r e=>NewOk D S.1.1 r e) (by
  intro p hp;exact g3 p hp)
 have hlen:l.length≤es.length:=by omega
 have hz:(l.zip es).map (·.1)=l:=List.map_fst_zip hlen
 have hkey:∀p∈l.zip es,p.2.1=p.1.1:=fun p hp=>by
  rw[(hes p hp).key];unfold φ1Q;split<;>rfl
 have hkl:(dirW s.2.1 (l.zip es)).length=φ2s s.2.1 l:=by
  rw[φJV s.2.1 _ hkey,hz];rfl
 rw[hdir] at *
 have hput:∀p∈l.zip es,φ2a p.1=true:=fun p hpm=>by
  unfold φ2A at hp
  simp only[bA,decide_eq_true_eq,κT] at hp
  exact hp.2 _ (List.of_mem_zip hpm).1
 have hnew:∀p∈l.zip es,p.1.2.1=false→φ1Q s.2.2.1 p.1=(1,s.2.2.1,p.1.1,p.1.2.2,0,0):=fun p hpm hd=>by
  unfold φ1Q;rw[if_neg (by rw[hd];simp)]
 have hold:=φ7i (b':=s.2.2.1+1) h g1.kp hl (by omega)
 have hlt:∀e∈dirW s.2.1 (l.zip es),e.2.1<S.1.1:=fun e he=>by
  rcases φ7z _ _ _ he with he | ⟨p,hpm,rfl,_⟩
  ·have:=hl e he;have:=g1.nxt;have:s.1.1≤S.1.1:=this;omega
  ·exact (hes p hpm).seg.2.1
 have hdirok:φ1v (dirW s.2.1 (l.zip es))=true:=by
  refine φGG (φFO _ (φ5m q3)) (fun e he=>?_) (by rw[hkl];exact hk)
  rcases φ7z _ _ _ he with he | ⟨p,hpm,rfl,hd⟩
  ·exact (φ46 q3).2 e he
  ·have n:=hes p hpm
   have ho:=hput p hpm
   unfold φ2a at ho
   simp only[bA] at ho
   unfold φ32
   rw[hkey p hpm,ho.1,n.bat,hnew p hpm hd]
   have h1:=n.seg
   have h2:=n.off
   have h3:=n.len
   simp only[tA,bA,decide_eq_true_eq]
   exact ⟨⟨h1.1,h1.2.2⟩,h2,h3,q4.1,hb⟩
 have hent:∀e∈dirW s.2.1 (l.zip es),φ24 (φG (actN S) D).1 S.2.2.1 e=true:=fun e he=>by
  rw[φ33,hea,hbat,←φ33]
  rcases φ7z _ _ _ he with he | ⟨p,hpm,rfl,hd⟩
  ·exact hold e he
  ·have n:=hes p hpm
   rw[φ33,n.at_,n.bat,hkey p hpm,hnew p hpm hd]
   refine ⟨rfl,.inl rfl,rfl,rfl,?_⟩
   show s.2.2.1<s.2.2.1+1
   omega
 have hfin:φh (S.1,dirW s.2.1 (l.zip es),S.2.2) (φG (actN S) D).1=true:=φg.2 ⟨φ3I p1 _,p2,hdirok,p4,by
  refine (φ1t _).2 ?_
  simp only[ft]
  exact (φ1t _).1 p5,hent⟩
 refine ⟨hfin,hlt,?_,hbat,hkl⟩
 rw[φ2n hfin,φ2n h]
 show mapG (φ1S (φG (actN S) D).1) (dirW s.2.1 (l.zip es))=φ1j (mapG (φ1S d) s.2.1) l s.2.2.1
 rw[show mapG (φ1S (φG (actN S) D).1) (dirW s.2.1 (l.zip es))=mapG (φ1S D) (dirW s.2.1 (l.zip es)) by unfold mapG;simp only[hva]]
 rw[φ6p (φ1S D) (fun p=>(p.2.2,s.2.2.1)) _ _ (fun p hpm=>⟨hkey p hpm,fun hd=>by
  have n:=(hes p hpm).at_
  unfold φ1G at n
  unfold φ1S
  rw[n,hnew p hpm hd]⟩),hz,φEg h g1.kp hl]
 rfl
theorem φAi:∀(k n:Nat),n<k→(Lib.decDigits n).all φ4L=true
 | 0,n,h=>by omega
 | k+1,n,h=>by
  have hb:∀m,m<10→φ4L (UInt8.ofNat (48+m))=true:=fun m hm=>by
   unfold φ4L
   have:(UInt8.ofNat (48+m)).toNat=48+m:=by simp only[UInt8.toNat_ofNat'];omega
   rw[this]
   simp;omega
  by_cases c:n<10
  ·rw[Lib.decDigits_one c,List.all_cons,hb n c];rfl
  ·have:=φ4A (n:=n) (by omega)
   unfold digs at this
   rw[if_neg (by omega),if_neg (by omega)] at this
   rw[this,List.all_append,φAi k (n / 10) (by omega),List.all_cons,hb (n % 10) (by omega)];rfl
theorem φ5R {id:Int} (h:1≤id∧id≤100000):φ1k (φ0 id)=true:=by
 have hl:=φ4J id
 unfold φ1k
 have e:φ0 id=[115,101,103]++Lib.decDigits id.toNat:=by unfold φ0 φ2I;rw[if_pos h]
 rw[bA]
 constructor
 ·rw[e,List.all_append,φAi (id.toNat+1) id.toNat (by omega)];decide
 ·have:3≤(φ0 id).length:=by rw[e,lA];simp
  simp only[decide_eq_true_eq];omega
structure Room (c u f:Nat) (d:φ1):Prop where
 dk:φ3 d=true
 tl:d.2=((c:Int),-1,false)
 us:φI d.1≤u
 fl:d.1.length≤f
theorem Room.mono {c u f u' f':Nat} {d:φ1} (h:Room c u f d) (hu:u≤u') (hf:f≤f'):Room c u' f' d:=
 ⟨h.dk,h.tl,κZ h.us hu,κZ h.fl hf⟩
theorem φ6t {c u f u' f':Nat} {d:φ1} {act:List φ4→Int×List φ4} (h:Room c u f d) (hk:φ3 (φV d act).1=true) (h0:(act d.1).1=0) (hu:φI (act d.1).2≤u') (hf:(act d.1).2.length≤f'):Room c u' f' (φV d act).1∧(φV d act).2=0:=by
 have e:φV d act=(((act d.1).2,d.2),(act d.1).1):=by
  unfold φV tick
  rw[h.dk,h.tl];simp
  exact h.tl
 rw[e] at hk ⊢
 exact ⟨⟨hk,h.tl,hu,hf⟩,h0⟩
theorem φ5B {d:φ1} {n:List UInt8} (h:(φ2 d n).2=true):∃i:Nat,∃hi:i<d.1.length,d.1.findIdx? (fun f=>f.1==n)=some i∧d.1[i].1=n∧φ1n d.1 n=(i:Int):=by
 rcases φv d.1 n with ⟨e,_⟩ | ⟨i,hi,e,hn⟩
 ·unfold φ2 at h
  split at h
  ·simp at h
  ·rw[φ1E e] at h;simp at h
 ·exact ⟨i,hi,φ16 e,hn,e⟩
theorem φDl {d:φ1} {n:List UInt8} (hk:φ3 d=true) (h:(φ2 d n).2=false):φ1n d.1 n=-1:=by
 rcases φv d.1 n with ⟨e,_⟩ | ⟨i,hi,e,hn⟩
 ·exact e
 ·unfold φ2 at h
  rw[if_neg (by rw[hk];simp),φ16 e] at h;simp at h
theorem φ8F {c u f:Nat} {d:φ1} (h:Room c u f d) {n t:List UInt8} (hn:(φ2 d n).2=true) (hu:u+t.length≤c):Room c (u+t.length) f (φL n t d).1∧(φL n t d).2=0:=by
 obtain ⟨i,hi,e,en,_⟩:=φ5B hn
 have hc:d.2.1=(c:Int):=by rw[h.tl]
 have hus:=h.us
 have ha:φ2Q d.2.1 n t d.1=(0,d.1.set i ((d.1.getD i ([],[],0)).1,(d.1.getD i ([],[],0)).2.1++t,(d.1.getD i ([],[],0)).2.2)):=by
  unfold φ2Q
  rw[e]
  simp only
  rw[if_neg (by omega)]
 refine φ6t h (φ3M h.dk n t) (by rw[ha]) ?_ ?_
 ·rw[ha]
  have:=φBK d.1 i ((d.1.getD i ([],[],0)).1,(d.1.getD i ([],[],0)).2.1++t,(d.1.getD i ([],[],0)).2.2) hi
  rw[φB hi] at this ⊢
  simp only[lA] at this ⊢
  omega
 ·rw[ha];simp only[List.length_set];exact h.fl
theorem φC7 {c u f:Nat} {d:φ1} (h:Room c u f d) {n:List UInt8} (hn:(φ2 d n).2=true):Room c u f (φG n d).1∧(φG n d).2=0:=by
 obtain ⟨i,hi,e,en,_⟩:=φ5B hn
 have hus:=h.us
 have ha:φ27 n d.1=(0,d.1.set i ((d.1.getD i ([],[],0)).1,(d.1.getD i ([],[],0)).2.1,((d.1.getD i ([],[],0)).2.1.length:Int))):=by
  unfold φ27
  rw[e]
 refine φ6t h (φ3I h.dk n) (by rw[ha]) ?_ ?_
 ·rw[ha]
  have:=φBK d.1 i ((d.1.getD i ([],[],0)).1,(d.1.getD i ([],[],0)).2.1,((d.1.getD i ([],[],0)).2.1.length:Int)) hi
  rw[φB hi] at this ⊢
  simp only at this ⊢
  omega
 ·rw[ha];simp only[List.length_set];exact h.fl
theorem φBy {c u f:Nat} {d:φ1} (h:Room c u f d) (n:List UInt8):Room c u f (φC n d).1∧(φC n d).2=0∧(φ2 (φC n d).1 n).2=false:=by
 unfold φC
 rcases φv d.1 n with ⟨e,hno⟩ | ⟨i,hi,e,hn⟩
 ·rw[if_neg (by omega)]
  refine ⟨h,rfl,?_⟩
  show (φ2 d n).2=false
  unfold φ2
  split
  ·rfl
  ·rw[φ1E e]
 ·rw[if_pos (by omega)]
  have hus:=h.us
  have hfl:=h.fl
  have ha:φ28 n d.1=(0,φc d.1 i):=by unfold φ28;rw[φ16 e]
  have k:=φ6t (act:=φ28 n) (u':=u) (f':=f) h (φ8L h.dk n) (by rw[ha]) (by rw[ha];have:=φA6 d.1 i hi;simp only;omega) (by rw[ha];simp only[φ6a hi];omega)
  exact ⟨k.1,k.2,φEw k.2⟩
theorem φBr {c u f:Nat} {d:φ1} (h:Room c u f d) {n:List UInt8} (hn:(φ2 d n).2=false) (ho:φ1k n=true) (hf:f<130):Room c u (f+1) (φX n d).1∧(φX n d).2=0:=by
 have hus:=h.us
 have hfl:=h.fl
 have ha:φ2b n d.1=(0,insB d.1 (n,[],0)):=by
  unfold φ2b
  rw[if_neg (by rw[ho];simp),if_neg (by rw[φDl h.dk hn];omega),if_neg (by omega)]
 refine φ6t h (φ2t h.dk n) (by rw[ha]) ?_ ?_
 ·rw[ha];simp only[φAS,lN];omega
 ·rw[ha];simp only[φ60];omega
theorem φKo {c u f:Nat} {d:φ1} (h:Room c u f d) {a b:List UInt8} (hn:(φ2 d a).2=true) (ho:φ1k b=true):Room c u f (φ2W a b d).1∧(φ2W a b d).2=0:=by
 obtain ⟨i,hi,e,en,_⟩:=φ5B hn
 have hus:=h.us
 have hfl:=h.fl
 have ha:φ2E a b d.1=(0,if a=b then d.1 else insB (φ1b (φc d.1 i) b) (b,(d.1.getD i ([],[],0)).2)):=by
  unfold φ2E
  rw[if_neg (by rw[ho];simp),e]
 refine φ6t h (φ8A h.dk a b) (by rw[ha]) ?_ ?_
 ·rw[ha]
  simp only
  split
  ·exact hus
  ·have h1:=φA6 d.1 i hi
   have h2:φI (φ1b (φc d.1 i) b)≤φI (φc d.1 i):=φ65 (fun f:φ4=>f.2.1.length) (φ9e _ _)
   rw[φAS,φB hi]
   simp only;omega
 ·rw[ha]
  simp only
  split
  ·exact hfl
  ·have h1:=φ6a hi
   have h2:=(φ9e (φc d.1 i) b).length_le
   rw[φ60];omega
theorem φ3y (op:φ1→φ1×Int) (d:φ1):φ9 op (d,0)=op d:=rfl
theorem φHL {c u f:Nat} {d:φ1} (h:Room c u f d) (v:φQ) (hu:u+211≤c) (hf:f<130):Room c (u+211) (f+1) (sPut v (d,0)).1∧(sPut v (d,0)).2=0:=by
 have hl:=φ5P v
 obtain ⟨a1,a2,a3⟩:=φBy h φ1H
 unfold sPut φ1R
 rw[φ3y]
 generalize φC [116,101,109,112] d=w at *
 obtain ⟨x,k⟩:=w
 have a2:k=0:=a2
 subst a2
 rw[φ3y]
 obtain ⟨b1,b2⟩:=φBr a1 a3 (by decide) hf
 have b3:=φ9f b2
 have b1:Room c u (f+1) (φX φ1H x).1:=b1
 generalize φX [116,101,109,112] x=w at *
 obtain ⟨y,k⟩:=w
 have b2:k=0:=b2
 subst b2
 rw[φ3y]
 obtain ⟨c1,c2⟩:=φ8F b1 (n:=φ1H) (t:=φn v) (by rw[show φ2 y φ1H=_ from b3]) (by omega)
 have c3:=φ4G c2
 generalize φL [116,101,109,112] (φn v) y=w at *
 obtain ⟨z,k⟩:=w
 have c2:k=0:=c2
 subst c2
 rw[φ3y]
 have c3:(φ2 z φ1H).2=true:=by rw[show φ2 z φ1H=_ from c3.2]
 obtain ⟨d1,d2⟩:=φC7 c1 c3
 have d3:(φ2 (φG φ1H z).1 φ1H).2=true:=by rw[φ2D c1.dk];exact c3
 generalize φG [116,101,109,112] z=w at *
 obtain ⟨q,k⟩:=w
 have d2:k=0:=d2
 subst d2
 rw[φ3y]
 obtain ⟨e1,e2⟩:=φKo d1 (a:=φ1H) (b:=φb) d3 (by decide)
 exact ⟨e1.mono (by omega) (κ5 _),e2⟩
theorem φEE {c u f:Nat} {s:φ7} {d:φ1} (h:Room c u f d) (ha:(φ2 d (actN s)).2=true) (h1:s.1.2.length<60) (h2:1≤s.1.1∧s.1.1<100000) (hu:u+211≤c) (hf:f+2≤130) :
  Room c (u+211) (f+2) (rotP s d).2.1∧(rotP s d).2.2=0:=by
 obtain ⟨a1,a2⟩:=φC7 h ha
 obtain ⟨b1,b2,b3⟩:=φBy a1 (φ0 s.1.1)
 unfold rotP
 rw[if_neg (by omega),if_neg (by rw[a2];simp)]
 simp only
 generalize φC (φ0 s.1.1) (φG (actN s) d).1=w at *
 obtain ⟨x,k⟩:=w
 have b2:k=0:=b2
 subst b2
 rw[φ3y]
 obtain ⟨c1,c2⟩:=φBr b1 b3 (φ5R (by omega)) (by omega)
 have c1:Room c u (f+1) (φX (φ0 s.1.1) x).1:=c1
 rw[if_neg (by rw[c2];simp)]
 obtain ⟨p1,p2⟩:=φHL c1 (s.1.1+1,s.1.2++[s.1.1]) hu (by omega)
 have p3:(φA (sPut (s.1.1+1,s.1.2++[s.1.1]) ((φX (φ0 s.1.1) x).1,0))).2=0:=(φ1F _).2 p2
 rw[if_neg (by rw[p3];simp)]
 exact ⟨p1,rfl⟩
theorem φBU {s:φ7} {d:φ1} (h:φh s d=true):(φ2 d (actN s)).2=true:=by
 obtain ⟨q1,q2,q3,q4,q5,q6⟩:=φg.1 h
 exact (((φ1t _).1 q5).1 _ (φ3C (φ3K q2))).1
theorem φOW {c u f:Nat} {s:φ7} {d:φ1} {r:RecT} (h:Room c u f d) (hs:φh s d=true) (hl:φ42 s) (h1:s.1.2.length<60) (h2:s.1.1<100000) (hu:u+282≤c) (hf:f+2≤130) :
  Room c (u+282) (f+2) (addP s d r).2.1∧(addP s d r).2.2.1=0∧(addP s d r).1.1.2.length≤s.1.2.length+1∧(addP s d r).1.1.1≤s.1.1+1:=by
 obtain ⟨q1,q2,q3,q4,q5,q6⟩:=φg.1 hs
 have k:=(φ12 s.1).1 q2
 have hfr:=φ4Z r
 have hR:Room c (u+211) (f+2) (addR s d (frame (φ6 r))).2.1∧(addR s d (frame (φ6 r))).2.2=0∧(addR s d (frame (φ6 r))).1.1.2.length≤s.1.2.length+1∧(addR s d (frame (φ6 r))).1.1.1≤s.1.1+1:=by
  unfold addR
  split
  ·obtain ⟨r1,r2⟩:=φEE h (φBU hs) h1 ⟨k.2.1.1,h2⟩ (by omega) hf
   have hn:=φ6u q1 r2
   exact ⟨r1,r2,by rw[hn.1];simp,by rw[hn.1];exact κH _⟩
  ·exact ⟨h.mono (by omega) (by omega),rfl,Nat.le_succ _,by show s.1.1≤s.1.1+1;omega⟩
 have hA:=φI0 (frame (φ6 r)) hs hl hR.2.1
 unfold addP
 generalize addR s d (frame (φ6 r))=R at *
 obtain ⟨r1,r2,r3,r4⟩:=hR
 simp only
 rw[if_neg (by rw[r2];simp)]
 obtain ⟨w1,w2⟩:=φ8F r1 (n:=actN R.1) (t:=frame (φ6 r)) (φBU hA.ok) (by have:=hfr.2;unfold fr at this;omega)
 rw[if_neg (by rw[w2];simp)]
 exact ⟨w1.mono (by have:=hfr.2;unfold fr at this;omega) (κ5 _),rfl,r3,r4⟩
noncomputable def φ2T (s:φ7) (d:φ1) (l:List PutT):φ7×φ1×Int:=
 if φh s d=false∨φ2A l=false then (s,d,4) else if l.length=0 then (s,d,0) else
 if 20<φ2s s.2.1 l∨s.2.2.1 > 1000000 then (s,d,5) else φ1P s d l
structure SmallS (s:φ7) (d:φ1):Prop where
 sm:dl 200000 d
 ids:s.1.2.length≤1000
 dir:s.2.1.length≤1000
theorem SmallS.lim {s:φ7} {d:φ1} (h:SmallS s d):dlim d∧φI d.1<1000000000:=⟨φ1d h.sm (by omega),by have:=h.sm.2.1;omega⟩
theorem φMt {s:φ7} {d:φ1} (h:SmallS s d) (l:List PutT) (hl:l.length≤1000):ψ2.f s d l=some (φ2T s d l):=by
 obtain ⟨hd,hu⟩:=h.lim
 have h1:=h.ids
 have h2:=h.dir
 have h3:=h.sm.1
 unfold ψ2.f φ2T
 simp only[φG2 s d hd hu (show s.1.2.length<1000000000 by omega) (show s.2.1.length<1000000000 by omega),bS,φB0 s (show s.1.2.length<1000000000 by omega) (show s.2.1.length<1000000000 by omega),φ5X d (show d.1.length<1000000000000 by omega),φMb l (show l.length<2 ^ 62 by omega),φLs s.2.1 l (show s.2.1.length<100000000 by omega) (show l.length<100000000 by omega)]
 cases hk:φh s d with
 | false=>simp
 | true=>
  obtain ⟨q1,q2,q3,q4,q5⟩:=φ5r hk
  have hg:=φ8b hk
  cases hp:φ2A l with
  | false=>simp
  | true=>
   have hl8:l.length≤8:=by
    unfold φ2A at hp
    simp only[bA,decide_eq_true_eq] at hp
    exact hp.1
   simp only[nZ,cF,κ8,or_self,if_false]
   by_cases e1:l.length=0
   ·have d1:((l.length:Int)==0)=true:=by rw[e1];rfl
    simp only[d1,cT]
    rw[if_pos e1]
   have d1:((l.length:Int)==0)=false:=by
    have:¬(l.length:Int)=0:=by omega
    simpa using this
   simp only[d1,cF]
   rw[if_neg e1]
   by_cases e2:(φ2s s.2.1 l:Int) > 20
   ·simp only[e2,dT,cT]
    rw[if_pos (by omega)]
   simp only[e2,dF,cF]
   by_cases e3:s.2.2.1 > 1000000
   ·simp only[e3,dT,cT,or_true,if_true]
   have e4:¬(20<φ2s s.2.1 l∨s.2.2.1 > 1000000):=by omega
   rw[if_neg e4]
   simp only[e3,dF,cF,φN3 hg (by omega) l hl8 (by omega) (by omega),bS]
theorem φIW {s:φ7} {d:φ1} (h:φh s d=true):SmallS s d:=by
 obtain ⟨q1,q2,q3,q4,q5⟩:=φ5r h
 have:=((φ12 s.1).1 q2).2.2.2
 exact ⟨φ3X (φ13 q1) (by omega),by omega,by have:=(φ46 q3).1;omega⟩
theorem φIU {α β:Type} (g:α→β) {l:List (List UInt8×α)} (h:srt l):srt (mapG g l):=by
 unfold srt mapG
 rw[List.pairwise_map]
 exact h
def φ5e (b:UInt8):Bool:=decide (48≤b.toNat) && decide (b.toNat≤57)
def φBR (a:Nat×Nat) (b:UInt8):Nat×Nat:=if φ5e b=true then (a.1 * 10+(b.toNat - 48),a.2+1) else a
theorem φAU:∀(k n:Nat),n<k→∀(a:Nat×Nat),(Lib.decDigits n).foldl φBR a=(a.1 * 10 ^ (Lib.decDigits n).length+n,a.2+(Lib.decDigits n).length)
 | 0,n,h,a=>by omega
 | k+1,n,h,a=>by
  have hd:∀m,m<10→∀a:Nat×Nat,φBR a (UInt8.ofNat (48+m))=(a.1 * 10+m,a.2+1):=fun m hm a=>by
   have e:(UInt8.ofNat (48+m)).toNat=48+m:=by simp only[UInt8.toNat_ofNat'];omega
   unfold φBR φ5e
   rw[e,if_pos (by simp;omega)]
   simp
  by_cases c:n<10
  ·rw[Lib.decDigits_one c]
   simp only[κO,List.foldl_nil,lC,lN]
   rw[hd n c]
  ·have:=φ4A (n:=n) (by omega)
   unfold digs at this
   rw[if_neg (by omega),if_neg (by omega)] at this
   rw[this,κU,φAU k (n / 10) (by omega),κO,List.foldl_nil,hd _ (by omega)]
   simp only[lA,lC,lN,κV,Prod.mk.injEq]
   constructor
   ·rw[κa,←Nat.mul_assoc,Nat.add_mul];omega
   ·omega
theorem φGV {i j:Int} (hi:1≤i∧i≤100000) (hj:1≤j∧j≤100000) (h:φK i=φK j):i=j:=by
 unfold φK φ2I at h
 rw[if_pos hi,if_pos hj] at h
 have:=φAK (i.toNat+1) i.toNat j.toNat (by omega) (List.append_cancel_left h)
 omega
def φ3d (name:List UInt8) (id:Int):Prop:=(1≤id∧id≤100000)∧(name=φ0 id∨name=φK id)
theorem φHa {name:List UInt8} {i j:Int} (hi:φ3d name i) (hj:φ3d name j):i=j:=by
 obtain ⟨h1,h2⟩:=hi
 obtain ⟨k1,k2⟩:=hj
 rcases h2 with h2 | h2<;>rcases k2 with k2 | k2
 ·exact φ45 h1 k1 (h2.symm.trans k2)
 ·exact absurd (h2.symm.trans k2) (φ43 i j h1)
 ·exact absurd (k2.symm.trans h2) (φ43 j i k1)
 ·exact φGV h1 k1 (h2.symm.trans k2)
noncomputable def idOf (name:List UInt8):Int×Bool:=@dite (Int×Bool) (∃id,φ3d name id) (Classical.propDecidable _) (fun h=>(h.choose,true)) (fun _=>(0,false))
theorem φGM {name:List UInt8} {id:Int} (h:φ3d name id):idOf name=(id,true):=by
 have hx:∃id,φ3d name id:=⟨id,h⟩
 unfold idOf
 rw[dif_pos hx,φHa hx.choose_spec h]
theorem φA9 {name:List UInt8} (h:¬∃id,φ3d name id):idOf name=(0,false):=by
 unfold idOf;rw[dif_neg h]
theorem φOQ {name:List UInt8} {id:Int} (h:idOf name=(id,true)):φ3d name id:=by
 by_cases hx:∃id,φ3d name id
 ·obtain ⟨j,hj⟩:=hx
  rw[φGM hj] at h
  simp only[Prod.mk.injEq,and_true] at h
  rw[←h];exact hj
 ·rw[φA9 hx] at h;simp at h
noncomputable def φ4V (v:φQ) (f:φ4):Bool:=((idOf f.1).2 && !(v.2.any fun i=>i==(idOf f.1).1)) || f.1==φ1H
noncomputable def φ3Q (d:φ1) (v:φQ):List (List UInt8):=if φ3 d=false then [] else (d.1.filter (φ4V v)).map (·.1)
theorem φJl {a:Nat} (h:a<1000000000001):(a+1) * 16≤140737488355328:=by omega
theorem φ3x {op:φ1→φ1×Int} {w:φE} (h:(φ9 op w).2=0):w.2=0∧(op w.1).2=0∧φ9 op w=op w.1:=by
 unfold φ9 at h ⊢
 split at h
 ·rename_i c;rw[if_pos c];exact ⟨c,h,rfl⟩
 ·rename_i c;exact absurd h c
theorem φBP {d:φ1} {n:List UInt8} (h:(φC n d).2=0):(φ2 (φC n d).1 n).2=false:=by
 unfold φC at h ⊢
 rcases φv d.1 n with ⟨e,hno⟩ | ⟨i,hi,e,hn⟩
 ·rw[if_neg (by omega)]
  show (φ2 d n).2=false
  unfold φ2
  split
  ·rfl
  ·rw[φ1E e]
 ·rw[if_pos (by omega)] at h ⊢
  exact φEw h
theorem φJI {d:φ1} (hk:φ3 d=true) {n m:List UInt8} (h:(φ2 d n).2=false):(φ2 (φC m d).1 n).2=false:=by
 by_cases c:n=m
 ·subst c
  unfold φC
  rw[if_neg (by rw[φDl hk h];omega)]
  exact h
 ·rw[φ5K hk c];exact h
theorem φ7O {w:φE} {n:List UInt8} (h:(sNew n w).2=0):w.2=0∧φ2 (sNew n w).1 n=([],true):=by
 unfold sNew at h ⊢
 obtain ⟨h1,h2,h3⟩:=φ3x (op:=φX n) h
 obtain ⟨k1,_,_⟩:=φ3x (op:=φC n) h1
 rw[h3]
 exact ⟨k1,φ9f h2⟩
theorem φEj {n:List UInt8}:∀(recs:List RecT) {w:φE},(sApp n recs w).2=0→(φ2 w.1 n).2=true→w.2=0∧φ2 (sApp n recs w).1 n=((φ2 w.1 n).1++txt recs,true)
 | [],w,h,ht=>⟨h,by
  show φ2 w.1 n=_
  have:txt []=[]:=rfl
  rw[this,κ7,←ht]⟩
 | r::recs,w,h,ht=>by
  have h:(sApp n recs (φ9 (φL n (frame (φ6 r))) w)).2=0:=h
  have hz:(φ9 (φL n (frame (φ6 r))) w).2=0:=by
   by_cases c:(φ9 (φL n (frame (φ6 r))) w).2=0
   ·exact c
   ·generalize φ9 (φL n (frame (φ6 r))) w=v at h c
    obtain ⟨x,k⟩:=v
    rw[φAy n recs c] at h
    exact h
  obtain ⟨h1,h2,h3⟩:=φ3x (op:=φL n _) hz
  obtain ⟨a1,a2⟩:=φ4G h2
  obtain ⟨b1,b2⟩:=φEj recs h (by rw[h3,a2])
  refine ⟨h1,?_⟩
  show φ2 (sApp n recs (φ9 (φL n (frame (φ6 r))) w)).1 n=_
  rw[b2,h3,a2,φ3H,←aA];rfl
theorem φEq:∀(names:List (List UInt8)) {w:φE},φ3 w.1=true→(φl names w).2=0→w.2=0∧(∀n,(φ2 w.1 n).2=false→(φ2 (φl names w).1 n).2=false)∧∀n∈names,(φ2 (φl names w).1 n).2=false
 | [],w,_,h=>⟨h,fun n hn=>hn,fun n hn=>by simp at hn⟩
 | m::names,w,hk,h=>by
  have h:(φl names (φ9 (φC m) w)).2=0:=h
  have hk1:φ3 (φ9 (φC m) w).1=true:=φ1q (op:=φC m) hk fun k=>φ2O k m
  obtain ⟨a1,a2,a3⟩:=φEq names hk1 h
  obtain ⟨h1,h2,h3⟩:=φ3x (op:=φC m) a1
  have hab:∀n,(φ2 w.1 n).2=false→(φ2 (φ9 (φC m) w).1 n).2=false:=fun n hn=>by
   rw[h3];exact φJI hk hn
  refine ⟨h1,fun n hn=>a2 n (hab n hn),fun n hn=>?_⟩
  rcases mc.1 hn with rfl | hn
  ·refine a2 _ ?_
   rw[h3];exact φBP h2
  ·exact a3 n hn
theorem φCR:∀(ids:List Int) {w:φE},φ3 w.1=true→(sOld ids w).2=0→w.2=0∧(∀n,(φ2 w.1 n).2=false→(φ2 (sOld ids w).1 n).2=false)∧∀id∈ids,(φ2 (sOld ids w).1 (φ0 id)).2=false∧(φ2 (sOld ids w).1 (φK id)).2=false
 | [],w,_,h=>⟨h,fun n hn=>hn,fun n hn=>by simp at hn⟩
 | i::ids,w,hk,h=>by
  have h:(sOld ids (φl [φ0 i,φK i] w)).2=0:=h
  have hk1:φ3 (φl [φ0 i,φK i] w).1=true:=φ4a _ hk
  obtain ⟨a1,a2,a3⟩:=φCR ids hk1 h
  obtain ⟨h1,h2,h3⟩:=φEq [φ0 i,φK i] hk a1
  refine ⟨h1,fun n hn=>a2 n (h2 n hn),fun id hid=>?_⟩
  rcases mc.1 hid with rfl | hid
  ·exact ⟨a2 _ (h3 _ (by simp)),a2 _ (h3 _ (by simp))⟩
  ·exact a3 id hid
structure Merged (s:φ7) (d:φ1) (l:List φZ) (S:φ7) (y:φ1):Prop where
 st:S=((s.1.1+2,[s.1.1,s.1.1+1]),φw s.1.1 0 (φY l (s.2.2.1 - 1)),s.2.2.1,0,0)
 dk:φ3 y=true
 one:φ2 y (φ0 s.1.1)=(txt (φY l (s.2.2.1 - 1)),true)
 two:φ2 y (φ0 (s.1.1+1))=([],true)
 old:∀id∈s.1.2,(φ2 y (φ0 id)).2=false∧(φ2 y (φK id)).2=false
 oth:∀n,n≠φ0 s.1.1→n≠φ0 (s.1.1+1)→n≠φK s.1.1→n≠φ1H→n≠φb→(∀id∈s.1.2,n≠φ0 id∧n≠φK id)→φ2 y n=φ2 d n
theorem φFA {s:φ7} {d:φ1} (l:List φZ) (h:φ3 d=true) (hv:φm s.1=true) (h2:s.1.1+2≤100000) (hc:(φ15 s d l).2.2=0):Merged s d l (φ15 s d l).1 (φ15 s d l).2.1:=by
 obtain ⟨k1,k2,k3,k4⟩:=(φ12 s.1).1 hv
 rw[φH (by omega) (by omega)] at k1
 have hids:=φ3r _ _ k1
 have g0:=φ41 (w:=(d,0)) h (φ0 s.1.1)
 have g0a:=φ7P (φ0 s.1.1) (φY l (s.2.2.1 - 1)) g0
 have g1:=φ6P s.1.1 (φY l (s.2.2.1 - 1)) (w:=(d,0)) h
 have g2:=φ41 g1 (φ0 (s.1.1+1))
 have f1:∀n,n≠φ0 s.1.1→n≠φ0 (s.1.1+1)→φ2 (sNew (φ0 (s.1.1+1)) (sWM s.1.1 (φY l (s.2.2.1 - 1)) (d,0))).1 n=φ2 d n:=fun n q1 q2=>by
  rw[φ6G g1 q2]
  unfold sWM
  rw[φ2k (op:=φG _) (φ2D g0a _ n),φBV q1 _ g0,φ6G (w:=(d,0)) h q1]
 have hne:φ0 s.1.1≠φ0 (s.1.1+1):=fun hh=>by have:=φ45 (by omega) (by omega) hh;omega
 have t1:(sNew (φ0 (s.1.1+1)) (sWM s.1.1 (φY l (s.2.2.1 - 1)) (d,0))).2=0→φ2 (sNew (φ0 (s.1.1+1)) (sWM s.1.1 (φY l (s.2.2.1 - 1)) (d,0))).1 (φ0 s.1.1)=(txt (φY l (s.2.2.1 - 1)),true) ∧
   φ2 (sNew (φ0 (s.1.1+1)) (sWM s.1.1 (φY l (s.2.2.1 - 1)) (d,0))).1 (φ0 (s.1.1+1))=([],true):=fun e=>by
  obtain ⟨n1,n2⟩:=φ7O e
  refine ⟨?_,n2⟩
  rw[φ6G g1 hne]
  unfold sWM at n1 ⊢
  obtain ⟨s1,s2,s3⟩:=φ3x (op:=φG _) n1
  rw[φ2k (op:=φG _) (φ2D g0a _ _)]
  have hz:(sNew (φ0 s.1.1) (d,0)).2=0:=by
   by_cases c:(sNew (φ0 s.1.1) (d,0)).2=0
   ·exact c
   ·generalize sNew (φ0 s.1.1) (d,0)=v at s1 c
    obtain ⟨x,k⟩:=v
    rw[φAy _ _ c] at s1
    exact s1
  obtain ⟨m1,m2⟩:=φ7O hz
  obtain ⟨a1,a2⟩:=φEj (φY l (s.2.2.1 - 1)) s1 (by rw[m2])
  rw[a2,m2];rfl
 unfold φ15 at hc ⊢
 simp only at hc ⊢
 generalize sNew (φ0 (s.1.1+1)) (sWM s.1.1 (φY l (s.2.2.1 - 1)) (d,0))=w1 at *
 have g3:φ3 (φo s.1.1 w1).1=true:=by
  unfold φo;split
  ·exact g2
  ·exact φ7D _ g2
 have z2:(φo s.1.1 w1).2=0→w1.2=0:=fun e=>by
  unfold φo at e
  split at e
  ·exact e
  ·rename_i c;simpa using c
 have f2:∀n,n≠φK s.1.1→φ2 (φo s.1.1 w1).1 n=φ2 w1.1 n:=fun n q=>by
  unfold φo
  split
  ·rfl
  ·unfold φ1s
   simp only
   have hf:=φ4k (w:=(w1.1,0)) g2 (φK s.1.1) (φ1W (φ14 s.1.1 (φ2 w1.1 (φ0 s.1.1)).1).1)
   split
   ·rw[φ5K hf q,φ5J (w:=(w1.1,0)) g2 q]
   ·rw[φ5J (w:=(w1.1,0)) g2 q]
 generalize φo s.1.1 w1=w2 at *
 have g5:φ3 (if w2.2=0 then φA (sPut (s.1.1+2,[s.1.1,s.1.1+1]) w2) else φA w2).1=true:=by
  split
  ·exact φ3n g3 _
  ·exact g3
 have z3:(if w2.2=0 then φA (sPut (s.1.1+2,[s.1.1,s.1.1+1]) w2) else φA w2).2=0→w2.2=0:=fun e=>by
  by_cases c:w2.2=0
  ·exact c
  ·rw[if_neg c] at e;exact (φ1F _).1 e
 have f3:∀n,n≠φ1H→n≠φb→φ2 (if w2.2=0 then φA (sPut (s.1.1+2,[s.1.1,s.1.1+1]) w2) else φA w2).1 n=φ2 w2.1 n:=fun n q1 q2=>by
  split
  ·exact φ7l g3 _ q1 q2
  ·rfl
 generalize (if w2.2=0 then φA (sPut (s.1.1+2,[s.1.1,s.1.1+1]) w2) else φA w2)=w3 at *
 by_cases c:w3.2=0
 rotate_left
 ·rw[if_pos c] at hc
  exfalso
  revert hc
  unfold φ1h
  split
  ·split
   ·simp
   ·rename_i c4;exact c4
  ·exact c
 rw[if_neg (by simpa using c)] at hc ⊢
 have hc:(sOld s.1.2 (w3.1,0)).2=0:=(φ1F _).1 hc
 obtain ⟨o1,o2,o3⟩:=φCR s.1.2 (w:=(w3.1,0)) g5 hc
 obtain ⟨u1,u2⟩:=t1 (z2 (z3 c))
 have hseg:∀id,1≤id∧id≤100000→s.1.1≤id→∀i∈s.1.2,φ0 id≠φ0 i∧φ0 id≠φK i:=fun id q1 q2 i hi=>⟨fun hh=>by
  have:=hids i hi
  have:=φ45 q1 (by omega) hh;omega,φ43 id _ q1⟩
 refine ⟨rfl,φIJ s.1.2 (w:=(w3.1,0)) g5,?_,?_,o3,fun n q1 q2 q3 q4 q5 q6=>?_⟩
 ·show φ2 (sOld s.1.2 (w3.1,0)).1 _=_
  rw[φ61 s.1.2 (w:=(w3.1,0)) g5 (hseg _ (by omega) (by omega)),f3 _ (φ4K _) (φ2c _),f2 _ (φ43 _ _ (by omega)),u1]
 ·show φ2 (sOld s.1.2 (w3.1,0)).1 _=_
  rw[φ61 s.1.2 (w:=(w3.1,0)) g5 (hseg _ (by omega) (by omega)),f3 _ (φ4K _) (φ2c _),f2 _ (φ43 _ _ (by omega)),u2]
 ·show φ2 (sOld s.1.2 (w3.1,0)).1 _=_
  rw[φ61 s.1.2 (w:=(w3.1,0)) g5 q6,f3 _ q4 q5,f2 _ q3,f1 _ q1 q2]
theorem φMq (A B:List UInt8) {r:RecT} (h:φa r=true):φ1K (A++(fr r++B)) (A.length:Int) ((fr r).length:Int)=(r,true):=by
 have k:=φFT A h
 rw[←aA,φHK _ (by rw[k]),k]
theorem φF3 (m:Int) (g:Int×Int×Int×Int→List UInt8×Int):∀(recs:List RecT) (pre post:List UInt8),(∀r∈recs,φa r=true∧r.1=4) →
  (∀a n b,g (m,a,n,b)=((φ1K (pre++(txt recs++post)) a n).1.2.2.2.1,(φ1K (pre++(txt recs++post)) a n).1.2.1)) →
  mapG g (φw m (pre.length:Int) recs)=recs.map (fun r=>(r.2.2.1,r.2.2.2.1,r.2.1)) ∧
  ∀e∈φw m (pre.length:Int) recs,∃r∈recs,e.1=r.2.2.1∧e.2.1=m∧0≤e.2.2.1∧1≤e.2.2.2.1∧e.2.2.2.1≤210∧e.2.2.2.2=r.2.1∧φ1K (pre++(txt recs++post)) e.2.2.1 e.2.2.2.1=(r,true)
 | [],pre,post,_,_=>⟨rfl,fun e he=>by simp[φw] at he⟩
 | r::recs,pre,post,h,hg=>by
  obtain ⟨hr,h4⟩:=h r κ0
  have hfr:=φ4Z r
  have hT:pre++(txt (r::recs)++post)=(pre++fr r)++(txt recs++post):=by rw[φ3H];simp only[aA]
  have hat:φ1K (pre++(txt (r::recs)++post)) (pre.length:Int) ((fr r).length:Int)=(r,true):=by
   rw[show pre++(txt (r::recs)++post)=pre++(fr r++(txt recs++post)) by rw[φ3H,aA]]
   exact φMq _ _ hr
  obtain ⟨i1,i2⟩:=φF3 m g recs (pre++fr r) post (fun x hx=>h x (mC _ hx)) (fun a n b=>by rw[hg,hT])
  have hl:((pre++fr r).length:Int)=(pre.length:Int)+((frame (φ6 r)).length:Int):=by rw[lA];simp only[fr];omega
  rw[hl] at i1 i2
  have hent:φw m (pre.length:Int) (r::recs)=(r.2.2.1,m,(pre.length:Int),((frame (φ6 r)).length:Int),r.2.1)::φw m ((pre.length:Int)+((frame (φ6 r)).length:Int)) recs:=by
   rw[φw,if_pos h4]
  rw[hent]
  constructor
  ·show (r.2.2.1,g (m,(pre.length:Int),((fr r).length:Int),r.2.1))::mapG g (φw m _ recs)=_
   rw[i1,hg,hat];rfl
  ·intro e he
   rcases mc.1 he with rfl | he
   ·exact ⟨r,κ0,rfl,rfl,by show 0≤(pre.length:Int);omega,by show 1≤((fr r).length:Int);omega,by show ((fr r).length:Int)≤210;omega,rfl,hat⟩
   ·obtain ⟨q,hq,z⟩:=i2 e he
    rw[←hT] at z
    exact ⟨q,mC _ hq,z⟩
theorem φOj {s:List UInt8} {a n:Int} (h:(φ1K s a n).2=true):φa (φ1K s a n).1=true:=by
 unfold φ1K at h ⊢
 split at h
 ·rename_i c1
  rw[if_pos c1]
  split at h
  ·rename_i c2
   rw[if_pos c2]
   rcases φ73 (φP ((s.take (a+n).toNat).drop a.toNat)).1 with ⟨e,_⟩ | ⟨r,e,hr⟩
   ·rw[e] at h;simp at h
   ·rw[e];exact hr.1
  ·simp at h
 ·simp at h
theorem φFz {s:φ7} {d:φ1} (h:φh s d=true):∀r∈(φW s d).1.map φR,φa r=true∧r.1=4:=fun r hr=>by
 obtain ⟨p,hp,rfl⟩:=mM.1 hr
 rw[φ2n h] at hp
 obtain ⟨e,he,rfl⟩:=mM.1 hp
 obtain ⟨q1,q2,q3,q4,q5,q6⟩:=φg.1 h
 have k:=φ33.1 (q6 e he)
 have ho:=φOj (s:=(φ2 d (φ0 e.2.1)).1) (a:=e.2.2.1) (n:=e.2.2.2.1) k.1
 have hkey:=(φ46 q3).2 e he
 unfold φ32 at hkey
 simp only[bA,decide_eq_true_eq] at hkey
 refine ⟨?_,rfl⟩
 have hb:(φ1G d e).1.2.1=e.2.2.2.2:=k.2.2.2.1
 have hbb:=hkey.2.2.2.2
 unfold φ1G at k hb
 obtain ⟨R,hR⟩:∃R,φ1K (φ2 d (φ0 e.2.1)).1 e.2.2.1 e.2.2.2.1=R:=⟨_,rfl⟩
 rw[hR] at k hb ho
 have hvl:=(φBb ho).2.2.1 k.2.1
 show φa (φR (e.1,φ1S d e.2))=true
 have hv:(φR (e.1,φ1S d e.2))=(4,(φ1S d e.2).2,e.1,(φ1S d e.2).1,0,0):=rfl
 rw[hv]
 have e2:φ1S d e.2=(R.1.2.2.2.1,R.1.2.1):=by
  unfold φ1S
  rw[hR]
 rw[e2]
 have hb0:(R.1.2.1==0)=false:=by
  have:¬R.1.2.1=0:=by omega
  simpa using this
 unfold φa
 simp[hkey.1,hb0]
 omega
theorem φMa {α β:Type} (g:α→β) {l:List (List UInt8×α)} (h:srt (mapG g l)):srt l:=by
 unfold srt mapG at *
 rw[List.pairwise_map] at h
 exact h
theorem φD8:∀rs:List RecT,(txt rs).length=φFl rs
 | []=>rfl
 | r::rs=>by
  rw[φ3H,lA,φD8 rs];rfl
theorem φK1 {r:RecT} (h:φa r=true) (h4:r.1=4):φ18 r.2.2.1=true∧1≤r.2.1∧r.2.1≤1000000:=by
 obtain ⟨k,b,ky,v,c,s⟩:=r
 have h4:k=4:=h4
 subst h4
 unfold φa at h
 simp only[bA,decide_eq_true_eq] at h
 obtain ⟨⟨h1,h2⟩,h⟩:=h
 rw[if_pos (by simp)] at h
 simp only[bA] at h
 have hb:¬b=0:=fun e=>by subst e;simp at h2
 exact ⟨h.1,by show 1≤b;omega,by show b≤1000000;omega⟩
theorem φHU {b c z:Int} (hb:0≤b∧b≤1000000) (hc:0≤c∧c≤20) (hz:0≤z∧z≤4294967295):φa (5,b,[],[],c,z)=true:=by
 unfold φa
 simp;omega
theorem φGb {s:φ7} {d:φ1} (h:φh s d=true):∀p∈(φW s d).1,p.2.2<s.2.2.1:=fun p hp=>by
 rw[φ2n h] at hp
 obtain ⟨e,he,rfl⟩:=mM.1 hp
 obtain ⟨q1,q2,q3,q4,q5,q6⟩:=φg.1 h
 have k:=φ33.1 (q6 e he)
 have hb:(φ1S d e.2).2=(φ1G d e).1.2.1:=rfl
 show (φ1S d e.2).2<s.2.2.1
 rw[hb,k.2.2.2.1];exact k.2.2.2.2
theorem φ7u {s:φ7} {d:φ1} {S:φ7} {y:φ1} (h:φh s d=true) (h2:s.1.1+2≤100000) (hM:Merged s d (φW s d).1 S y) :
  φh S y=true∧φW S y=φW s d∧φ42 S∧segN y (S.1.2.take 60)=φFl (φY (φW s d).1 (s.2.2.1 - 1)):=by
 obtain ⟨q1,q2,q3,q4,q5,q6⟩:=φg.1 h
 obtain ⟨k1,k2,k3,k4⟩:=(φ12 s.1).1 q2
 have hkeep:=φFz h
 have hbat:=φGb h
 have hsl:srt (φW s d).1:=by rw[φ2n h];exact φIU _ (φ5m q3)
 have hd0:φW s d=((φW s d).1,0):=by rw[φ2n h]
 have hl20:(φW s d).1.length≤20:=by have:=φ8H s d;have:=(φ46 q3).1;omega
 obtain ⟨hst,hdk,hone,htwo,_,_⟩:=hM
 generalize (φW s d).1=l at *
 have hmk:φa (5,s.2.2.1 - 1,[],[],(l.length:Int),φ1l (l.map φR))=true:=φHU (by omega) (by omega) (φ4o _)
 have hall:∀r∈φY l (s.2.2.1 - 1),φa r=true:=fun r hr=>by
  unfold φY at hr
  rcases mA.1 hr with hr | hr
  ·exact (hkeep r hr).1
  ·rw[mZ.1 hr];exact hmk
 have hents:φw s.1.1 0 (φY l (s.2.2.1 - 1))=φw s.1.1 0 (l.map φR):=φ90 s.1.1 _ (show (5:Int)≠4 by decide) _ _
 have htx:txt (φY l (s.2.2.1 - 1))=[]++(txt (l.map φR)++fr (5,s.2.2.1 - 1,[],[],(l.length:Int),φ1l (l.map φR))):=by
  unfold φY;rw[φBk];rfl
 obtain ⟨e1,e2⟩:=φF3 s.1.1 (φ1S y) (l.map φR) [] (fr (5,s.2.2.1 - 1,[],[],(l.length:Int),φ1l (l.map φR))) hkeep (fun a n b=>by
  unfold φ1S
  simp only
  rw[hone,htx])
 have e1:mapG (φ1S y) (φw s.1.1 0 (l.map φR))=l:=by
  have:(([]:List UInt8).length:Int)=0:=rfl
  rw[this] at e1
  rw[e1,List.map_map]
  exact List.map_id' l
 have e2:∀e∈φw s.1.1 0 (l.map φR),∃r∈l.map φR,e.1=r.2.2.1∧e.2.1=s.1.1∧0≤e.2.2.1∧1≤e.2.2.2.1∧e.2.2.2.1≤210∧e.2.2.2.2=r.2.1∧φ1G y e=(r,true):=fun e he=>by
  obtain ⟨r,hr,z1,z2,z3,z4,z5,z6,z7⟩:=e2 e he
  refine ⟨r,hr,z1,z2,z3,z4,z5,z6,?_⟩
  unfold φ1G
  rw[z2,hone,htx];exact z7
 subst hst
 rw[hents]
 have hdir:φ1v (φw s.1.1 0 (l.map φR))=true:=by
  refine φGG (φMa (φ1S y) (by rw[e1];exact hsl)) (fun e he=>?_) ?_
  ·obtain ⟨r,hr,z1,z2,z3,z4,z5,z6,z7⟩:=e2 e he
   obtain ⟨w1,w2,w3⟩:=φK1 (hkeep r hr).1 (hkeep r hr).2
   unfold φ32
   rw[z1,w1,z2,z6]
   simp only[tA,bA,decide_eq_true_eq]
   exact ⟨⟨k2.1,k2.2⟩,z3,⟨z4,z5⟩,w2,w3⟩
  ·have:=congrArg List.length e1
   unfold mapG at this
   rw[lM] at this
   omega
 have hent:∀e∈φw s.1.1 0 (l.map φR),φ24 y s.2.2.1 e=true:=fun e he=>by
  obtain ⟨r,hr,z1,z2,z3,z4,z5,z6,z7⟩:=e2 e he
  obtain ⟨p,hp,rfl⟩:=mM.1 hr
  rw[φ33,z7,z6]
  exact ⟨rfl,.inr rfl,z1.symm,rfl,hbat p hp⟩
 have hok:φh ((s.1.1+2,[s.1.1,s.1.1+1]),φw s.1.1 0 (l.map φR),s.2.2.1,0,0) y=true:=φg.2 ⟨hdk,φAu s.1.1 k2.1 h2,hdir,q4,by
  refine (φ1t _).2 ⟨fun id hid=>?_,fun _=>?_⟩
  ·simp only[mc,List.not_mem_nil,or_false] at hid
   rcases hid with rfl | rfl
   ·rw[hone];exact ⟨rfl,φDo hall⟩
   ·rw[htwo];exact ⟨rfl,φG9⟩
  ·show (0:Int)=((φ2 y (φ0 (s.1.1+1))).1.length:Int)
   rw[htwo];rfl,hent⟩
 refine ⟨hok,?_,fun e he=>?_,?_⟩
 ·rw[φ2n hok,hd0]
  show (mapG (φ1S y) (φw s.1.1 0 (l.map φR)),(0:Int))=_
  rw[e1]
 ·obtain ⟨r,hr,z1,z2,_⟩:=e2 e he
  show e.2.1<s.1.1+2
  omega
 ·show segN y [s.1.1,s.1.1+1]=_
  unfold segN
  simp only[sumN]
  rw[hone,htwo,φD8];simp
theorem φNw {A B:List (List UInt8)} (h:A.Nodup) (hs:∀x∈A,x∈B):A.length≤B.length:=by
 induction A generalizing B with
 | nil=>exact κ4 _
 | cons a A ih=>
  rw[κQ] at h
  have ha:=hs a κ0
  have:=ih (B:=B.erase a) h.2 (fun x hx=>(List.mem_erase_of_ne (fun e=>h.1 (by rw[←e];exact hx))).2 (hs x (mC _ hx)))
  rw[List.length_erase_of_mem ha] at this
  have:=List.length_pos_of_mem ha
  simp only[lC];omega
theorem φNr {α:Type} {l:List (List UInt8×α)} (h:srt l):(l.map (·.1)).Nodup:=by
 unfold srt at h
 unfold List.Nodup
 rw[List.pairwise_map]
 exact h.imp fun hab=>φ6N hab
noncomputable def φ1y (s:φ7) (d:φ1):φ7×φ1×Int:=
 if φh s d=false then (s,d,4) else if s.1.1+2 > 100000 then (s,d,5) else φ15 s d (φW s d).1
theorem φLS {s:φ7} {d:φ1} (h:SmallS s d):ψZ.f s d=some (φ1y s d)∧ψ2Y.f s d=some (φ1y s d):=by
 obtain ⟨hd,hu⟩:=h.lim
 have h1:=h.ids
 have h2:=h.dir
 have h3:=h.sm.1
 unfold ψ2Y.f ψZ.f φ1y
 simp only[φG2 s d hd hu (show s.1.2.length<1000000000 by omega) (show s.2.1.length<1000000000 by omega),φJD s d hd hu (show s.1.2.length<1000000000 by omega) (show s.2.1.length<1000000000 by omega),bS,φMe s (show s.1.2.length<1000000000 by omega) (show s.2.1.length<1000000000 by omega),φB0 s (show s.1.2.length<1000000000 by omega) (show s.2.1.length<1000000000 by omega),φ9g d (show d.1.length<1000000000000 by omega),φ5X d (show d.1.length<1000000000000 by omega),
   φKm s d hd hu (show s.2.1.length<1000000000 by omega),φLB s d hd hu (show s.2.1.length<1000000000 by omega)]
 cases hk:φh s d with
 | false=>simp
 | true=>
  obtain ⟨q1,q2,q3,q4,q5⟩:=φ5r hk
  have hd20:s.2.1.length≤20:=(φ46 q3).1
  have hdl:=φ8H s d
  have hlv:=(φ12 s.1).1 q2
  have hc0:(φW s d).2=0:=by rw[φ2n hk]
  simp only[nZ,cF,show w64 (s.1.1+2)=s.1.1+2 from φH (by omega) (by omega),κ8,if_false]
  by_cases e1:s.1.1+2 > 100000
  ·rw[if_pos e1]
   simp only[e1,dT,cT,and_self]
  ·rw[if_neg e1]
   simp only[e1,dF,cF,hc0,bne_self_eq_false,φOA s d _ q1 q2 (show s.1.1+2≤100000 by omega) q4 (show (φW s d).1.length<100000 by omega),φJQ s d _ q1 q2 (show s.1.1+2≤100000 by omega) q4 (show (φW s d).1.length<100000 by omega),bS,and_self]
theorem φCq (d:UInt8):∀(l:List UInt8) (a u:Nat),Lib.parseUint10 a l=.ok u→(48≤d.toNat∧d.toNat≤57)→u<1000000000000→Lib.parseUint10 a (l++[d])=.ok (u * 10+(d.toNat - 48))
 | [],a,u,h,hd,hu=>by
  have h:a=u:=by simp only[Lib.parseUint10] at h;injection h
  subst h
  show Lib.parseUint10 a [d]=_
  rw[Lib.parseUint10,if_pos hd,if_neg (by omega),if_neg (by omega)]
  rfl
 | c::l,a,u,h,hd,hu=>by
  rw[κF,Lib.parseUint10]
  rw[Lib.parseUint10] at h
  split
  ·rename_i c1
   rw[if_pos c1] at h
   split
   ·rename_i c2;rw[if_pos c2] at h;cases h
   ·rename_i c2
    rw[if_neg c2] at h
    split
    ·rename_i c3;rw[if_pos c3] at h;cases h
    ·rename_i c3
     rw[if_neg c3] at h
     exact φCq d l _ u h hd hu
  ·rename_i c1
   rw[if_neg c1] at h;cases h
theorem φEV:∀(k n:Nat),n<k→n<1000000000000→Lib.parseUint10 0 (Lib.decDigits n)=.ok n
 | 0,n,h,_=>by omega
 | k+1,n,h,hn=>by
  have e:∀m,m<10→(UInt8.ofNat (48+m)).toNat=48+m:=fun m hm=>by simp only[UInt8.toNat_ofNat'];omega
  by_cases c:n<10
  ·rw[Lib.decDigits_one c,Lib.parseUint10,e n c,if_pos (by omega),if_neg (by omega),if_neg (by omega),Lib.parseUint10]
   congr 1;omega
  ·have:=φ4A (n:=n) (by omega)
   unfold digs at this
   rw[if_neg (by omega),if_neg (by omega)] at this
   rw[this,φCq _ _ 0 (n / 10) (φEV k (n / 10) (by omega) (by omega)) (by rw[e _ (by omega)];omega) (by omega),e _ (by omega)]
   congr 1;omega
theorem φMh (n:Nat):Lib.decDigits n≠[]:=fun e=>by
 have h1:=φAU (n+1) n (by omega) (1,0)
 rw[e] at h1
 have h2:=φAU (n+1) n (by omega) (0,0)
 rw[e] at h2
 simp at h1 h2
 subst h2
 rw[Lib.decDigits_one (by omega)] at e
 simp at e
theorem φIO (n:Nat) {c:UInt8} {r:List UInt8} (h:Lib.decDigits n=c::r):φ5e c=true:=by
 have ha:=φAi (n+1) n (by omega)
 have key:∀(k n:Nat),n<k→∀b∈Lib.decDigits n,φ5e b=true:=by
  intro k
  induction k with
  | zero=>intro n h;omega
  | succ k ih=>
   intro n h b hb
   have e:∀m,m<10→φ5e (UInt8.ofNat (48+m))=true:=fun m hm=>by
    unfold φ5e
    have:(UInt8.ofNat (48+m)).toNat=48+m:=by simp only[UInt8.toNat_ofNat'];omega
    rw[this];simp;omega
   by_cases c:n<10
   ·rw[Lib.decDigits_one c] at hb
    rw[mZ.1 hb];exact e n c
   ·have:=φ4A (n:=n) (by omega)
    unfold digs at this
    rw[if_neg (by omega),if_neg (by omega)] at this
    rw[this] at hb
    rcases mA.1 hb with hb | hb
    ·exact ih (n / 10) (by omega) b hb
    ·rw[mZ.1 hb];exact e _ (by omega)
 exact key (n+1) n (by omega) c (by rw[h];exact κ0)
theorem φOg {n:Nat} (hn:n<1000000000000):Lib.atoiAll (Lib.decDigits n)=.ok (n:Int):=by
 have hp:=φEV (n+1) n (by omega) hn
 cases e:Lib.decDigits n with
 | nil=>exact absurd e (φMh n)
 | cons c r=>
  have hd:=φIO n e
  unfold φ5e at hd
  simp only[bA,decide_eq_true_eq] at hd
  rw[Lib.atoiAll_plain c r (by omega) (by omega)]
  rw[e] at hp
  unfold Lib.parseMag
  rw[if_neg (by simp),hp]
  unfold Lib.signless
  simp
  omega
def φ25 (s:List UInt8):Int×Bool:=
 match Lib.atoiAll s with
 | .ok n=>if Lib.itoa n=s∧-999999999≤n∧n≤999999999 then (n,true) else (0,false)
 | _=>(0,false)
theorem φMk (n:Int) (h:-9223372036854775808≤n∧n≤9223372036854775807):ψ6.f n=some (Lib.itoa n):=by
 unfold ψ6.f strconv_Itoa.f
 have:(decide (-9223372036854775808≤n) && decide (n≤9223372036854775807))=true:=by simp;omega
 rw[this];rfl
theorem φDX (s:List UInt8) (hl:s.length<1000000000000):ψh.f s=some (φ25 s):=by
 unfold ψh.f φ25 strconv_Atoi.f
 have h1:decide (s.length≤281474976710656)=true:=by simp;omega
 rw[h1,cT]
 rcases num3 (Lib.atoiAll s) with ⟨n,ha⟩ | ha | ha
 ·rw[ha]
  have hb:=Lib.atoiAll_bounds ha
  simp only[bS,cF,φMk n hb,φ1c]
  by_cases c:Lib.itoa n=s
  ·have:(Lib.itoa n==s)=true:=by simpa using c
   simp only[this,nZ,cF]
   by_cases c2:-999999999≤n∧n≤999999999
   ·rw[if_pos ⟨c,c2⟩]
    simp[c2]
   ·rw[if_neg (fun z=>c2 z.2)]
    have:decide (-999999999≤n∧n≤999999999)=false:=decide_eq_false c2
    simp only[this,nF,cT]
  ·have:(Lib.itoa n==s)=false:=by simpa using c
   rw[if_neg (fun z=>c z.1)]
   simp only[this,nF,cT]
 ·simp[ha]
 ·simp[ha]
theorem φNM {s:List UInt8} {n:Int} (h:φ25 s=(n,true)):Lib.itoa n=s:=by
 unfold φ25 at h
 split at h
 ·split at h
  ·rename_i c
   simp only[Prod.mk.injEq,and_true] at h
   rw[←h];exact c.1
  ·simp at h
 ·simp at h
theorem φNR {n:Nat} (h:n≤100000):φ25 (Lib.decDigits n)=((n:Int),true):=by
 unfold φ25
 rw[φOg (by omega)]
 simp only
 rw[if_pos ⟨φAg n,by omega,by omega⟩]
theorem φEu (s p:List UInt8):ψ3O.f s p=some (decide (p.length≤s.length) && (s.take p.length==p)):=by
 unfold ψ3O.f
 by_cases c:p.length≤s.length
 ·have c1:(s.length:Int)≥(p.length:Int):=by omega
  have c2:(decide (0≤(p.length:Int)) && decide ((p.length:Int)≤(s.length:Int)))=true:=by simp;omega
  rw[c2,decide_eq_true c1,cT,cT,decide_eq_true c,tA,tN]
 ·have c1:¬(s.length:Int)≥(p.length:Int):=by omega
  simp only[c1,c,dF,cF,κD]
theorem φGv (p r:List UInt8):ψ3M.f (p++r) p=some (r,true):=by
 unfold ψ3M.f ψ3N.f
 rw[φEu]
 have c1:decide (p.length≤(p++r).length)=true:=by simp
 have c2:((p++r).take p.length==p)=true:=by rw[List.take_left];simp
 have c3:(decide (0≤(p.length:Int)) && decide ((p.length:Int)≤((p++r).length:Int)))=true:=by rw[lA];simp;omega
 simp only[c1,c2,tA,bS,nZ,cF,c3,cT,tN,κP]
theorem φFe {s p:List UInt8} (h:¬∃r,s=p++r):ψ3M.f s p=some (s,false):=by
 unfold ψ3M.f ψ3N.f
 rw[φEu]
 have c:(decide (p.length≤s.length) && (s.take p.length==p))=false:=by
  cases e:(decide (p.length≤s.length) && (s.take p.length==p)) with
  | false=>rfl
  | true=>
   simp only[bA,decide_eq_true_eq,beq_iff_eq] at e
   exact absurd ⟨s.drop p.length,by rw[←e.2,lT,Nat.min_eq_left e.1,κE]⟩ h
 simp only[c,bS,nF,cT]
theorem φ7T {id:Int} (h:1≤id∧id≤100000):φ0 id=[115,101,103]++Lib.decDigits id.toNat:=by unfold φ0 φ2I;rw[if_pos h]
theorem φ78 {id:Int} (h:1≤id∧id≤100000):φK id=[104,105,110,116]++Lib.decDigits id.toNat:=by unfold φK φ2I;rw[if_pos h]
theorem φFq {w r:List UInt8} {name:List UInt8} (hn:name=w++r) (hw:(w=[115,101,103]∧∀id,1≤id∧id≤100000→name≠φK id)∨(w=[104,105,110,116]∧∀id,1≤id∧id≤100000→name≠φ0 id)) :
  (if (φ25 r).2=true∧1≤(φ25 r).1∧(φ25 r).1≤100000 then ((φ25 r).1,true) else (0,false))=idOf name:=by
 have hnm:∀id,1≤id∧id≤100000→Lib.decDigits id.toNat=r→φ3d name id:=fun id hid e=>by
  refine ⟨hid,?_⟩
  rcases hw with ⟨hw,_⟩ | ⟨hw,_⟩
  ·left;rw[hn,hw,←e,φ7T hid]
  ·right;rw[hn,hw,←e,φ78 hid]
 by_cases c:(φ25 r).2=true∧1≤(φ25 r).1∧(φ25 r).1≤100000
 ·rw[if_pos c]
  have ht:φ25 r=((φ25 r).1,true):=by rw[←c.1]
  have hi:=φNM ht
  generalize (φ25 r).1=n at c hi
  obtain ⟨m,rfl⟩:∃m:Nat,n=(m:Int):=⟨n.toNat,by omega⟩
  rw[φAg] at hi
  exact (φGM (hnm (m:Int) c.2 (by rw[tN];exact hi))).symm
 ·rw[if_neg c,φA9]
  rintro ⟨id,hid,hor⟩
  apply c
  have hr:r=Lib.decDigits id.toNat:=by
   rcases hw with ⟨hw,hno⟩ | ⟨hw,hno⟩
   ·rcases hor with e | e
    ·rw[hn,hw,φ7T hid] at e;exact List.append_cancel_left e
    ·exact absurd e (hno id hid)
   ·rcases hor with e | e
    ·exact absurd e (hno id hid)
    ·rw[hn,hw,φ78 hid] at e;exact List.append_cancel_left e
  have:=φNR (n:=id.toNat) (by omega)
  rw[←hr] at this
  rw[this]
  exact ⟨rfl,by show (1:Int)≤(id.toNat:Int);omega,by show (id.toNat:Int)≤100000;omega⟩
theorem φKQ (name:List UInt8) (hl:name.length<1000000000000):ψW.f name=some (idOf name):=by
 have fin:∀(r:List UInt8),r.length<1000000000000→((ψh.f r).bind fun (t3_0,t3_1)=>
   bif !true then some ((0:Int),false) else
   bif !t3_1 then some (0,false) else
   (ψ1W.f t3_0 1 100000).bind fun t4=>bif !t4 then some (0,false) else some (t3_0,true))=some (if (φ25 r).2=true∧1≤(φ25 r).1∧(φ25 r).1≤100000 then ((φ25 r).1,true) else (0,false)):=fun r hr=>by
  rw[φDX r hr,bS]
  generalize φ25 r=p
  obtain ⟨n,b⟩:=p
  simp only[nZ,cF,φ1c,bS]
  cases b
  ·simp
  ·by_cases c:1≤n∧n≤100000
   ·simp[c]
   ·have:decide (1≤n∧n≤100000)=false:=decide_eq_false c
    simp only[nZ,cF,this,nF,cT]
    rw[if_neg (fun z=>c z.2)]
 unfold ψW.f
 by_cases h1:∃r,name=[115,101,103]++r
 ·obtain ⟨r,rfl⟩:=h1
  rw[lA] at hl
  rw[φGv]
  have:=fin r (by omega)
  simp only[bS,nZ,cF] at this ⊢
  rw[this,φFq rfl (.inl ⟨rfl,fun id hid e=>by
   rw[φ78 hid] at e
   have:=congrArg (fun l=>l.getD 0 0) e
   simp at this⟩)]
 ·rw[φFe h1]
  by_cases h2:∃r,name=[104,105,110,116]++r
  ·obtain ⟨r,rfl⟩:=h2
   rw[lA] at hl
   rw[bS]
   simp only[nF,cT]
   rw[φGv]
   have:=fin r (by omega)
   simp only[bS,nZ,cF] at this ⊢
   rw[this,φFq rfl (.inr ⟨rfl,fun id hid e=>by
    rw[φ7T hid] at e
    have:=congrArg (fun l=>l.getD 0 0) e
    simp at this⟩)]
  ·rw[bS]
   simp only[nF,cT]
   rw[φFe h2]
   simp only[bS,φDX name hl,nF,cT]
   rw[φA9]
   rintro ⟨id,hid,e | e⟩
   ·exact h1 ⟨_,e.trans (φ7T hid)⟩
   ·exact h2 ⟨_,e.trans (φ78 hid)⟩
theorem φId (l:List Int) (n:Int) (hl:l.length<1000000000):ψ1U.f l n=some (l.any fun x=>x==n):=by
 have key:=φj (step:=ψ1U.l0) (fun k (_:Unit)=>(n,l,(l.length:Int),(k:Int))) l.length (fun k _=>if (l.drop k).any (fun x=>x==n)=true then .inr true else .inl ()) (fun _ _=>True)
  (fun rec k _ hk _ ih=>by
   rcases κ1 k l.length with h | h
   ·have hw:=φS (show k+1<9223372036854775808 by omega)
    rw[dG h,List.any_cons]
    simp only[ψ1U.l0,oL,h,dT,cT,φJ,φN,φB h]
    cases hq:(l[k]==n)
    ·simp only[cF,hw,ih () h trivial,κS]
    ·simp
   ·have:k=l.length:=by omega
    subst this
    simp[ψ1U.l0])
  (by omega) 0 () (κ4 _) trivial
 have key:lp ψ1U.l0 (n,l,(l.length:Int),0)=_:=key
 unfold ψ1U.f
 rw[key,bS,κC]
 cases l.any fun x=>x==n
 ·simp[φf]
 ·simp[φq]
theorem φKB (d:φ1) (v:φQ) (hd:dlim d) (hv:v.2.length<1000000000):ψd.f d v=some (φ3Q d v):=by
 have key:=φj (step:=ψd.l0) (fun n (acc:List (List UInt8))=>(v,acc,d.1,(d.1.length:Int),(n:Int))) d.1.length (fun n acc=>acc++((d.1.drop n).filter (φ4V v)).map (·.1)) (fun n acc=>acc.length≤n)
  (fun rec n acc hn ha ih=>by
   rcases κ1 n d.1.length with h | h
   ·have hlen:=hd.1
    have hw:=φS (show n+1<9223372036854775808 by omega)
    have hnm:=hd.2.2 _ (gM h)
    have hb:(acc.length+([d.1[n].1]:List (List UInt8)).length) * 16≤140737488355328:=φJl (by omega)
    have i1:=ih (acc++[d.1[n].1]) h (by rw[lA];show acc.length+1≤n+1;omega)
    have i2:=ih acc h (by omega)
    rw[dG h,List.filter_cons]
    simp only[ψd.l0,oL,h,dT,cT,φJ,φN,φB h]
    rw[φKQ d.1[n].1 hnm,bS]
    have hob:φ4V v d.1[n]=(((idOf d.1[n].1).2 && !(v.2.any fun i=>i==(idOf d.1[n].1).1)) || d.1[n].1==φ1H):=rfl
    rw[hob]
    obtain ⟨tb,hT⟩:∃tb,(d.1[n].1==φ1H)=tb:=⟨_,rfl⟩
    have ht:(d.1[n].1==[116,101,109,112])=tb:=hT
    rw[hT]
    simp only[φId v.2 _ hv,ht]
    cases (idOf d.1[n].1).2<;>cases (v.2.any fun i=>i==(idOf d.1[n].1).1)<;>cases tb <;>
     simp only[φJ,h,φN,φB h,ht,hb,dT,cT,cF,bS,nZ,nF,κM,Bool.and_false,Bool.or_true,Bool.or_false,tA,κD,κS,Bool.true_or,if_true,κ2,if_false,hw,i1,i2,κ6,aA,List.singleton_append]
   ·have:n=d.1.length:=by omega
    subst this
    simp[ψd.l0])
  (by have:=hd.1;omega) 0 [] (κ4 _) (κ5 _)
 have key:lp ψd.l0 (v,[],d.1,(d.1.length:Int),0)=_:=key
 unfold ψd.f φ3Q
 rw[φ5g d hd,bS]
 cases φ3 d
 ·simp
 ·simp only[nZ,cF,key,bS,κC,κ9,κ8,if_false]
def φ3L (s:List UInt8) (v:φQ):Prop:=φm v=true∧φn v=s
def φ1I:φQ:=(0,[])
def φ4P (v:φQ):List UInt8:=varT v.1++varT (v.2.length:Int)++(v.2.map varT).flatten
theorem φ9u {v:φQ} (h:φm v=true):φ1N v.1∧(∀x∈v.2,φ1N x∧x≤100000)∧1≤v.2.length∧v.2.length≤60∧v.1≤100000:=by
 obtain ⟨k1,k2,k3,k4⟩:=(φ12 v).1 h
 rw[φH (by omega) (by omega)] at k1
 have:=φ3r _ _ k1
 refine ⟨⟨by omega,by omega⟩,fun x hx=>?_,k3,k4,k2.2⟩
 have:=this x hx
 exact ⟨⟨by omega,by omega⟩,by omega⟩
theorem φC9 {n:Int} (h:0≤n∧n≤100000):(varT n).length≤3:=by
 obtain ⟨m,rfl⟩:∃m:Nat,n=(m:Int):=⟨n.toNat,by omega⟩
 rw[φ5I m (by omega)]
 exact (φ8w 2 m (by show m<2097152;omega)).2
theorem φCH {l:List Int} (h:∀x∈l,0≤x∧x≤100000):((l.map varT).flatten).length≤3 * l.length:=by
 induction l with
 | nil=>simp
 | cons x l ih=>
  have h1:=φC9 (h x κ0)
  have h2:=ih (fun y hy=>h y (mC _ hy))
  simp only[κ6,List.flatten_cons,lA,lC]
  omega
theorem φ95 {v:φQ} (h:φm v=true):(φ4P v).length≤200:=by
 obtain ⟨h1,h2,h3,h4,h5⟩:=φ9u h
 have a1:=φC9 ⟨h1.1,h5⟩
 have a2:=φC9 (n:=(v.2.length:Int)) (by omega)
 have a3:=φCH (l:=v.2) (fun x hx=>⟨(h2 x hx).1.1,(h2 x hx).2⟩)
 unfold φ4P
 simp only[lA];omega
theorem φGp {s:List UInt8} {v:φQ} (h:φ3L s v):s=frame (φ4P v)∧φP s=(φ4P v,(s.length:Int))∧5≤s.length:=by
 have e:s=frame (φ4P v):=by
  rw[←h.2];unfold φn;rw[if_neg (by rw[h.1];simp)];rfl
 have hb:=φ7L (φ95 h.1) []
 rw[κ7,←e] at hb
 exact ⟨e,hb,by rw[e];exact φ9V (φ95 h.1)⟩
theorem φKz {s:List UInt8} {v:φQ} (h:φ3L s v):ψk.f s=some (v,true):=by
 obtain ⟨e1,e2,e3⟩:=φGp h
 obtain ⟨n1,n2,n3,n4,n5⟩:=φ9u h.1
 have hbl:=φ95 h.1
 have hsl:s.length≤211:=by rw[e1];exact φ5C _
 obtain ⟨nx,ids⟩:=v
 have hcnt:φ1N (ids.length:Int):=⟨by omega,by have:ids.length≤60:=n4;omega⟩
 have hbd:φ4P (nx,ids)=varT nx++(varT (ids.length:Int)++(ids.map varT).flatten):=by unfold φ4P;rw[aA]
 have hbl2:=hbl
 rw[hbd] at hbl2
 simp only[lA] at hbl2
 have m1:=φ2V n1 (varT (ids.length:Int)++(ids.map varT).flatten) (by simp only[lA];omega)
 have m2:=φ2V hcnt (ids.map varT).flatten (by simp only[lA];omega)
 have n4:ids.length≤60:=n4
 have key:=φj (step:=ψk.l0) (fun n (_:Unit)=>(s,((0,[]):φQ),(s.length:Int),(((ids.drop n).map varT).flatten,false),((nx,ids.take n):φQ),(ids.length:Int),(n:Int))) ids.length (fun _ _=>(s,(0,[]),(s.length:Int),([],false),(nx,ids))) (fun _ _=>True)
  (fun rec n _ hn _ ih=>by
   rcases κ1 n ids.length with h1 | h1
   ·have hw:=φS (show n+1<9223372036854775808 by omega)
    have hin:=(n2 _ (gM h1)).1
    have hd:((ids.drop n).map varT).flatten=varT ids[n]++((ids.drop (n+1)).map varT).flatten:=by
     rw[dG h1];rfl
    have hfl:((ids.drop n).map varT).flatten.length≤3 * (ids.drop n).length:=φCH (fun x hx=>⟨(n2 x (List.mem_of_mem_drop hx)).1.1,(n2 x (List.mem_of_mem_drop hx)).2⟩)
    have m3:=φ2V hin ((ids.drop (n+1)).map varT).flatten (by rw[←hd];rw[lD] at hfl;omega)
    have hb:((ids.take n).length+([ids[n]]:List Int).length) * 8≤140737488355328:=lim8 (by rw[lT];omega)
    have hi:ids.take n++[ids[n]]=ids.take (n+1):=(κ3 h1).symm
    simp only[ψk.l0,oL,h1,dT,cT,hd,nF,m3,bS,hb,hw,hi,ih () h1 trivial]
   ·have:n=ids.length:=by omega
    subst this
    simp[ψk.l0])
  (by omega) 0 () (κ4 _) trivial
 have key:lp ψk.l0 (s,(0,[]),(s.length:Int),((ids.map varT).flatten,false),(nx,[]),(ids.length:Int),0)=_:=key
 unfold ψk.f
 rw[φ82 s (by omega),e2,hbd,bS]
 simp only[m1,m2,bS,key]
 have c1:((s.length:Int)==0)=false:=by
  have:¬(s.length:Int)=0:=by omega
  simpa using this
 have hok:φm (nx,ids)=true:=h.1
 simp only[c1,cF,bne_self_eq_false,beq_self_eq_true,nZ,φ9U (nx,ids) (by show ids.length<2 ^ 62;omega),bS,hok]
theorem φNj (s:List UInt8) (u:Int) (B:List UInt8) (hB:B.length<1000000000000) (n1:Int) (st:φ49) (pre:List UInt8) (cnt:Int) (hst:st.1.length≤B.length) (hpre:st.2=false→0≤cnt∧B=pre++st.1) :
  ∃st' ids,lp ψk.l0 (s,(0,[]),u,st,(n1,[]),cnt,0)=some (s,(0,[]),u,st',(n1,ids))∧ids.length≤B.length+1 ∧
   (st'.2=false→st.2=false∧(ids.length:Int)=cnt∧(∀x∈ids,φ1N x)∧B=pre++((ids.map varT).flatten++st'.1)):=by
 have key:=φ7S (step:=ψk.l0) (a:=(s,((0,[]):φQ),u,st,((n1,[]):φQ),cnt,0))
  (fun a=>∃(st':φ49) (ids:List Int),a=(s,(0,[]),u,st',(n1,ids),cnt,(ids.length:Int))∧st'.1.length≤B.length∧(st'.2=false→ids.length+st'.1.length≤B.length)∧ids.length≤B.length+1 ∧
   (st'.2=false→st.2=false∧(ids.length:Int)≤cnt∧(∀x∈ids,φ1N x)∧B=pre++((ids.map varT).flatten++st'.1)))
  (fun a=>if a.2.2.2.1.2=true then 0 else a.2.2.2.1.1.length+1)
  (fun b=>∃(st':φ49) (ids:List Int),b=(s,(0,[]),u,st',(n1,ids))∧ids.length≤B.length+1∧(st'.2=false→st.2=false∧(ids.length:Int)=cnt∧(∀x∈ids,φ1N x)∧B=pre++((ids.map varT).flatten++st'.1)))
  (fun rec a ha=>by
   obtain ⟨st',ids,rfl,h1,h2,h4,h3⟩:=ha
   obtain ⟨t,bad⟩:=st'
   simp only at h1 h2 h3 h4
   by_cases c:(ids.length:Int)<cnt
   ·cases bad with
    | true=>
     left
     exact ⟨(s,(0,[]),u,(t,true),(n1,ids)),by simp only[ψk.l0,c,dT,cT,nZ,cF],(t,true),ids,rfl,h4,fun e=>by simp at e⟩
    | false=>
     right
     obtain ⟨g1,g2,g3,g4⟩:=h3 rfl
     have g5:=h2 rfl
     have hw:=φS (show ids.length+1<9223372036854775808 by omega)
     rcases φ4z t (by omega) with ⟨x,r,m,et,hx⟩ | m
     ·have hx1:=(φ44 hx []).2
      have hle:t.length=(varT x).length+r.length:=by rw[et,lA]
      have hb:(ids.length+([x]:List Int).length) * 8≤140737488355328:=lim8 (by omega)
      refine ⟨(s,(0,[]),u,(r,false),(n1,ids++[x]),cnt,((ids.length+1:Nat):Int)),⟨(r,false),ids++[x],by simp only[lA,κA],by show r.length≤_;omega,fun _=>by simp only[lA,κA];omega,by simp only[lA,κA];omega,fun _=>⟨g1,by simp only[lA,κA];omega,fun y hy=>?_,?_⟩⟩,?_,?_⟩
      ·rcases mA.1 hy with hy | hy
       ·exact g3 y hy
       ·rw[mZ.1 hy];exact hx
      ·rw[g4,et];simp
      ·simp only[κ2,if_false];omega
      ·simp only[ψk.l0,c,dT,cT,nF,m,bS,hb,hw]
     ·have hb:(ids.length+([0]:List Int).length) * 8≤140737488355328:=lim8 (by omega)
      refine ⟨(s,(0,[]),u,(t,true),(n1,ids++[0]),cnt,((ids.length+1:Nat):Int)),⟨(t,true),ids++[0],by simp only[lA,κA],h1,fun e=>by simp at e,by simp only[lA,κA];omega,fun e=>by simp at e⟩,?_,?_⟩
      ·simp only[if_true,κ2,if_false];omega
      ·simp only[ψk.l0,c,dT,cT,nF,m,bS,hb,hw]
   ·left
    refine ⟨(s,(0,[]),u,(t,bad),(n1,ids)),by simp only[ψk.l0,c,dF,cF],(t,bad),ids,rfl,h4,fun e=>?_⟩
    obtain ⟨g1,g2,g3,g4⟩:=h3 e
    exact ⟨g1,by omega,g3,g4⟩)
  ⟨st,[],rfl,hst,fun _=>by simp;exact hst,by simp,fun e=>⟨e,by simpa using (hpre e).1,by simp,by simpa using (hpre e).2⟩⟩ (by simp only;split<;>omega)
 obtain ⟨b,eb,st',ids,rfl,h1,h2⟩:=key
 exact ⟨st',ids,eb,h1,h2⟩
theorem φNb (s:List UInt8) (hl:s.length<1000000000):∃res:φQ×Bool,ψk.f s=some res∧(res=(φ1I,false)∨∃v,res=(v,true)∧φ3L s v):=by
 have hul:=φ6M s
 unfold ψk.f
 rw[φ82 s (by omega),bS]
 -- the two numbers ahead
 have first:∃(n1 n2:Int) (st:φ49) (pre:List UInt8),((ψ1j.f ((φP s).1,false)).bind fun (t2_0,t2_1)=>(ψ1j.f t2_1).bind fun (t3_0,t3_1)=>some (t2_0,t3_0,t3_1))=some (n1,n2,st)∧st.1.length≤(φP s).1.length ∧
   (st.2=false→φ1N n1∧φ1N n2∧pre=varT n1++varT n2∧(φP s).1=pre++st.1):=by
  rcases φ4z (φP s).1 (by omega) with ⟨x,r,m,et,hx⟩ | m
  ·have hle:(φP s).1.length=(varT x).length+r.length:=by
    have:=congrArg List.length et
    rw[lA] at this;exact this
   rcases φ4z r (by omega) with ⟨y,q,m2,et2,hy⟩ | m2
   ·have hle2:r.length=(varT y).length+q.length:=by
     have:=congrArg List.length et2
     rw[lA] at this;exact this
    exact ⟨x,y,(q,false),varT x++varT y,by simp only[m,m2,bS],by show q.length≤_;omega,fun _=>⟨hx,hy,rfl,by rw[et,et2,aA]⟩⟩
   ·exact ⟨x,0,(r,true),[],by simp only[m,m2,bS],by show r.length≤_;omega,fun e=>by simp at e⟩
  ·exact ⟨0,0,((φP s).1,true),[],by simp only[m,φ6x _ (show (φP s).1.length<2 ^ 62 by omega),bS],κ5 _,fun e=>by simp at e⟩
 obtain ⟨n1,n2,st,pre,e1,e2,e3⟩:=first
 obtain ⟨st',ids,eL,h1,h2⟩:=φNj s (φP s).2 (φP s).1 (by omega) n1 st pre n2 e2 (fun e=>⟨(e3 e).2.1.1,(e3 e).2.2.2⟩)
 have hrest:((ψ1j.f ((φP s).1,false)).bind fun (t2_0,t2_1)=>(ψ1j.f t2_1).bind fun (t3_0,t3_1)=>
   (lp ψk.l0 (s,((0,[]):φQ),(φP s).2,t3_1,(t2_0,[]),t3_0,0)).bind (fun (x0,x2,x5,x6,x7)=>
   bif x5==0 then some ((0,[]),false) else
   bif x5 != (x0.length:Int) then some ((0,[]),false) else
   bif x6.2 then some ((0,[]),false) else
   bif !(x6.1==[]) then some ((0,[]),false) else
   (ψY.f x7).bind fun t6=>bif !t6 then some ((0,[]),false) else some (x7,true))) =
   (bif (φP s).2==0 then some (((0,[]):φQ),false) else
   bif (φP s).2 != (s.length:Int) then some ((0,[]),false) else
   bif st'.2 then some ((0,[]),false) else
   bif !(st'.1==[]) then some ((0,[]),false) else
   (ψY.f (n1,ids)).bind fun t6=>bif !t6 then some ((0,[]),false) else some ((n1,ids),true)):=by
  cases ha:ψ1j.f ((φP s).1,false) with
  | none=>rw[ha] at e1;simp at e1
  | some p=>
   obtain ⟨a1,a2⟩:=p
   rw[ha] at e1
   simp only[bS] at e1 ⊢
   cases hb:ψ1j.f a2 with
   | none=>rw[hb] at e1;simp at e1
   | some q=>
    obtain ⟨b1,b2⟩:=q
    rw[hb] at e1
    simp only[bS,Option.some.injEq,Prod.mk.injEq] at e1 ⊢
    obtain ⟨rfl,rfl,rfl⟩:=e1
    rw[eL];rfl
 suffices hs:∃res:φQ×Bool,(bif (φP s).2==0 then some (((0,[]):φQ),false) else
   bif (φP s).2 != (s.length:Int) then some ((0,[]),false) else
   bif st'.2 then some ((0,[]),false) else
   bif !(st'.1==[]) then some ((0,[]),false) else
   (ψY.f (n1,ids)).bind fun t6=>bif !t6 then some ((0,[]),false) else some ((n1,ids),true))=some res∧(res=(φ1I,false)∨∃v,res=(v,true)∧φ3L s v) by
  obtain ⟨res,e,p⟩:=hs
  exact ⟨res,hrest.trans e,p⟩
 by_cases c1:(φP s).2=0
 ·have d1:((φP s).2==0)=true:=by simpa using c1
  exact ⟨(φ1I,false),by rw[d1];rfl,.inl rfl⟩
 have d1:((φP s).2==0)=false:=by simpa using c1
 rw[d1,cF]
 by_cases c2:(φP s).2=(s.length:Int)
 rotate_left
 ·have d2:((φP s).2 != (s.length:Int))=true:=by simpa using c2
  exact ⟨(φ1I,false),by rw[d2];rfl,.inl rfl⟩
 have d2:((φP s).2 != (s.length:Int))=false:=by simpa using c2
 rw[d2,cF]
 cases c3:st'.2 with
 | true=>exact ⟨(φ1I,false),rfl,.inl rfl⟩
 | false=>
  rw[cF]
  obtain ⟨g1,g2,g3,g4⟩:=h2 c3
  by_cases c4:st'.1=[]
  rotate_left
  ·have d4:(st'.1==[])=false:=by simpa using c4
   exact ⟨(φ1I,false),by rw[d4];rfl,.inl rfl⟩
  have d4:(st'.1==[])=true:=by simpa using c4
  rw[d4,nZ,cF,φ9U (n1,ids) (by show ids.length<2 ^ 62;omega),bS]
  cases c5:φm (n1,ids) with
  | false=>exact ⟨(φ1I,false),rfl,.inl rfl⟩
  | true=>
   refine ⟨((n1,ids),true),rfl,.inr ⟨(n1,ids),rfl,c5,?_⟩⟩
   obtain ⟨t,r,f1,f2,f3⟩:=φ9r c1
   obtain ⟨k1,k2,k3,k4⟩:=e3 g1
   have ht:(φP s).1=t:=by rw[f3]
   have hlen:((frame t).length:Int)=(s.length:Int):=by rw[←c2,f3]
   have hr:r=[]:=by
    have:=congrArg List.length f1
    rw[lA] at this
    exact List.length_eq_zero_iff.1 (by omega)
   unfold φn
   rw[if_neg (by rw[c5];simp)]
   rw[f1,hr,κ7,←ht,g4,k3,c4,←g2]
   simp only[κ7]
theorem φGK {s:List UInt8} {v:φQ} (h:φ3L s v):ψ2c.f s=some (v,true):=by
 obtain ⟨e1,e2,e3⟩:=φGp h
 obtain ⟨n1,n2,n3,n4,n5⟩:=φ9u h.1
 have hbl:=φ95 h.1
 have hsl:s.length≤211:=by rw[e1];exact φ5C _
 have hsh:=h.2
 obtain ⟨nx,ids⟩:=v
 have n4:ids.length≤60:=n4
 have hcnt:φ1N (ids.length:Int):=⟨by omega,by omega⟩
 have hbd:φ4P (nx,ids)=varT nx++(varT (ids.length:Int)++(ids.map varT).flatten):=by unfold φ4P;rw[aA]
 have hbl2:=hbl
 rw[hbd] at hbl2
 simp only[lA] at hbl2
 have r1:=φ44 n1 (varT (ids.length:Int)++(ids.map varT).flatten)
 have r2:=φ44 hcnt (ids.map varT).flatten
 generalize hT:varT nx++(varT (ids.length:Int)++(ids.map varT).flatten)=T at *
 have hTl:T.length=(varT nx).length+((varT (ids.length:Int)).length+((ids.map varT).flatten).length):=by rw[←hT];simp only[lA]
 have hat:∀n,n≤ids.length→T.drop ((varT nx).length+(varT (ids.length:Int)).length+((ids.take n).map varT).flatten.length)=((ids.drop n).map varT).flatten:=fun n hn=>by
  have e:T=(varT nx++varT (ids.length:Int)++((ids.take n).map varT).flatten)++((ids.drop n).map varT).flatten:=by
   rw[←hT]
   simp only[aA]
   congr 2
   rw[←List.flatten_append,←mp,κE]
  rw[e,show (varT nx).length+(varT (ids.length:Int)).length+((ids.take n).map varT).flatten.length=(varT nx++varT (ids.length:Int)++((ids.take n).map varT).flatten).length by simp only[lA],κP]
 have hfle:∀n,((ids.take n).map varT).flatten.length≤200:=fun n=>by
  have:((ids.take n).map varT).flatten.length≤3 * (ids.take n).length:=φCH (fun x hx=>⟨(n2 x (κf hx)).1.1,(n2 x (κf hx)).2⟩)
  rw[lT] at this;omega
 have key:=φj (step:=ψ2c.l0) (fun n (_:Unit)=>(s,((0,[]):φQ),T,(ids.length:Int),((nx,ids.take n):φQ),(((varT nx).length+(varT (ids.length:Int)).length+((ids.take n).map varT).flatten.length:Nat):Int),(n:Int))) ids.length (fun _ _=>(s,(0,[]),(nx,ids))) (fun _ _=>True)
  (fun rec n _ hn _ ih=>by
   rcases κ1 n ids.length with h1 | h1
   ·have hw:=φS (show n+1<9223372036854775808 by omega)
    have hin:=(n2 _ (gM h1)).1
    have hc60:(n:Int)<60:=by omega
    have hd:((ids.drop n).map varT).flatten=varT ids[n]++((ids.drop (n+1)).map varT).flatten:=by
     rw[dG h1];rfl
    have hta:((ids.take (n+1)).map varT).flatten.length=((ids.take n).map varT).flatten.length+(varT ids[n]).length:=by
     rw[κ3 h1,mp,List.flatten_append,lA]
     show _+(varT ids[n]++[]).length=_
     rw[κ7]
    have hdl:=congrArg List.length (hat n hn)
    rw[lD] at hdl
    have r3:=φ44 hin ((ids.drop (n+1)).map varT).flatten
    have h200:=hfle n
    have hvl:=φk ids[n]
    have hvl1:=φk nx
    have hvl2:=φk (ids.length:Int)
    have hdl2:=congrArg List.length hd
    rw[lA] at hdl2
    have hin2:(decide (0≤(((varT nx).length+(varT (ids.length:Int)).length+((ids.take n).map varT).flatten.length:Nat):Int)) && decide ((((varT nx).length+(varT (ids.length:Int)).length+((ids.take n).map varT).flatten.length:Nat):Int)≤(T.length:Int)))=true:=by
     simp only[bA,decide_eq_true_eq];omega
    have hb:((ids.take n).length+([ids[n]]:List Int).length) * 8≤140737488355328:=lim8 (by rw[lT];omega)
    have hi:ids.take n++[ids[n]]=ids.take (n+1):=(κ3 h1).symm
    have hwo:w64 ((((varT nx).length+(varT (ids.length:Int)).length+((ids.take n).map varT).flatten.length:Nat):Int)+((varT ids[n]).length:Int))=(((varT nx).length+(varT (ids.length:Int)).length+((ids.take (n+1)).map varT).flatten.length:Nat):Int):=by
     rw[φH (by omega) (by omega),hta];omega
    simp only[ψ2c.l0,oL,h1,hc60,dT,cT,hin2,tN,hat n hn]
    rw[φ2r _ (by omega),hd,r3.1,bS]
    simp only[hb,dT,cT,hi,hwo,hw,ih () h1 trivial]
   ·have:n=ids.length:=by omega
    subst this
    simp[ψ2c.l0])
  (by omega) 0 () (κ4 _) trivial
 have key:lp ψ2c.l0 (s,(0,[]),T,(ids.length:Int),(nx,[]),(((varT nx).length+(varT (ids.length:Int)).length+((ids.take 0).map varT).flatten.length:Nat):Int),((0:Nat):Int))=_:=key
 have hv1:=φk nx
 have hv2:=φk (ids.length:Int)
 have c1:((s.length:Int)==0)=false:=by
  have:¬(s.length:Int)=0:=by omega
  simpa using this
 have c2:(((varT nx).length:Int)==0)=false:=by
  have:1≤(varT nx).length:=r1.2
  have:¬((varT nx).length:Int)=0:=by omega
  simpa using this
 have c3:(decide (0≤((varT nx).length:Int)) && decide (((varT nx).length:Int)≤(T.length:Int)))=true:=by simp only[bA,decide_eq_true_eq];omega
 have hd1:T.drop (varT nx).length=varT (ids.length:Int)++(ids.map varT).flatten:=by rw[←hT,κP]
 have hw1:w64 (((varT nx).length:Int)+((varT (ids.length:Int)).length:Int))=(((varT nx).length+(varT (ids.length:Int)).length+((ids.take 0).map varT).flatten.length:Nat):Int):=by
  rw[φH (by omega) (by omega)];simp
 unfold ψ2c.f
 rw[φ8Y s (by omega),e2,hbd,bS]
 simp only
 rw[φ2r T (by omega),r1.1,bS]
 simp only[bne_self_eq_false,cF,c1,c2,c3,cT,tN,hd1]
 rw[φ2r _ (by rw[←hd1,lD];omega),r2.1,bS]
 simp only[hw1]
 have key:lp ψ2c.l0 (s,(0,[]),T,(ids.length:Int),(nx,[]),(((varT nx).length+(varT (ids.length:Int)).length+((ids.take 0).map varT).flatten.length:Nat):Int),0)=_:=key
 rw[key,bS]
 simp only[φAO (nx,ids) (by show ids.length<2 ^ 62;omega),bS,hsh,beq_self_eq_true,nZ,cF]
theorem φOX (s:List UInt8) (hl:s.length<1000000000):∃res:φQ×Bool,ψ2c.f s=some res∧(res=(φ1I,false)∨∃v,res=(v,true)∧φ3L s v):=by
 have hul:=φ6M s
 unfold ψ2c.f
 rw[φ8Y s (by omega),bS]
 simp only
 rw[φ2r _ (by omega),bS]
 by_cases c2:(φP s).2=(s.length:Int)
 rotate_left
 ·have d2:((φP s).2 != (s.length:Int))=true:=by simpa using c2
  exact ⟨(φ1I,false),by simp only[d2,cT];rfl,.inl rfl⟩
 have d2:((φP s).2 != (s.length:Int))=false:=by simpa using c2
 simp only[d2,cF]
 by_cases c1:(φP s).2=0
 ·have d1:((φP s).2==0)=true:=by simpa using c1
  exact ⟨(φ1I,false),by simp only[d1,cT];rfl,.inl rfl⟩
 have d1:((φP s).2==0)=false:=by simpa using c1
 simp only[d1,cF]
 generalize hT:(φP s).1=T at *
 have v1:=φ5z T
 by_cases c3:(φz T).2=0
 ·have d3:((φz T).2==0)=true:=by simpa using c3
  exact ⟨(φ1I,false),by simp only[d3,cT];rfl,.inl rfl⟩
 have d3:((φz T).2==0)=false:=by simpa using c3
 have d4:(decide (0≤(φz T).2) && decide ((φz T).2≤(T.length:Int)))=true:=by simp only[bA,decide_eq_true_eq];omega
 simp only[d3,d4,cF,cT]
 rw[φ2r _ (by rw[lD];omega),bS]
 generalize hR:T.drop (φz T).2.toNat=R
 have v2:=φ5z R
 have hRl:R.length+(φz T).2.toNat=T.length:=by rw[←hR,lD];omega
 generalize (φz T).1=n1
 generalize (φz R).1=cnt
 have hw1:w64 ((φz T).2+(φz R).2)=(φz T).2+(φz R).2:=φH (by omega) (by omega)
 simp only[hw1]
 have hp0:0≤(φz T).2+(φz R).2∧(φz T).2+(φz R).2≤T.length:=by omega
 generalize (φz T).2+(φz R).2=pos at hp0
 have key:=φ7S (step:=ψ2c.l0) (a:=(s,((0,[]):φQ),T,cnt,((n1,[]):φQ),pos,0))
  (fun a=>∃(ids:List Int) (p:Int),a=(s,(0,[]),T,cnt,(n1,ids),p,(ids.length:Int))∧0≤p∧p≤(T.length:Int)∧ids.length≤60)
  (fun a=>61 - a.2.2.2.2.1.2.length)
  (fun b=>∃ids:List Int,b=(s,(0,[]),(n1,ids))∧ids.length≤60)
  (fun rec a ha=>by
   obtain ⟨ids,p,rfl,h1,h2,h3⟩:=ha
   by_cases c:(ids.length:Int)<cnt
   rotate_left
   ·left;exact ⟨_,by simp only[ψ2c.l0,c,dF,cF,cT],ids,rfl,h3⟩
   by_cases cc:(ids.length:Int)<60
   rotate_left
   ·left;exact ⟨_,by simp only[ψ2c.l0,c,cc,dT,dF,cT,cF,cT],ids,rfl,h3⟩
   right
   have hin:(decide (0≤p) && decide (p≤(T.length:Int)))=true:=by simp only[bA,decide_eq_true_eq];omega
   have v3:=φ5z (T.drop p.toNat)
   rw[lD] at v3
   have hw:=φS (show ids.length+1<9223372036854775808 by omega)
   have hwp:w64 (p+(φz (T.drop p.toNat)).2)=p+(φz (T.drop p.toNat)).2:=φH (by omega) (by omega)
   have hb:(ids.length+([(φz (T.drop p.toNat)).1]:List Int).length) * 8≤140737488355328:=lim8 (by omega)
   refine ⟨(s,(0,[]),T,cnt,(n1,ids++[(φz (T.drop p.toNat)).1]),p+(φz (T.drop p.toNat)).2,((ids.length+1:Nat):Int)),⟨ids++[(φz (T.drop p.toNat)).1],p+(φz (T.drop p.toNat)).2,by simp only[lA,κA],by omega,by omega,by simp only[lA,κA];omega⟩,by simp only[lA,κA];omega,?_⟩
   simp only[ψ2c.l0,c,cc,dT,cT,hin]
   rw[φ2r _ (by rw[lD];omega),bS]
   simp only[hb,dT,cT,hwp,hw])
  ⟨[],pos,rfl,hp0.1,by omega,by simp⟩ (by simp)
 obtain ⟨b,eb,ids,rfl,h60⟩:=key
 rw[eb,bS]
 simp only[φAO (n1,ids) (by show ids.length<2 ^ 62;omega),bS]
 by_cases c5:φn (n1,ids)=s
 rotate_left
 ·have d5:(φn (n1,ids)==s)=false:=by simpa using c5
  exact ⟨(φ1I,false),by simp only[d5,nF,cT];rfl,.inl rfl⟩
 have d5:(φn (n1,ids)==s)=true:=by simpa using c5
 refine ⟨((n1,ids),true),by simp only[d5,nZ,cF],.inr ⟨(n1,ids),rfl,?_,c5⟩⟩
 cases hk:φm (n1,ids) with
 | true=>rfl
 | false=>
  exfalso
  have:φn (n1,ids)=[]:=by unfold φn;rw[if_pos hk]
  rw[this] at c5
  apply c1
  rw[c2,←c5];rfl
noncomputable def φ2y (s:List UInt8):φQ×Bool:=@dite (φQ×Bool) (∃v,φ3L s v) (Classical.propDecidable _) (fun h=>(h.choose,true)) (fun _=>(φ1I,false))
theorem φGn {s:List UInt8} {o:Option (φQ×Bool)} (h1:∀v,φ3L s v→o=some (v,true)) (h2:∃res:φQ×Bool,o=some res∧(res=(φ1I,false)∨∃v,res=(v,true)∧φ3L s v)):o=some (φ2y s):=by
 unfold φ2y
 by_cases h:∃v,φ3L s v
 ·rw[dif_pos h];exact h1 _ h.choose_spec
 ·rw[dif_neg h]
  obtain ⟨res,e,k | ⟨v,_,hv⟩⟩:=h2
  ·rw[e,k]
  ·exact absurd ⟨v,hv⟩ h
theorem φL4 (s:List UInt8) (hl:s.length<1000000000):ψk.f s=some (φ2y s):=φGn (fun _ h=>φKz h) (φNb s hl)
theorem φKL (s:List UInt8) (hl:s.length<1000000000):ψ2c.f s=some (φ2y s):=φGn (fun _ h=>φGK h) (φOX s hl)
theorem φDO (s:List UInt8):φ2y s=(φ1I,false)∧(¬∃v,φ3L s v)∨∃v,φ2y s=(v,true)∧φ3L s v:=by
 unfold φ2y
 by_cases h:∃v,φ3L s v
 ·rw[dif_pos h];exact .inr ⟨_,rfl,h.choose_spec⟩
 ·rw[dif_neg h];exact .inl ⟨rfl,h⟩
def φ4C (s:List UInt8) (h:φ1J):Prop:=φ2Y h=true∧φ1W h=s
def φ5N:φ1J:=(0,0,[])
theorem φ5h (st:φ49) (hl:st.1.length<2 ^ 62):∃n st',ψ1j.f st=some (n,st')∧st'.1.length≤st.1.length∧(st'.2=false→st.2=false∧st'.1.length+1≤st.1.length):=by
 obtain ⟨s,b⟩:=st
 cases b with
 | true=>exact ⟨0,(s,true),φ6x s hl,κ5 _,fun e=>by simp at e⟩
 | false=>
  rcases φ4z s hl with ⟨n,r,m,e,hn⟩ | m
  ·have h1:=(φ44 hn []).2
   have hle:s.length=(varT n).length+r.length:=by rw[e,lA]
   exact ⟨n,(r,false),m,by show r.length≤s.length;omega,fun _=>⟨rfl,by show r.length+1≤s.length;omega⟩⟩
  ·exact ⟨0,(s,true),m,κ5 _,fun e=>by simp at e⟩
theorem φLq (st:φ49) (hl:st.1.length<2 ^ 62):∃t st',ψ1k.f st=some (t,st')∧st'.1.length≤st.1.length∧(st'.2=false→st.2=false∧st'.1.length+1≤st.1.length):=by
 obtain ⟨s,b⟩:=st
 cases b with
 | true=>exact ⟨[],(s,true),φ9H s hl,κ5 _,fun e=>by simp at e⟩
 | false=>
  rcases φ8M s hl with ⟨t,r,m,e,hn⟩ | ⟨r,m,hr⟩
  ·have h1:=(φ44 hn []).2
   have hle:s.length=(varT (t.length:Int)).length+(t.length+r.length):=by
    have:=congrArg List.length e
    simp only[lA] at this;exact this
   exact ⟨t,(r,false),m,by show r.length≤s.length;omega,fun _=>⟨rfl,by show r.length+1≤s.length;omega⟩⟩
  ·exact ⟨[],(r,true),m,hr,fun e=>by simp at e⟩
theorem φMB (s:List UInt8):∃t st',ψ1i.f (s,false) 4=some (t,st')∧st'.1.length≤s.length:=by
 rcases φAG s 4 (by decide) with ⟨t,r,e,es,_⟩ | e
 ·exact ⟨t,(r,false),e,by rw[es,lA];show r.length≤_;omega⟩
 ·exact ⟨[],(s,true),e,κ5 _⟩
theorem φG5 {a:Nat} (h:a<1000000000001):(a+1) * 48≤140737488355328:=by omega
theorem φJc (s:List UInt8) (hl:s.length<900000000):∃res:φ1J×Bool,ψj.f s=some res∧(res=(φ5N,false)∨∃h,res=(h,true)∧φ4C s h):=by
 obtain ⟨t,st1,e1,l1⟩:=φMB s
 obtain ⟨n2,st2,e2,l2,_⟩:=φ5h st1 (by omega)
 obtain ⟨n3,st3,e3,l3,_⟩:=φ5h st2 (by omega)
 obtain ⟨n4,st4,e4,l4,_⟩:=φ5h st3 (by omega)
 have key:=φ7S (step:=ψj.l0) (a:=(s,((0,0,[]):φ1J),st4,((n2,n3,[]):φ1J),n4,0))
  (fun a=>∃(st:φ49) (es:List φD),a=(s,(0,0,[]),st,(n2,n3,es),n4,(es.length:Int))∧st.1.length≤s.length∧(st.2=false→es.length+st.1.length≤s.length)∧es.length≤s.length+1)
  (fun a=>if a.2.2.1.2=true then 0 else a.2.2.1.1.length+1)
  (fun b=>∃(st:φ49) (es:List φD),b=(s,(0,0,[]),st,(n2,n3,es))∧es.length≤s.length+1)
  (fun rec a ha=>by
   obtain ⟨st,es,rfl,h1,h2,h4⟩:=ha
   by_cases c:(es.length:Int)<n4
   rotate_left
   ·left;exact ⟨_,by simp only[ψj.l0,c,dF,cF],st,es,rfl,h4⟩
   obtain ⟨u,bad⟩:=st
   simp only at h1 h2
   cases bad with
   | true=>
    left
    exact ⟨_,by simp only[ψj.l0,c,dT,cT,nZ,cF],(u,true),es,rfl,h4⟩
   | false=>
    right
    have h2:=h2 rfl
    obtain ⟨x5,s5,m5,q5,r5⟩:=φLq (u,false) (show u.length<2 ^ 62 by omega)
    have q5:s5.1.length≤u.length:=q5
    obtain ⟨x6,s6,m6,q6,r6⟩:=φ5h s5 (by omega)
    obtain ⟨x7,s7,m7,q7,r7⟩:=φ5h s6 (by omega)
    obtain ⟨x8,s8,m8,q8,r8⟩:=φ5h s7 (by omega)
    obtain ⟨x9,s9,m9,q9,r9⟩:=φ5h s8 (by omega)
    have hw:=φS (show es.length+1<9223372036854775808 by omega)
    have hb:(es.length+([(x5,x6,x7,x8,x9)]:List φD).length) * 48≤140737488355328:=φG5 (by omega)
    have hdec:s9.2=false→s9.1.length+1≤u.length:=fun e=>by
     have a9:=r9 e
     have a8:=r8 a9.1
     have a7:=r7 a8.1
     have a6:=r6 a7.1
     have a5:=(r5 a6.1).2
     have a5:s5.1.length+1≤u.length:=a5
     omega
    refine ⟨(s,(0,0,[]),s9,(n2,n3,es++[(x5,x6,x7,x8,x9)]),n4,((es.length+1:Nat):Int)),⟨s9,es++[(x5,x6,x7,x8,x9)],by simp only[lA,κA],by omega,fun e=>by simp only[lA,κA];have:=hdec e;omega,by simp only[lA,κA];omega⟩,?_,?_⟩
    ·simp only[κ2,if_false]
     split
     ·omega
     ·rename_i z
      have:=hdec (by simpa using z)
      omega
    ·simp only[ψj.l0,c,dT,cT,nF,m5,m6,m7,m8,m9,bS,hb,hw])
  ⟨st4,[],rfl,by omega,fun _=>by simp;omega,by simp⟩ (by simp only;split<;>omega)
 obtain ⟨b,eb,st,es,rfl,hes⟩:=key
 unfold ψj.f
 simp only[e1,e2,e3,e4,bS,eb]
 cases c1:st.2 with
 | true=>exact ⟨(φ5N,false),rfl,.inl rfl⟩
 | false=>
  simp only[cF,φBh (n2,n3,es) (show es.length<1000000000 by omega),bS]
  cases c2:φ2Y (n2,n3,es) with
  | false=>exact ⟨(φ5N,false),rfl,.inl rfl⟩
  | true=>
   simp only[nZ,cF,φB4 (n2,n3,es) (show es.length<1000000000 by omega),bS]
   by_cases c3:φ1W (n2,n3,es)=s
   ·have d3:(φ1W (n2,n3,es)==s)=true:=by simpa using c3
    exact ⟨((n2,n3,es),true),by simp only[d3,nZ,cF],.inr ⟨_,rfl,c2,c3⟩⟩
   ·have d3:(φ1W (n2,n3,es)==s)=false:=by simpa using c3
    exact ⟨(φ5N,false),by simp only[d3,nF,cT];rfl,.inl rfl⟩
theorem φF2 {h:φ1J} (k:φ2Y h=true):φ1N h.1∧φ1N h.2.1∧h.2.2.length≤20∧∀e∈h.2.2,e.1.length≤8∧φ1N e.2.1∧φ1N e.2.2.1∧φ1N e.2.2.2.1∧φ1N e.2.2.2.2:=by
 unfold φ2Y at k
 simp only[bA,decide_eq_true_eq,κT] at k
 obtain ⟨k1,k2,k3,k4⟩:=k
 have hd:=φ46 k4
 refine ⟨⟨k2.1,by omega⟩,⟨k3.1,by omega⟩,hd.1,fun e he=>?_⟩
 have ho:=hd.2 e he
 have hs:=k1 e he
 have hk:=φHw ho
 unfold φ32 at ho
 unfold φ4S at hs
 simp only[bA,decide_eq_true_eq,κN,decide_eq_false_iff_not] at ho hs
 unfold φ1N
 omega
theorem φKj {s:List UInt8} {h:φ1J} (k:φ4C s h):s=fix4 (crcT (φ1w h))++φ1w h∧(fix4 (crcT (φ1w h))).length=4:=by
 refine ⟨?_,φ70 (φ4o _)⟩
 rw[←k.2];unfold φ1W;rw[if_neg (by rw[k.1];simp)]
theorem φET (e:φD) (r:List UInt8):entT e++r=varT (e.1.length:Int)++(e.1++(varT e.2.1++(varT e.2.2.1++(varT e.2.2.2.1++(varT e.2.2.2.2++r))))):=by
 unfold entT;simp only[aA]
theorem φIN {s:List UInt8} {h:φ1J} (k:φ4C s h):ψj.f s=some (h,true):=by
 obtain ⟨es,h4⟩:=φKj k
 obtain ⟨n1,n2,n3,n4⟩:=φF2 k.1
 have hbl:=φ8g k.1
 have hsh:=k.2
 have hok:=k.1
 obtain ⟨z,m,l⟩:=h
 simp only at n1 n2 n3 n4
 have hcnt:φ1N (l.length:Int):=⟨by omega,by omega⟩
 have hbd:φ1w (z,m,l)=varT z++(varT m++(varT (l.length:Int)++(l.map entT).flatten)):=by unfold φ1w;simp only[aA]
 have hbl2:=hbl
 rw[hbd] at hbl2
 simp only[lA] at hbl2
 have b0:=φ6h (fix4 (crcT (φ1w (z,m,l)))) (φ1w (z,m,l))
 rw[←es,h4,hbd] at b0
 have b0:ψ1i.f (s,false) 4=_:=b0
 have m1:=φ2V n1 (varT m++(varT (l.length:Int)++(l.map entT).flatten)) (by simp only[lA];omega)
 have m2:=φ2V n2 (varT (l.length:Int)++(l.map entT).flatten) (by simp only[lA];omega)
 have m3:=φ2V hcnt (l.map entT).flatten (by simp only[lA];omega)
 have hfl:∀n,((l.drop n).map entT).flatten.length≤43 * (l.drop n).length:=fun n=>φAB (fun x hx=>(n4 x (List.mem_of_mem_drop hx)).1)
 have key:=φj (step:=ψj.l0) (fun n (_:Unit)=>(s,((0,0,[]):φ1J),(((l.drop n).map entT).flatten,false),((z,m,l.take n):φ1J),(l.length:Int),(n:Int))) l.length (fun _ _=>(s,(0,0,[]),([],false),(z,m,l))) (fun _ _=>True)
  (fun rec n _ hn _ ih=>by
   rcases κ1 n l.length with h1 | h1
   ·have hw:=φS (show n+1<9223372036854775808 by omega)
    obtain ⟨k0,k1,k2,k3,k5⟩:=n4 _ (gM h1)
    have hk0:φ1N (l[n].1.length:Int):=⟨by omega,by omega⟩
    have hd:((l.drop n).map entT).flatten=entT l[n]++((l.drop (n+1)).map entT).flatten:=by
     rw[dG h1];rfl
    have hlen:=hfl n
    rw[hd,φET] at hlen
    rw[lD] at hlen
    simp only[lA] at hlen
    have t0:=φ9m l[n].1 (varT l[n].2.1++(varT l[n].2.2.1++(varT l[n].2.2.2.1++(varT l[n].2.2.2.2++((l.drop (n+1)).map entT).flatten)))) hk0 (by simp only[lA];omega)
    have t1:=φ2V k1 (varT l[n].2.2.1++(varT l[n].2.2.2.1++(varT l[n].2.2.2.2++((l.drop (n+1)).map entT).flatten))) (by simp only[lA];omega)
    have t2:=φ2V k2 (varT l[n].2.2.2.1++(varT l[n].2.2.2.2++((l.drop (n+1)).map entT).flatten)) (by simp only[lA];omega)
    have t3:=φ2V k3 (varT l[n].2.2.2.2++((l.drop (n+1)).map entT).flatten) (by simp only[lA];omega)
    have t4:=φ2V k5 ((l.drop (n+1)).map entT).flatten (by simp only[lA];omega)
    have hb:((l.take n).length+([l[n]]:List φD).length) * 48≤140737488355328:=φG5 (by rw[lT];omega)
    have hi:l.take n++[l[n]]=l.take (n+1):=(κ3 h1).symm
    have hp:((l[n].1,l[n].2.1,l[n].2.2.1,l[n].2.2.2.1,l[n].2.2.2.2):φD)=l[n]:=rfl
    simp only[ψj.l0,oL,h1,dT,cT,hd,φET,nF,t0,t1,t2,t3,t4,bS,hp,hb,hw,hi,ih () h1 trivial]
   ·have:n=l.length:=by omega
    subst this
    simp[ψj.l0])
  (by omega) 0 () (κ4 _) trivial
 have key:lp ψj.l0 (s,(0,0,[]),((l.map entT).flatten,false),(z,m,[]),(l.length:Int),0)=_:=key
 unfold ψj.f
 simp only[b0,m1,m2,m3,bS,key,cF,φBh (z,m,l) (show l.length<1000000000 by omega),hok,nZ,φB4 (z,m,l) (show l.length<1000000000 by omega),hsh,beq_self_eq_true]
noncomputable def φ3b (s:List UInt8):φ1J×Bool:=@dite (φ1J×Bool) (∃v,φ4C s v) (Classical.propDecidable _) (fun h=>(h.choose,true)) (fun _=>(φ5N,false))
theorem φJX {s:List UInt8} {o:Option (φ1J×Bool)} (h1:∀v,φ4C s v→o=some (v,true)) (h2:∃res:φ1J×Bool,o=some res∧(res=(φ5N,false)∨∃v,res=(v,true)∧φ4C s v)):o=some (φ3b s):=by
 unfold φ3b
 by_cases h:∃v,φ4C s v
 ·rw[dif_pos h];exact h1 _ h.choose_spec
 ·rw[dif_neg h]
  obtain ⟨res,e,k | ⟨v,_,hv⟩⟩:=h2
  ·rw[e,k]
  ·exact absurd ⟨v,hv⟩ h
theorem φMg (s:List UInt8) (hl:s.length<900000000):ψj.f s=some (φ3b s):=φJX (fun _ h=>φIN h) (φJc s hl)
theorem φDY (s:List UInt8):φ3b s=(φ5N,false)∧(¬∃v,φ4C s v)∨∃v,φ3b s=(v,true)∧φ4C s v:=by
 unfold φ3b
 by_cases h:∃v,φ4C s v
 ·rw[dif_pos h];exact .inr ⟨_,rfl,h.choose_spec⟩
 ·rw[dif_neg h];exact .inl ⟨rfl,h⟩
theorem φNO (x y:φD):(x.1==y.1 && (x.2.1==y.2.1 && (x.2.2.1==y.2.2.1 && (x.2.2.2.1==y.2.2.2.1 && x.2.2.2.2==y.2.2.2.2))))=decide (x=y):=by
 obtain ⟨a,b,c,d,e⟩:=x
 obtain ⟨a',b',c',d',e'⟩:=y
 apply Bool.eq_iff_iff.2
 simp
theorem φJq (a b:List φD) (ha:a.length<2 ^ 62):ψv.f a b=some (decide (a=b)):=by
 unfold ψv.f
 by_cases hl:a.length=b.length
 rotate_left
 ·rw[φAC hl]
  have:¬a=b:=fun e=>hl (by rw[e])
  rw[decide_eq_false this];rfl
 rw[φBj hl,cF]
 have key:=φ4Q (step:=ψv.l0) (List.range a.length) (fun i=>decide (a.getD i ([],0,0,0,0)=b.getD i ([],0,0,0,0))) (fun n=>(a,b,(a.length:Int),(n:Int))) () (by simpa using ha)
  (fun rec n h=>by
   have h1:n<a.length:=by simpa using h
   have h2:n<b.length:=by omega
   have hw:=φS (show n+1<9223372036854775808 by omega)
   have hr:(List.range a.length)[n]=n:=by simp
   simp only[ψv.l0,oL,h1,dT,cT,φJ,h2,φN,φNO,hw,hr]
   cases decide (a.getD n ([],0,0,0,0)=b.getD n ([],0,0,0,0))<;>simp)
  (fun rec=>by simp[ψv.l0])
 have key:lp ψv.l0 (a,b,(a.length:Int),0)=_:=key
 rw[key,bS]
 have hall:(List.range a.length).all (fun i=>decide (a.getD i ([],0,0,0,0)=b.getD i ([],0,0,0,0)))=decide (a=b):=by
  apply Bool.eq_iff_iff.2
  rw[κT,decide_eq_true_eq]
  constructor
  ·intro h
   apply List.ext_getElem hl
   intro i h1 h2
   have:=h i (by simpa using h1)
   simp only[decide_eq_true_eq] at this
   rwa [φB h1,φB h2] at this
  ·rintro rfl i _;simp
 rw[hall]
 by_cases e:a=b
 ·rw[decide_eq_true e];simp[φf]
 ·rw[decide_eq_false e];simp[φq]
noncomputable def φ6y (id:Int) (t:List UInt8) (h:φ1J):Bool:=decide (φ14 id t=(h,true))
theorem φNc (x:φ1J×Bool) (h:φ1J):(bif x.2 then bif x.1.1==h.1 then bif x.1.2.1==h.2.1 then decide (x.1.2.2=h.2.2) else false else false else false)=decide (x=(h,true)):=by
 obtain ⟨⟨a,b,c⟩,d⟩:=x
 obtain ⟨a',b',c'⟩:=h
 apply Bool.eq_iff_iff.2
 cases d
 ·simp
 ·simp only[cT,decide_eq_true_eq,Prod.mk.injEq,and_true]
  by_cases e1:a=a'
  ·by_cases e2:b=b'
   ·simp[e1,e2]
   ·have:(b==b')=false:=by simpa using e2
    simp[e1,e2,this]
  ·have:(a==a')=false:=by simpa using e1
   simp[e1,this]
theorem φJ0 (id:Int) (t:List UInt8) (h:φ1J) (ht:t.length<100000000):ψT.f id t h=some (φ6y id t h):=by
 unfold ψT.f φ6y
 rw[φEP id t ht,bS,←φNc]
 have hl:=φFv id t
 generalize φ14 id t=x at hl ⊢
 obtain ⟨⟨a,b,c⟩,d⟩:=x
 simp only[φJq c h.2.2 (show c.length<2 ^ 62 by have:c.length≤t.length:=hl;omega),bS]
 cases d<;>simp only[cT,cF]
 cases (a==h.1)<;>cases (b==h.2.1)<;>rfl
abbrev φ17:=List φD×Int×Int
abbrev φLm:φF:=(0,0,0,0,0,[],[],0,0)
def φ1g (k b:Int) (acc:List φF) (p:φF):List φF:=
 if k=3∧p.2.2.2.2.1≠b then acc
 else if p.2.2.2.1=k then []
 else if (k=3∧(p.2.2.2.1=1∨p.2.2.2.1=2))∨(k=5∧p.2.2.2.1=4) then acc++[p] else acc
def ownL (k b:Int) (l:List φF):List φF:=l.foldl (φ1g k b) []
theorem φI9 (k b:Int) (acc:List φF) (p:φF):(φ1g k b acc p).length≤acc.length+1:=by
 unfold φ1g
 split
 ·omega
 ·split
  ·simp
  ·split
   ·simp
   ·omega
theorem φF1 (k b:Int) (l:List φF):(ownL k b l).length≤l.length:=by
 have:∀(l acc:List φF),(l.foldl (φ1g k b) acc).length≤acc.length+l.length:=by
  intro l
  induction l with
  | nil=>intro acc;simp
  | cons x l ih=>intro acc;have:=ih (φ1g k b acc x);have:=φI9 k b acc x;simp only[κO,lC];omega
 have:=this l []
 unfold ownL
 simpa using this
theorem φMi {a:Nat} (h:a<1000000000001):(a+1) * 88≤140737488355328:=by omega
theorem φEr (l:List φF) (r:RecT) (hl:l.length<1000000000):ψ1d.f l r=some (ownL r.1 r.2.1 l):=by
 have hk:=φ3g (step:=ψ1d.l0) l (φ1g r.1 r.2.1) (fun n (s:List φF)=>(r,s,l,(l.length:Int),(n:Int))) (fun s=>s) (fun n s=>s.length≤n) (by omega)
  (fun rec n s h hi=>by
   have hw:=φS (show n+1<9223372036854775808 by omega)
   have hb:(s.length+([l[n]]:List φF).length) * 88≤140737488355328:=φMi (by omega)
   have hb2:decide ((s.length+1) * 88≤140737488355328)=true:=by simp only[decide_eq_true_eq];omega
   unfold φ1g
   simp only[ψ1d.l0,oL,h,dT,cT,φJ,φN,φB h]
   generalize l[n]=p at *
   obtain ⟨sg,at_,ln,k,b,key,v,c,z⟩:=p
   obtain ⟨rk,rb,rr⟩:=r
   simp only at hb ⊢
   by_cases c1:rk=3
   ·subst c1
    simp only[beq_self_eq_true,cT,true_and,show ¬((3:Int)=5) by decide,false_and,or_false]
    by_cases c2:b=rb
    ·subst c2
     simp only[bne_self_eq_false,cF,ne_eq,not_true,if_false]
     by_cases c3:k=3
     ·subst c3;simp[hw]
     ·have d3:(k==3)=false:=by simpa using c3
      simp only[d3,cF,c3,if_false]
      by_cases c4:k=1
      ·subst c4;simp[hw,hb2]
      ·have d4:(k==1)=false:=by simpa using c4
       simp only[d4,cF,c4,false_or]
       by_cases c5:k=2
       ·subst c5;simp[hw,hb2]
       ·have d5:(k==2)=false:=by simpa using c5
        have d6:((3:Int)==5)=false:=rfl
        simp[d5,c5,d6,hw]
    ·have d2:(b != rb)=true:=by simpa using c2
     simp[d2,c2,hw]
   ·have d1:(rk==3)=false:=by simpa using c1
    simp only[d1,cF,c1,false_and,if_false,false_or]
    by_cases c3:k=rk
    ·have d3:(k==rk)=true:=by simpa using c3
     simp[d3,c3,hw]
    ·have d3:(k==rk)=false:=by simpa using c3
     simp only[d3,cF,c3,if_false]
     by_cases c4:rk=5
     ·subst c4
      simp only[beq_self_eq_true,cT,true_and]
      by_cases c5:k=4
      ·subst c5;simp[hw,hb2]
      ·have d5:(k==4)=false:=by simpa using c5
       simp[d5,c5,hw]
     ·have d4:(rk==5)=false:=by simpa using c4
      simp[d4,c4,hw])
  (fun n s h hi=>by have:=φI9 r.1 r.2.1 s l[n];omega)
  (fun rec s hi=>by simp[ψ1d.l0]) [] (κ5 _)
 have hk:lp ψ1d.l0 (r,[],l,(l.length:Int),0)=_:=hk
 unfold ψ1d.f
 rw[hk];rfl
def putD (dir:List φD) (p:φF):List φD:=
 if p.2.2.2.1=2 then φ1C dir p.2.2.2.2.2.1 else insB (φ1C dir p.2.2.2.2.2.1) (p.2.2.2.2.2.1,p.1,p.2.1,p.2.2.1,p.2.2.2.2.1)
def φ1z (dir:List φD) (own:List φF):List φD:=own.foldl putD dir
theorem φHV (dir:List φD) (p:φF):(putD dir p).length≤dir.length+1:=by
 unfold putD
 have:=φ8s dir p.2.2.2.2.2.1
 split
 ·omega
 ·rw[φ60];omega
theorem φKf (own:List φF):∀dir,(φ1z dir own).length≤dir.length+own.length:=by
 unfold φ1z
 induction own with
 | nil=>intro dir;simp
 | cons x l ih=>intro dir;have:=ih (putD dir x);have:=φHV dir x;simp only[κO,lC];omega
def φ5A (dir:List φD) (c:Int):Int:=if 20<dir.length then 2 else c
theorem φLM (g:φ17) (own:List φF) (hg:g.1.length<100000000) (ho:own.length<100000000):ψS.f g own=some (φ1z g.1 own,g.2.1,φ5A (φ1z g.1 own) g.2.2):=by
 have hk:=φ3g (step:=ψS.l0) own putD (fun n (s:List φD)=>((s,g.2),own,(own.length:Int),(n:Int))) (fun s=>(s,g.2)) (fun n s=>s.length≤g.1.length+n) (by omega)
  (fun rec n s h hi=>by
   have hw:=φS (show n+1<9223372036854775808 by omega)
   unfold putD
   simp only[ψS.l0,oL,h,dT,cT,φJ,φN,φB h]
   by_cases c:own[n].2.2.2.1=2
   ·have d:(own[n].2.2.2.1==2)=true:=by simpa using c
    rw[if_pos c]
    simp only[d,cT,φCX s own[n].2.2.2.2.2.1 (by omega),bS,hw]
   ·have d:(own[n].2.2.2.1==2)=false:=by simpa using c
    rw[if_neg c]
    simp only[d,cF,φGH s (own[n].2.2.2.2.2.1,own[n].1,own[n].2.1,own[n].2.2.1,own[n].2.2.2.2.1) (by omega),bS,hw])
  (fun n s h hi=>by have:=φHV s own[n];omega)
  (fun rec s hi=>by simp[ψS.l0]) g.1 (κ5 _)
 have hk:lp ψS.l0 (g,own,(own.length:Int),0)=some (φ1z g.1 own,g.2):=hk
 unfold ψS.f φ5A
 rw[hk,bS]
 simp only
 by_cases c:20<(φ1z g.1 own).length
 ·have d:decide (((φ1z g.1 own).length:Int) > 20)=true:=by simp;omega
  rw[d,if_pos c];rfl
 ·have d:decide (((φ1z g.1 own).length:Int) > 20)=false:=by simp;omega
  rw[d,if_neg c];rfl
def φ1i (pre:List φF) (p:φF) (g:φ17):φ17:=
 let last:=if p.2.2.2.2.1 > g.2.1 then p.2.2.2.2.1 else g.2.1
 if p.2.2.2.1=3∨p.2.2.2.1=5 then
  let own:=ownL p.2.2.2.1 p.2.2.2.2.1 pre
  if φ3S p.2.2.2 (own.map (·.2.2.2))=true then (φ1z g.1 own,last,φ5A (φ1z g.1 own) g.2.2)
  else if p.2.2.2.1=5 then (g.1,last,1) else (g.1,last,g.2.2)
 else (g.1,last,g.2.2)
def φp:List φF→List φF→φ17→φ17
 | _,[],g=>g
 | pre,p::r,g=>if g.2.2≠0 then g else φp (pre++[p]) r (φ1i pre p g)
def φ6v (l:List φF) (g:φ17):φ17:=if g.2.2=0∧0<(ownL 5 0 l).length then (g.1,g.2.1,1) else g
def φ2G (g:φ17) (l:List φF):φ17:=φ6v l (φp [] l g)
theorem φJL (pre:List φF) (p:φF) (g:φ17):(φ1i pre p g).1.length≤g.1.length+pre.length:=by
 unfold φ1i
 have h1:=φKf (ownL p.2.2.2.1 p.2.2.2.2.1 pre) g.1
 have h2:=φF1 p.2.2.2.1 p.2.2.2.2.1 pre
 simp only
 split
 ·split
  ·show (φ1z g.1 (ownL p.2.2.2.1 p.2.2.2.2.1 pre)).length≤_;omega
  ·split<;>exact Nat.le_add_right _ _
 ·exact Nat.le_add_right _ _
theorem φNG (pre:List φF) (p:φF) (g:φ17) (h:g.2.2=0) (hc:(φ1i pre p g).2.2=0):(φ1i pre p g).1.length≤max g.1.length 20:=by
 unfold φ1i at hc ⊢
 simp only at hc ⊢
 split
 ·rename_i c
  rw[if_pos c] at hc
  split
  ·rename_i c2
   rw[if_pos c2] at hc
   have hc:φ5A (φ1z g.1 (ownL p.2.2.2.1 p.2.2.2.2.1 pre)) g.2.2=0:=hc
   show (φ1z g.1 (ownL p.2.2.2.1 p.2.2.2.2.1 pre)).length≤_
   unfold φ5A at hc
   split at hc
   ·simp at hc
   ·omega
  ·split<;>exact Nat.le_max_left _ _
 ·exact Nat.le_max_left _ _
def regF (l:List φF):List φF→List φF→φ17→(List φF×φ17×φ17) ⊕ φ17
 | _,[],g=>.inl (l,([],0,0),g)
 | pre,p::r,g=>if g.2.2≠0 then .inr g else regF l (pre++[p]) r (φ1i pre p g)
theorem φI2 (l:List φF):∀(r pre:List φF) (g:φ17),regF l pre r g=.inl (l,([],0,0),φp pre r g)∨(regF l pre r g=.inr (φp pre r g)∧(φp pre r g).2.2≠0)
 | [],pre,g=>.inl rfl
 | p::r,pre,g=>by
  unfold regF φp
  by_cases c:g.2.2≠0
  ·rw[if_pos c,if_pos c];exact .inr ⟨rfl,c⟩
  ·rw[if_neg c,if_neg c];exact φI2 l r _ _
def φ2j (g:φ17):Prop:=g.1.length≤(if g.2.2=0 then 1000020 else 11000020)
theorem φEy {pre:List φF} {p:φF} {g:φ17} (h:φ2j g) (hc:g.2.2=0) (hp:pre.length<10000000):φ2j (φ1i pre p g):=by
 unfold φ2j at h ⊢
 rw[if_pos hc] at h
 split
 ·rename_i c
  have:=φNG pre p g hc c
  omega
 ·have:=φJL pre p g
  omega
theorem φOF (l:List φF) (hl:l.length<10000000) (g0:φ17) (hg:φ2j g0) :
  lp ψp.l0 (l,([],0,0),g0,l,(l.length:Int),0)=some (regF l [] l g0):=by
 have key:=φj (step:=ψp.l0) (fun n (g:φ17)=>(l,(([],0,0):φ17),g,l,(l.length:Int),(n:Int))) l.length (fun n g=>regF l (l.take n) (l.drop n) g) (fun _ g=>φ2j g)
  (fun rec n g hn hi ih=>by
   rcases κ1 n l.length with h | h
   ·have hw:=φS (show n+1<9223372036854775808 by omega)
    have htl:(l.take n).length=n:=by rw[lT];omega
    rw[dG h]
    unfold regF
    obtain ⟨⟨sg,at_,ln,k,b,key,v,c,z⟩,hp⟩:∃p,l[n]=p:=⟨_,rfl⟩
    have hr:rdA φLm l (n:Int)=(sg,at_,ln,k,b,key,v,c,z):=by rw[φN,φB h,hp]
    have hx:inB (n:Int) l.length=true:=by rw[φJ,decide_eq_true h]
    have ht:l.take n++[(sg,at_,ln,k,b,key,v,c,z)]=l.take (n+1):=by rw[←hp];exact (κ3 h).symm
    by_cases c0:g.2.2=0
    rotate_left
    ·rw[if_pos c0]
     have d0:(g.2.2 != 0)=true:=by simpa using c0
     simp only[ψp.l0,oL,h,dT,cT,hx,d0,bS,φq]
    rw[if_neg (fun z=>z c0),hp]
    have d0:(g.2.2 != 0)=false:=by simpa using c0
    have hs:=ih (φ1i (l.take n) (sg,at_,ln,k,b,key,v,c,z) g) h (φEy hi c0 (by omega))
    rw[ht]
    rw[←hs]
    have hg1:g.1.length<100000000:=by unfold φ2j at hi;rw[if_pos c0] at hi;omega
    have hin:(decide (0≤(n:Int)) && decide ((n:Int)≤(l.length:Int)))=true:=by simp only[bA,decide_eq_true_eq];omega
    have how:=φEr (l.take n) (k,b,key,v,c,z) (by omega)
    have hol:=φF1 k b (l.take n)
    have hft:=φFg (k,b,key,v,c,z) (ownL k b (l.take n)) (by omega)
    have hap:=fun last=>φLM (g.1,last,g.2.2) (ownL k b (l.take n)) hg1 (by omega)
    simp only[ψp.l0,oL,h,dT,cT,hx,hr,d0,cF]
    unfold φ1i
    simp only
    by_cases c3:k=3
    ·subst c3
     simp only[bne_self_eq_false,cF,bS,φf,hin,cT,tN,how,hft,true_or,if_true,show ¬((3:Int)=5) by decide,if_false,show ((3:Int)==5)=false from rfl]
     cases φ3S (3,b,key,v,c,z) ((ownL 3 b (l.take n)).map (·.2.2.2))
     ·simp only[cF,bS,φf,hw,κ2,if_false]
     ·simp only[cT,hap,bS,φf,hw,if_true]
    ·have d3:(k != 3)=true:=by simpa using c3
     simp only[d3,cT,c3,false_or]
     by_cases c5:k=5
     ·subst c5
      simp only[bne_self_eq_false,cF,bS,φf,hin,cT,tN,how,hft,if_true,beq_self_eq_true]
      cases φ3S (5,b,key,v,c,z) ((ownL 5 b (l.take n)).map (·.2.2.2))
      ·simp only[cF,bS,φf,hw,κ2,if_false]
      ·simp only[cT,hap,bS,φf,hw,if_true]
     ·have d5:(k != 5)=true:=by simpa using c5
      simp only[d5,cT,c5,if_false,bS,φq,φf,hw]
   ·have:n=l.length:=by omega
    subst this
    simp only[ψp.l0,Int.lt_irrefl,dF,cF,κW,List.drop_length,regF])
  (by omega) 0 g0 (κ4 _) hg
 exact key
end Go.Rf.G
