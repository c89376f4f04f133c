import Derived.Test.YtofoicidlhjhiaaGreatDoorLShutLem4
open Option renaming bind_some→bS
open List renaming length_append→lA,append_assoc→aA,mem_cons_of_mem→mC,mem_append→mA,mem_append_right→mR,mem_append_left→mL,mem_cons→mc,drop_eq_getElem_cons→dG,length_take→lT,length_drop→lD,mem_map→mM,length_map→lM,length_cons→lC,length_nil→lN,getElem_mem→gM,map_append→mp,mem_singleton→mZ,mem_cons_self→κ1,take_succ_eq_append_getElem→κ3,length_singleton→κ5,append_nil→κ6,map_cons→κ8,nil_append→κA,drop_zero→κB,take_append_drop→κD,cons_append→κG,foldl_cons→κH,replicate→κI,flatMap_append→κK,nodup_append→κM,all_eq_true→κN,drop_left→κO,take_length→κQ,nodup_cons→κS,range'→κU,pairwise_cons→κZ,not_mem_nil→κc,flatten_cons→κd,foldl_append→κe
open Bool renaming and_eq_true→bA,eq_false_or_eq_true→bE,not_true→nZ,not_false→nF,true_and→tA,not_not→nn,false_eq_true→κ0,true_eq_false→κ7,false_and→κF,or_eq_false_iff→κJ,not_eq_true'→κL,and_true→κP,false_or→κR,or_eq_true→κY
open Int renaming toNat_natCast→tN,ofNat_lt→oL,le_refl→κT
open Nat renaming lt_or_ge→κ2,zero_le→κ4,le_refl→κ9,eq_of_beq_eq_true→κC,lt_of_lt_of_le→κE,zero_add→κV,pow_succ→κW,pow_le_pow_right→κX,mod_eq_of_lt→κb
open Array renaming length_toList→κa
set_option linter.unusedVariables false
set_option linter.unusedSimpArgs false
namespace Go.Rf.G
open Go Go.Rf
set_option synthInstance.maxSize 4000
theorem φI9 {s:φA} {d:φ1} (h:JR s d) (h2:s.1.1+2≤100000):JR (φ1H s d (φV s d).1).1 (φ1H s d (φV s d).1).2.1:=by
 obtain ⟨q1,q2,q3,q4,q5,q6⟩:=φ15.1 h.ok
 obtain ⟨k1,k2,k3,k4⟩:=(φ1A s.1).1 q2
 rw[φG (by omega) (by omega)] at k1
 have hids:=φ3c _ _ k1
 by_cases hc:(φ1H s d (φV s d).1).2.2=0
 ·have hM:=φLT (φV s d).1 q1 q2 h2 hc
  obtain ⟨m1,m2,m3,m4⟩:=φAD h.ok h2 hM.toMerged
  obtain ⟨k,ok⟩:=φJl h.ok h2 hM.toMerged
  have hfu:0 > d.2.2.1:=by rw[show d.2.2=(-1,false) from h.fre];decide
  have hF:=hM.fre hfu
  have hst:=hM.st
  have hone:=hM.one
  have htwo:=hM.two
  have hliv:=hM.liv
  generalize φ1H s d (φV s d).1=M at *
  obtain ⟨S,y,c⟩:=M
  simp only at hc hM m1 m2 m3 m4 k ok hF hst hone htwo hliv ⊢
  unfold φ2H at ok
  simp only[bA,decide_eq_true_eq] at ok
  obtain ⟨r1,r2,r3⟩:=φKV k ok.2.2.2 ok.2.2.1.1
  have hI:S.1.2=[s.1.1,s.1.1+1]:=by rw[hst]
  have hB:S.2.2.1=s.2.2.1:=by rw[hst]
  have hpl:φO y S.1.2=(scan (txt (φc (φV s d).1 (s.2.2.1 - 1)))).1.map fun x=>((s.1.1,x):φ7):=by
   rw[hI]
   unfold φO φw
   simp[hone,htwo,φ90]
  refine ⟨⟨m1,m3,⟨s.1.1+2,by rw[hst];exact κT _,by rw[hI];exact φ9v s.1.1 k2.1 h2,by rw[hI];exact hliv⟩,hF⟩,⟨s.2.2.1 - 1,by rw[hpl];exact r1,by rw[hB];omega⟩,fun p hp=>?_,by rw[hpl];exact r2⟩
  rw[hpl] at hp
  have:=r3 p hp
  have:p.2.2.2.2.1≤s.2.2.1 - 1:=this
  rw[hB];omega
 ·obtain ⟨f1,f2,f3,f4,f5⟩:=φCb (φV s d).1 h.toJB h2 hc
  have hft:∀id∈s.1.2,φ2 (φ1H s d (φV s d).1).2.1 (φ0 id)=φ2 d (φ0 id):=fun id hid=>f5 id (by have:=hids id hid;omega)
  have hkp:φ2u s.1.1 d (φ1H s d (φV s d).1).2.1:=fun e e1 e2 e3=>by
   unfold φ1O
   rw[f5 _ ⟨e1,e2⟩]
  have hpl:=φ6h hft
  generalize φ1H s d (φV s d).1=M at *
  obtain ⟨S,y,c⟩:=M
  simp only at f1 f2 f3 f4 f5 hft hkp hpl ⊢
  subst f1
  obtain ⟨last,r1,r2⟩:=h.reg
  obtain ⟨nx,n1,n2,n3⟩:=h.liv
  refine ⟨⟨φ15.2 ⟨f2,φCv (a:=s.1.1) q2 (by omega) h2,q3,q4,?_,fun e he=>φ7O (s:=s) h.ok hkp h.lt (κT _) e he⟩,fun e he=>by have:=h.lt e he;show e.2.1<s.1.1+2;omega,⟨nx,by show nx≤s.1.1+2;omega,n2,by rw[f4];exact n3⟩,f3⟩,⟨last,by show φg [] (φO y s.1.2) _=_;rw[hpl];exact r1,r2⟩,?_,?_⟩
  ·obtain ⟨g1,g2⟩:=(φ2f _).1 q5
   exact (φ2f _).2 ⟨fun id hid=>by rw[hft id hid];exact g1 id hid,fun hne=>by rw[hft _ (φ4a hne)];exact g2 hne⟩
  ·intro p hp
   have hp:p∈φO y s.1.2:=hp
   rw[hpl] at hp
   exact h.pb p hp
  ·show ownL 5 0 (φO y s.1.2)=[]
   rw[hpl];exact h.own
theorem φN3 (k b:Int) (acc:List φ7) (p:φ7):∀x∈φ1N k b acc p,x∈acc∨x=p:=by
 intro x hx
 unfold φ1N at hx
 split at hx
 ·exact .inl hx
 split at hx
 ·simp at hx
 split at hx
 ·rcases mA.1 hx with h | h
  ·exact .inl h
  ·exact .inr (mZ.1 h)
 ·exact .inl hx
theorem φC7 (k b:Int):∀(l acc:List φ7),∀x∈l.foldl (φ1N k b) acc,x∈acc∨x∈l
 | [],acc,x,hx=>.inl hx
 | p::l,acc,x,hx=>by
  rcases φC7 k b l _ x hx with h | h
  ·rcases φN3 k b acc p x h with h | h
   ·exact .inl h
   ·exact .inr (by simp[h])
  ·exact .inr (by simp[h])
theorem φJ6 {k b:Int} {l:List φ7}:∀x∈ownL k b l,x∈l:=fun x hx=>by
 rcases φC7 k b l [] x hx with h | h
 ·simp at h
 ·exact h
theorem φEL:∀(own:List φ7) (dir:List φB),∀e∈φ1V dir own,e∈dir∨∃p∈own,e=entP p
 | [],dir,e,he=>.inl he
 | p::own,dir,e,he=>by
  rcases φEL own (putD dir p) e he with h | ⟨q,hq,x⟩
  ·unfold putD at h
   split at h
   ·exact .inl ((φ7D _ _ _).1 h).1
   ·rcases (φ3j _ _ _).1 h with h | h
    ·exact .inr ⟨p,by simp,h⟩
    ·exact .inl ((φ7D _ _ _).1 h).1
  ·exact .inr ⟨q,by simp[hq],x⟩
theorem φJI (pre:List φ7) (p:φ7) (g:φr):∀e∈(φ1W pre p g).1,e∈g.1∨∃q∈pre,e=entP q:=by
 intro e he
 unfold φ1W at he
 simp only at he
 split at he
 ·split at he
  ·rcases φEL _ _ e he with h | ⟨q,hq,x⟩
   ·exact .inl h
   ·exact .inr ⟨q,φJ6 q hq,x⟩
  ·split at he
   ·exact .inl he
   ·exact .inl he
 ·exact .inl he
theorem φLM (pre:List φ7) (p:φ7) (g:φr):(φ1W pre p g).2.1=if p.2.2.2.2.1 > g.2.1 then p.2.2.2.2.1 else g.2.1:=by
 unfold φ1W
 simp only
 split
 ·split
  ·rfl
  ·split<;>rfl
 ·rfl
theorem φG3:∀(P pre:List φ7) (g:φr),∀e∈(φg pre P g).1,e∈g.1∨∃q∈pre++P,e=entP q
 | [],pre,g,e,he=>.inl he
 | p::P,pre,g,e,he=>by
  rw[φg] at he
  split at he
  ·exact .inl he
  ·rcases φG3 P _ _ e he with h | ⟨q,hq,x⟩
   ·rcases φJI pre p g e h with h | ⟨q,hq,x⟩
    ·exact .inl h
    ·exact .inr ⟨q,mL _ hq,x⟩
   ·exact .inr ⟨q,by simpa using hq,x⟩
theorem φFH:∀(P pre:List φ7) (g:φr),(φg pre P g).2.2=0→g.2.1≤(φg pre P g).2.1∧∀p∈P,p.2.2.2.2.1≤(φg pre P g).2.1
 | [],pre,g,_=>⟨κT _,fun p hp=>by simp at hp⟩
 | p::P,pre,g,h=>by
  rw[φg] at h ⊢
  by_cases c:g.2.2≠0
  ·rw[if_pos c] at h;exact absurd h c
  rw[if_neg c] at h ⊢
  obtain ⟨h1,h2⟩:=φFH P _ _ h
  rw[φLM] at h1
  have:g.2.1≤(φg (pre++[p]) P (φ1W pre p g)).2.1∧p.2.2.2.2.1≤(φg (pre++[p]) P (φ1W pre p g)).2.1:=by
   split at h1<;>omega
  refine ⟨this.1,fun q hq=>?_⟩
  rcases mc.1 hq with rfl | hq
  ·exact this.2
  ·exact h2 q hq
theorem φFj {d:φ1}:∀{l:List Int},(∀id∈l,(φ2 d (φ0 id)).2=true∧φ2R (φ2 d (φ0 id)).1)→φ1r d l=true
 | [],_=>rfl
 | id::r,h=>by
  obtain ⟨h1,h2⟩:=h id (by simp)
  unfold φ2R at h2
  rw[φ1r,h1,φFj fun i hi=>h i (by simp[hi])]
  simp[h2]
theorem φLj {d:φ1} {ids:List Int}:∀p∈φO d ids,p.1∈ids:=fun p hp=>by
 unfold φO at hp
 obtain ⟨i,hi,hp⟩:=List.mem_flatMap.1 hp
 unfold φw at hp
 obtain ⟨x,_,rfl⟩:=mM.1 hp
 exact hi
theorem φAI {s:φA} {d:φ1} (h:JR s d):∃t y,φ3S d=(t,y,0)∧JR t y∧t.1.2=s.1.2∧t.2.1=s.2.1∧t.2.2.1≤s.2.2.1∧φV t y=φV s d∧y.2.1=d.2.1∧φQ y.1≤φQ d.1:=by
 obtain ⟨q1,q2,q3,q4,q5,q6⟩:=φ15.1 h.ok
 obtain ⟨nx,n1,n2,n3⟩:=h.liv
 obtain ⟨last,r1,r2⟩:=h.reg
 have hF:=h.fre
 obtain ⟨g1,g2⟩:=(φ2f _).1 q5
 have hne:=φ7H q2
 have g2:=g2 hne
 have hl1:=φ9l (nx,s.1.2)
 have hrl:φ2v (φ10 (nx,s.1.2))=((nx,s.1.2),true):=φHT ⟨n2,rfl⟩ (by omega)
 have hsh:φ1r d s.1.2=true:=φFj g1
 obtain ⟨e1,e2⟩:=g1 _ (φ4a hne)
 have hcn:cutN (nx,s.1.2) d=(φ2 d (φ0 (φF s.1.2))).1.length:=e2
 have hcut:cutW (nx,s.1.2) d=φR (φ0 (φF s.1.2)) d:=by
  unfold cutW
  rw[if_pos hcn.symm]
  rfl
 have hs0:(φR (φ0 (φF s.1.2)) d).2=0:=φBC q1 hF e1
 have hx:=φ3I q1 (φ0 (φF s.1.2))
 have hxF:Free (φR (φ0 (φF s.1.2)) d).1:=φ1d hF
 have hft:∀n,φ2 (φR (φ0 (φF s.1.2)) d).1 n=φ2 d n:=fun n=>φ2g q1 _ n
 have hsw:(φh (nx,s.1.2) (φR (φ0 (φF s.1.2)) d).1).2=0:=φBu _ (w:=((φR (φ0 (φF s.1.2)) d).1,0)) hx hxF rfl
 have hrg:φ1Q ([],0,0) (φO d s.1.2)=(s.2.1,last,0):=by
  unfold φ1Q φ6P
  rw[r1,h.own,if_neg (by simp)]
 obtain ⟨hin,eo,_⟩:=φN6 (v:=(nx,s.1.2)) q1 n2 e1 (by rw[hcut];exact hs0)
 have ho:φ3S d=(((nx,s.1.2),s.2.1,w64 (last+1),(cutN (nx,s.1.2) d:Int),hin),(φh (nx,s.1.2) (φR (φ0 (φF s.1.2)) d).1).1,0):=by
  unfold φ3S
  rw[if_neg (by rw[q1];simp),if_neg (by rw[hF.up];simp),n3,if_neg (by simp),hrl,if_neg (by simp),if_neg (by rw[hsh];simp),eo,hcut,hrg]
  unfold φ4q
  rw[if_neg (by simp),if_neg (by rw[hsw];simp)]
 refine ⟨_,_,ho,?_⟩
 -- what the disk has
 have hy:=φ6k hx (nx,s.1.2)
 have hyF:Free (φh (nx,s.1.2) (φR (φ0 (φF s.1.2)) d).1).1:=φ6N (P:=Free) (fun d act k=>φ1d k) _ hxF
 have hrange:∀id∈s.1.2,1≤id∧id≤100000∧id<nx:=fun id hid=>φBM (v:=(nx,s.1.2)) n2 hid
 have hsegs:∀id∈s.1.2,φ2 (φh (nx,s.1.2) (φR (φ0 (φF s.1.2)) d).1).1 (φ0 id)=φ2 d (φ0 id):=fun id hid=>by
  have hr:=hrange id hid
  rw[φGg hx (fun j hj=>by rw[φDE hj (φMK ⟨hr.1,hr.2.1⟩)];exact hid) (φ4K id),hft]
 have hlv:φ2 (φh (nx,s.1.2) (φR (φ0 (φF s.1.2)) d).1).1 φl=(φ10 (nx,s.1.2),true):=by
  rw[φGg hx (fun j hj=>absurd ⟨j,hj⟩ φLW) (by decide),hft,n3]
 have hcap:(φh (nx,s.1.2) (φR (φ0 (φF s.1.2)) d).1).1.2.1=d.2.1∧φQ (φh (nx,s.1.2) (φR (φ0 (φF s.1.2)) d).1).1.1≤φQ d.1:=by
  rw[φHn hx hxF,φKz q1 hF e1]
  refine ⟨rfl,?_⟩
  show φQ ((onF _ φ76 d.1).filter _)≤_
  refine Nat.le_trans (φ7M _ List.filter_sublist) ?_
  show φQ (onF _ φ76 d.1)≤_
  have:∀l:List φ6,φQ (onF (φ0 (φF s.1.2)) φ76 l)=φQ l:=fun l=>by
   unfold φQ onF
   induction l with
   | nil=>rfl
   | cons f l ih=>
    simp only[κ8,sumN,ih]
    congr 1
    split<;>rfl
  rw[this];exact κ9 _
 generalize (φh (nx,s.1.2) (φR (φ0 (φF s.1.2)) d).1).1=y at *
 have hpl:=φ6h hsegs
 -- what the directory's entries are
 have hmem:∀e∈s.2.1,∃p∈φO d s.1.2,e=entP p:=fun e he=>by
  have:e∈(φg [] (φO d s.1.2) ([],0,0)).1:=by rw[r1];exact he
  rcases φG3 _ _ _ e this with k | ⟨p,hp,x⟩
  ·simp at k
  ·exact ⟨p,by simpa using hp,x⟩
 obtain ⟨l0,lall⟩:=φFH (φO d s.1.2) [] ([],0,0) (by rw[r1])
 rw[r1] at l0 lall
 have l0:0≤last:=l0
 have lall:∀p∈φO d s.1.2,p.2.2.2.2.1≤last:=lall
 have hseg:∀e∈s.2.1,e.2.1∈s.1.2∧e.2.2.2.2≤last:=fun e he=>by
  obtain ⟨p,hp,rfl⟩:=hmem e he
  exact ⟨φLj p hp,lall p hp⟩
 have hw:w64 (last+1)=last+1:=φG (by omega) (by omega)
 rw[hw]
 have hok:φs ((nx,s.1.2),s.2.1,last+1,(cutN (nx,s.1.2) d:Int),hin) y=true:=φ15.2 ⟨hy,n2,q3,⟨by show 1≤last+1;omega,by show last+1≤1000001;omega⟩,(φ2f _).2 ⟨fun id hid=>by rw[hsegs id hid];exact g1 id hid,fun hne=>by rw[hsegs _ (φ4a hne),hcn]⟩,fun e he=>by
  obtain ⟨s1,s2⟩:=hseg e he
  have k:=φ3E.1 (q6 e he)
  have:φ1O y e=φ1O d e:=by unfold φ1O;rw[hsegs _ s1]
  rw[φ3E,this]
  exact ⟨k.1,k.2.1,k.2.2.1,k.2.2.2.1,by show e.2.2.2.2<last+1;omega⟩⟩
 refine ⟨⟨⟨hok,fun e he=>?_,⟨nx,κT _,n2,hlv⟩,hyF⟩,⟨last,by show φg [] (φO y s.1.2) _=_;rw[hpl];exact r1,by show last<last+1;omega⟩,fun p hp=>?_,by show ownL 5 0 (φO y s.1.2)=[];rw[hpl];exact h.own⟩,rfl,rfl,by show last+1≤_;omega,?_,hcap⟩
 ·have:=hrange _ (hseg e he).1
  exact this.2.2
 ·have hp:p∈φO y s.1.2:=hp
  rw[hpl] at hp
  have:=lall p hp
  show _<last+1
  omega
 ·rw[φ2t hok,φ2t h.ok]
  congr 1
  show mapG (φ1S y) s.2.1=mapG (φ1S d) s.2.1
  unfold mapG
  refine List.map_congr_left fun e he=>?_
  have:=hsegs _ (hseg e he).1
  congr 1
  unfold φ1S
  rw[this]
theorem φLL (n:Nat) (h:n≤100000) (h8:8≤n):JR ((2,[1]),[],1,0,0) (dNew n):=by
 obtain ⟨f1,f2,f3⟩:=φDi n h h8
 have hpl:φO (dNew n) [1]=[]:=by
  rw[φ8o]
  unfold φw
  rw[f2,φ90];rfl
 refine ⟨⟨φIk n h h8,fun e he=>by simp at he,⟨2,κT _,φD5,f1⟩,rfl⟩,⟨0,by show φg [] (φO (dNew n) [1]) _=_;rw[hpl];rfl,by decide⟩,fun p hp=>?_,by show ownL 5 0 (φO (dNew n) [1])=[];rw[hpl];rfl⟩
 have hp:p∈φO (dNew n) [1]:=hp
 rw[hpl] at hp
 simp at hp
theorem φJK (c:Int):told c=0∨told c=1∨told c=2∨told c=3:=by
 unfold told
 split
 ·exact .inl rfl
 split
 ·exact .inr (.inl rfl)
 split
 ·exact .inr (.inr (.inl rfl))
 ·exact .inr (.inr (.inr rfl))
def φ3V (c:Int):Prop:=0≤c∧c≤5
theorem φ5v (c:Int):φ3V (told c):=by
 unfold φ3V
 rcases φJK c with e | e | e | e<;>rw[e]<;>decide
theorem φKv {names:List (List UInt8)} {w:φE} (h:φ3V w.2):φ3V (φ1h names w).2:=by
 unfold φ1h
 split
 ·split
  ·exact ⟨by show (0:Int)≤2;decide,by show (2:Int)≤5;decide⟩
  ·exact φ5v _
 ·exact h
theorem φLm (s:φA) (d:φ1):φ3V (rotP s d).2.2:=by
 unfold rotP
 split
 ·exact ⟨by show (0:Int)≤5;decide,by show (5:Int)≤5;decide⟩
 split
 ·exact φ5v _
 simp only
 split
 ·exact φ5v _
 split
 ·exact φKv (φ5v _)
 ·exact ⟨κT _,by show (0:Int)≤5;decide⟩
theorem φJp (s:φA) (d:φ1) (r:RecT):φ3V (addP s d r).2.2.1:=by
 have h:φ3V (addR s d (frame (φ9 r))).2.2:=by
  unfold addR
  split
  ·exact φLm s d
  ·exact ⟨κT _,by show (0:Int)≤5;decide⟩
 unfold addP
 simp only
 split
 ·exact h
 split
 ·exact φ5v _
 ·exact ⟨κT _,by show (0:Int)≤5;decide⟩
theorem φEZ:∀(rs:List RecT) (s:φA) (d:φ1),φ3V (φX rs s d).2.2.1
 | [],_,_=>⟨κT _,by show (0:Int)≤5;decide⟩
 | r::rs,s,d=>by
  unfold φX
  split
  ·exact φJp s d r
  ·exact φEZ rs _ _
theorem φLv (s:φA) (d:φ1) (l:List PutT):φ3V (φ23 s d l).2.2:=by
 unfold φ23
 simp only
 split
 ·exact φEZ _ _ _
 split
 ·exact φ5v _
 ·exact ⟨κT _,by show (0:Int)≤5;decide⟩
theorem φGb {s s':φA} {d d':φ1} {m:Int} (h:φs s d=true) (h':φs s' d'=true) (hd:s'.2.1=s.2.1) (hk:φ2u m d d') (hm:∀e∈s.2.1,e.2.1<m):φV s' d'=φV s d:=by
 rw[φ2t h,φ2t h',hd,φGK h hk hm]
theorem φMA {s:φA} {d:φ1} (h:JR s d) {l:List PutT} (hp:φ2K l=true) (hb:s.2.2.1≤1000000) (hc:(φ23 s d l).2.2≠0):(φ23 s d l).1.2.1=s.2.1∧φ2u s.1.1 d (φ23 s d l).2.1:=by
 obtain ⟨q1,q2,q3,q4,q5,q6⟩:=φ15.1 h.ok
 have hrec:=φBl (b:=s.2.2.1) (l:=l) ⟨q4.1,hb⟩ hp
 obtain ⟨P,g1,g2,g3,g4,g5⟩:=φA7 (φ3N s.2.2.1 l) _ _ (h.toJB.bump hb) hrec
 unfold φ23 at hc ⊢
 generalize φX (φ3N s.2.2.1 l) (s.1,s.2.1,s.2.2.1+1,s.2.2.2) d=g at *
 simp only at hc ⊢
 by_cases c:g.2.2.1=0
 rotate_left
 ·rw[if_pos c]
  exact ⟨g1.dir,g1.kp⟩
 rw[if_neg (by simpa using c)] at hc ⊢
 by_cases c2:(φR (actN g.1) g.2.1).2=0
 rotate_left
 ·rw[if_pos c2]
  refine ⟨g1.dir,fun e e1 e2 e3=>?_⟩
  obtain ⟨b1,_⟩:=φ15.1 g1.jb.ok
  have:=g1.kp e e1 e2 e3
  unfold φ1O at this ⊢
  show φ1G (φ2 (φR (actN g.1) g.2.1).1 (φ0 e.2.1)).1 _ _=_
  rw[φ2g b1]
  exact this
 ·rw[if_neg (by simpa using c2)] at hc
  exact absurd rfl hc
theorem φIV {s:φA} {d:φ1} (h:JR s d) (l:List PutT):JR (φ3f s d l).1 (φ3f s d l).2.1∧φ3V (φ3f s d l).2.2 ∧
  ((φ3f s d l).2.2=0→φV (φ3f s d l).1 (φ3f s d l).2.1=(φBV (φV s d).1 l s.2.2.1,0))∧((φ3f s d l).2.2≠0→φV (φ3f s d l).1 (φ3f s d l).2.1=φV s d):=by
 have hd0:φV s d=((φV s d).1,0):=by rw[φ2t h.ok]
 unfold φ3f
 by_cases c1:φs s d=false∨φ2K l=false
 ·rw[if_pos c1]
  exact ⟨h,by show φ3V 4;exact ⟨by decide,by decide⟩,fun e=>by simp at e,fun _=>rfl⟩
 rw[if_neg c1]
 by_cases c2:l.length=0
 ·rw[if_pos c2]
  refine ⟨h,by show φ3V 0;exact ⟨by decide,by decide⟩,fun _=>?_,fun e=>absurd rfl e⟩
  have:l=[]:=List.length_eq_zero_iff.1 c2
  subst this
  exact hd0
 rw[if_neg c2]
 by_cases c3:20<φ4M s.2.1 l∨s.2.2.1 > 1000000
 ·rw[if_pos c3]
  exact ⟨h,by show φ3V 5;exact ⟨by decide,by decide⟩,fun e=>by simp at e,fun _=>rfl⟩
 rw[if_neg c3]
 have hp:φ2K l=true:=by
  cases hp:φ2K l with
  | true=>rfl
  | false=>exact absurd (.inr hp) c1
 have hJ:=φLy h hp (by omega) (by omega)
 refine ⟨hJ,φLv s d l,fun hc=>?_,fun hc=>?_⟩
 ·obtain ⟨r1,r2,r3,r4,r5⟩:=φDX h.ok h.lt hp (by omega) (by omega) hc
  rw[←r3,φ2t r1]
 ·obtain ⟨f1,f2⟩:=φMA h hp (by omega) hc
  exact φGb h.ok hJ.ok f1 f2 h.lt
theorem φLb {s:φA} {d:φ1} (h:JR s d):JR (φ4t s d).1 (φ4t s d).2.1∧φV (φ4t s d).1 (φ4t s d).2.1=φV s d:=by
 unfold φ4t
 rw[if_neg (by rw[h.ok];simp)]
 by_cases c:s.1.1+2 > 100000
 ·rw[if_pos c];exact ⟨h,rfl⟩
 rw[if_neg c]
 have hJ:=φI9 h (by omega)
 refine ⟨hJ,?_⟩
 obtain ⟨q1,q2,q3,q4,q5,q6⟩:=φ15.1 h.ok
 by_cases hc:(φ1H s d (φV s d).1).2.2=0
 ·have hM:=φDO (φV s d).1 q1 q2 (by omega) hc
  exact (φAD h.ok (by omega) hM).2.1
 ·obtain ⟨f1,f2,f3,f4,f5⟩:=φCb (φV s d).1 h.toJB (by omega) hc
  refine φGb (m:=s.1.1) h.ok hJ.ok (by rw[f1]) (fun e e1 e2 e3=>?_) h.lt
  unfold φ1O
  rw[f5 _ ⟨e1,e2⟩]
abbrev EngT:=Bool×φA×φ1×List TxnT
abbrev φ2J:=Int×Int×List UInt8×List UInt8×Int
abbrev AnsT:=Int×List UInt8×List (List UInt8)
def TB (l:List TxnT):Prop:=l.length=3∧∀t∈l,t.2.1.length≤20∧t.2.2.length≤50
structure EI (e:EngT):Prop where
 up:e.1=true→JR e.2.1 e.2.2.1
 dn:e.1=false→(∃s,JR s e.2.2.1)∧e.2.1.1.2.length≤100∧e.2.1.2.1.length≤100
 tx:TB e.2.2.2
theorem TB.new:TB (κI 3 ((false,[],[]):TxnT)):=⟨rfl,fun t ht=>by
 have:=List.eq_of_mem_replicate ht
 subst this
 exact ⟨by simp,by simp⟩⟩
theorem TB.set {l:List TxnT} (h:TB l) (i:Nat) {t:TxnT} (ht:t.2.1.length≤20∧t.2.2.length≤50):TB (l.set i t):=⟨by rw[List.length_set];exact h.1,fun x hx=>by
 rcases List.mem_or_eq_of_mem_set hx with hx | rfl
 ·exact h.2 x hx
 ·exact ht⟩
theorem JR.small {s:φA} {d:φ1} (h:JR s d):SmallS s d:=by
 have:=φIp h.ok
 exact this
theorem EI.small {e:EngT} (h:EI e):SmallS e.2.1 e.2.2.1∧φ5 e.2.2.1=true:=by
 cases c:e.1 with
 | true=>exact ⟨(h.up c).small,(φ15.1 (h.up c).ok).1⟩
 | false=>
  obtain ⟨⟨s,hs⟩,h1,h2⟩:=h.dn c
  have hd:=(φ15.1 hs.ok).1
  exact ⟨⟨φ34 (φn hd) (by omega),by omega,by omega⟩,hd⟩
theorem φLw (e:EngT) (h:EI e):ψ3X.f e=some e:=by
 obtain ⟨hs,hd⟩:=h.small
 have h1:=hs.ids
 have h2:=hs.dir
 have h3:=hs.sm.1
 have htl:=h.tx.1
 have key:=φ7L (step:=ψ3X.l0) (fun n (l:List TxnT)=>(e,((false,((0,[]),[],0,0,0),([],0,0,false),[]):EngT),l,(n:Int))) e.2.2.2.length (fun n l=>l=e.2.2.2.take n) (fun b=>b.1=e∧b.2.2=e.2.2.2)
  (fun rec l hi=>⟨_,by simp[ψ3X.l0];rfl,rfl,by rw[hi,κQ]⟩)
  (fun rec n l hn hi=>by
   have e0:(n:Int)<(e.2.2.2.length:Int):=by omega
   have hw:=φL (show n+1<9223372036854775808 by omega)
   have ht:=h.tx.2 _ (gM hn)
   have hc:=φBU e.2.2.2[n] (by omega) (by omega)
   have hl:l.length=n:=by rw[hi,lT];omega
   have q:decide ((l.length+(0+1)) * 56≤140737488355328)=true:=by simp;omega
   refine ⟨l++[e.2.2.2[n]],by rw[hi,κ3 hn],?_⟩
   simp only[ψ3X.l0,e0,dT,cT,φD,hn,φI,φ8 hn,φ2S,hc,bS,lC,lN,q,hw])
  [] (by simp) (by omega)
 obtain ⟨⟨b1,b2,b3⟩,k,kb1,kb2⟩:=key
 simp only at kb1 kb2
 subst kb1;subst kb2
 unfold ψ3X.f
 have k:lp ψ3X.l0 (b1,((false,((0,[]),[],0,0,0),([],0,0,false),[]):EngT),[],0)=_:=k
 simp only[φ9k b1.2.1 (by omega) (by omega),φ5D b1.2.2.1 (by omega),bS,φ2S,k]
theorem φIy {t:TxnT} (h:t.2.1.length≤20∧t.2.2.length≤50) (k:List UInt8) (b:Int):(φ6F t k b).1.2.1.length≤20∧(φ6F t k b).1.2.2.length≤50:=by
 unfold φ6F
 split
 ·exact h
 ·split
  ·split
   ·exact h
   ·exact h
  ·split
   ·exact h
   ·refine ⟨?_,h.2⟩
    simp;omega
theorem φHw {t:TxnT} (h:t.2.1.length≤20∧t.2.2.length≤50) (p:PutT):(φ69 t p).1.2.1.length≤20∧(φ69 t p).1.2.2.length≤50:=by
 unfold φ69
 split
 ·refine ⟨h.1,?_⟩
  simp;omega
 ·exact h
theorem EI.same {e:EngT} (h:EI e) {l:List TxnT} (hl:TB l):EI (e.1,e.2.1,e.2.2.1,l):=⟨h.up,h.dn,hl⟩
theorem φIx {e:EngT} (h:EI e) (s:φ2J) (hs:0≤s.2.1∧s.2.1≤2):∃e' a,ψ3Z.f e s=some (e',a)∧EI e':=by
 obtain ⟨hS,hd⟩:=h.small
 obtain ⟨hlim,hu⟩:=hS.lim
 have hdr:=hS.dir
 obtain ⟨n,hn⟩:∃n:Nat,s.2.1=(n:Int):=⟨s.2.1.toNat,by omega⟩
 have hn3:n<e.2.2.2.length:=by rw[h.tx.1];omega
 have ht:=h.tx.2 _ (gM hn3)
 unfold ψ3Z.f
 rw[hn]
 simp only[φD,hn3,dT,cT,φI,φ8 hn3,φ7J,bS,φ2S]
 cases hk:φ1c s.2.2.1
 ·simp only[nF,cT]
  exact ⟨_,_,rfl,h⟩
 simp only[nZ,cF,φCh e.2.2.2[n] s.2.2.1 (by omega),bS]
 cases ho:(ownW e.2.2.2[n].2.2 s.2.2.1).2
 ·simp only[cF,φDj e.2.1 e.2.2.1 s.2.2.1 hlim hu (by omega),bS]
  cases hg:((getP e.2.1 e.2.2.1 s.2.2.1).2==3)
  ·simp only[cF,φIA e.2.2.2[n] s.2.2.1 _ (by omega) (by omega),bS]
   cases hr:((φ6F e.2.2.2[n] s.2.2.1 (getP e.2.1 e.2.2.1 s.2.2.1).1.2.2).2 != 0)
   ·simp only[cF,tN]
    exact ⟨_,_,rfl,h.same (h.tx.set n (φIy ht _ _))⟩
   ·simp only[cT]
    exact ⟨_,_,rfl,h⟩
  ·simp only[cT]
   exact ⟨_,_,rfl,h⟩
 ·simp only[cT]
  cases (ownW e.2.2.2[n].2.2 s.2.2.1).1.2.1
  ·simp only[cF]
   exact ⟨_,_,rfl,h⟩
  ·simp only[cT]
   exact ⟨_,_,rfl,h⟩
theorem φIB (l:List φB) (hl:l.length<1000000000):ψ2H.f l=some (l.map (·.1)):=by
 have key:=φ7L (step:=ψ2H.l0) (fun n (a:List (List UInt8))=>(l,a,(n:Int))) l.length (fun n a=>a=(l.take n).map (·.1)) (fun b=>b=l.map (·.1))
  (fun rec a hi=>⟨_,by simp[ψ2H.l0];rfl,by rw[hi,κQ]⟩)
  (fun rec n a hn hi=>by
   have e0:(n:Int)<(l.length:Int):=by omega
   have hw:=φL (show n+1<9223372036854775808 by omega)
   have hal:a.length=n:=by rw[hi,lM,lT];omega
   have q:decide ((a.length+(0+1)) * 16≤140737488355328)=true:=by simp;omega
   refine ⟨a++[l[n].1],by rw[hi,κ3 hn,mp];rfl,?_⟩
   simp only[ψ2H.l0,e0,dT,cT,φD,hn,φI,φ8 hn,lC,lN,q,hw])
  [] (by simp) (by omega)
 obtain ⟨b,k,kb⟩:=key
 unfold ψ2H.f
 have k:lp ψ2H.l0 (l,[],0)=some b:=k
 rw[k,kb];rfl
theorem EI.store {e:EngT} (h:EI e) (hu:e.1=true) {s:φA} {d:φ1} (hj:JR s d) {l:List TxnT} (hl:TB l):EI (e.1,s,d,l):=⟨fun _=>hj,fun c=>by rw[hu] at c;simp at c,hl⟩
theorem φI3 {e:EngT} (h:EI e) (hu:e.1=true) (s:φ2J) (hs:0≤s.2.1∧s.2.1≤2):∃e' a,ψ3W.f e s=some (e',a)∧EI e':=by
 obtain ⟨hS,hd⟩:=h.small
 have hdr:=hS.dir
 obtain ⟨n,hn⟩:∃n:Nat,s.2.1=(n:Int):=⟨s.2.1.toNat,by omega⟩
 have hn3:n<e.2.2.2.length:=by rw[h.tx.1];omega
 have ht:=h.tx.2 _ (gM hn3)
 have htb:=h.tx.set n (t:=(false,[],[])) ⟨by simp,by simp⟩
 unfold ψ3W.f
 rw[hn]
 simp only[φD,hn3,dT,cT,φI,φ8 hn3,tN,φ2S,φLC e.2.2.2[n] e.2.1.2.1 (by omega) (by omega),bS]
 cases φ9g e.2.2.2[n] e.2.1.2.1
 ·simp only[nF,cT]
  exact ⟨_,_,rfl,h.same htb⟩
 ·have hnl:=φMz e.2.2.2[n].2.2
  simp only[nZ,cF,φDw e.2.2.2[n] (by omega),bS,φHC hS (netW e.2.2.2[n].2.2) (by omega)]
  exact ⟨_,_,rfl,h.store hu (φIV (h.up hu) _).1 htb⟩
theorem φKe {d:φ1} (h:∃s,JR s d):∃e' c,ψ2P.f d=some (e',c)∧EI e':=by
 obtain ⟨s,hs⟩:=h
 have hd:=(φ15.1 hs.ok).1
 obtain ⟨t,y,ho,hj,_⟩:=φAI hs
 unfold ψ2P.f
 rw[φGs d (φ34 (φn hd) (by omega)),ho]
 exact ⟨_,_,rfl,⟨fun _=>hj,fun c=>by simp at c,TB.new⟩⟩
theorem φLA {e:EngT} (h:EI e) (s:φ2J) (h11:s.1≠11):∃e' a,ψ2Q.f e s=some (e',a)∧EI e':=by
 obtain ⟨hS,hd⟩:=h.small
 have hdr:=hS.dir
 have htx:=h.tx.1
 unfold ψ2Q.f
 simp only[φLw e h,bS]
 cases c10:(s.1==10)
 rotate_left
 ·simp only[cT]
  cases hu:e.1
  ·simp only[cF]
   obtain ⟨e',c,k1,k2⟩:=φKe (h.dn hu).1
   simp only[k1,bS]
   exact ⟨_,_,rfl,k2⟩
  ·simp only[cT]
   exact ⟨_,_,rfl,h⟩
 have c11:(s.1==11)=false:=by simpa using h11
 simp only[c11,cF]
 cases hu:e.1
 ·simp only[nF,cT]
  exact ⟨_,_,rfl,h⟩
 simp only[nZ,cF]
 have hJ:=h.up hu
 cases c7:(s.1==7)
 rotate_left
 ·simp only[cT,(φN7 hS).2,bS]
  refine ⟨_,_,rfl,?_⟩
  rw[←hu]
  exact h.store hu (φLb hJ).1 h.tx
 simp only[cF]
 cases c8:(s.1==8)
 rotate_left
 ·simp only[cT,φIB e.2.1.2.1 (by omega),bS]
  exact ⟨_,_,rfl,h⟩
 simp only[cF]
 cases c9:(s.1==9)
 rotate_left
 ·simp only[cT]
  exact ⟨_,_,rfl,⟨fun c=>by simp at c,fun _=>⟨⟨_,hJ⟩,by simp,by simp⟩,TB.new⟩⟩
 simp only[cF]
 have hw:w64 ((e.2.2.2.length:Int) - 1)=2:=by rw[htx];rfl
 simp only[φ1u,hw,bS]
 by_cases hse:0≤s.2.1∧s.2.1≤2
 rotate_left
 ·simp only[hse,dF,nF,cT,bS,φM]
  exact ⟨_,_,rfl,h⟩
 simp only[hse,and_self,dT,nZ,cF]
 by_cases hk6:1≤s.1∧s.1≤6
 rotate_left
 ·simp only[hk6,dF,nF,cT,bS,φM]
  exact ⟨_,_,rfl,h⟩
 simp only[hk6,and_self,dT,nZ,cF]
 obtain ⟨n,hn⟩:∃n:Nat,s.2.1=(n:Int):=⟨s.2.1.toNat,by omega⟩
 have hn3:n<e.2.2.2.length:=by rw[htx];omega
 have ht:=h.tx.2 _ (gM hn3)
 have hin:inB s.2.1 e.2.2.2.length=true:=by rw[hn,φD];simp[hn3]
 have hrd:rdA (false,[],[]) e.2.2.2 s.2.1=e.2.2.2[n]:=by rw[hn,φI,φ8 hn3]
 have hnt:s.2.1.toNat=n:=by rw[hn];rfl
 simp only[hin,hrd,cT]
 cases c1:(s.1==1)
 rotate_left
 ·have cn1:(s.1 != 1)=false:=by simpa using c1
  simp only[cT,cn1,cF]
  cases e.2.2.2[n].1
  ·simp only[cF,bS,φM,hin,c1,cT,hnt]
   exact ⟨_,_,rfl,h.same (h.tx.set n ⟨by simp,by simp⟩)⟩
  ·simp only[cT,bS,φM]
   exact ⟨_,_,rfl,h⟩
 have cn1:(s.1 != 1)=true:=by simpa using c1
 simp only[cF,cn1,cT]
 cases e.2.2.2[n].1
 ·simp only[nF,cT,bS,φM]
  exact ⟨_,_,rfl,h⟩
 simp only[nZ,cF,bS,φM,c1,hin,cT,hrd,hnt]
 cases c6:(s.1==6)
 rotate_left
 ·simp only[cT,bS,φM]
  exact ⟨_,_,rfl,h.same (h.tx.set n ⟨by simp,by simp⟩)⟩
 simp only[cF]
 cases c2:(s.1==2)
 rotate_left
 ·obtain ⟨e',a,k1,k2⟩:=φIx h s hse
  simp only[cT,k1,bS,φM]
  exact ⟨_,_,rfl,k2⟩
 simp only[cF]
 cases c5:(s.1==5)
 rotate_left
 ·obtain ⟨e',a,k1,k2⟩:=φI3 h hu s hse
  simp only[cT,k1,bS,φM]
  exact ⟨_,_,rfl,k2⟩
 simp only[cF,φAS [(s.2.2.1,s.1==4,s.2.2.2.1)] (by simp),bS,φ2S,φLl e.2.2.2[n] (s.2.2.1,s.1==4,s.2.2.2.1) (by omega) (by omega)]
 cases φ2K [(s.2.2.1,s.1==4,s.2.2.2.1)]
 ·simp only[nF,cT,bS,φM]
  exact ⟨_,_,rfl,h⟩
 simp only[nZ,cF]
 have hb:=φHw ht (s.2.2.1,s.1==4,s.2.2.2.1)
 cases (φ69 e.2.2.2[n] (s.2.2.1,s.1==4,s.2.2.2.1)).2
 ·simp only[nF,cT,bS,φM]
  exact ⟨_,_,rfl,h⟩
 ·simp only[nZ,cF,bS,φM]
  exact ⟨_,_,rfl,h.same (h.tx.set n hb)⟩
theorem φEj {c:CurT} (h:Cur c):∃s c',ψ3a.f c=some (s,c')∧s.1≠11∧Cur c':=by
 obtain ⟨k,c1,e1,hk,h1⟩:=φ6b h [1,2,2,3,3,3,4,5,5,6,7,8,1,5] (by decide)
 obtain ⟨z,c2,e2,a2,b2,_,h2⟩:=φ3t h1 3
 have hk11:k≠11:=by
  simp only[mc,κc,or_false] at hk
  omega
 unfold ψ3a.f
 simp only[e1,e2,bS]
 -- what follows
 have fin:∀(x0:CurT) (x3:φ2J),Cur x0→x3.1≠11→∃s c',((ψ3c.f x0 40).bind fun x=>
   bif x.1==0 then some (((9,0,[],[],0):φ2J),x.2) else
   (bif x.1==1 then some (x.2,((0,0,[],[],0):φ2J),x3,x.1,x.1==1) else some (x.2,((0,0,[],[],0):φ2J),x3,x.1,x.1==2)).bind fun x=>
    bif x.2.2.2.2 then some (((10,0,[],[],0):φ2J),x.1) else
    bif x.2.2.2.1==3 then (ψ3i.f x.1 [(-1),3]).bind fun x_1=>some (((x.2.2.1.1,x_1.1,x.2.2.1.2.2):φ2J),x_1.2) else
    bif x.2.2.2.1==4 then (ψ3h.f x.1 [[],[110,105,110,101,98,121,116,101,115]]).bind fun x_1=>some (((x.2.2.1.1,x.2.2.1.2.1,x_1.1,x.2.2.1.2.2.2):φ2J),x_1.2) else
    bif x.2.2.2.1==5 then (ψ3i.f x.1 [0,12]).bind fun x_1=>some (((x_1.1,x.2.2.1.2):φ2J),x_1.2) else some (x.2.2.1,x.1))=some (s,c')∧s.1≠11∧Cur c':=by
  intro x0 x3 hx h3
  obtain ⟨y,c4,e4,_,_,_,h4⟩:=φ3t hx 40
  simp only[e4,bS]
  cases d0:(y==0)
  rotate_left
  ·exact ⟨_,_,rfl,by decide,h4⟩
  simp only[cF]
  cases d1:(y==1)
  rotate_left
  ·simp only[cT,bS]
   exact ⟨_,_,rfl,by decide,h4⟩
  simp only[cF,bS]
  cases d2:(y==2)
  rotate_left
  ·exact ⟨_,_,rfl,by decide,h4⟩
  simp only[cF]
  cases d3:(y==3)
  rotate_left
  ·obtain ⟨v,c5,e5,_,h5⟩:=φ6b h4 [(-1),3] (by decide)
   simp only[cT,e5,bS]
   exact ⟨_,_,rfl,h3,h5⟩
  simp only[cF]
  cases d4:(y==4)
  rotate_left
  ·obtain ⟨v,c5,e5,_,h5⟩:=φCB h4 [[],[110,105,110,101,98,121,116,101,115]] (by decide)
   simp only[cT,e5,bS]
   exact ⟨_,_,rfl,h3,h5⟩
  simp only[cF]
  cases d5:(y==5)
  rotate_left
  ·obtain ⟨v,c5,e5,hv,h5⟩:=φ6b h4 [0,12] (by decide)
   simp only[cT,e5,bS]
   refine ⟨_,_,rfl,?_,h5⟩
   simp only[mc,κc,or_false] at hv
   show v≠11
   omega
  ·exact ⟨_,_,rfl,h3,h4⟩
 cases d2:(k==2)
 ·simp only[cF,bS]
  cases d4:(k==4)
  ·simp only[cF]
   cases d3:(k==3)
   ·simp only[cF,bS]
    exact fin c2 (k,z,[],[],0) h2 hk11
   ·obtain ⟨x,c3,e3,_,h3⟩:=φAP h2
    obtain ⟨y,c4,e4,_,h4⟩:=φKB h3 12 (by omega) (by omega)
    simp only[cT,e3,e4,bS]
    exact fin c4 (k,z,x,y,0) h4 hk11
  ·obtain ⟨x,c3,e3,_,h3⟩:=φAP h2
   simp only[cT,e3,bS]
   exact fin c3 (k,z,x,[],0) h3 hk11
 ·obtain ⟨x,c3,e3,_,h3⟩:=φAP h2
  simp only[cT,e3,bS]
  exact fin c3 (k,z,x,[],0) h3 hk11
theorem φHG {c:CurT} (h:Cur c):∃l c',ψ3b.f c 20=some (l,c')∧l.length≤60∧(∀s∈l,s.1≠11)∧Cur c':=by
 obtain ⟨n,c1,e1,a1,b1,_,h1⟩:=φ3t h 21
 have b1:=b1 (by omega)
 obtain ⟨m,rfl⟩:∃m:Nat,n=(m:Int):=⟨n.toNat,by omega⟩
 have key:=φBz (step:=ψ3b.l0) (fun k (s:CurT×List φ2J×List Bool)=>(s.1,s.2.1,s.2.2,(k:Int))) (fun k s=>Cur s.1∧s.2.1.length+2 * k≤60∧(∀x∈s.2.1,x.1≠11)∧s.2.2.length=3) (fun b=>Cur b.1∧b.2.length≤60∧∀x∈b.2,x.1≠11)
  (fun rec s hi=>⟨_,by simp[ψ3b.l0];rfl,hi.1,by have:=hi.2.1;show s.2.1.length≤60;omega,hi.2.2.1⟩)
  (fun rec k s hi=>by
   obtain ⟨s,l,o⟩:=s
   obtain ⟨hi1,hi2,hi3,hi4⟩:=hi
   simp only at hi1 hi2 hi3 hi4
   have e0:((k+1:Nat):Int) > 0:=by omega
   have hw:=φKn (show k<2 ^ 60 by omega)
   obtain ⟨t,c3,f3,ht,h3⟩:=φEj hi1
   have q1:decide ((l.length+(0+1)) * 56≤140737488355328)=true:=by simp;omega
   -- the last part
   have fin:∀(x0:CurT) (x6:List Bool) (x8:φ2J),Cur x0→x6.length=3→x8.1≠11→∃s':CurT×List φ2J×List Bool,(Cur s'.1∧s'.2.1.length+2 * k≤60∧(∀x∈s'.2.1,x.1≠11)∧s'.2.2.length=3) ∧
     ((bif x8.1==9 then bif decide ((l.length+(0+1)) * 56≤140737488355328) then some (x0,l++[x8],κI 3 false,((k+1:Nat):Int),((10,0,[],[],0):φ2J)) else none else some (x0,l,x6,((k+1:Nat):Int),x8)).bind fun x=>
      bif decide ((x.2.1.length+(0+1)) * 56≤140737488355328) then rec (x.1,x.2.1++[x.2.2.2.2],x.2.2.1,w64 (x.2.2.2.1 - 1)) else none)=rec (s'.1,s'.2.1,s'.2.2,(k:Int)):=by
    intro x0 x6 x8 hx0 hx6 hx8
    cases d9:(x8.1==9)
    ·simp only[cF,bS,q1,cT,hw]
     refine ⟨(x0,l++[x8],x6),⟨hx0,by simp;omega,fun y hy=>?_,hx6⟩,rfl⟩
     rcases mA.1 hy with hy | hy
     ·exact hi3 y hy
     ·rw[mZ.1 hy];exact hx8
    ·have q2:decide (((l++[x8]).length+(0+1)) * 56≤140737488355328)=true:=by simp;omega
     simp only[cT,q1,bS,q2,hw]
     refine ⟨(x0,l++[x8]++[(10,0,[],[],0)],κI 3 false),⟨hx0,by simp;omega,fun y hy=>?_,rfl⟩,rfl⟩
     rcases mA.1 hy with hy | hy
     ·rcases mA.1 hy with hy | hy
      ·exact hi3 y hy
      ·rw[mZ.1 hy];exact hx8
     ·rw[mZ.1 hy];decide
   simp only[ψ3b.l0,e0,dT,cT,f3,bS,φ1u,lC,lN]
   by_cases d6:t.1≤6
   rotate_left
   ·simp only[d6,dF,cF,bS]
    exact fin c3 o t h3 hi4 ht
   simp only[d6,dT,cT]
   by_cases ds:0≤t.2.1∧t.2.1≤2
   rotate_left
   ·simp only[ds,dF,cF,bS]
    exact fin c3 o t h3 hi4 ht
   obtain ⟨n,hn⟩:∃n:Nat,t.2.1=(n:Int):=⟨t.2.1.toNat,by omega⟩
   have hin:inB t.2.1 o.length=true:=by rw[hn,φD,hi4];simp;omega
   simp only[ds,and_self,dT,cT,hin]
   have hset:∀b:Bool,(o.set t.2.1.toNat b).length=3:=fun b=>by rw[List.length_set];exact hi4
   -- a step that stays as it is
   have stay:∀(x0:CurT) (x8:φ2J),Cur x0→x8.1≠11→x8.2.1=t.2.1→∃s':CurT×List φ2J×List Bool,(Cur s'.1∧s'.2.1.length+2 * k≤60∧(∀x∈s'.2.1,x.1≠11)∧s'.2.2.length=3) ∧
     ((bif x8.1 != 5 then bif inB x8.2.1 o.length then some (x0,l,o.set x8.2.1.toNat (x8.1 != 6),((k+1:Nat):Int),x8) else none else bif inB x8.2.1 o.length then some (x0,l,o.set x8.2.1.toNat false,((k+1:Nat):Int),x8) else none).bind fun x=>
      (bif x.2.2.2.2.1==9 then bif decide ((x.2.1.length+(0+1)) * 56≤140737488355328) then some (x.1,x.2.1++[x.2.2.2.2],κI 3 false,x.2.2.2.1,((10,0,[],[],0):φ2J)) else none else some (x.1,x.2.1,x.2.2.1,x.2.2.2.1,x.2.2.2.2)).bind fun x=>
       bif decide ((x.2.1.length+(0+1)) * 56≤140737488355328) then rec (x.1,x.2.1++[x.2.2.2.2],x.2.2.1,w64 (x.2.2.2.1 - 1)) else none)=rec (s'.1,s'.2.1,s'.2.2,(k:Int)):=by
    intro x0 x8 hx0 hx8 he
    rw[he]
    cases d5:(x8.1 != 5)
    ·simp only[cF,hin,cT,bS]
     exact fin x0 _ x8 hx0 (hset _) hx8
    ·simp only[hin,cT,bS]
     exact fin x0 _ x8 hx0 (hset _) hx8
   cases hb:rdA false o t.2.1
   ·obtain ⟨w,c4,f4,h4⟩:=φCy h3 8
    simp only[nF,cT,f4,bS]
    cases w
    ·simp only[nF,cT,bS,hin,hb,cF]
     have:=stay c4 (1,t.2.1,[],[],0) h4 (by show (1:Int)≠11;decide) rfl
     simp only[hin,cT] at this
     exact this
    ·simp only[nZ,cF,bS,hin,cT,hb]
     have:=stay c4 t h4 ht rfl
     simp only[hin,cT] at this
     exact this
   ·simp only[nZ,cF,bS,hin,cT,hb]
    cases d1:(t.1==1)
    ·simp only[cF,bS]
     exact stay c3 t h3 ht rfl
    ·obtain ⟨w,c4,f4,h4⟩:=φCy h3 8
     simp only[cT,f4,bS]
     cases w
     ·simp only[nF,cT,bS]
      exact stay c4 (5,t.2) h4 (by show (5:Int)≠11;decide) rfl
     ·simp only[nZ,cF,bS]
      exact stay c4 t h4 ht rfl)
  m (c1,[],κI 3 false) ⟨h1,by simp;omega,fun x hx=>by simp at hx,rfl⟩ (by omega)
 obtain ⟨⟨c2,l⟩,e2,h2,hl,hs⟩:=key
 unfold ψ3b.f
 have hw:w64 (20+1)=21:=rfl
 have e2:lp ψ3b.l0 (c1,[],κI 3 false,(m:Int))=some (c2,l):=e2
 simp only[hw,e1,e2,bS]
 exact ⟨l,c2,rfl,hl,hs,h2⟩
theorem φMn {c:CurT} (h:Cur c):∃e c',ψ3Y.f c=some (e,c')∧EI e∧Cur c':=by
 obtain ⟨v,c1,e1,hv,h1⟩:=φ6b h [100000,100000,300] (by decide)
 have:∃n:Nat,v=(n:Int)∧n≤100000∧8≤n:=by
  simp only[mc,κc,or_false] at hv
  exact ⟨v.toNat,by omega,by omega,by omega⟩
 obtain ⟨n,rfl,n1,n2⟩:=this
 have e2:ψ2K.f (n:Int)=some (d0N n):=by
  unfold ψ2K.f
  rw[φ1u]
  have:(0:Int)≤(n:Int)∧(n:Int)≤100000:=by omega
  simp[this]
 obtain ⟨y,_,ho⟩:=φFo n n1
 rw[if_neg (by omega)] at ho
 have hk:φ5 (d0N n)=true:=by rw[φ3h];exact ⟨⟨by show (0:Int)≤(n:Int);omega,by show (n:Int)≤100000;omega⟩,⟨by show (-1:Int)≤-1;omega,by show (-1:Int)≤100000;omega⟩,by show 0≤130;decide,by show (0:Int)≤(n:Int);omega,by simp,List.Pairwise.nil⟩
 have e3:∃e0 z,ψ2P.f (d0N n)=some (e0,z)∧EI e0:=by
  unfold ψ2P.f
  rw[φGs (d0N n) (φ34 (φn hk) (by omega)),ho]
  exact ⟨_,_,rfl,⟨fun _=>φLL n n1 n2,fun c=>by simp at c,TB.new⟩⟩
 obtain ⟨e0,z,e3,hE⟩:=e3
 obtain ⟨l,c4,e4,hl,hs,h4⟩:=φHG h1
 have key:=φ7L (step:=ψ3Y.l0) (fun k (e:EngT)=>(c4,((false,((0,[]),[],0,0,0),([],0,0,false),[]):EngT),e,l,(k:Int))) l.length (fun k e=>EI e) (fun b=>b.1=c4∧EI b.2.2)
  (fun rec e hi=>⟨_,by simp[ψ3Y.l0];rfl,rfl,hi⟩)
  (fun rec k e hk hi=>by
   have e0:(k:Int)<(l.length:Int):=by omega
   have hw:=φL (show k+1<9223372036854775808 by omega)
   obtain ⟨e',a,k1,k2⟩:=φLA hi l[k] (hs _ (gM hk))
   refine ⟨e',k2,?_⟩
   simp only[ψ3Y.l0,e0,dT,cT,φD,hk,φI,φ8 hk,φ2S,k1,bS,hw])
  e0 hE (by omega)
 obtain ⟨⟨b1,b2,b3⟩,k,kb1,kb2⟩:=key
 simp only at kb1 kb2
 subst kb1
 unfold ψ3Y.f
 have k:lp ψ3Y.l0 (b1,((false,((0,[]),[],0,0,0),([],0,0,false),[]):EngT),e0,l,0)=_:=k
 simp only[e1,e2,e3,e4,bS,k]
 exact ⟨_,_,rfl,kb2,h4⟩
structure DrawnE (e:EngT):Prop where
 up:e.1=true→¬e.2.2.1.2.2.1≥0→JR e.2.1 e.2.2.1
 len:e.2.2.2.length≤3
 tx:∀t∈e.2.2.2,t.2.1.length≤20∧t.2.2.length≤50
theorem EI.drawn {e:EngT} (h:EI e):DrawnE e:=⟨fun u _=>h.up u,by rw[h.tx.1];exact κ9 _,h.tx.2⟩
theorem φL6 (l:List Int) (hl:l.length<2 ^ 60):∃e s,ψ2M.f l=some (e,s)∧DrawnE e:=by
 obtain ⟨c,e1,h1⟩:=φHv l hl
 obtain ⟨e,c2,e2,hE,h2⟩:=φMn h1
 obtain ⟨s,c3,e3,_,h3⟩:=φEj h2
 obtain ⟨k,c4,e4,_,_,_,h4⟩:=φ3t h3 14
 unfold ψ2M.f
 simp only[e1,e2,e3,e4,bS]
 cases d0:(k==0)
 rotate_left
 ·obtain ⟨v,c5,e5,_,h5⟩:=φ6b h4 [0,5,40,(-1),100000,9223372036854775807] (by decide)
  simp only[cT,e5,bS]
  exact ⟨_,_,rfl,hE.drawn⟩
 simp only[cF]
 cases d1:(k==1)
 rotate_left
 ·obtain ⟨v,c5,e5,a5,_,_,h5⟩:=φ3t h4 4
  simp only[cT,e5,bS]
  exact ⟨_,_,rfl,⟨fun _ hv=>absurd a5 hv,by show e.2.2.2.length≤3;rw[hE.tx.1];exact κ9 _,hE.tx.2⟩⟩
 simp only[cF]
 cases d2:(k==2)
 rotate_left
 ·have hw:w64 ((e.2.2.2.length:Int)+1)=4:=by rw[hE.tx.1];rfl
  obtain ⟨v,c5,e5,a5,b5,_,h5⟩:=φ3t h4 4
  have b5:=b5 (by omega)
  have q1:decide ((0:Int)≤v)=true:=by simpa using a5
  have q2:decide (v≤(e.2.2.2.length:Int))=true:=by rw[hE.tx.1];simp;omega
  simp only[cT,hw,e5,bS,q1,q2,Bool.and_self]
  exact ⟨_,_,rfl,⟨fun u _=>hE.up u,by show (e.2.2.2.take _).length≤3;rw[lT,hE.tx.1];omega,fun t ht=>hE.tx.2 t (List.mem_of_mem_take ht)⟩⟩
 ·exact ⟨_,_,rfl,hE.drawn⟩
theorem φLB (l:List TxnT) (hl:l.length<1000000) (ht:∀t∈l,t.2.1.length≤20∧t.2.2.length≤50):ψ1K.f l=some l:=by
 have key:=φ7L (step:=ψ1K.l0) (fun n (a:List TxnT)=>(a,l,(l.length:Int),(n:Int))) l.length (fun n a=>a=l.take n) (fun b=>b=l)
  (fun rec a hi=>⟨_,by simp[ψ1K.l0];rfl,by rw[hi,κQ]⟩)
  (fun rec n a hn hi=>by
   have e0:(n:Int)<(l.length:Int):=by omega
   have hw:=φL (show n+1<9223372036854775808 by omega)
   have h:=ht _ (gM hn)
   have hc:=φHi l[n] (by omega) (by omega)
   have hal:a.length=n:=by rw[hi,lT];omega
   have q:decide ((a.length+(0+1)) * 56≤140737488355328)=true:=by simp;omega
   refine ⟨a++[l[n]],by rw[hi,κ3 hn],?_⟩
   simp only[ψ1K.l0,e0,dT,cT,φD,hn,φI,φ8 hn,φ2S,hc,bS,lC,lN,q,hw])
  [] (by simp) (by omega)
 obtain ⟨b,k,kb⟩:=key
 unfold ψ1K.f
 have k:lp ψ1K.l0 ([],l,(l.length:Int),0)=some b:=k
 rw[k,kb];rfl
theorem φMv {s:φA} {d:φ1} (h:SmallS s d):(φV s d).1.length≤1000:=by
 have:=φ7j s d
 have:=h.dir
 omega
abbrev zTx:List TxnT:=κI 3 (false,[],[])
abbrev φ59 (d:φ1):EngT:=(false,((0,[]),[],0,0,0),d,zTx)
theorem φFt {e:EngT} (h1:e.2.1.1.2.length≤1000) (h2:e.2.1.2.1.length≤1000) (h3:e.2.2.1.1.length<200000) (hl:e.2.2.2.length≤3) (ht:∀t∈e.2.2.2,t.2.1.length≤20∧t.2.2.length≤50):ψ1F.f e=some e:=by
 unfold ψ1F.f
 simp only[φE7 e.2.1 (by omega) (by omega),φ7U e.2.2.1 (by omega),φLB e.2.2.2 (by omega) ht,bS,φ2S]
theorem φIa {e:EngT} (hu:e.1=true) (hj:JR e.2.1 e.2.2.1) (hl:e.2.2.2.length≤3) (ht:∀t∈e.2.2.2,t.2.1.length≤20∧t.2.2.length≤50) :
  ψI.f e (9,0,[],[],0)=some (φ59 e.2.2.1,(0,[],[])):=by
 have hS:=hj.small
 have d10:((9:Int)==10)=false:=rfl
 have d11:((9:Int)==11)=false:=rfl
 have d7:((9:Int)==7)=false:=rfl
 have d8:((9:Int)==8)=false:=rfl
 unfold ψI.f ψL.f
 simp only[φFt hS.ids hS.dir hS.sm.1 hl ht,bS,d10,d11,d7,d8,hu,nZ,cF,beq_self_eq_true,cT]
theorem φDq {d:φ1} (h:φ5 d=true):ψ1F.f (φ59 d)=some (φ59 d):=
 φFt (by simp) (by simp) (by have:=(φn h).1;show d.1.length<_;omega) (by simp) TB.new.2
theorem φMf {s:φA} {d:φ1} (h:JR s d):∃t y,ψI.f (φ59 d) (10,0,[],[],0)=some ((true,t,y,zTx),(0,[],[]))∧JR t y∧φV t y=φV s d:=by
 have hd:=(φ15.1 h.ok).1
 obtain ⟨t,y,ho,hj,_,_,_,hm,_⟩:=φAI h
 refine ⟨t,y,?_,hj,hm⟩
 unfold ψI.f ψL.f ψH.f
 simp only[φDq hd,bS,beq_self_eq_true,cT,cF,φE1 d (φ34 (φn hd) (by omega)),ho]
theorem φKw {s:φA} {d:φ1} (h:JR s d) (st:φ2J):∃y b,ψI.f (φ59 d) st=some (y,b)∧(st.1≠10→st.1≠11→y=φ59 d∧b.1=6):=by
 have hd:=(φ15.1 h.ok).1
 obtain ⟨t,y,ho,hj,_,_,_,hm,_⟩:=φAI h
 have hlim:=φ1B (φn hd) (show 100001≤1000000000 by omega)
 unfold ψI.f ψL.f ψH.f
 simp only[φDq hd,bS]
 cases c10:(st.1==10)
 rotate_left
 ·have:st.1=10:=by simpa using c10
  simp only[cT,cF,φE1 d (φ34 (φn hd) (by omega)),ho,bS]
  exact ⟨_,_,rfl,fun k=>absurd this k⟩
 simp only[cF]
 cases c11:(st.1==11)
 rotate_left
 ·have:st.1=11:=by simpa using c11
  simp only[cT,φF0 d (by have:=hlim.1;omega) (by have:=(φn hd).2.1;omega),φ6X d hlim,hd,bS,nZ,cF,φ1q]
  cases decide (0≤st.2.2.2.2∧st.2.2.2.2≤w64 (100000 - ((φQ d.1:Nat):Int)))
  ·exact ⟨_,_,rfl,fun _ k=>absurd this k⟩
  ·exact ⟨_,_,rfl,fun _ k=>absurd this k⟩
 ·simp only[cF,nF,cT,bS]
  exact ⟨_,_,rfl,fun _ _=>⟨rfl,rfl⟩⟩
theorem φI0 (p:List φ1C) (c:Int) (x z:EngT) (a b:AnsT) (q:List φ1C) (f:Int) (hz:z.2.2.2=zTx) :
  lp ψ28.l0 (p,c,x,a,z,b,q,f,0)=some (.inl (p,c,x,a,z,b,q,f)):=by
 have hl:z.2.2.2.length=3:=by rw[hz];rfl
 have key:=φ7L (step:=ψ28.l0) (fun n (_:Unit)=>(p,c,x,a,z,b,q,f,(n:Int))) 3 (fun n _=>True) (fun r=>r=.inl (p,c,x,a,z,b,q,f))
  (fun rec s hi=>⟨_,by simp[ψ28.l0,hl],rfl⟩)
  (fun rec n s hn hi=>by
   have e0:(n:Int)<(z.2.2.2.length:Int):=by rw[hl];omega
   have e1:n<z.2.2.2.length:=by rw[hl];exact hn
   have hw:=φL (show n+1<9223372036854775808 by omega)
   have ht:z.2.2.2[n].1=false:=by
    have hall:∀y∈z.2.2.2,y.1=false:=by
     rw[hz]
     intro y hy
     have h2:=List.eq_of_mem_replicate hy
     exact congrArg Prod.fst h2
    exact hall _ (gM e1)
   refine ⟨(),trivial,?_⟩
   simp only[ψ28.l0,e0,dT,cT,φD,e1,φI,φ8 e1,ht,cF,hw])
  () trivial (by omega)
 obtain ⟨r,e,hr⟩:=key
 rw[hr] at e
 exact e
theorem φIS (x0:List Int) (w0:wfD (.sl false (.int .u8)) x0):ψ28.f x0=some true:=by
 unfold ψ28.f
 rw[φIg,bS]
 by_cases cb:(x0.length:Int) > 1048576
 ·simp[cb]
 simp only[cb,dF,cF]
 obtain ⟨e,s,ed,hE⟩:=φL6 x0 (by omega)
 simp only[ed,bS]
 cases hu:e.1
 ·simp only[nF,cT]
 simp only[nZ,cF]
 by_cases hf:e.2.2.1.2.2.1≥0
 ·simp only[hf,dT,cT]
 simp only[hf,dF,cF]
 have hj:=hE.up hu hf
 have hdn:e.2.2.1.2.2.2=false:=hj.fre.up
 have hS:=hj.small
 obtain ⟨hlim,hus⟩:=hS.lim
 have h2:=hS.dir
 have hd:=(φ15.1 hj.ok).1
 have hdl:=φMv hS
 have hd0:(φV e.2.1 e.2.2.1).2=0:=by rw[φ2t hj.ok]
 have hmap:ψ2O.f e=some (φV e.2.1 e.2.2.1):=by
  unfold ψ2O.f
  rw[hu]
  simp only[nZ,cF,φF6 e.2.1 e.2.2.1 hlim hus (by omega),bS]
 obtain ⟨y,b,k1,k2⟩:=φKw hj s
 obtain ⟨t,D,o1,o2,o3⟩:=φMf hj
 have hS2:=o2.small
 obtain ⟨hl2,hu2⟩:=hS2.lim
 have hmap2:ψG.f ((true,t,D,zTx):EngT)=some (φV e.2.1 e.2.2.1):=by
  unfold ψG.f
  simp only[nZ,cF,φCk t D hl2 hu2 (by have:=hS2.dir;omega),bS,o3]
 have hsd:=φLY e.2.2.1 (by have:=(φ5o hd).2.2;omega)
 have hz3:((zTx.length:Nat):Int)=3:=rfl
 have fin:(lp ψ28.l0 ((φV e.2.1 e.2.2.1).1,(φV e.2.1 e.2.2.1).2,φ59 e.2.2.1,((0,[],[]):AnsT),((true,t,D,zTx):EngT),((0,[],[]):AnsT),(φV e.2.1 e.2.2.1).1,(φV e.2.1 e.2.2.1).2,0))=_:=φI0 _ _ _ (true,t,D,zTx) _ _ _ _ rfl
 simp only[hdn,cF,hmap,φIa hu hj hE.len hE.tx,k1,o1,hmap2,bS]
 have tail:((lp ψ28.l0 ((φV e.2.1 e.2.2.1).1,(φV e.2.1 e.2.2.1).2,φ59 e.2.2.1,((0,[],[]):AnsT),((true,t,D,zTx):EngT),((0,[],[]):AnsT),(φV e.2.1 e.2.2.1).1,(φV e.2.1 e.2.2.1).2,0)).bind fun o10=>φM o10 (fun x=>
   bif x.2.2.2.1.1==0 then bif !x.2.2.1.1 then bif x.2.2.2.2.2.1.1==0 then bif x.2.2.2.2.1.1 then bif (x.2.2.2.2.1.2.2.2.length:Int)==3 then bif x.2.1==x.2.2.2.2.2.2.2 then (ψ2w.f x.1 x.2.2.2.2.2.2.1).bind fun t11=>some t11 else some false else some false else some false else some false else some false else some false) (fun x2=>some x2))=some true:=by
  rw[fin]
  simp only[bS,φM,beq_self_eq_true,cT,nF,hz3,φHU _ _ (show (φV e.2.1 e.2.2.1).1.length<2 ^ 62 by omega),dT]
 by_cases c10:s.1=10
 ·have z:(s.1 != 10)=false:=by simpa using c10
  simp only[z,cF,bS,φM]
  exact tail
 by_cases c11:s.1=11
 ·have z:(s.1 != 10)=true:=by simpa using c10
  have z1:(s.1 != 11)=false:=by simpa using c11
  simp only[z,z1,cT,cF,bS,φM]
  exact tail
 ·obtain ⟨y1,y2⟩:=k2 c10 c11
  have z:(s.1 != 10)=true:=by simpa using c10
  have z1:(s.1 != 11)=true:=by simpa using c11
  have z2:(b.1 != 6)=false:=by simpa using y2
  subst y1
  simp only[z,z1,z2,cT,cF,hsd,bS,nZ,φM]
  exact tail
end Go.Rf.G
