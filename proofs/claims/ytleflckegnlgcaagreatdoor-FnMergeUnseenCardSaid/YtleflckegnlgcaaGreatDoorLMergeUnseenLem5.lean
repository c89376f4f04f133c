import Derived.Test.YtleflckegnlgcaaGreatDoorLMergeUnseenLem4
open Option renaming bind_some→bS
open List renaming length_append→lA,append_assoc→aA,mem_cons_of_mem→mC,mem_append→mA,mem_append_right→mR,mem_append_left→mL,mem_cons→mc,drop_eq_getElem_cons→dG,length_take→lT,length_drop→lD,mem_map→mM,length_map→lM,length_cons→lC,length_nil→lN,getElem_mem→gM,map_append→mp,mem_singleton→mZ,mem_cons_self→κ0,take_succ_eq_append_getElem→κ4,map_cons→κ5,append_nil→κ7,nil_append→κ8,length_singleton→κA,drop_zero→κC,take_append_drop→κE,cons_append→κF,flatMap_append→κI,replicate→κJ,nodup_append→κK,foldl_cons→κN,drop_left→κP,nodup_cons→κQ,range'→κR,all_eq_true→κT,mem_of_mem_take→κV,take_length→κW,foldl_append→κY,pairwise_cons→κZ,take_append_of_le_length→κd,mem_or_eq_of_mem_set→κe,pairwise_append→κf
open Bool renaming and_eq_true→bA,eq_false_or_eq_true→bE,not_true→nZ,not_false→nF,true_and→tA,not_not→nn,false_eq_true→κ2,true_eq_false→κ9,false_and→κD,or_eq_false_iff→κH,and_true→κL,not_eq_true'→κM,false_or→κS,or_eq_true→κX
open Int renaming toNat_natCast→tN,ofNat_lt→oL,le_refl→κO
open Nat renaming lt_or_ge→κ1,zero_le→κ3,le_refl→κ6,eq_of_beq_eq_true→κB,lt_of_lt_of_le→κG,zero_add→κU,pow_succ→κa,mod_eq_of_lt→κc,le_trans→κg
open Array renaming length_toList→κb
set_option linter.unusedVariables false
set_option linter.unusedSimpArgs false
namespace Go.Rf.G
open Go Go.Rf
set_option synthInstance.maxSize 4000
theorem φLA {e:EngT} (h:EI e) (s:φW):EI (stE e s).1∧(stE e s).2.1≠1∧(stE e s).2.1≠3 ∧
  ((stE e s).2.1=2→(stE e s).1.1=e.1∧(e.1=true→φU (stE e s).1.2.1 (stE e s).1.2.2.1=φU e.2.1 e.2.2.1)):=by
 obtain ⟨hS,hdk⟩:=h.small
 unfold stE
 cases c10:(s.1==10)
 rotate_left
 ·simp only[cT]
  cases hu:e.1
  ·obtain ⟨s0,hs0⟩:=(h.dn hu).1
   obtain ⟨t,y,ho,hj,_⟩:=φHv hs0
   simp only[cF,ho]
   exact ⟨⟨fun _=>hj,fun c=>by simp at c,TB.new⟩,by decide,by decide,fun c=>by simp at c⟩
  ·exact ⟨h,by show (4:Int)≠1;decide,by show (4:Int)≠3;decide,fun c=>absurd c (by show ¬(4:Int)=2;decide)⟩
 simp only[cF]
 cases c11:(s.1==11)
 rotate_left
 ·simp only[cT,hdk,tA]
  by_cases c:0≤s.2.2.2.2∧s.2.2.2.2≤100000 - (φI e.2.2.1.1:Int)
  ·simp only[c,and_self,dT,cT]
   exact ⟨⟨fun hu=>(h.up hu).cap (by omega) (by omega),fun hu=>⟨by obtain ⟨s0,hs0⟩:=(h.dn hu).1;exact ⟨s0,hs0.cap (by omega) (by omega)⟩,(h.dn hu).2⟩,h.tx⟩,by decide,by decide,fun c=>by simp at c⟩
  ·simp only[c,dF,cF]
   exact ⟨h,by decide,by decide,fun c=>by simp at c⟩
 simp only[cF]
 cases hu:e.1
 ·exact ⟨h,by show (6:Int)≠1;decide,by show (6:Int)≠3;decide,fun c=>absurd c (by show ¬(6:Int)=2;decide)⟩
 have hJ:=h.up hu
 simp only[nZ,cF]
 cases c7:(s.1==7)
 rotate_left
 ·obtain ⟨m1,m2⟩:=φHk hJ
  have hmc:=φIE hJ
  unfold C4 at hmc
  simp only[cT]
  exact ⟨⟨fun _=>m1,fun c=>by simp at c,h.tx⟩,by show (φ1v e.2.1 e.2.2.1).2.2≠1;omega,by show (φ1v e.2.1 e.2.2.1).2.2≠3;omega,fun _=>⟨trivial,fun _=>m2⟩⟩
 simp only[cF]
 cases c8:(s.1==8)
 rotate_left
 ·exact ⟨h,by show (0:Int)≠1;decide,by show (0:Int)≠3;decide,fun c=>absurd c (by show ¬(0:Int)=2;decide)⟩
 simp only[cF]
 cases c9:(s.1==9)
 rotate_left
 ·exact ⟨⟨fun c=>by simp at c,fun _=>⟨⟨_,hJ⟩,by simp,by simp⟩,TB.new⟩,by show (0:Int)≠1;decide,by show (0:Int)≠3;decide,fun c=>absurd c (by show ¬(0:Int)=2;decide)⟩
 simp only[cF]
 unfold sesE
 obtain ⟨g1,g2⟩:=φNr (look:=getP e.2.1 e.2.2.1) (fun k=>by
  rcases φHi hJ.ok k with c | c
  ·exact .inl c
  ·rw[c];exact .inr rfl) (fun t=>φ43 t e.2.1.2.1) h.tx s
 generalize sesG (getP e.2.1 e.2.2.1) (fun t=>φ43 t e.2.1.2.1) e.2.2.2 s=g at g1 g2
 obtain ⟨l,a,w⟩:=g
 unfold cS at g2
 simp only at g1 g2
 unfold comE
 cases w with
 | none=>
  simp only
  exact ⟨h.same g1,by omega,by omega,fun c=>by omega⟩
 | some w=>
  obtain ⟨k1,k2,k3,k4⟩:=φHf hJ w
  have kc:=φLf hJ w
  unfold C4 at kc
  simp only
  exact ⟨h.store hu k1 g1,by omega,by omega,fun c=>⟨hu,fun _=>k4 (by omega)⟩⟩
noncomputable def mapE (e:EngT):List φk×Int:=bif !e.1 then ([],6) else φU e.2.1 e.2.2.1
theorem φEt {e:EngT} (h:SmallS e.2.1 e.2.2.1):ψH.f e=some (mapE e):=by
 obtain ⟨k1,k2⟩:=h.lim
 have k3:=h.dir
 unfold ψH.f mapE
 cases e.1
 ·rfl
 ·simp only[nZ,cF,φCf e.2.1 e.2.2.1 k1 k2 (by omega),bS]
theorem φK8 {d:φ1} {a b:List UInt8} (h:(φ2T a b d).2=0) (hab:a≠b):(φ2 (φ2T a b d).1 a).2=false:=by
 obtain ⟨k,ha,hx⟩:=φ5X h
 have hx:(φ2T a b d).1=_:=hx
 unfold φ2J at ha hx
 split at ha
 ·simp at ha
 rename_i c
 rw[if_neg c] at hx
 rcases φu d.1 a with ⟨e,_⟩ | ⟨i,hi,e,hn⟩
 ·rw[φ1B e] at ha;simp at ha
 rw[φ16 e] at hx
 simp only at hx
 rw[if_neg hab] at hx
 have hp:=(φ5i k)
 refine φAY fun f hf=>?_
 rw[hx] at hf
 have hf:f∈insB (φ1b (φb d.1 i) b) (b,(d.1.getD i ([],[],0)).2):=hf
 rw[φ3Y] at hf
 rcases hf with rfl | hf
 ·exact fun e=>hab e.symm
 ·intro ef
  have hfr:f∈φb d.1 i:=by
   unfold φ1b at hf
   split at hf
   ·rcases mA.1 hf with k | k
    ·exact κV k
    ·exact List.mem_of_mem_drop k
   ·exact hf
  rw[φI1 hp hi hn] at hfr
  have:=(List.mem_filter.1 hfr).2
  simp[ef] at this
theorem φGI {v:φP} {w:φE} (h:(sPut v w).2=0):(φ2 (sPut v w).1 φ1E).2=false:=by
 unfold sPut at h ⊢
 obtain ⟨h1,h2,h3⟩:=φ3t h
 rw[h3]
 exact φK8 h2 (by decide)
structure PB (k N:Nat) (s:φ8) (d:φ1):Prop where
 cap:d.2=(100000,-1,false)
 nm:∀n,(φ2 d n).2=true→n=φa∨(∃id∈s.1.2,n=φ0 id)∨n=φK (s.1.2.headD 0)
 sz:∀n,(φ2 d n).1.length≤1500
 pot:130 * (s.1.2.length:Int)+s.2.2.2.1≤260+71 * k
 act:s.2.2.2.1≤200
 nx:s.1.1≤2+k+2 * N
theorem PB.same {k N:Nat} {s s':φ8} {d:φ1} (h:PB k N s d) (h1:s'.1=s.1) (h2:s'.2.2.2.1=s.2.2.2.1):PB k N s' d:=
 ⟨h.cap,by rw[h1];exact h.nm,h.sz,by rw[h1,h2];exact h.pot,by rw[h2];exact h.act,by rw[h1];exact h.nx⟩
theorem PB.up {k N k' N':Nat} {s:φ8} {d:φ1} (h:PB k N s d) (h1:k≤k') (h2:N≤N'):PB k' N' s d:=
 ⟨h.cap,h.nm,h.sz,by have:=h.pot;omega,h.act,by have:=h.nx;omega⟩
theorem φO3 {l:List φ4} {z:Nat} (h:∀f∈l,f.2.1.length≤z):φI l≤z * l.length:=by
 unfold φI
 induction l with
 | nil=>simp[sumN]
 | cons f l ih=>
  have h1:=h f (by simp)
  have h2:=ih fun g hg=>h g (by simp[hg])
  simp only[sumN,lC]
  rw[Nat.mul_add]
  omega
theorem PB.room {k N:Nat} {s:φ8} {d:φ1} (h:PB k N s d) (hs:φf s d=true) {K:Nat} (hk:k≤K):Room 100000 (1500 * ((260+71 * K) / 130+2)) ((260+71 * K) / 130+2) d∧s.1.2.length≤(260+71 * K) / 130:=by
 obtain ⟨q1,q2,q3,q4,q5,q6⟩:=φg.1 hs
 have hp:=φ5i q1
 have h0:=(φ9J hs).s0
 have hpot:=h.pot
 have hL:s.1.2.length≤(260+71 * K) / 130:=by
  rw[Nat.le_div_iff_mul_le (by omega)]
  omega
 have hfl:d.1.length≤s.1.2.length+2:=by
  have hnd:(d.1.map (·.1)).Nodup:=φLK (l:=d.1) hp
  have:=φNH (A:=d.1.map (·.1)) (B:=φa::φK (s.1.2.headD 0)::s.1.2.map φ0) hnd fun n hn=>by
   obtain ⟨f,hf,rfl⟩:=mM.1 hn
   rcases h.nm f.1 (by rw[φ2k q1 hf]) with e | ⟨id,hid,e⟩ | e
   ·rw[e];simp
   ·rw[e]
    exact mC _ (mC _ (mM.2 ⟨id,hid,rfl⟩))
   ·rw[e];simp
  simpa using this
 have hus:φI d.1≤1500 * d.1.length:=φO3 fun f hf=>by
  have:=h.sz f.1
  rw[φ2k q1 hf] at this
  exact this
 refine ⟨⟨q1,h.cap,?_,by omega⟩,hL⟩
 exact κg hus (Nat.mul_le_mul_left _ (by omega))
theorem φ64 {d:φ1} {n:List UInt8} (h:(φ2 d n).2=false):φ2 d n=([],false):=by
 unfold φ2 at h ⊢
 split
 ·rfl
 ·rename_i c
  rw[if_neg c] at h
  cases hf:d.1.findIdx? (fun f=>f.1==n) with
  | none=>rfl
  | some i=>rw[hf] at h;simp at h
theorem φLM {s:φ8} {d:φ1} (hc:(rotP s d).2.2=0):(φ2 (rotP s d).2.1 φ1E).2=false:=by
 unfold rotP at hc ⊢
 split
 ·rename_i c;rw[if_pos c] at hc;simp at hc
 rename_i c0
 rw[if_neg c0] at hc
 split
 ·rename_i c;rw[if_pos c] at hc;exact absurd ((φ1C _).1 hc) c
 rename_i c1
 rw[if_neg c1] at hc
 simp only at hc ⊢
 split
 ·rename_i c;rw[if_pos c] at hc;exact absurd ((φ1C _).1 hc) c
 rename_i c2
 rw[if_neg c2] at hc
 split
 ·rename_i c
  rw[if_pos c] at hc
  exfalso
  revert hc
  unfold φ1d
  split
  ·split
   ·simp
   ·rename_i c3;exact c3
  ·exact c
 ·rename_i c
  have c:(sPut (s.1.1+1,s.1.2++[s.1.1]) ((φ9 (φV (φ0 s.1.1)) (φB (φ0 s.1.1) (φG (actN s) d).1)).1,0)).2=0:=(φ1C _).1 (Decidable.not_not.1 c)
  exact φGI c
theorem φIn {k N:Nat} {s:φ8} {d:φ1} (h:JB s d) (p:PB k N s d) (t:List UInt8) (ht:t.length≤71) (hk:k≤98) (hN:N≤1000) :
  (addR s d t).2.2=0∧(addR s d t).2.1.2=(100000,-1,false) ∧
  (∀n,(φ2 (addR s d t).2.1 n).2=true→n=φa∨(∃id∈(addR s d t).1.1.2,n=φ0 id)∨n=φK ((addR s d t).1.1.2.headD 0)) ∧
  (∀n,(φ2 (addR s d t).2.1 n).1.length≤1500)∧130 * ((addR s d t).1.1.2.length:Int)+(addR s d t).1.2.2.2.1≤260+71 * k ∧
  (addR s d t).1.2.2.2.1+(t.length:Int)≤200∧(addR s d t).1.1.1≤3+k+2 * N:=by
 obtain ⟨q1,q2,q3,q4,q5,q6⟩:=φg.1 h.ok
 have h0:=(φ9J h.ok).s0
 have hpot:=p.pot
 have hact:=p.act
 have hnx:=p.nx
 unfold addR
 by_cases c:s.2.2.2.1 > 0∧s.2.2.2.1+(t.length:Int) > 200
 rotate_left
 ·rw[if_neg c]
  exact ⟨rfl,p.cap,p.nm,p.sz,hpot,by show s.2.2.2.1+(t.length:Int)≤200;omega,by show s.1.1≤_;omega⟩
 rw[if_pos c]
 obtain ⟨R,hL⟩:=p.room h.ok hk
 have R:Room 100000 85500 57 d:=R.mono (by decide) (by decide)
 have hL:s.1.2.length≤55:=κg hL (by decide)
 have hn:=((φ13 _).1 q2).2.1
 obtain ⟨r1,r2⟩:=φI6 R (φC1 h.ok) (by omega) ⟨hn.1,by omega⟩ (by omega) (by omega)
 obtain ⟨e1,e2,e3,e4⟩:=φ7o q1 r2
 have hlv:=φCq q1 r2
 have htm:=φLM r2
 have hot:∀n,n≠φ0 s.1.1→n≠φ1E→n≠φa→φ2 (rotP s d).2.1 n=φ2 d n:=by
  rcases φ88 (s:=s) q1 with ⟨k1,_⟩ | ⟨_,_,k2⟩
  ·rw[e1] at k1
   simp only at k1
   omega
  ·exact k2
 have hne:=φ3J q2
 have hhd:(s.1.2++[s.1.1]).headD 0=s.1.2.headD 0:=by
  cases hs:s.1.2 with
  | nil=>exact absurd hs hne
  | cons a l=>rfl
 refine ⟨r2,r1.tl,fun n hnn=>?_,fun n=>?_,?_,?_,?_⟩
 ·rw[e1]
  show n=φa∨(∃id∈s.1.2++[s.1.1],n=φ0 id)∨n=φK ((s.1.2++[s.1.1]).headD 0)
  rw[hhd]
  by_cases a1:n=φ0 s.1.1
  ·exact .inr (.inl ⟨s.1.1,by simp,a1⟩)
  by_cases a2:n=φ1E
  ·rw[a2,htm] at hnn;simp at hnn
  by_cases a3:n=φa
  ·exact .inl a3
  rw[hot n a1 a2 a3] at hnn
  rcases p.nm n hnn with e | ⟨id,hid,e⟩ | e
  ·exact .inl e
  ·exact .inr (.inl ⟨id,mL _ hid,e⟩)
  ·exact .inr (.inr e)
 ·by_cases a1:n=φ0 s.1.1
  ·rw[a1,e2];simp
  by_cases a2:n=φ1E
  ·rw[a2,φ64 htm];simp
  by_cases a3:n=φa
  ·rw[a3,hlv]
   have:=φ5b (s.1.1+1,s.1.2++[s.1.1])
   show (φn _).length≤1500
   omega
  rw[hot n a1 a2 a3]
  exact p.sz n
 ·rw[e1]
  show 130 * ((s.1.2++[s.1.1]).length:Int)+0≤_
  simp only[lA,lC,lN]
  omega
 ·rw[e1]
  show (0:Int)+(t.length:Int)≤200
  omega
 ·rw[e1]
  show s.1.1+1≤_
  omega
theorem φN3 {k N:Nat} {s:φ8} {d:φ1} {r:RecT} (h:JB s d) (p:PB k N s d) (hr:φZ r=true) (hk:k≤98) (hN:N≤1000):(addP s d r).2.2.1=0∧PB (k+1) N (addP s d r).1 (addP s d r).2.1:=by
 obtain ⟨q1,q2,q3,q4,q5,q6⟩:=φg.1 h.ok
 obtain ⟨R,hL⟩:=p.room h.ok hk
 have R:Room 100000 85500 57 d:=R.mono (by decide) (by decide)
 have hL:s.1.2.length≤55:=κg hL (by decide)
 have hnx:=p.nx
 obtain ⟨a1,a2,a3,a4⟩:=φJh (r:=r) R h.ok h.lt (by omega) (by omega) (by omega) (by omega)
 obtain ⟨f1,f2⟩:=φ4N r
 obtain ⟨b1,b2,b3,b4,b5,b6,b7⟩:=φIn h p (fr r) f2 hk hN
 have hgrow:JB (addR s d (fr r)).1 (addR s d (fr r)).2.1:=by
  unfold addR
  split
  ·exact (φAl h).jb
  ·exact h
 refine ⟨a2,?_⟩
 have hcap:=a1.tl
 unfold addP at a2 hcap ⊢
 rw[show frame (φ7 r)=fr r from rfl] at *
 generalize addR s d (fr r)=S at *
 simp only at a2 hcap ⊢
 rw[if_neg (by rw[b1];simp)] at a2 hcap ⊢
 by_cases c2:(φL (actN S.1) (fr r) S.2.1).2=0
 rotate_left
 ·rw[if_pos c2] at a2
  exact absurd ((φ1C _).1 a2) c2
 rw[if_neg (by simpa using c2)] at hcap ⊢
 obtain ⟨d1,d2,d3,d4,d5,d6⟩:=φg.1 hgrow.ok
 obtain ⟨t1,t2⟩:=φ4A c2
 have hsz:=((φ1s _).1 d5).2 (φ3J d2)
 refine ⟨hcap,fun n hn=>?_,fun n=>?_,?_,?_,?_⟩
 ·by_cases e:n=actN S.1
  ·exact .inr (.inl ⟨φM S.1.1.2,φ37 (φ3J d2),e⟩)
  ·rw[φ5l d1 e] at hn
   exact b3 n hn
 ·by_cases e:n=actN S.1
  ·rw[e,t2]
   show ((φ2 S.2.1 (actN S.1)).1++fr r).length≤1500
   rw[lA]
   have:S.1.2.2.2.1=((φ2 S.2.1 (actN S.1)).1.length:Int):=hsz
   omega
  ·rw[φ5l d1 e]
   exact b4 n
 ·show 130 * (S.1.1.2.length:Int)+(S.1.2.2.2.1+((fr r).length:Int))≤260+71 * ((k+1:Nat):Int)
  omega
 ·show S.1.2.2.2.1+((fr r).length:Int)≤200
  omega
 ·show S.1.1.1≤2+((k+1:Nat):Int)+2 * N
  omega
theorem φHM:∀(rs:List RecT) (k N:Nat) (s:φ8) (d:φ1),JB s d→PB k N s d→(∀r∈rs,φZ r=true)→k+rs.length≤99→N≤1000→(φd rs s d).2.2.1=0∧PB (k+rs.length) N (φd rs s d).1 (φd rs s d).2.1
 | [],k,N,s,d,_,p,_,_,_=>⟨rfl,p⟩
 | r::rs,k,N,s,d,h,p,hr,hk,hN=>by
  simp only[lC] at hk
  obtain ⟨a1,a2⟩:=φN3 h p (hr r κ0) (by omega) hN
  obtain ⟨q,hq,_⟩:=(φCM h (hr r κ0)).1 a1
  obtain ⟨b1,b2⟩:=φHM rs (k+1) N _ _ hq.jb a2 (fun x hx=>hr x (mC _ hx)) (by omega) hN
  unfold φd
  rw[if_neg (by rw[a1];simp)]
  refine ⟨b1,?_⟩
  rw[show k+(r::rs).length=k+1+rs.length by simp only[lC];omega]
  exact b2
structure PR (k N:Nat) (s:φ8) (d:φ1):Prop extends JR s d where
 bk:PB k N s d
 ex:s.2.2.1=1∨∃p∈φS d s.1.2,p.2.2.2.2.1=s.2.2.1 - 1
theorem PR.up {k N k' N':Nat} {s:φ8} {d:φ1} (h:PR k N s d) (h1:k≤k') (h2:N≤N'):PR k' N' s d:=⟨h.toJR,h.bk.up h1 h2,h.ex⟩
theorem φIR {k N:Nat} {s:φ8} {d:φ1} (h:PR k N s d) {l:List PutT} (hp:φ28 l=true) (hb:s.2.2.1≤1000000) (hkk:φ2i s.2.1 l≤20) (hk:k+(l.length+1)≤99) (hN:N≤1000) :
  (φ1N s d l).2.2=0∧PR (k+(l.length+1)) N (φ1N s d l).1 (φ1N s d l).2.1∧(φ1N s d l).1.2.2.1=s.2.2.1+1:=by
 obtain ⟨q1,q2,q3,q4,q5,q6⟩:=φg.1 h.ok
 have hrec:=φ6w (b:=s.2.2.1) (l:=l) ⟨q4.1,hb⟩ hp
 have hJ1:=h.toJB.bump hb
 obtain ⟨P,g1,g2,g3,g4,g5⟩:=φ6y (φ1n s.2.2.1 l) _ _ hJ1 hrec
 have hrl:=φ8R s.2.2.1 l
 obtain ⟨c1,c2⟩:=φHM (φ1n s.2.2.1 l) k N (s.1,s.2.1,s.2.2.1+1,s.2.2.2) d hJ1 (h.bk.same rfl rfl) hrec (by omega) hN
 rw[hrl] at c2
 have hj:=φGG h.toJR hp hb hkk
 have hright:=φBC h.ok h.lt hp hb hkk
 unfold φ1N at hj hright ⊢
 generalize hG:φd (φ1n s.2.2.1 l) (s.1,s.2.1,s.2.2.1+1,s.2.2.2) d=g at *
 simp only at hj hright ⊢
 rw[if_neg (by rw[c1];simp)] at hj hright ⊢
 obtain ⟨b1,b2,b3,b4,b5,b6⟩:=φg.1 g1.jb.ok
 have hex:(φ2 g.2.1 (actN g.1)).2=true:=(((φ1s _).1 b5).1 _ (φ37 (φ3J b2))).1
 have hs0:(φG (actN g.1) g.2.1).2=0:=φ7U b1 g1.jb.fre hex
 rw[if_neg (by rw[hs0];simp)] at hj hright ⊢
 obtain ⟨r1,r2,r3,r4,r5⟩:=hright rfl
 have hpl2:φS (φG (actN g.1) g.2.1).1 g.1.1.2=φS d s.1.2++P:=by
  rw[φ5a (d:=g.2.1) fun id _=>φ2I b1 _ _]
  exact g1.pl
 have hcap:(φG (actN g.1) g.2.1).1.2=(100000,-1,false):=by
  have:=φ47 (act:=φ26 (actN g.1)) b1 g1.jb.fre
  show (φT g.2.1 (φ26 (actN g.1))).1.2=_
  rw[this]
  exact c2.cap
 refine ⟨rfl,⟨hj,?_,?_⟩,r4⟩
 ·exact ⟨hcap,fun n hn=>by rw[φ2I b1] at hn;exact c2.nm n hn,fun n=>by rw[φ2I b1];exact c2.sz n,c2.pot,c2.act,c2.nx⟩
 ·right
  obtain ⟨x1,x2⟩:=g4 c1
  cases hP:P with
  | nil=>rw[hP] at x1;simp at x1;omega
  | cons p P'=>
   refine ⟨p,?_,?_⟩
   ·show p∈φS (φG (actN g.1) g.2.1).1 g.1.1.2
    rw[hpl2,hP]
    exact mR _ κ0
   ·have hm:p.2.2.2∈P.map (·.2.2.2):=mM.2 ⟨p,by rw[hP];exact κ0,rfl⟩
    rw[g2] at hm
    have hm:=κV hm
    have hb2:p.2.2.2.2.1=s.2.2.1:=by
     unfold φ1n at hm
     rcases mA.1 hm with k1 | k1
     ·obtain ⟨q,_,e⟩:=mM.1 k1
      have:=(φEE s.2.2.1 q).2
      rw[e] at this
      exact this
     ·rw[mZ.1 k1]
    have r4:g.1.2.2.1=s.2.2.1+1:=r4
    show p.2.2.2.2.1=g.1.2.2.1 - 1
    rw[hb2,r4];omega
theorem φAR {c u f:Nat} {d:φ1} (h:Room c u f d) {n:List UInt8} (ho:φ1i n=true) (hf:f<130):Room c u (f+1) (sNew n (d,0)).1∧(sNew n (d,0)).2=0∧(φ2 (sNew n (d,0)).1 n).2=true:=by
 unfold sNew
 rw[φ41]
 obtain ⟨g1,g2,g3⟩:=φBk h n
 generalize φB n d=w at *
 obtain ⟨d1,c1⟩:=w
 simp only at g1 g2 g3
 subst g2
 rw[φ41]
 obtain ⟨k1,k2⟩:=φCC g1 g3 ho hf
 exact ⟨k1,k2,by rw[φ8i k2]⟩
theorem φFL {c f:Nat} {n:List UInt8}:∀(recs:List RecT) (u:Nat) (d:φ1),Room c u f d→(φ2 d n).2=true→u+71 * recs.length≤c →
  Room c (u+71 * recs.length) f (sApp n recs (d,0)).1∧(sApp n recs (d,0)).2=0∧(φ2 (sApp n recs (d,0)).1 n).2=true
 | [],u,d,h,hn,_=>⟨h,rfl,hn⟩
 | r::rs,u,d,h,hn,hu=>by
  simp only[lC] at hu
  have hf:=(φ4N r).2
  obtain ⟨k1,k2⟩:=φ8E (t:=fr r) h hn (by omega)
  have k3:=(φ4A k2).2
  have e:sApp n (r::rs) (d,0)=sApp n rs (φL n (fr r) d):=by
   show sApp n rs (φ9 (φL n (frame (φ7 r))) (d,0))=_
   rw[φ41];rfl
  rw[e]
  generalize φL n (fr r) d=w at *
  obtain ⟨d1,c1⟩:=w
  simp only at k1 k2 k3
  subst k2
  obtain ⟨m1,m2,m3⟩:=φFL rs (u+71) d1 (k1.mono (by omega) (κ6 _)) (by rw[k3]) (by omega)
  exact ⟨m1.mono (by simp only[lC];omega) (κ6 _),m2,m3⟩
theorem φEO {c u f:Nat} {w:φE} (h:Room c u f w.1) (h0:w.2=0) {n:List UInt8} (hn:(φ2 w.1 n).2=true):Room c u f (φ9 (φG n) w).1∧(φ9 (φG n) w).2=0:=by
 obtain ⟨d,x⟩:=w
 simp only at h h0 hn
 subst h0
 rw[φ41]
 exact φ9m h hn
theorem φNb {c u f:Nat} {d:φ1} (h:Room c u f d) {n t:List UInt8} (ho:φ1i n=true) (hf:f<130) (hu:u+t.length≤c):Room c (u+t.length) (f+1) (φ1P n t (d,0)).1∧(φ1P n t (d,0)).2=0:=by
 obtain ⟨a1,a2,a3⟩:=φAR h ho hf
 show Room c (u+t.length) (f+1) (φ9 (φG n) (φ9 (φL n t) (sNew n (d,0)))).1∧(φ9 (φG n) (φ9 (φL n t) (sNew n (d,0)))).2=0
 generalize sNew n (d,0)=w at *
 obtain ⟨d1,x⟩:=w
 simp only at a1 a2 a3
 subst a2
 rw[φ41]
 obtain ⟨k1,k2⟩:=φ8E (t:=t) a1 a3 hu
 have k3:=(φ4A k2).2
 exact φEO k1 k2 (by rw[k3])
theorem φE8 {x:Int×Int×Bool} (hx:x.2=(-1,false)) {d:φ1} {act:List φ4→Int×List φ4} (h:d.2=x):(φT d act).1.2=x:=by
 unfold φT
 split
 ·exact h
 ·split
  ·rename_i c
   rw[h,hx] at c
   simp at c
  ·show (tick d).2=x
   unfold tick
   rw[if_neg (by rw[h,hx];decide)]
   exact h
theorem φJJ {c u f:Nat} {s:φ8} {d:φ1} {l:List φk} (h:Room c u f d) (hv:φl s.1=true) (h2:s.1.1+2≤100000) (hl:l.length≤20) (hu:u+2800≤c) (hf:f+5≤130) :
  (φ14 s d l).2.2=0∧(φ14 s d l).2.1.2=((c:Int),-1,false):=by
 have hm:=((φ13 _).1 hv).2.1
 have ho1:=φ5c (id:=s.1.1) ⟨hm.1,by omega⟩
 have ho2:=φ5c (id:=s.1.1+1) ⟨by omega,by omega⟩
 have ho3:=φHU (id:=s.1.1) ⟨hm.1,by omega⟩
 have hkl:=φ8j l (s.2.2.1 - 1)
 -- the merged segment
 have w0:Room c (u+71 * 21) (f+1) (sWM s.1.1 (φX l (s.2.2.1 - 1)) (d,0)).1∧(sWM s.1.1 (φX l (s.2.2.1 - 1)) (d,0)).2=0:=by
  unfold sWM
  obtain ⟨a1,a2,a3⟩:=φAR h ho1 (by omega)
  generalize sNew (φ0 s.1.1) (d,0)=w at *
  obtain ⟨d1,x⟩:=w
  simp only at a1 a2 a3
  subst a2
  obtain ⟨b1,b2,b3⟩:=φFL (n:=φ0 s.1.1) (φX l (s.2.2.1 - 1)) u d1 a1 a3 (by omega)
  obtain ⟨k1,k2⟩:=φEO b1 b2 b3
  exact ⟨k1.mono (by omega) (κ6 _),k2⟩
 unfold φ14
 simp only
 generalize hW0:sWM s.1.1 (φX l (s.2.2.1 - 1)) (d,0)=W0 at *
 obtain ⟨d0,x0⟩:=W0
 obtain ⟨r0,e0⟩:=w0
 simp only at r0 e0
 subst e0
 obtain ⟨r1,e1,_⟩:=φAR r0 ho2 (by omega)
 generalize sNew (φ0 (s.1.1+1)) (d0,0)=W1 at *
 obtain ⟨d1,x1⟩:=W1
 simp only at r1 e1
 subst e1
 -- the hint
 have w2:Room c (u+71 * 21+1004) (f+3) (φq s.1.1 (d1,0)).1∧(φq s.1.1 (d1,0)).2=0:=by
  unfold φq
  rw[if_neg (by simp)]
  unfold φ1r
  simp only
  have hh:=φ8K (φ15 s.1.1 (φ2 d1 (φ0 s.1.1)).1).1
  obtain ⟨k1,k2⟩:=φNb (t:=φ1R (φ15 s.1.1 (φ2 d1 (φ0 s.1.1)).1).1) r1 ho3 (by omega) (by omega)
  rw[if_neg (by rw[k2];decide)]
  exact ⟨k1.mono (by omega) (by omega),k2⟩
 generalize φq s.1.1 (d1,0)=W2 at *
 obtain ⟨d2,x2⟩:=W2
 obtain ⟨r2,e2⟩:=w2
 simp only at r2 e2
 subst e2
 obtain ⟨r3,e3⟩:=φGS r2 (s.1.1+2,[s.1.1,s.1.1+1]) (by omega) (by omega)
 have et:(φA (sPut (s.1.1+2,[s.1.1,s.1.1+1]) (d2,0))).2=0:=(φ1C _).2 e3
 have hF:Free (sPut (s.1.1+2,[s.1.1,s.1.1+1]) (d2,0)).1:=by
  unfold Free
  rw[r3.tl]
 rw[if_pos rfl,if_neg (by rw[et];simp)]
 have hs0:=φ7R s.1.2 (w:=((sPut (s.1.1+2,[s.1.1,s.1.1+1]) (d2,0)).1,0)) r3.dk hF rfl
 exact ⟨(φ1C _).2 hs0,φBv (P:=fun d=>d.2=((c:Int),-1,false)) (fun d act k=>φE8 rfl k) s.1.2 (w:=((sPut (s.1.1+2,[s.1.1,s.1.1+1]) (d2,0)).1,0)) r3.tl⟩
theorem φCj:∀rs:List RecT,(txt rs).length≤71 * rs.length
 | []=>by simp[txt]
 | r::rs=>by
  rw[φ3A,lA,lC]
  have:=(φ4N r).2
  have:=φCj rs
  omega
theorem φLo {l:List Int} (h:l≠[]):l.headD 0∈l:=by
 cases l with
 | nil=>exact absurd rfl h
 | cons a l=>simp
theorem φM6 {k N:Nat} {s:φ8} {d:φ1} (h:PR k N s d) (hk:k≤98) (hN:N≤1000) :
  (φ1v s d).2.2=0∧PR k (N+1) (φ1v s d).1 (φ1v s d).2.1∧φU (φ1v s d).1 (φ1v s d).2.1=φU s d∧(φ1v s d).1.2.2.1=s.2.2.1:=by
 obtain ⟨q1,q2,q3,q4,q5,q6⟩:=φg.1 h.ok
 have hnx:=h.bk.nx
 have h2:s.1.1+2≤100000:=by omega
 have hdl:=(φ44 q3).1
 have hdp:=φ7d s d
 obtain ⟨R,hL⟩:=h.bk.room h.ok hk
 have R:Room 100000 85500 57 d:=R.mono (by decide) (by decide)
 obtain ⟨hc,hcap⟩:=φJJ (l:=(φU s d).1) R q2 h2 (by omega) (by omega) (by omega)
 have hm:=((φ13 _).1 q2).2.1
 have hF:φ1v s d=φ14 s d (φU s d).1:=by
  unfold φ1v
  rw[if_neg (by rw[h.ok];simp),if_neg (by omega)]
 have hJ:=(φHk h.toJR)
 rw[hF] at hJ ⊢
 have hM:=φCc (φU s d).1 q1 q2 h2 hc
 obtain ⟨hm1,hm2,hm3,hm4⟩:=φ8Y h.ok h2 hM.toMerged
 obtain ⟨kk,ok⟩:=φEV h.ok h2 hM.toMerged
 have hne:=φ3J q2
 -- what was exchanged is gone
 have htmp:(φ2 (φ14 s d (φU s d).1).2.1 φ1E).2=false:=by
  obtain ⟨w1,w2,a1,a2,a3,a4,a5,a6,a7,a8⟩:=φFN (φU s d).1 q1 hc
  rw[a8]
  have hd:=φ3f a6 (s.1.1+2,[s.1.1,s.1.1+1])
  have hF2:Free (sPut (s.1.1+2,[s.1.1,s.1.1+1]) w2).1:=by
   have:((sPut (s.1.1+2,[s.1.1,s.1.1+1]) w2).1).2=((100000:Int),-1,false):=by
    have c0:∀(d:φ1) (act:List φ4→Int×List φ4),d.2=((100000:Int),-1,false)→(φT d act).1.2=((100000:Int),-1,false):=fun d act k=>φE8 rfl k
    have c1:w1.1.2=((100000:Int),-1,false):=by
     rw[a1]
     exact φ7G (P:=fun d=>d.2=((100000:Int),-1,false)) c0 _ (φ8W (P:=fun d=>d.2=((100000:Int),-1,false)) c0 _ _ (w:=(d,0)) h.bk.cap)
    have c2:w2.1.2=((100000:Int),-1,false):=by
     rw[a4]
     exact φ91 (P:=fun d=>d.2=((100000:Int),-1,false)) c0 _ c1
    exact φ6q (P:=fun d=>d.2=((100000:Int),-1,false)) c0 _ c2
   unfold Free
   rw[this]
  have h0:=φ7R s.1.2 (w:=((sPut (s.1.1+2,[s.1.1,s.1.1+1]) w2).1,0)) hd hF2 rfl
  exact (φA3 s.1.2 (w:=((sPut (s.1.1+2,[s.1.1,s.1.1+1]) w2).1,0)) hd h0).2.1 _ (φGI a7)
 generalize φ14 s d (φU s d).1=M at *
 obtain ⟨S,y,c⟩:=M
 simp only at hc hcap hJ hM hm1 hm2 hm3 hm4 kk ok htmp ⊢
 have hst:=hM.st
 have hI:S.1.2=[s.1.1,s.1.1+1]:=by rw[hst]
 have hB:S.2.2.1=s.2.2.1:=by rw[hst]
 have hNx:S.1.1=s.1.1+2:=by rw[hst]
 have hSz:S.2.2.2.1=0:=by rw[hst]
 have hone:=hM.one
 have htwo:=hM.two
 have hliv:=hM.liv
 have hpl:φS y S.1.2=(scan (txt (φX (φU s d).1 (s.2.2.1 - 1)))).1.map fun x=>((s.1.1,x):φF):=by
  rw[hI]
  unfold φS φ11
  simp[hone,htwo,φ6v]
 -- any name
 have names:∀n,n=φ0 s.1.1∨n=φ0 (s.1.1+1)∨n=φK s.1.1∨n=φ1E∨n=φa∨(φ2 y n).2=false∨(φ2 y n=φ2 d n∧(φ2 d n).2=false):=by
  intro n
  by_cases a1:n=φ0 s.1.1
  ·exact .inl a1
  by_cases a2:n=φ0 (s.1.1+1)
  ·exact .inr (.inl a2)
  by_cases a3:n=φK s.1.1
  ·exact .inr (.inr (.inl a3))
  by_cases a4:n=φ1E
  ·exact .inr (.inr (.inr (.inl a4)))
  by_cases a5:n=φa
  ·exact .inr (.inr (.inr (.inr (.inl a5))))
  by_cases a6:∃id∈s.1.2,n=φ0 id∨n=φK id
  ·obtain ⟨id,hid,e⟩:=a6
   have:=hM.old id hid
   right;right;right;right;right;left
   rcases e with rfl | rfl
   ·exact this.1
   ·exact this.2
  ·have hs:=hM.oth n a1 a2 a3 a4 a5 fun id hid=>⟨fun e=>a6 ⟨id,hid,.inl e⟩,fun e=>a6 ⟨id,hid,.inr e⟩⟩
   right;right;right;right;right;right
   refine ⟨hs,?_⟩
   cases hx:(φ2 d n).2 with
   | false=>rfl
   | true=>
    exfalso
    rcases h.bk.nm n hx with e | ⟨id,hid,e⟩ | e
    ·exact a5 e
    ·exact a6 ⟨id,hid,.inl e⟩
    ·exact a6 ⟨_,φLo hne,.inr e⟩
 have hkl:=φ8j (φU s d).1 (s.2.2.1 - 1)
 have htl:=φCj (φX (φU s d).1 (s.2.2.1 - 1))
 refine ⟨hc,⟨hJ.1,⟨hcap,fun n hn=>?_,fun n=>?_,?_,?_,?_⟩,?_⟩,hm2,hB⟩
 ·rw[hI]
  rcases names n with e | e | e | e | e | e | ⟨e,e2⟩
  ·exact .inr (.inl ⟨s.1.1,by simp,e⟩)
  ·exact .inr (.inl ⟨s.1.1+1,by simp,e⟩)
  ·exact .inr (.inr e)
  ·rw[e,htmp] at hn;simp at hn
  ·exact .inl e
  ·rw[e] at hn;simp at hn
  ·rw[e,e2] at hn;simp at hn
 ·rcases names n with e | e | e | e | e | e | ⟨e,e2⟩
  ·rw[e,hone]
   show (txt _).length≤1500
   omega
  ·rw[e,htwo];simp
  ·rw[e]
   rcases hM.hin with x | x
   ·rw[φ64 x];simp
   ·rw[x]
    have:=φ8K (φ15 s.1.1 (txt (φX (φU s d).1 (s.2.2.1 - 1)))).1
    show (φ1R _).length≤1500
    omega
  ·rw[e,φ64 htmp];simp
  ·rw[e,hliv]
   have:=φ5b (s.1.1+2,[s.1.1,s.1.1+1])
   show (φn _).length≤1500
   omega
  ·rw[φ64 e];simp
  ·rw[e,φ64 e2];simp
 ·rw[hI,hSz]
  show 130 * (([s.1.1,s.1.1+1].length:Nat):Int)+0≤_
  simp only[lC,lN]
  omega
 ·rw[hSz];decide
 ·rw[hNx];push_cast;omega
 ·right
  obtain ⟨l0,z,z1,z2,z3,z4,z5,z6,z7⟩:=φAw kk
  have zb:z.2.2.2.1=s.2.2.1 - 1:=by
   have:=congrArg (fun x:φ1G=>x.2.1) z5
   exact this.symm
  refine ⟨(s.1.1,z),?_,by rw[hB];exact zb⟩
  rw[hpl,z1]
  exact mM.2 ⟨z,mR _ (by simp),rfl⟩
theorem φOI {k N:Nat} {s:φ8} {d:φ1} (h:PR k N s d):∃t y,φ2G d=(t,y,0)∧PR k N t y∧t.2.1=s.2.1∧t.2.2.1=s.2.2.1∧φU t y=φU s d:=by
 obtain ⟨t,y,ho,hj,h1,h2,h3,h4,_,_,h5,h6,h7,h8,h9⟩:=φHv h.toJR
 have hb:t.2.2.1=s.2.2.1:=by
  have q:=(φg.1 hj.ok).2.2.2.1
  rcases h.ex with e | ⟨p,hp,e⟩
  ·omega
  ·have:=hj.pb p (by rw[h7];exact hp)
   omega
 refine ⟨t,y,ho,⟨hj,⟨by rw[h5];exact h.bk.cap,fun n hn=>?_,fun n=>?_,by rw[h1,h9];exact h.bk.pot,by rw[h9];exact h.bk.act,by have:=h.bk.nx;omega⟩,?_⟩,h2,hb,h4⟩
 ·rw[h1]
  have:=h6 n hn
  rw[this] at hn
  exact h.bk.nm n hn
 ·cases hx:(φ2 y n).2 with
  | false=>rw[φ64 hx];simp
  | true=>rw[h6 n hx];exact h.bk.sz n
 ·rw[hb,h7];exact h.ex
theorem φGj:PR 0 0 ((2,[1]),[],1,0,0) (dNew 100000):=by
 obtain ⟨f1,f2,f3⟩:=φAa 100000 (by omega) (by omega)
 refine ⟨φNs 100000 (by omega) (by omega),⟨rfl,fun n hn=>?_,fun n=>?_,by decide,by decide,by decide⟩,.inl rfl⟩
 ·by_cases a1:n=φa
  ·exact .inl a1
  by_cases a2:n=φ0 1
  ·exact .inr (.inl ⟨1,by simp,a2⟩)
  rw[f3 n a1 a2] at hn
  simp at hn
 ·by_cases a1:n=φa
  ·rw[a1,f1]
   have:=φ5b (2,[1])
   show (φn (2,[1])).length≤1500
   omega
  by_cases a2:n=φ0 1
  ·rw[a2,f2];simp
  rw[f3 n a1 a2];simp
abbrev ModT:=Bool×List φk×Int×List TxnT
def φ4h (l:List φk) (key:List UInt8):φk×Int:=
 match l.find? (fun p=>p.1==key) with
 | some p=>(p,0)
 | none=>(([],[],0),8)
def valM (l:List φk) (t:TxnT):Bool:=t.2.1.all fun r=>(φ4h l r.1).1.2.2==r.2
def comM (m:ModT) (g:List TxnT×AnsT×Option (List PutT)):ModT×AnsT:=
 match g.2.2 with
 | none=>((m.1,m.2.1,m.2.2.1,g.1),g.2.1)
 | some w=>if w.length=0 then ((m.1,m.2.1,m.2.2.1,g.1),(0,[],[])) else
   if 20<(φ3I m.2.1 w m.2.2.1).length∨m.2.2.1 > 1000000 then ((m.1,m.2.1,m.2.2.1,g.1),(5,[],[])) else
   ((m.1,φ3I m.2.1 w m.2.2.1,m.2.2.1+1,g.1),(0,[],[]))
def stM (m:ModT) (s:φW):ModT×AnsT:=
 bif s.1==10 then (bif m.1 then (m,(4,[],[])) else ((true,m.2.1,m.2.2.1,zTx),(0,[],[]))) else
 bif s.1==11 then (m,(0,[],[])) else
 bif !m.1 then (m,(6,[],[])) else
 bif s.1==7 then (m,(0,[],[])) else
 bif s.1==8 then (m,(0,[],m.2.1.map (·.1))) else
 bif s.1==9 then ((false,m.2.1,m.2.2.1,zTx),(0,[],[])) else
 comM m (sesG (φ4h m.2.1) (valM m.2.1) m.2.2.2 s)
def runM:ModT→List φW→ModT×List AnsT
 | m,[]=>(m,[])
 | m,s::r=>((runM (stM m s).1 r).1,(stM m s).2::(runM (stM m s).1 r).2)
abbrev newM:ModT:=(true,[],1,zTx)
structure TxR (t:TxnT):Prop extends TxnOk t where
 puts:∀p∈t.2.2,φ2c p=true
def TK (l:List TxnT):Prop:=l.length=3∧∀t∈l,TxR t
theorem TxR.zero (b:Bool):TxR (b,[],[]):=⟨⟨List.Pairwise.nil,by simp,by simp,by show (netW []).length≤8;decide⟩,fun p hp=>by simp at hp⟩
theorem TK.new:TK zTx:=⟨rfl,fun t ht=>by
 have:=List.eq_of_mem_replicate ht
 subst this
 exact TxR.zero false⟩
theorem TK.tb {l:List TxnT} (h:TK l):TB l:=⟨h.1,fun t ht=>⟨(h.2 t ht).reads,(h.2 t ht).writes⟩⟩
theorem TK.set {l:List TxnT} (h:TK l) (i:Nat) {t:TxnT} (ht:TxR t):TK (l.set i t):=⟨by rw[List.length_set];exact h.1,fun x hx=>by
 rcases κe hx with hx | rfl
 ·exact h.2 x hx
 ·exact ht⟩
def wait (l:List TxnT):Nat:=sumN (fun t=>t.2.2.length) l
theorem φ6h:∀(l:List TxnT) (i:Nat) (h:i<l.length) (t:TxnT),wait (l.set i t)+l[i].2.2.length=wait l+t.2.2.length
 | x::l,0,_,t=>by simp only[List.set_cons_zero,wait,sumN,List.getElem_cons_zero];omega
 | x::l,i+1,h,t=>by
  have:=φ6h l i (by simpa using h) t
  simp only[List.set_cons_succ,wait,sumN,List.getElem_cons_succ] at this ⊢
  omega
theorem φLD {t:TxnT} (h:TxR t) (k:List UInt8) (b:Int):TxR (φ27 t k b).1∧(φ27 t k b).1.2.2=t.2.2:=by
 have h2:(φ27 t k b).1.2.2=t.2.2:=by
  unfold φ27
  repeat' split
  all_goals rfl
 refine ⟨⟨?_,by rw[h2];exact h.puts⟩,h2⟩
 rw[φLI h.toTxnOk]
 exact φLV h.toTxnOk k b
theorem φK1 {t:TxnT} (h:TxR t) (p:PutT):TxR (φ2Y t p).1∧(φ2Y t p).1.2.2.length≤t.2.2.length+1:=by
 refine ⟨⟨φJk h.toTxnOk p,?_⟩,?_⟩
 ·unfold φ2Y
  split
  ·rename_i c
   intro q hq
   rcases mA.1 hq with hq | hq
   ·exact h.puts q hq
   ·rw[mZ.1 hq];exact c.2.1
  ·exact h.puts
 ·unfold φ2Y
  split
  ·show (t.2.2++[p]).length≤_
   simp
  ·exact Nat.le_succ _
theorem TxR.net_ok {t:TxnT} (h:TxR t):φ28 (netW t.2.2)=true∧(netW t.2.2).length≤8∧(netW t.2.2).length≤t.2.2.length:=by
 have h1:=h.net
 refine ⟨?_,h1,φEb _⟩
 unfold φ28
 rw[bA]
 refine ⟨by simpa using h1,κT.2 fun q hq=>?_⟩
 exact h.puts q (φHY (φKM.1 hq)).1
theorem φNh (look:List UInt8→φk×Int) (val:TxnT→Bool) {l:List TxnT} (hl:TK l) (s:φW) :
  TK (sesG look val l s).1∧(match (sesG look val l s).2.2 with | none=>wait (sesG look val l s).1≤wait l+1 | some w=>φ28 w=true∧w.length≤8∧wait (sesG look val l s).1+w.length≤wait l):=by
 unfold sesG
 cases hf:φ3F l s
 ·exact ⟨hl,Nat.le_succ _⟩
 obtain ⟨n,hn,h1,hin,hrd,hto,_,_,_⟩:=φ7O hl.1 hf
 have ht:=hl.2 _ (gM hn)
 have w0:∀b:Bool,wait (l.set n (b,[],[]))≤wait l+1:=fun b=>by
  have:=φ6h l n hn (b,[],[])
  simp only[lN] at this
  omega
 simp only[nZ,cF,hto,hrd]
 cases (s.1==1)
 rotate_left
 ·exact ⟨hl.set n (TxR.zero true),w0 true⟩
 cases (s.1==6)
 rotate_left
 ·exact ⟨hl.set n (TxR.zero false),w0 false⟩
 cases (s.1==2)
 rotate_left
 ·simp only[cT,cF]
  unfold getG
  simp only[hrd,hto]
  cases φ1L s.2.2.1
  ·exact ⟨hl,Nat.le_succ _⟩
  cases (ownW l[n].2.2 s.2.2.1).2
  ·obtain ⟨r1,r2⟩:=φLD ht s.2.2.1 (look s.2.2.1).1.2.2
   simp only[nZ,cF]
   refine ⟨hl.set n r1,?_⟩
   have:=φ6h l n hn (φ27 l[n] s.2.2.1 (look s.2.2.1).1.2.2).1
   rw[r2] at this
   omega
  ·exact ⟨hl,Nat.le_succ _⟩
 cases (s.1==5)
 rotate_left
 ·simp only[cT,cF]
  refine ⟨hl.set n (TxR.zero false),?_⟩
  cases val l[n]
  ·exact w0 false
  ·obtain ⟨n1,n2,n3⟩:=ht.net_ok
   simp only[cT]
   refine ⟨n1,n2,?_⟩
   have:=φ6h l n hn zT
   have hz:(zT:TxnT).2.2.length=0:=rfl
   rw[hz] at this
   omega
 simp only[cF]
 unfold putG
 simp only[hrd,hto]
 obtain ⟨r1,r2⟩:=φK1 ht (putS s)
 refine ⟨hl.set n r1,?_⟩
 have:=φ6h l n hn (φ2Y l[n] (putS s)).1
 omega
theorem φEy {s:φ8} {d:φ1} (h:φf s d=true) {P:List φk} (hd:φU s d=(P,0)) (key:List UInt8):getP s d key=φ4h P key:=by
 rw[φEf h] at hd
 have hP:P=s.2.1.map fun e=>(getP s d e.1).1:=(congrArg Prod.fst hd).symm
 subst hP
 unfold φ4h
 have hk:∀e∈s.2.1,(getP s d e.1).1.1=e.1:=fun e he=>(φ7t h he).2
 have hfind:(s.2.1.map fun e=>(getP s d e.1).1).find? (fun p=>p.1==key)=(s.2.1.find? fun e=>e.1==key).map fun e=>(getP s d e.1).1:=by
  generalize s.2.1=l at hk
  induction l with
  | nil=>rfl
  | cons e l ih=>
   have h1:=hk e (by simp)
   simp only[κ5,List.find?_cons,h1]
   cases (e.1==key)
   ·exact ih fun x hx=>hk x (by simp[hx])
   ·rfl
 rw[hfind]
 cases hf:s.2.1.find? (fun e=>e.1==key) with
 | none=>
  refine φCP fun e he ek=>?_
  have:=List.find?_eq_none.1 hf e he
  simp[ek] at this
 | some e=>
  have he:=List.mem_of_find?_eq_some hf
  have hek:e.1=key:=by simpa using List.find?_some hf
  subst hek
  show getP s d e.1=((getP s d e.1).1,0)
  rw[←(φ7t h he).1]
theorem φNE {s:φ8} {d:φ1} (h:φf s d=true) {P:List φk} (hd:φU s d=(P,0)) (t:TxnT):φ43 t s.2.1=valM P t:=by
 unfold φ43 valM
 congr 1
 funext r
 rw[←φEy h hd r.1]
 congr 1
 rcases φCs s.2.1 r.1 with c | ⟨c1,c2⟩
 ·have e1:getP s d r.1=(([],[],0),8):=by
   unfold getP
   rw[if_pos c]
  rw[e1]
  unfold φ21 at c ⊢
  split at c
  ·simp at c
  ·rfl
 ·obtain ⟨q1,q2,q3,q4,q5,q6⟩:=φg.1 h
  have k:=φ36.1 (q6 _ c2)
  have hkey:(φ21 s.2.1 r.1).1.1=r.1:=by
   unfold φ21 at c1 ⊢
   split at c1
   ·rename_i e he
    have:=List.find?_some he
    simpa using this
   ·simp at c1
  unfold getP
  rw[if_neg (by rw[c1];simp)]
  unfold φ1D at k
  simp only
  rw[if_pos ⟨k.1,k.2.1,k.2.2.1.trans hkey⟩]
  exact k.2.2.2.1.symm
theorem φGF {s:φ8} {d:φ1} (h:φf s d=true) {P:List φk} (hd:φU s d=(P,0)):s.2.1.map (·.1)=P.map (·.1):=by
 rw[φ2m h] at hd
 have hP:P=mapG (φ1O d) s.2.1:=(congrArg Prod.fst hd).symm
 subst hP
 unfold mapG
 rw[List.map_map]
 rfl
def φ3o {α:Type} (x:α):Unit:=()
theorem φEx (b:Int):∀(l:List PutT) (P:List φk),mapG φ3o (φ3I P l b)=l.foldl (fun a p=>if p.2.1=true then φ19 a p.1 else insB (φ19 a p.1) (p.1,())) (mapG φ3o P)
 | [],P=>rfl
 | p::l,P=>by
  show mapG φ3o (φ3I (φ95 b P p) l b)=l.foldl _ _
  rw[φEx b l]
  congr 1
  show mapG φ3o (φ95 b P p)=if p.2.1=true then φ19 (mapG φ3o P) p.1 else insB (φ19 (mapG φ3o P) p.1) (p.1,())
  unfold φ95
  by_cases c:p.2.1=true
  ·rw[if_pos c,if_pos c,φ6t]
  ·rw[if_neg c,if_neg c,φB6,φ6t]
theorem φNq {dir:List φC} {P:List φk} (hk:dir.map (·.1)=P.map (·.1)) (l:List PutT) (b:Int):φ2i dir l=(φ3I P l b).length:=by
 have e0:mapG (φ3o (α:=Int×Int×Int×Int)) dir=mapG (φ3o (α:=List UInt8×Int)) P:=by
  have:∀(α:Type) (l:List (List UInt8×α)),mapG φ3o l=(l.map (·.1)).map fun k=>(k,()):=fun α l=>by
   unfold mapG;rw[List.map_map];rfl
  rw[this,this,hk]
 have h1:=φ7V (φ3o (α:=Int×Int×Int×Int)) (fun _=>()) (l.zip (l.map φ4J)) dir (fun p hp=>by
  rw[φHT] at hp
  obtain ⟨q,_,rfl⟩:=mM.1 hp
  exact ⟨rfl,fun _=>rfl⟩)
 have h2:=φEx b l P
 have hz:(l.zip (l.map φ4J)).map (·.1)=l:=by
  rw[φHT,List.map_map]
  exact List.map_id _
 rw[hz,e0] at h1
 have:mapG (φ3o (α:=Int×Int×Int×Int)) (dirW dir (l.zip (l.map φ4J)))=mapG φ3o (φ3I P l b):=h1.trans h2.symm
 have:=congrArg List.length this
 unfold mapG at this
 simpa [φ2i] using this
structure RM (N:Nat) (e:EngT) (m:ModT):Prop where
 up:e.1=m.1
 tx:e.2.2.2=m.2.2.2
 tk:TK e.2.2.2
 st:∃(k:Nat) (s:φ8),PR k N s e.2.2.1∧k+wait e.2.2.2≤N∧φU s e.2.2.1=(m.2.1,0)∧s.2.2.1=m.2.2.1∧(e.1=true→s=e.2.1)∧(e.1=false→e.2.1=((0,[]),[],0,0,0))
 bt:m.2.2.1≤1+N
theorem RM.ei {N:Nat} {e:EngT} {m:ModT} (h:RM N e m):EI e:=by
 obtain ⟨k,s,h1,_,_,_,h5,h6⟩:=h.st
 refine ⟨fun hu=>by rw[←h5 hu];exact h1.toJR,fun hu=>⟨⟨s,h1.toJR⟩,by rw[h6 hu];simp,by rw[h6 hu];simp⟩,h.tk.tb⟩
theorem RM.fit {N:Nat} {e:EngT} {m:ModT} (h:RM N e m):Fit e:=h.ei.fit
theorem φEL:RM 0 (newE 100000) newM:=by
 refine ⟨rfl,rfl,TK.new,⟨0,((2,[1]),[],1,0,0),φGj,by decide,?_,rfl,fun _=>rfl,fun c=>by simp at c⟩,by decide⟩
 rw[φ2m φGj.ok]
 rfl
theorem φDk {N:Nat} {e:EngT} {m:ModT} (h:RM N e m) (hN:N≤90) (s:φW) (h11:s.1≠11):RM (N+1) (stE e s).1 (stM m s).1∧(stE e s).2=(stM m s).2:=by
 obtain ⟨k,s0,h1,h2,h3,h4,h5,h6⟩:=h.st
 have hup:=h.up
 have c11:(s.1==11)=false:=by simpa using h11
 have hsame:RM (N+1) e m:=⟨h.up,h.tx,h.tk,⟨k,s0,h1.up (κ6 _) (by omega),by omega,h3,h4,h5,h6⟩,by have:=h.bt;omega⟩
 unfold stE stM
 rw[c11]
 cases c10:(s.1==10)
 rotate_left
 ·simp only[cT]
  rw[←hup]
  cases hu:e.1
  ·obtain ⟨t,y,ho,hj,hd,hb,hdm⟩:=φOI h1
   simp only[cF,ho]
   exact ⟨⟨rfl,rfl,TK.new,⟨k,t,hj.up (κ6 _) (by omega),by show k+0≤N+1;omega,hdm.trans h3,hb.trans h4,fun _=>rfl,fun c=>by simp at c⟩,by have:=h.bt;show m.2.2.1≤_;omega⟩,trivial⟩
  ·exact ⟨hsame,rfl⟩
 simp only[cF]
 rw[←hup]
 cases hu:e.1
 ·exact ⟨hsame,rfl⟩
 have hs:=h5 hu
 subst hs
 have hup2:m.1=true:=hup.symm.trans hu
 simp only[nZ,cF]
 cases c7:(s.1==7)
 rotate_left
 ·obtain ⟨m1,m2,m3,m4⟩:=φM6 h1 (by omega) (by omega)
  simp only[cT,m1]
  exact ⟨⟨hup2.symm,h.tx,h.tk,⟨k,_,m2,by show k+wait e.2.2.2≤_;omega,m3.trans h3,m4.trans h4,fun _=>rfl,fun c=>by simp at c⟩,by have:=h.bt;omega⟩,trivial⟩
 simp only[cF]
 cases c8:(s.1==8)
 rotate_left
 ·simp only[cT,φGF h1.ok h3]
  exact ⟨hsame,trivial⟩
 simp only[cF]
 cases c9:(s.1==9)
 rotate_left
 ·simp only[cT]
  exact ⟨⟨rfl,rfl,TK.new,⟨k,_,h1.up (κ6 _) (by omega),by show k+0≤N+1;omega,h3,h4,fun c=>by simp at c,fun _=>rfl⟩,by have:=h.bt;show m.2.2.1≤_;omega⟩,trivial⟩
 simp only[cF]
 unfold sesE
 have e1:getP e.2.1 e.2.2.1=φ4h m.2.1:=funext fun key=>φEy h1.ok h3 key
 have e2:(fun t=>φ43 t e.2.1.2.1)=valM m.2.1:=funext fun t=>φNE h1.ok h3 t
 rw[e1,e2,←h.tx]
 obtain ⟨g1,g2⟩:=φNh (φ4h m.2.1) (valM m.2.1) h.tk s
 generalize sesG (φ4h m.2.1) (valM m.2.1) e.2.2.2 s=g at g1 g2
 obtain ⟨l,a,w⟩:=g
 unfold comE comM
 cases w with
 | none=>
  simp only at g1 g2 ⊢
  exact ⟨⟨hup,rfl,g1,⟨k,_,h1.up (κ6 _) (by omega),by show k+wait l≤_;omega,h3,h4,fun _=>rfl,fun c=>by rw[hu] at c;simp at c⟩,by have:=h.bt;show m.2.2.1≤_;omega⟩,trivial⟩
 | some w=>
  obtain ⟨w1,w2,w3⟩:=g2
  simp only at g1 w3 ⊢
  have hb:=h.bt
  have hkp:φ2i e.2.1.2.1 w=(φ3I m.2.1 w m.2.2.1).length:=φNq (φGF h1.ok h3) w m.2.2.1
  have hbb:e.2.1.2.2.1=m.2.2.1:=h4
  have hF:φ2O e.2.1 e.2.2.1 w=if w.length=0 then (e.2.1,e.2.2.1,0) else if 20<(φ3I m.2.1 w m.2.2.1).length∨m.2.2.1 > 1000000 then (e.2.1,e.2.2.1,5) else φ1N e.2.1 e.2.2.1 w:=by
   unfold φ2O
   rw[if_neg (by rw[h1.ok,w1];simp),hkp,hbb]
  have hdump:=(φHf h1.toJR w).2.2.1
  by_cases c0:w.length=0
  ·rw[if_pos c0] at hF
   rw[hF,if_pos c0]
   exact ⟨⟨hup,rfl,g1,⟨k,_,h1.up (κ6 _) (by omega),by show k+wait l≤_;omega,h3,h4,fun _=>rfl,fun c=>by rw[hu] at c;simp at c⟩,by show m.2.2.1≤_;omega⟩,rfl⟩
  rw[if_neg c0] at hF
  by_cases c5:20<(φ3I m.2.1 w m.2.2.1).length∨m.2.2.1 > 1000000
  ·rw[if_pos c5] at hF
   rw[hF,if_neg c0,if_pos c5]
   exact ⟨⟨hup,rfl,g1,⟨k,_,h1.up (κ6 _) (by omega),by show k+wait l≤_;omega,h3,h4,fun _=>rfl,fun c=>by rw[hu] at c;simp at c⟩,by show m.2.2.1≤_;omega⟩,rfl⟩
  rw[if_neg c5] at hF
  obtain ⟨p1,p2,p3⟩:=φIR h1 w1 (by rw[hbb];omega) (by rw[hkp];omega) (by omega) (by omega)
  have hdump:=hdump (by rw[hF];exact p1)
  rw[hF] at hdump
  rw[hF,if_neg c0,if_neg c5,p1]
  refine ⟨⟨hup,rfl,g1,⟨k+(w.length+1),_,p2.up (κ6 _) (by omega),by show k+(w.length+1)+wait l≤_;omega,?_,?_,fun _=>rfl,fun c=>by rw[hu] at c;simp at c⟩,by show m.2.2.1+1≤_;omega⟩,rfl⟩
  ·show φU (φ1N e.2.1 e.2.2.1 w).1 (φ1N e.2.1 e.2.2.1 w).2.1=(φ3I m.2.1 w m.2.2.1,0)
   rw[hdump,h3,hbb]
  ·show (φ1N e.2.1 e.2.2.1 w).1.2.2.1=m.2.2.1+1
   rw[p3,hbb]
theorem φ72:∀(a b:List φW) (m:ModT),runM m (a++b)=((runM (runM m a).1 b).1,(runM m a).2++(runM (runM m a).1 b).2)
 | [],b,m=>rfl
 | s::a,b,m=>by
  show ((runM (stM m s).1 (a++b)).1,(stM m s).2::(runM (stM m s).1 (a++b)).2)=_
  rw[φ72 a b];rfl
theorem φBE:∀(l:List φW) (m:ModT),(runM m l).2.length=l.length
 | [],_=>rfl
 | s::r,m=>by
  show (_::_).length=_
  rw[lC,φBE r];rfl
theorem φCp:∀(l:List φW) (N:Nat) (e:EngT) (m:ModT),RM N e m→N+l.length≤90→(∀s∈l,s.1≠11)→(runE e l).2=(runM m l).2
 | [],_,_,_,_,_,_=>rfl
 | s::r,N,e,m,h,hN,h11=>by
  simp only[lC] at hN
  obtain ⟨h1,h2⟩:=φDk h (by omega) s (h11 s κ0)
  have:=φCp r (N+1) _ _ h1 (by omega) fun x hx=>h11 x (mC _ hx)
  show (stE e s).2::(runE (stE e s).1 r).2=(stM m s).2::(runM (stM m s).1 r).2
  rw[h2,this]
theorem φEY (l:List φW) (hl:l.length≤90) (h11:∀s∈l,s.1≠11):∃e acks,ψg.f (100000,-1,l)=some (e,(runM newM l).2,acks,[])∧RM l.length e (runM newM l).1:=by
 have h0:RM 0 (newE 100000) (runM newM (l.take 0)).1:=by rw[List.take_zero];exact φEL
 obtain ⟨acks,k1,k2⟩:=φIa (I:=fun n e=>n≤90∧RM n e (runM newM (l.take n)).1) (l:=l) (by omega) (fun n e h=>h.2.fit) (fun n hn e h=>by
  obtain ⟨h1,h2⟩:=h
  have hs:=h11 _ (gM hn)
  obtain ⟨a1,a2⟩:=φDk h2 h1 l[n] hs
  refine ⟨⟨by omega,?_⟩,(φLA h2.ei l[n]).2.1⟩
  rw[κ4 hn,φ72]
  exact a1) (e:=newE 100000) ⟨by omega,h0⟩
 have ha:=φCp l 0 (newE 100000) newM φEL (by omega) h11
 refine ⟨(runE (newE 100000) l).1,acks,?_,?_⟩
 ·rw[show ((100000:Int),(-1:Int),l)=(((100000:Nat):Int),(-1:Int),l) from rfl,φKc 100000 (by omega) (by omega) l,k1,ha]
 ·have:=k2.2
  rw[κW] at this
  exact this
theorem φFz {N:Nat} {e:EngT} {m:ModT} (h:RM N e m):mapE e=bif !m.1 then ([],6) else (m.2.1,0):=by
 obtain ⟨k,s,h1,h2,h3,h4,h5,h6⟩:=h.st
 unfold mapE
 rw[h.up]
 cases hu:m.1
 ·rfl
 ·have hs:=h5 (h.up.trans hu)
  rw[←hs,h3]
theorem φKY {N:Nat} {e:EngT} {m:ModT} (h:RM N e m):m.2.1.length≤1000∧m.2.2.1≤1+N:=by
 obtain ⟨k,s,h1,h2,h3,h4,h5,h6⟩:=h.st
 have:=φMt h1.toJR.small
 rw[h3] at this
 exact ⟨this,h.bt⟩
theorem φIG (m:ModT):(stM m (7,0,[],[],0)).1=m:=by
 unfold stM
 have d10:(((7,0,[],[],0):φW).1==10)=false:=rfl
 have d11:(((7,0,[],[],0):φW).1==11)=false:=rfl
 have d7:(((7,0,[],[],0):φW).1==7)=true:=rfl
 rw[d10,d11,d7]
 cases m.1<;>rfl
theorem φI7 (l:List Int) (hl:l.length<2 ^ 60):∃x,ψ2Q.f l=some x∧x.length≤120∧(∀s∈x,s.1≠11)∧clOk x:=by
 obtain ⟨c,e0,h0⟩:=φNn l hl
 obtain ⟨x,c1,e1,h1,h2,h3,_⟩:=φIM h0 60 (by omega)
 have e1:ψ38.f c 60=some (x,c1):=e1
 unfold ψ2Q.f
 simp only[e0,e1,bS]
 exact ⟨x,rfl,h1,h2,h3⟩
theorem φJ6 {x:List φW} (n:Nat) (hn:n≤90) (h1:x.length≤120) (h2:∀s∈x,s.1≠11) (h3:clOk x) :
  ∃l:List φW,(if (x.length:Int) > (n:Int) then x.take n else x)=l∧l.length≤n∧(∀s∈l,s.1≠11)∧∀i s t,l[i]?=some s→l[i+1]?=some t→s.1=9→t.1=10:=by
 by_cases c:(x.length:Int) > (n:Int)
 ·rw[if_pos c]
  refine ⟨_,rfl,by rw[lT];omega,fun s hs=>h2 s (κV hs),fun i s t hs ht e=>?_⟩
  refine φAg x h3 i s t ?_ ?_ e
  ·rw[List.getElem?_take] at hs
   split at hs
   ·exact hs
   ·simp at hs
  ·rw[List.getElem?_take] at ht
   split at ht
   ·exact ht
   ·simp at ht
 ·rw[if_neg c]
  exact ⟨x,rfl,by omega,h2,φAg x h3⟩
theorem φL1 (look:List UInt8→φk×Int) (val:TxnT→Bool) (l:List TxnT) (s:φW):(sesG look val l s).2.1.2.2=[]:=by
 unfold sesG
 cases φ3F l s
 ·rfl
 cases (s.1==1)
 rotate_left
 ·rfl
 cases (s.1==6)
 rotate_left
 ·rfl
 cases (s.1==2)
 rotate_left
 ·show (getG look l s).2.2.2=[]
  unfold getG
  simp only
  cases φ1L s.2.2.1
  ·rfl
  cases (ownW (rdA zT l s.2.1).2.2 s.2.2.1).2
  ·simp only[nZ,cF]
   cases ((φ27 (rdA zT l s.2.1) s.2.2.1 (look s.2.2.1).1.2.2).2 != 0)<;>rfl
  ·simp only[nZ,cF,cT]
   unfold ownA
   cases (ownW (rdA zT l s.2.1).2.2 s.2.2.1).1.2.1<;>rfl
 cases (s.1==5)
 rotate_left
 ·rfl
 show (putG l s).2.2.2=[]
 unfold putG
 simp only
 cases φ2c (putS s)
 ·rfl
 ·cases (φ2Y (rdA zT l s.2.1) (putS s)).2<;>rfl
theorem φJ9 {m:ModT} (h:m.2.1.length≤20) (s:φW):(stM m s).1.2.1.length≤20∧(stM m s).2.2.2.length≤20:=by
 unfold stM
 cases (s.1==10)
 rotate_left
 ·cases m.1
  ·exact ⟨h,by simp⟩
  ·exact ⟨h,by simp⟩
 cases (s.1==11)
 rotate_left
 ·exact ⟨h,by simp⟩
 cases m.1
 ·exact ⟨h,by simp⟩
 cases (s.1==7)
 rotate_left
 ·exact ⟨h,by simp⟩
 cases (s.1==8)
 rotate_left
 ·exact ⟨h,by simpa using h⟩
 cases (s.1==9)
 rotate_left
 ·exact ⟨h,by simp⟩
 simp only[nZ,cF]
 have hk:=φL1 (φ4h m.2.1) (valM m.2.1) m.2.2.2 s
 generalize sesG (φ4h m.2.1) (valM m.2.1) m.2.2.2 s=g at hk
 obtain ⟨l,a,w⟩:=g
 simp only at hk
 unfold comM
 cases w with
 | none=>exact ⟨h,by simp[hk]⟩
 | some w=>
  simp only
  split
  ·exact ⟨h,by simp⟩
  ·split
   ·exact ⟨h,by simp⟩
   ·rename_i c
    refine ⟨?_,by simp⟩
    show (φ3I m.2.1 w m.2.2.1).length≤20
    omega
theorem φCu:∀(l:List φW) {m:ModT},m.2.1.length≤20→(runM m l).1.2.1.length≤20∧∀a∈(runM m l).2,a.2.2.length≤20
 | [],m,h=>⟨h,fun a ha=>by simp[runM] at ha⟩
 | s::r,m,h=>by
  obtain ⟨h1,h2⟩:=φJ9 h s
  obtain ⟨h3,h4⟩:=φCu r h1
  refine ⟨h3,fun a ha=>?_⟩
  rcases mc.1 ha with e | e
  ·rw[e];exact h2
  ·exact h4 a e
theorem φJf (x0:List Int) (w0:wfD (.sl false (.int .u8)) x0):ψ2F.f x0=some true:=by
 unfold ψ2F.f
 rw[φLO,bS]
 by_cases cb:(x0.length:Int) > 1048576
 ·simp[cb]
 simp only[cb,dF,cF]
 obtain ⟨x,ex,hx1,hx2,hx3⟩:=φI7 x0 (by omega)
 obtain ⟨l,el,hl1,hl2,_⟩:=φJ6 (x:=x) 70 (by omega) hx1 hx2 hx3
 obtain ⟨a,ea,ha0,ha1⟩:=φIB x0 (fun y hy=>w0.2 y hy) 0 (by omega) (by omega)
 have ea:ψ2G.f x0 0=some a:=ea
 have hsel:(bif decide ((x.length:Int) > 70) then bif (decide (0≤(70:Int)) && decide (70≤(x.length:Int))) then some ((x0,x.take 70):List Int×List φW) else none else some (x0,x))=some (x0,l):=by
  rw[←el]
  by_cases c:(x.length:Int) > 70
  ·have c2:(decide (0≤(70:Int)) && decide (70≤(x.length:Int)))=true:=by simp;omega
   have c3:(x.length:Int) > ((70:Nat):Int):=c
   rw[if_pos c3]
   simp only[c,dT,cT,c2]
  ·have c3:¬(x.length:Int) > ((70:Nat):Int):=c
   rw[if_neg c3]
   simp only[c,dF,cF]
 simp only[ex,bS]
 rw[hsel]
 simp only[bS,ea]
 -- where the merge is put
 obtain ⟨k,hk,hkl⟩:∃k:Nat,w64 (Int.tdiv (w64 (a * (l.length:Int))) 255)=(k:Int)∧k≤l.length:=by
  have h1:a * (l.length:Int)≤255 * (l.length:Int):=Int.mul_le_mul_of_nonneg_right ha1 (by omega)
  have h0:0≤a * (l.length:Int):=Int.mul_nonneg ha0 (by omega)
  have hw:w64 (a * (l.length:Int))=a * (l.length:Int):=φH (by omega) (by omega)
  rw[hw,Int.tdiv_eq_ediv_of_nonneg h0]
  have h2:a * (l.length:Int) / 255≤(l.length:Int):=Int.ediv_le_of_le_mul (by decide) (by omega)
  have h3:0≤a * (l.length:Int) / 255:=Int.ediv_nonneg h0 (by decide)
  refine ⟨(a * (l.length:Int) / 255).toNat,?_,by omega⟩
  rw[φH (by omega) (by omega)]
  omega
 have hw1:w64 ((k:Int)+1)=((k+1:Nat):Int):=by rw[φH (by omega) (by omega)];push_cast;rfl
 have hwl:w64 ((l.length:Int)+1)=((l.length+1:Nat):Int):=by rw[φH (by omega) (by omega)];push_cast;rfl
 have hg1:(decide (0≤(k:Int)) && decide ((k:Int)≤(l.length:Int)))=true:=by simp;omega
 have htk:(l.take k).length=k:=by rw[lT];omega
 have hdk:(l.drop k).length=l.length - k:=lD ..
 have q1:decide ((0+k) * 56≤140737488355328)=true:=by simp only[decide_eq_true_eq];omega
 have q2:decide ((k+(0+1)) * 56≤140737488355328)=true:=by simp only[decide_eq_true_eq];omega
 have q3:decide ((k+(0+1)+(l.length - k)) * 56≤140737488355328)=true:=by simp only[decide_eq_true_eq];omega
 -- both plays
 have hl2':∀s∈l.take k++[((7,0,[],[],0):φW)]++l.drop k,s.1≠11:=fun s hs=>by
  rcases mA.1 hs with hs | hs
  ·rcases mA.1 hs with hs | hs
   ·exact hl2 s (κV hs)
   ·rw[mZ.1 hs];decide
  ·exact hl2 s (List.mem_of_mem_drop hs)
 have hlen':(l.take k++[((7,0,[],[],0):φW)]++l.drop k).length=l.length+1:=by
  simp only[lA,lC,lN,htk,hdk];omega
 obtain ⟨e1,ak1,p1,r1⟩:=φEY l (by omega) hl2
 obtain ⟨e2,ak2,p2,r2⟩:=φEY (l.take k++[((7,0,[],[],0):φW)]++l.drop k) (by omega) hl2'
 -- what the model says of them
 have hL:runM newM l=((runM (runM newM (l.take k)).1 (l.drop k)).1,(runM newM (l.take k)).2++(runM (runM newM (l.take k)).1 (l.drop k)).2):=by
  rw[←φ72,κE]
 have hM:runM newM (l.take k++[((7,0,[],[],0):φW)]++l.drop k)=((runM (runM newM (l.take k)).1 (l.drop k)).1,(runM newM (l.take k)).2++[(stM (runM newM (l.take k)).1 (7,0,[],[],0)).2]++(runM (runM newM (l.take k)).1 (l.drop k)).2):=by
  rw[φ72,φ72]
  have:(runM (runM newM (l.take k)).1 [((7,0,[],[],0):φW)])=((runM newM (l.take k)).1,[(stM (runM newM (l.take k)).1 (7,0,[],[],0)).2]):=by
   show ((stM _ _).1,[(stM _ _).2])=_
   rw[φIG]
  rw[this]
 rw[hL] at p1 r1
 rw[hM] at p2 r2
 have hkeys:=(φCu l (m:=newM) (by simp)).2
 rw[hL] at hkeys
 have hlA:(runM newM (l.take k)).2.length=k:=by rw[φBE,htk]
 have hlB:(runM (runM newM (l.take k)).1 (l.drop k)).2.length=l.length - k:=by rw[φBE,hdk]
 generalize (runM newM (l.take k)).2=A at *
 generalize (stM (runM newM (l.take k)).1 (7,0,[],[],0)).2=z at *
 generalize runM (runM newM (l.take k)).1 (l.drop k)=Bm at *
 obtain ⟨m,B⟩:=Bm
 simp only at p1 r1 p2 r2 hlB hkeys
 have hm:=(φKY r1).1
 have m1:=φFz r1
 have m2:=φFz r2
 have hab:(A++B).length=l.length:=by rw[lA];omega
 have hazb:(A++[z]++B).length=l.length+1:=by simp only[lA,lC,lN];omega
 have ta:(A++[z]++B).take k=A:=by
  rw[aA,κd (by omega),List.take_of_length_le (by omega)]
 have db:(A++[z]++B).drop (k+1)=B:=by
  rw[List.drop_append_of_le_length (by simp;omega),List.drop_of_length_le (by simp;omega),κ8]
 have c1:(((A++B).length:Int) != (l.length:Int))=false:=by rw[hab];simp
 have c2:(((A++[z]++B).length:Int) != ((l.length+1:Nat):Int))=false:=by rw[hazb];simp
 have g2:(decide (0≤(k:Int)) && decide ((k:Int)≤((A++[z]++B).length:Int)))=true:=by rw[hazb];simp;omega
 have g3:(decide (0≤((k+1:Nat):Int)) && decide (((k+1:Nat):Int)≤((A++[z]++B).length:Int)))=true:=by rw[hazb];simp;omega
 have hplain:∀t:List φW,ψ2I.f t=some (100000,-1,t):=fun t=>rfl
 have q4:decide ((([]:List AnsT).length+A.length) * 48≤140737488355328)=true:=by simp only[decide_eq_true_eq,lN];omega
 have q5:decide ((A.length+B.length) * 48≤140737488355328)=true:=by simp only[decide_eq_true_eq];omega
 simp only[hk,hg1,cT,htk,lN,q1,κ8,lA,lC,q2,tN,hdk,q3,hplain,bS,p1,p2]
 simp only[lA,lC,lN] at c1 c2 g2 g3
 simp only[c1,hwl,c2,cF,g2,cT,ta,hw1,g3,db,tN,φEt r1.ei.small.1,φEt r2.ei.small.1,m1,m2,bS]
 simp only[lN] at q4
 simp only[q4,q5,cT,κ8]
 have hsa:ψ2l.f (A++B) (A++B)=some true:=by
  rw[φJR _ _ (by omega) (fun y hy=>by have:=hkeys y hy;omega)];simp
 rw[hsa]
 cases hu:m.1
 ·simp only[nF,cT,bS,beq_self_eq_true,φGW [] [] (by simp),dT]
 ·simp only[nZ,cF,cT,bS,beq_self_eq_true,φGW m.2.1 m.2.1 (by omega),dT]
end Go.Rf.G
