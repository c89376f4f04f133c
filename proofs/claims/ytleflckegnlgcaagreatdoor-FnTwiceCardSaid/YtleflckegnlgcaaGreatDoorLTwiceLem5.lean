import Derived.Test.YtleflckegnlgcaaGreatDoorLTwiceLem4
open Option renaming bind_some→bS
open List renaming length_append→lA,append_assoc→aA,mem_cons_of_mem→mC,mem_append→mA,mem_append_right→mR,mem_append_left→mL,mem_cons→mc,drop_eq_getElem_cons→dG,length_take→lT,length_drop→lD,mem_map→mM,length_map→lM,length_cons→lC,length_nil→lN,getElem_mem→gM,map_append→mp,mem_singleton→mZ,mem_cons_self→κ0,take_succ_eq_append_getElem→κ3,map_cons→κ6,append_nil→κ7,nil_append→κ9,length_singleton→κA,drop_zero→κC,take_append_drop→κE,cons_append→κF,flatMap_append→κJ,replicate→κK,nodup_append→κL,foldl_cons→κO,drop_left→κP,nodup_cons→κQ,range'→κR,all_eq_true→κT,foldl_append→κU,take_length→κW,pairwise_cons→κY,mem_or_eq_of_mem_set→κd,pairwise_append→κe,mem_of_mem_take→κf
open Bool renaming and_eq_true→bA,eq_false_or_eq_true→bE,not_true→nZ,not_false→nF,true_and→tA,not_not→nn,false_eq_true→κ2,true_eq_false→κ8,false_and→κD,or_eq_false_iff→κI,and_true→κM,not_eq_true'→κN,false_or→κS,or_eq_true→κX
open Int renaming toNat_natCast→tN,ofNat_lt→oL,le_refl→κH
open Nat renaming lt_or_ge→κ1,zero_le→κ4,le_refl→κ5,eq_of_beq_eq_true→κB,lt_of_lt_of_le→κG,zero_add→κV,le_trans→κZ,pow_succ→κa,mod_eq_of_lt→κc
open Array renaming length_toList→κb
set_option linter.unusedVariables false
set_option linter.unusedSimpArgs false
namespace Go.Rf.G
open Go Go.Rf
set_option synthInstance.maxSize 4000
theorem PB.room {k N:Nat} {s:φ7} {d:φ1} (h:PB k N s d) (hs:φh s d=true) {K:Nat} (hk:k≤K):Room 100000 (1500 * ((260+71 * K) / 130+2)) ((260+71 * K) / 130+2) d∧s.1.2.length≤(260+71 * K) / 130:=by
 obtain ⟨q1,q2,q3,q4,q5,q6⟩:=φg.1 hs
 have hp:=φ5k q1
 have h0:=(φ8b hs).s0
 have hpot:=h.pot
 have hL:s.1.2.length≤(260+71 * K) / 130:=by
  rw[Nat.le_div_iff_mul_le (by omega)]
  omega
 have hfl:d.1.length≤s.1.2.length+2:=by
  have hnd:(d.1.map (·.1)).Nodup:=φNr (l:=d.1) hp
  have:=φNw (A:=d.1.map (·.1)) (B:=φb::φK (s.1.2.headD 0)::s.1.2.map φ0) hnd fun n hn=>by
   obtain ⟨f,hf,rfl⟩:=mM.1 hn
   rcases h.nm f.1 (by rw[φ2m q1 hf]) with e | ⟨id,hid,e⟩ | e
   ·rw[e];simp
   ·rw[e]
    exact mC _ (mC _ (mM.2 ⟨id,hid,rfl⟩))
   ·rw[e];simp
  simpa using this
 have hus:φI d.1≤1500 * d.1.length:=φIt fun f hf=>by
  have:=h.sz f.1
  rw[φ2m q1 hf] at this
  exact this
 refine ⟨⟨q1,h.cap,?_,by omega⟩,hL⟩
 exact κZ hus (Nat.mul_le_mul_left _ (by omega))
theorem φ6g {d:φ1} {n:List UInt8} (h:(φ2 d n).2=false):φ2 d n=([],false):=by
 unfold φ2 at h ⊢
 split
 ·rfl
 ·rename_i c
  rw[if_neg c] at h
  cases hf:d.1.findIdx? (fun f=>f.1==n) with
  | none=>rfl
  | some i=>rw[hf] at h;simp at h
theorem φNU {s:φ7} {d:φ1} (hc:(rotP s d).2.2=0):(φ2 (rotP s d).2.1 φ1H).2=false:=by
 unfold rotP at hc ⊢
 split
 ·rename_i c;rw[if_pos c] at hc;simp at hc
 rename_i c0
 rw[if_neg c0] at hc
 split
 ·rename_i c;rw[if_pos c] at hc;exact absurd ((φ1F _).1 hc) c
 rename_i c1
 rw[if_neg c1] at hc
 simp only at hc ⊢
 split
 ·rename_i c;rw[if_pos c] at hc;exact absurd ((φ1F _).1 hc) c
 rename_i c2
 rw[if_neg c2] at hc
 split
 ·rename_i c
  rw[if_pos c] at hc
  exfalso
  revert hc
  unfold φ1h
  split
  ·split
   ·simp
   ·rename_i c3;exact c3
  ·exact c
 ·rename_i c
  have c:(sPut (s.1.1+1,s.1.2++[s.1.1]) ((φ9 (φX (φ0 s.1.1)) (φC (φ0 s.1.1) (φG (actN s) d).1)).1,0)).2=0:=(φ1F _).1 (Decidable.not_not.1 c)
  exact φGW c
theorem φK4 {k N:Nat} {s:φ7} {d:φ1} (h:JB s d) (p:PB k N s d) (t:List UInt8) (ht:t.length≤71) (hk:k≤98) (hN:N≤1000) :
  (addR s d t).2.2=0∧(addR s d t).2.1.2=(100000,-1,false) ∧
  (∀n,(φ2 (addR s d t).2.1 n).2=true→n=φb∨(∃id∈(addR s d t).1.1.2,n=φ0 id)∨n=φK ((addR s d t).1.1.2.headD 0)) ∧
  (∀n,(φ2 (addR s d t).2.1 n).1.length≤1500)∧130 * ((addR s d t).1.1.2.length:Int)+(addR s d t).1.2.2.2.1≤260+71 * k ∧
  (addR s d t).1.2.2.2.1+(t.length:Int)≤200∧(addR s d t).1.1.1≤3+k+2 * N:=by
 obtain ⟨q1,q2,q3,q4,q5,q6⟩:=φg.1 h.ok
 have h0:=(φ8b h.ok).s0
 have hpot:=p.pot
 have hact:=p.act
 have hnx:=p.nx
 unfold addR
 by_cases c:s.2.2.2.1 > 0∧s.2.2.2.1+(t.length:Int) > 200
 rotate_left
 ·rw[if_neg c]
  exact ⟨rfl,p.cap,p.nm,p.sz,hpot,by show s.2.2.2.1+(t.length:Int)≤200;omega,by show s.1.1≤_;omega⟩
 rw[if_pos c]
 obtain ⟨R,hL⟩:=p.room h.ok hk
 have R:Room 100000 85500 57 d:=R.mono (by decide) (by decide)
 have hL:s.1.2.length≤55:=κZ hL (by decide)
 have hn:=((φ12 _).1 q2).2.1
 obtain ⟨r1,r2⟩:=φEE R (φBU h.ok) (by omega) ⟨hn.1,by omega⟩ (by omega) (by omega)
 obtain ⟨e1,e2,e3,e4⟩:=φ6u q1 r2
 have hlv:=φFy q1 r2
 have htm:=φNU r2
 have hot:∀n,n≠φ0 s.1.1→n≠φ1H→n≠φb→φ2 (rotP s d).2.1 n=φ2 d n:=by
  rcases φ8x (s:=s) q1 with ⟨k1,_⟩ | ⟨_,_,k2⟩
  ·rw[e1] at k1
   simp only at k1
   omega
  ·exact k2
 have hne:=φ3K q2
 have hhd:(s.1.2++[s.1.1]).headD 0=s.1.2.headD 0:=by
  cases hs:s.1.2 with
  | nil=>exact absurd hs hne
  | cons a l=>rfl
 refine ⟨r2,r1.tl,fun n hnn=>?_,fun n=>?_,?_,?_,?_⟩
 ·rw[e1]
  show n=φb∨(∃id∈s.1.2++[s.1.1],n=φ0 id)∨n=φK ((s.1.2++[s.1.1]).headD 0)
  rw[hhd]
  by_cases a1:n=φ0 s.1.1
  ·exact .inr (.inl ⟨s.1.1,by simp,a1⟩)
  by_cases a2:n=φ1H
  ·rw[a2,htm] at hnn;simp at hnn
  by_cases a3:n=φb
  ·exact .inl a3
  rw[hot n a1 a2 a3] at hnn
  rcases p.nm n hnn with e | ⟨id,hid,e⟩ | e
  ·exact .inl e
  ·exact .inr (.inl ⟨id,mL _ hid,e⟩)
  ·exact .inr (.inr e)
 ·by_cases a1:n=φ0 s.1.1
  ·rw[a1,e2];simp
  by_cases a2:n=φ1H
  ·rw[a2,φ6g htm];simp
  by_cases a3:n=φb
  ·rw[a3,hlv]
   have:=φ5P (s.1.1+1,s.1.2++[s.1.1])
   show (φn _).length≤1500
   omega
  rw[hot n a1 a2 a3]
  exact p.sz n
 ·rw[e1]
  show 130 * ((s.1.2++[s.1.1]).length:Int)+0≤_
  simp only[lA,lC,lN]
  omega
 ·rw[e1]
  show (0:Int)+(t.length:Int)≤200
  omega
 ·rw[e1]
  show s.1.1+1≤_
  omega
theorem φKc {k N:Nat} {s:φ7} {d:φ1} {r:RecT} (h:JB s d) (p:PB k N s d) (hr:φa r=true) (hk:k≤98) (hN:N≤1000):(addP s d r).2.2.1=0∧PB (k+1) N (addP s d r).1 (addP s d r).2.1:=by
 obtain ⟨q1,q2,q3,q4,q5,q6⟩:=φg.1 h.ok
 obtain ⟨R,hL⟩:=p.room h.ok hk
 have R:Room 100000 85500 57 d:=R.mono (by decide) (by decide)
 have hL:s.1.2.length≤55:=κZ hL (by decide)
 have hnx:=p.nx
 obtain ⟨a1,a2,a3,a4⟩:=φOW (r:=r) R h.ok h.lt (by omega) (by omega) (by omega) (by omega)
 obtain ⟨f1,f2⟩:=φ4Z r
 obtain ⟨b1,b2,b3,b4,b5,b6,b7⟩:=φK4 h p (fr r) f2 hk hN
 have hgrow:JB (addR s d (fr r)).1 (addR s d (fr r)).2.1:=by
  unfold addR
  split
  ·exact (φB6 h).jb
  ·exact h
 refine ⟨a2,?_⟩
 have hcap:=a1.tl
 unfold addP at a2 hcap ⊢
 rw[show frame (φ6 r)=fr r from rfl] at *
 generalize addR s d (fr r)=S at *
 simp only at a2 hcap ⊢
 rw[if_neg (by rw[b1];simp)] at a2 hcap ⊢
 by_cases c2:(φL (actN S.1) (fr r) S.2.1).2=0
 rotate_left
 ·rw[if_pos c2] at a2
  exact absurd ((φ1F _).1 a2) c2
 rw[if_neg (by simpa using c2)] at hcap ⊢
 obtain ⟨d1,d2,d3,d4,d5,d6⟩:=φg.1 hgrow.ok
 obtain ⟨t1,t2⟩:=φ4G c2
 have hsz:=((φ1t _).1 d5).2 (φ3K d2)
 refine ⟨hcap,fun n hn=>?_,fun n=>?_,?_,?_,?_⟩
 ·by_cases e:n=actN S.1
  ·exact .inr (.inl ⟨φM S.1.1.2,φ3C (φ3K d2),e⟩)
  ·rw[φ5o d1 e] at hn
   exact b3 n hn
 ·by_cases e:n=actN S.1
  ·rw[e,t2]
   show ((φ2 S.2.1 (actN S.1)).1++fr r).length≤1500
   rw[lA]
   have:S.1.2.2.2.1=((φ2 S.2.1 (actN S.1)).1.length:Int):=hsz
   omega
  ·rw[φ5o d1 e]
   exact b4 n
 ·show 130 * (S.1.1.2.length:Int)+(S.1.2.2.2.1+((fr r).length:Int))≤260+71 * ((k+1:Nat):Int)
  omega
 ·show S.1.2.2.2.1+((fr r).length:Int)≤200
  omega
 ·show S.1.1.1≤2+((k+1:Nat):Int)+2 * N
  omega
theorem φGA:∀(rs:List RecT) (k N:Nat) (s:φ7) (d:φ1),JB s d→PB k N s d→(∀r∈rs,φa r=true)→k+rs.length≤99→N≤1000→(φe rs s d).2.2.1=0∧PB (k+rs.length) N (φe rs s d).1 (φe rs s d).2.1
 | [],k,N,s,d,_,p,_,_,_=>⟨rfl,p⟩
 | r::rs,k,N,s,d,h,p,hr,hk,hN=>by
  simp only[lC] at hk
  obtain ⟨a1,a2⟩:=φKc h p (hr r κ0) (by omega) hN
  obtain ⟨q,hq,_⟩:=(φBS h (hr r κ0)).1 a1
  obtain ⟨b1,b2⟩:=φGA rs (k+1) N _ _ hq.jb a2 (fun x hx=>hr x (mC _ hx)) (by omega) hN
  unfold φe
  rw[if_neg (by rw[a1];simp)]
  refine ⟨b1,?_⟩
  rw[show k+(r::rs).length=k+1+rs.length by simp only[lC];omega]
  exact b2
structure PR (k N:Nat) (s:φ7) (d:φ1):Prop extends JR s d where
 bk:PB k N s d
 ex:s.2.2.1=1∨∃p∈φT d s.1.2,p.2.2.2.2.1=s.2.2.1 - 1
theorem PR.up {k N k' N':Nat} {s:φ7} {d:φ1} (h:PR k N s d) (h1:k≤k') (h2:N≤N'):PR k' N' s d:=⟨h.toJR,h.bk.up h1 h2,h.ex⟩
theorem φM1 {k N:Nat} {s:φ7} {d:φ1} (h:PR k N s d) {l:List PutT} (hp:φ2A l=true) (hb:s.2.2.1≤1000000) (hkk:φ2s s.2.1 l≤20) (hk:k+(l.length+1)≤99) (hN:N≤1000) :
  (φ1P s d l).2.2=0∧PR (k+(l.length+1)) N (φ1P s d l).1 (φ1P s d l).2.1∧(φ1P s d l).1.2.2.1=s.2.2.1+1:=by
 obtain ⟨q1,q2,q3,q4,q5,q6⟩:=φg.1 h.ok
 have hrec:=φ7k (b:=s.2.2.1) (l:=l) ⟨q4.1,hb⟩ hp
 have hJ1:=h.toJB.bump hb
 obtain ⟨P,g1,g2,g3,g4,g5⟩:=φ7F (φ1r s.2.2.1 l) _ _ hJ1 hrec
 have hrl:=φ99 s.2.2.1 l
 obtain ⟨c1,c2⟩:=φGA (φ1r s.2.2.1 l) k N (s.1,s.2.1,s.2.2.1+1,s.2.2.2) d hJ1 (h.bk.same rfl rfl) hrec (by omega) hN
 rw[hrl] at c2
 have hj:=φDR h.toJR hp hb hkk
 have hright:=φBM h.ok h.lt hp hb hkk
 unfold φ1P at hj hright ⊢
 generalize hG:φe (φ1r s.2.2.1 l) (s.1,s.2.1,s.2.2.1+1,s.2.2.2) d=g at *
 simp only at hj hright ⊢
 rw[if_neg (by rw[c1];simp)] at hj hright ⊢
 obtain ⟨b1,b2,b3,b4,b5,b6⟩:=φg.1 g1.jb.ok
 have hex:(φ2 g.2.1 (actN g.1)).2=true:=(((φ1t _).1 b5).1 _ (φ3C (φ3K b2))).1
 have hs0:(φG (actN g.1) g.2.1).2=0:=φ6k b1 g1.jb.fre hex
 rw[if_neg (by rw[hs0];simp)] at hj hright ⊢
 obtain ⟨r1,r2,r3,r4,r5⟩:=hright rfl
 have hpl2:φT (φG (actN g.1) g.2.1).1 g.1.1.2=φT d s.1.2++P:=by
  rw[φ5V (d:=g.2.1) fun id _=>φ2D b1 _ _]
  exact g1.pl
 have hcap:(φG (actN g.1) g.2.1).1.2=(100000,-1,false):=by
  have:=φ4N (act:=φ27 (actN g.1)) b1 g1.jb.fre
  show (φV g.2.1 (φ27 (actN g.1))).1.2=_
  rw[this]
  exact c2.cap
 refine ⟨rfl,⟨hj,?_,?_⟩,r4⟩
 ·exact ⟨hcap,fun n hn=>by rw[φ2D b1] at hn;exact c2.nm n hn,fun n=>by rw[φ2D b1];exact c2.sz n,c2.pot,c2.act,c2.nx⟩
 ·right
  obtain ⟨x1,x2⟩:=g4 c1
  cases hP:P with
  | nil=>rw[hP] at x1;simp at x1;omega
  | cons p P'=>
   refine ⟨p,?_,?_⟩
   ·show p∈φT (φG (actN g.1) g.2.1).1 g.1.1.2
    rw[hpl2,hP]
    exact mR _ κ0
   ·have hm:p.2.2.2∈P.map (·.2.2.2):=mM.2 ⟨p,by rw[hP];exact κ0,rfl⟩
    rw[g2] at hm
    have hm:=κf hm
    have hb2:p.2.2.2.2.1=s.2.2.1:=by
     unfold φ1r at hm
     rcases mA.1 hm with k1 | k1
     ·obtain ⟨q,_,e⟩:=mM.1 k1
      have:=(φCo s.2.2.1 q).2
      rw[e] at this
      exact this
     ·rw[mZ.1 k1]
    have r4:g.1.2.2.1=s.2.2.1+1:=r4
    show p.2.2.2.2.1=g.1.2.2.1 - 1
    rw[hb2,r4];omega
theorem φCF {c u f:Nat} {d:φ1} (h:Room c u f d) {n:List UInt8} (ho:φ1k n=true) (hf:f<130):Room c u (f+1) (sNew n (d,0)).1∧(sNew n (d,0)).2=0∧(φ2 (sNew n (d,0)).1 n).2=true:=by
 unfold sNew
 rw[φ3y]
 obtain ⟨g1,g2,g3⟩:=φBy h n
 generalize φC n d=w at *
 obtain ⟨d1,c1⟩:=w
 simp only at g1 g2 g3
 subst g2
 rw[φ3y]
 obtain ⟨k1,k2⟩:=φBr g1 g3 ho hf
 exact ⟨k1,k2,by rw[φ9f k2]⟩
theorem φDW {c f:Nat} {n:List UInt8}:∀(recs:List RecT) (u:Nat) (d:φ1),Room c u f d→(φ2 d n).2=true→u+71 * recs.length≤c →
  Room c (u+71 * recs.length) f (sApp n recs (d,0)).1∧(sApp n recs (d,0)).2=0∧(φ2 (sApp n recs (d,0)).1 n).2=true
 | [],u,d,h,hn,_=>⟨h,rfl,hn⟩
 | r::rs,u,d,h,hn,hu=>by
  simp only[lC] at hu
  have hf:=(φ4Z r).2
  obtain ⟨k1,k2⟩:=φ8F (t:=fr r) h hn (by omega)
  have k3:=(φ4G k2).2
  have e:sApp n (r::rs) (d,0)=sApp n rs (φL n (fr r) d):=by
   show sApp n rs (φ9 (φL n (frame (φ6 r))) (d,0))=_
   rw[φ3y];rfl
  rw[e]
  generalize φL n (fr r) d=w at *
  obtain ⟨d1,c1⟩:=w
  simp only at k1 k2 k3
  subst k2
  obtain ⟨m1,m2,m3⟩:=φDW rs (u+71) d1 (k1.mono (by omega) (κ5 _)) (by rw[k3]) (by omega)
  exact ⟨m1.mono (by simp only[lC];omega) (κ5 _),m2,m3⟩
theorem φFJ {c u f:Nat} {w:φE} (h:Room c u f w.1) (h0:w.2=0) {n:List UInt8} (hn:(φ2 w.1 n).2=true):Room c u f (φ9 (φG n) w).1∧(φ9 (φG n) w).2=0:=by
 obtain ⟨d,x⟩:=w
 simp only at h h0 hn
 subst h0
 rw[φ3y]
 exact φC7 h hn
theorem φLW {c u f:Nat} {d:φ1} (h:Room c u f d) {n t:List UInt8} (ho:φ1k n=true) (hf:f<130) (hu:u+t.length≤c):Room c (u+t.length) (f+1) (φ1R n t (d,0)).1∧(φ1R n t (d,0)).2=0:=by
 obtain ⟨a1,a2,a3⟩:=φCF h ho hf
 show Room c (u+t.length) (f+1) (φ9 (φG n) (φ9 (φL n t) (sNew n (d,0)))).1∧(φ9 (φG n) (φ9 (φL n t) (sNew n (d,0)))).2=0
 generalize sNew n (d,0)=w at *
 obtain ⟨d1,x⟩:=w
 simp only at a1 a2 a3
 subst a2
 rw[φ3y]
 obtain ⟨k1,k2⟩:=φ8F (t:=t) a1 a3 hu
 have k3:=(φ4G k2).2
 exact φFJ k1 k2 (by rw[k3])
theorem φEX {x:Int×Int×Bool} (hx:x.2=(-1,false)) {d:φ1} {act:List φ4→Int×List φ4} (h:d.2=x):(φV d act).1.2=x:=by
 unfold φV
 split
 ·exact h
 ·split
  ·rename_i c
   rw[h,hx] at c
   simp at c
  ·show (tick d).2=x
   unfold tick
   rw[if_neg (by rw[h,hx];decide)]
   exact h
theorem φOb {c u f:Nat} {s:φ7} {d:φ1} {l:List φZ} (h:Room c u f d) (hv:φm s.1=true) (h2:s.1.1+2≤100000) (hl:l.length≤20) (hu:u+2800≤c) (hf:f+5≤130) :
  (φ15 s d l).2.2=0∧(φ15 s d l).2.1.2=((c:Int),-1,false):=by
 have hm:=((φ12 _).1 hv).2.1
 have ho1:=φ5R (id:=s.1.1) ⟨hm.1,by omega⟩
 have ho2:=φ5R (id:=s.1.1+1) ⟨by omega,by omega⟩
 have ho3:=φGw (id:=s.1.1) ⟨hm.1,by omega⟩
 have hkl:=φ7r l (s.2.2.1 - 1)
 -- the merged segment
 have w0:Room c (u+71 * 21) (f+1) (sWM s.1.1 (φY l (s.2.2.1 - 1)) (d,0)).1∧(sWM s.1.1 (φY l (s.2.2.1 - 1)) (d,0)).2=0:=by
  unfold sWM
  obtain ⟨a1,a2,a3⟩:=φCF h ho1 (by omega)
  generalize sNew (φ0 s.1.1) (d,0)=w at *
  obtain ⟨d1,x⟩:=w
  simp only at a1 a2 a3
  subst a2
  obtain ⟨b1,b2,b3⟩:=φDW (n:=φ0 s.1.1) (φY l (s.2.2.1 - 1)) u d1 a1 a3 (by omega)
  obtain ⟨k1,k2⟩:=φFJ b1 b2 b3
  exact ⟨k1.mono (by omega) (κ5 _),k2⟩
 unfold φ15
 simp only
 generalize hW0:sWM s.1.1 (φY l (s.2.2.1 - 1)) (d,0)=W0 at *
 obtain ⟨d0,x0⟩:=W0
 obtain ⟨r0,e0⟩:=w0
 simp only at r0 e0
 subst e0
 obtain ⟨r1,e1,_⟩:=φCF r0 ho2 (by omega)
 generalize sNew (φ0 (s.1.1+1)) (d0,0)=W1 at *
 obtain ⟨d1,x1⟩:=W1
 simp only at r1 e1
 subst e1
 -- the hint
 have w2:Room c (u+71 * 21+1004) (f+3) (φo s.1.1 (d1,0)).1∧(φo s.1.1 (d1,0)).2=0:=by
  unfold φo
  rw[if_neg (by simp)]
  unfold φ1s
  simp only
  have hh:=φ83 (φ14 s.1.1 (φ2 d1 (φ0 s.1.1)).1).1
  obtain ⟨k1,k2⟩:=φLW (t:=φ1W (φ14 s.1.1 (φ2 d1 (φ0 s.1.1)).1).1) r1 ho3 (by omega) (by omega)
  rw[if_neg (by rw[k2];decide)]
  exact ⟨k1.mono (by omega) (by omega),k2⟩
 generalize φo s.1.1 (d1,0)=W2 at *
 obtain ⟨d2,x2⟩:=W2
 obtain ⟨r2,e2⟩:=w2
 simp only at r2 e2
 subst e2
 obtain ⟨r3,e3⟩:=φHL r2 (s.1.1+2,[s.1.1,s.1.1+1]) (by omega) (by omega)
 have et:(φA (sPut (s.1.1+2,[s.1.1,s.1.1+1]) (d2,0))).2=0:=(φ1F _).2 e3
 have hF:Free (sPut (s.1.1+2,[s.1.1,s.1.1+1]) (d2,0)).1:=by
  unfold Free
  rw[r3.tl]
 rw[if_pos rfl,if_neg (by rw[et];simp)]
 have hs0:=φ7J s.1.2 (w:=((sPut (s.1.1+2,[s.1.1,s.1.1+1]) (d2,0)).1,0)) r3.dk hF rfl
 exact ⟨(φ1F _).2 hs0,φBY (P:=fun d=>d.2=((c:Int),-1,false)) (fun d act k=>φEX rfl k) s.1.2 (w:=((sPut (s.1.1+2,[s.1.1,s.1.1+1]) (d2,0)).1,0)) r3.tl⟩
theorem φEk:∀rs:List RecT,(txt rs).length≤71 * rs.length
 | []=>by simp[txt]
 | r::rs=>by
  rw[φ3H,lA,lC]
  have:=(φ4Z r).2
  have:=φEk rs
  omega
theorem φK0 {l:List Int} (h:l≠[]):l.headD 0∈l:=by
 cases l with
 | nil=>exact absurd rfl h
 | cons a l=>simp
theorem φNV {k N:Nat} {s:φ7} {d:φ1} (h:PR k N s d) (hk:k≤98) (hN:N≤1000) :
  (φ1y s d).2.2=0∧PR k (N+1) (φ1y s d).1 (φ1y s d).2.1∧φW (φ1y s d).1 (φ1y s d).2.1=φW s d∧(φ1y s d).1.2.2.1=s.2.2.1:=by
 obtain ⟨q1,q2,q3,q4,q5,q6⟩:=φg.1 h.ok
 have hnx:=h.bk.nx
 have h2:s.1.1+2≤100000:=by omega
 have hdl:=(φ46 q3).1
 have hdp:=φ8H s d
 obtain ⟨R,hL⟩:=h.bk.room h.ok hk
 have R:Room 100000 85500 57 d:=R.mono (by decide) (by decide)
 obtain ⟨hc,hcap⟩:=φOb (l:=(φW s d).1) R q2 h2 (by omega) (by omega) (by omega)
 have hm:=((φ12 _).1 q2).2.1
 have hF:φ1y s d=φ15 s d (φW s d).1:=by
  unfold φ1y
  rw[if_neg (by rw[h.ok];simp),if_neg (by omega)]
 have hJ:=(φDE h.toJR)
 rw[hF] at hJ ⊢
 have hM:=φFB (φW s d).1 q1 q2 h2 hc
 obtain ⟨hm1,hm2,hm3,hm4⟩:=φ7u h.ok h2 hM.toMerged
 obtain ⟨kk,ok⟩:=φGq h.ok h2 hM.toMerged
 have hne:=φ3K q2
 -- what was exchanged is gone
 have htmp:(φ2 (φ15 s d (φW s d).1).2.1 φ1H).2=false:=by
  obtain ⟨w1,w2,a1,a2,a3,a4,a5,a6,a7,a8⟩:=φGP (φW s d).1 q1 hc
  rw[a8]
  have hd:=φ3n a6 (s.1.1+2,[s.1.1,s.1.1+1])
  have hF2:Free (sPut (s.1.1+2,[s.1.1,s.1.1+1]) w2).1:=by
   have:((sPut (s.1.1+2,[s.1.1,s.1.1+1]) w2).1).2=((100000:Int),-1,false):=by
    have c0:∀(d:φ1) (act:List φ4→Int×List φ4),d.2=((100000:Int),-1,false)→(φV d act).1.2=((100000:Int),-1,false):=fun d act k=>φEX rfl k
    have c1:w1.1.2=((100000:Int),-1,false):=by
     rw[a1]
     exact φ7a (P:=fun d=>d.2=((100000:Int),-1,false)) c0 _ (φ9j (P:=fun d=>d.2=((100000:Int),-1,false)) c0 _ _ (w:=(d,0)) h.bk.cap)
    have c2:w2.1.2=((100000:Int),-1,false):=by
     rw[a4]
     exact φ9X (P:=fun d=>d.2=((100000:Int),-1,false)) c0 _ c1
    exact φ7R (P:=fun d=>d.2=((100000:Int),-1,false)) c0 _ c2
   unfold Free
   rw[this]
  have h0:=φ7J s.1.2 (w:=((sPut (s.1.1+2,[s.1.1,s.1.1+1]) w2).1,0)) hd hF2 rfl
  exact (φCR s.1.2 (w:=((sPut (s.1.1+2,[s.1.1,s.1.1+1]) w2).1,0)) hd h0).2.1 _ (φGW a7)
 generalize φ15 s d (φW s d).1=M at *
 obtain ⟨S,y,c⟩:=M
 simp only at hc hcap hJ hM hm1 hm2 hm3 hm4 kk ok htmp ⊢
 have hst:=hM.st
 have hI:S.1.2=[s.1.1,s.1.1+1]:=by rw[hst]
 have hB:S.2.2.1=s.2.2.1:=by rw[hst]
 have hNx:S.1.1=s.1.1+2:=by rw[hst]
 have hSz:S.2.2.2.1=0:=by rw[hst]
 have hone:=hM.one
 have htwo:=hM.two
 have hliv:=hM.liv
 have hpl:φT y S.1.2=(scan (txt (φY (φW s d).1 (s.2.2.1 - 1)))).1.map fun x=>((s.1.1,x):φF):=by
  rw[hI]
  unfold φT φ11
  simp[hone,htwo,φ7H]
 -- any name
 have names:∀n,n=φ0 s.1.1∨n=φ0 (s.1.1+1)∨n=φK s.1.1∨n=φ1H∨n=φb∨(φ2 y n).2=false∨(φ2 y n=φ2 d n∧(φ2 d n).2=false):=by
  intro n
  by_cases a1:n=φ0 s.1.1
  ·exact .inl a1
  by_cases a2:n=φ0 (s.1.1+1)
  ·exact .inr (.inl a2)
  by_cases a3:n=φK s.1.1
  ·exact .inr (.inr (.inl a3))
  by_cases a4:n=φ1H
  ·exact .inr (.inr (.inr (.inl a4)))
  by_cases a5:n=φb
  ·exact .inr (.inr (.inr (.inr (.inl a5))))
  by_cases a6:∃id∈s.1.2,n=φ0 id∨n=φK id
  ·obtain ⟨id,hid,e⟩:=a6
   have:=hM.old id hid
   right;right;right;right;right;left
   rcases e with rfl | rfl
   ·exact this.1
   ·exact this.2
  ·have hs:=hM.oth n a1 a2 a3 a4 a5 fun id hid=>⟨fun e=>a6 ⟨id,hid,.inl e⟩,fun e=>a6 ⟨id,hid,.inr e⟩⟩
   right;right;right;right;right;right
   refine ⟨hs,?_⟩
   cases hx:(φ2 d n).2 with
   | false=>rfl
   | true=>
    exfalso
    rcases h.bk.nm n hx with e | ⟨id,hid,e⟩ | e
    ·exact a5 e
    ·exact a6 ⟨id,hid,.inl e⟩
    ·exact a6 ⟨_,φK0 hne,.inr e⟩
 have hkl:=φ7r (φW s d).1 (s.2.2.1 - 1)
 have htl:=φEk (φY (φW s d).1 (s.2.2.1 - 1))
 refine ⟨hc,⟨hJ.1,⟨hcap,fun n hn=>?_,fun n=>?_,?_,?_,?_⟩,?_⟩,hm2,hB⟩
 ·rw[hI]
  rcases names n with e | e | e | e | e | e | ⟨e,e2⟩
  ·exact .inr (.inl ⟨s.1.1,by simp,e⟩)
  ·exact .inr (.inl ⟨s.1.1+1,by simp,e⟩)
  ·exact .inr (.inr e)
  ·rw[e,htmp] at hn;simp at hn
  ·exact .inl e
  ·rw[e] at hn;simp at hn
  ·rw[e,e2] at hn;simp at hn
 ·rcases names n with e | e | e | e | e | e | ⟨e,e2⟩
  ·rw[e,hone]
   show (txt _).length≤1500
   omega
  ·rw[e,htwo];simp
  ·rw[e]
   rcases hM.hin with x | x
   ·rw[φ6g x];simp
   ·rw[x]
    have:=φ83 (φ14 s.1.1 (txt (φY (φW s d).1 (s.2.2.1 - 1)))).1
    show (φ1W _).length≤1500
    omega
  ·rw[e,φ6g htmp];simp
  ·rw[e,hliv]
   have:=φ5P (s.1.1+2,[s.1.1,s.1.1+1])
   show (φn _).length≤1500
   omega
  ·rw[φ6g e];simp
  ·rw[e,φ6g e2];simp
 ·rw[hI,hSz]
  show 130 * (([s.1.1,s.1.1+1].length:Nat):Int)+0≤_
  simp only[lC,lN]
  omega
 ·rw[hSz];decide
 ·rw[hNx];push_cast;omega
 ·right
  obtain ⟨l0,z,z1,z2,z3,z4,z5,z6,z7⟩:=φBs kk
  have zb:z.2.2.2.1=s.2.2.1 - 1:=by
   have:=congrArg (fun x:φ1J=>x.2.1) z5
   exact this.symm
  refine ⟨(s.1.1,z),?_,by rw[hB];exact zb⟩
  rw[hpl,z1]
  exact mM.2 ⟨z,mR _ (by simp),rfl⟩
theorem φKP {k N:Nat} {s:φ7} {d:φ1} (h:PR k N s d):∃t y,φ2F d=(t,y,0)∧PR k N t y∧t.2.1=s.2.1∧t.2.2.1=s.2.2.1∧φW t y=φW s d:=by
 obtain ⟨t,y,ho,hj,h1,h2,h3,h4,_,_,h5,h6,h7,h8,h9⟩:=φHF h.toJR
 have hb:t.2.2.1=s.2.2.1:=by
  have q:=(φg.1 hj.ok).2.2.2.1
  rcases h.ex with e | ⟨p,hp,e⟩
  ·omega
  ·have:=hj.pb p (by rw[h7];exact hp)
   omega
 refine ⟨t,y,ho,⟨hj,⟨by rw[h5];exact h.bk.cap,fun n hn=>?_,fun n=>?_,by rw[h1,h9];exact h.bk.pot,by rw[h9];exact h.bk.act,by have:=h.bk.nx;omega⟩,?_⟩,h2,hb,h4⟩
 ·rw[h1]
  have:=h6 n hn
  rw[this] at hn
  exact h.bk.nm n hn
 ·cases hx:(φ2 y n).2 with
  | false=>rw[φ6g hx];simp
  | true=>rw[h6 n hx];exact h.bk.sz n
 ·rw[hb,h7];exact h.ex
theorem φEm:PR 0 0 ((2,[1]),[],1,0,0) (dNew 100000):=by
 obtain ⟨f1,f2,f3⟩:=φC8 100000 (by omega) (by omega)
 refine ⟨φLv 100000 (by omega) (by omega),⟨rfl,fun n hn=>?_,fun n=>?_,by decide,by decide,by decide⟩,.inl rfl⟩
 ·by_cases a1:n=φb
  ·exact .inl a1
  by_cases a2:n=φ0 1
  ·exact .inr (.inl ⟨1,by simp,a2⟩)
  rw[f3 n a1 a2] at hn
  simp at hn
 ·by_cases a1:n=φb
  ·rw[a1,f1]
   have:=φ5P (2,[1])
   show (φn (2,[1])).length≤1500
   omega
  by_cases a2:n=φ0 1
  ·rw[a2,f2];simp
  rw[f3 n a1 a2];simp
abbrev ModT:=Bool×List φZ×Int×List TxnT
def φ1A (l:List φZ) (key:List UInt8):φZ×Int:=
 match l.find? (fun p=>p.1==key) with
 | some p=>(p,0)
 | none=>(([],[],0),8)
def valM (l:List φZ) (t:TxnT):Bool:=t.2.1.all fun r=>(φ1A l r.1).1.2.2==r.2
def comM (m:ModT) (g:List TxnT×AnsT×Option (List PutT)):ModT×AnsT:=
 match g.2.2 with
 | none=>((m.1,m.2.1,m.2.2.1,g.1),g.2.1)
 | some w=>if w.length=0 then ((m.1,m.2.1,m.2.2.1,g.1),(0,[],[])) else
   if 20<(φ1j m.2.1 w m.2.2.1).length∨m.2.2.1 > 1000000 then ((m.1,m.2.1,m.2.2.1,g.1),(5,[],[])) else
   ((m.1,φ1j m.2.1 w m.2.2.1,m.2.2.1+1,g.1),(0,[],[]))
def stM (m:ModT) (s:φO):ModT×AnsT:=
 bif s.1==10 then (bif m.1 then (m,(4,[],[])) else ((true,m.2.1,m.2.2.1,zTx),(0,[],[]))) else
 bif s.1==11 then (m,(0,[],[])) else
 bif !m.1 then (m,(6,[],[])) else
 bif s.1==7 then (m,(0,[],[])) else
 bif s.1==8 then (m,(0,[],m.2.1.map (·.1))) else
 bif s.1==9 then ((false,m.2.1,m.2.2.1,zTx),(0,[],[])) else
 comM m (sesG (φ1A m.2.1) (valM m.2.1) m.2.2.2 s)
def runM:ModT→List φO→ModT×List AnsT
 | m,[]=>(m,[])
 | m,s::r=>((runM (stM m s).1 r).1,(stM m s).2::(runM (stM m s).1 r).2)
abbrev newM:ModT:=(true,[],1,zTx)
structure TxR (t:TxnT):Prop extends TxnOk t where
 puts:∀p∈t.2.2,φ2a p=true
def TK (l:List TxnT):Prop:=l.length=3∧∀t∈l,TxR t
theorem TxR.zero (b:Bool):TxR (b,[],[]):=⟨⟨List.Pairwise.nil,by simp,by simp,by show (netW []).length≤8;decide⟩,fun p hp=>by simp at hp⟩
theorem TK.new:TK zTx:=⟨rfl,fun t ht=>by
 have:=List.eq_of_mem_replicate ht
 subst this
 exact TxR.zero false⟩
theorem TK.tb {l:List TxnT} (h:TK l):TB l:=⟨h.1,fun t ht=>⟨(h.2 t ht).reads,(h.2 t ht).writes⟩⟩
theorem TK.set {l:List TxnT} (h:TK l) (i:Nat) {t:TxnT} (ht:TxR t):TK (l.set i t):=⟨by rw[List.length_set];exact h.1,fun x hx=>by
 rcases κd hx with hx | rfl
 ·exact h.2 x hx
 ·exact ht⟩
def wait (l:List TxnT):Nat:=sumN (fun t=>t.2.2.length) l
theorem φ7A:∀(l:List TxnT) (i:Nat) (h:i<l.length) (t:TxnT),wait (l.set i t)+l[i].2.2.length=wait l+t.2.2.length
 | x::l,0,_,t=>by simp only[List.set_cons_zero,wait,sumN,List.getElem_cons_zero];omega
 | x::l,i+1,h,t=>by
  have:=φ7A l i (by simpa using h) t
  simp only[List.set_cons_succ,wait,sumN,List.getElem_cons_succ] at this ⊢
  omega
theorem φLA {t:TxnT} (h:TxR t) (k:List UInt8) (b:Int):TxR (φ1D t k b).1∧(φ1D t k b).1.2.2=t.2.2:=by
 have h2:(φ1D t k b).1.2.2=t.2.2:=by
  unfold φ1D
  repeat' split
  all_goals rfl
 refine ⟨⟨?_,by rw[h2];exact h.puts⟩,h2⟩
 rw[φNX h.toTxnOk]
 exact φKM h.toTxnOk k b
theorem φIx {t:TxnT} (h:TxR t) (p:PutT):TxR (φ2M t p).1∧(φ2M t p).1.2.2.length≤t.2.2.length+1:=by
 refine ⟨⟨φNW h.toTxnOk p,?_⟩,?_⟩
 ·unfold φ2M
  split
  ·rename_i c
   intro q hq
   rcases mA.1 hq with hq | hq
   ·exact h.puts q hq
   ·rw[mZ.1 hq];exact c.2.1
  ·exact h.puts
 ·unfold φ2M
  split
  ·show (t.2.2++[p]).length≤_
   simp
  ·exact Nat.le_succ _
theorem TxR.net_ok {t:TxnT} (h:TxR t):φ2A (netW t.2.2)=true∧(netW t.2.2).length≤8∧(netW t.2.2).length≤t.2.2.length:=by
 have h1:=h.net
 refine ⟨?_,h1,φHh _⟩
 unfold φ2A
 rw[bA]
 refine ⟨by simpa using h1,κT.2 fun q hq=>?_⟩
 exact h.puts q (φFE (φJm.1 hq)).1
theorem φDA (look:List UInt8→φZ×Int) (val:TxnT→Bool) {l:List TxnT} (hl:TK l) (s:φO) :
  TK (sesG look val l s).1∧(match (sesG look val l s).2.2 with | none=>wait (sesG look val l s).1≤wait l+1 | some w=>φ2A w=true∧w.length≤8∧wait (sesG look val l s).1+w.length≤wait l):=by
 unfold sesG
 cases hf:φ2X l s
 ·exact ⟨hl,Nat.le_succ _⟩
 obtain ⟨n,hn,h1,hin,hrd,hto,_,_,_⟩:=φ6W hl.1 hf
 have ht:=hl.2 _ (gM hn)
 have w0:∀b:Bool,wait (l.set n (b,[],[]))≤wait l+1:=fun b=>by
  have:=φ7A l n hn (b,[],[])
  simp only[lN] at this
  omega
 simp only[nZ,cF,hto,hrd]
 cases (s.1==1)
 rotate_left
 ·exact ⟨hl.set n (TxR.zero true),w0 true⟩
 cases (s.1==6)
 rotate_left
 ·exact ⟨hl.set n (TxR.zero false),w0 false⟩
 cases (s.1==2)
 rotate_left
 ·simp only[cT,cF]
  unfold getG
  simp only[hrd,hto]
  cases φ18 s.2.2.1
  ·exact ⟨hl,Nat.le_succ _⟩
  cases (ownW l[n].2.2 s.2.2.1).2
  ·obtain ⟨r1,r2⟩:=φLA ht s.2.2.1 (look s.2.2.1).1.2.2
   simp only[nZ,cF]
   refine ⟨hl.set n r1,?_⟩
   have:=φ7A l n hn (φ1D l[n] s.2.2.1 (look s.2.2.1).1.2.2).1
   rw[r2] at this
   omega
  ·exact ⟨hl,Nat.le_succ _⟩
 cases (s.1==5)
 rotate_left
 ·simp only[cT,cF]
  refine ⟨hl.set n (TxR.zero false),?_⟩
  cases val l[n]
  ·exact w0 false
  ·obtain ⟨n1,n2,n3⟩:=ht.net_ok
   simp only[cT]
   refine ⟨n1,n2,?_⟩
   have:=φ7A l n hn zT
   have hz:(zT:TxnT).2.2.length=0:=rfl
   rw[hz] at this
   omega
 simp only[cF]
 unfold putG
 simp only[hrd,hto]
 obtain ⟨r1,r2⟩:=φIx ht (putS s)
 refine ⟨hl.set n r1,?_⟩
 have:=φ7A l n hn (φ2M l[n] (putS s)).1
 omega
theorem φGS {s:φ7} {d:φ1} (h:φh s d=true) {P:List φZ} (hd:φW s d=(P,0)) (key:List UInt8):getP s d key=φ1A P key:=by
 rw[φGE h] at hd
 have hP:P=s.2.1.map fun e=>(getP s d e.1).1:=(congrArg Prod.fst hd).symm
 subst hP
 unfold φ1A
 have hk:∀e∈s.2.1,(getP s d e.1).1.1=e.1:=fun e he=>(φ7t h he).2
 have hfind:(s.2.1.map fun e=>(getP s d e.1).1).find? (fun p=>p.1==key)=(s.2.1.find? fun e=>e.1==key).map fun e=>(getP s d e.1).1:=by
  generalize s.2.1=l at hk
  induction l with
  | nil=>rfl
  | cons e l ih=>
   have h1:=hk e (by simp)
   simp only[κ6,List.find?_cons,h1]
   cases (e.1==key)
   ·exact ih fun x hx=>hk x (by simp[hx])
   ·rfl
 rw[hfind]
 cases hf:s.2.1.find? (fun e=>e.1==key) with
 | none=>
  refine φEv fun e he ek=>?_
  have:=List.find?_eq_none.1 hf e he
  simp[ek] at this
 | some e=>
  have he:=List.mem_of_find?_eq_some hf
  have hek:e.1=key:=by simpa using List.find?_some hf
  subst hek
  show getP s d e.1=((getP s d e.1).1,0)
  rw[←(φ7t h he).1]
theorem φLo {s:φ7} {d:φ1} (h:φh s d=true) {P:List φZ} (hd:φW s d=(P,0)) (t:TxnT):φ3u t s.2.1=valM P t:=by
 unfold φ3u valM
 congr 1
 funext r
 rw[←φGS h hd r.1]
 congr 1
 rcases φEI s.2.1 r.1 with c | ⟨c1,c2⟩
 ·have e1:getP s d r.1=(([],[],0),8):=by
   unfold getP
   rw[if_pos c]
  rw[e1]
  unfold φ22 at c ⊢
  split at c
  ·simp at c
  ·rfl
 ·obtain ⟨q1,q2,q3,q4,q5,q6⟩:=φg.1 h
  have k:=φ33.1 (q6 _ c2)
  have hkey:(φ22 s.2.1 r.1).1.1=r.1:=by
   unfold φ22 at c1 ⊢
   split at c1
   ·rename_i e he
    have:=List.find?_some he
    simpa using this
   ·simp at c1
  unfold getP
  rw[if_neg (by rw[c1];simp)]
  unfold φ1G at k
  simp only
  rw[if_pos ⟨k.1,k.2.1,k.2.2.1.trans hkey⟩]
  exact k.2.2.2.1.symm
theorem φH0 {s:φ7} {d:φ1} (h:φh s d=true) {P:List φZ} (hd:φW s d=(P,0)):s.2.1.map (·.1)=P.map (·.1):=by
 rw[φ2n h] at hd
 have hP:P=mapG (φ1S d) s.2.1:=(congrArg Prod.fst hd).symm
 subst hP
 unfold mapG
 rw[List.map_map]
 rfl
def φ3k {α:Type} (x:α):Unit:=()
theorem φDp (b:Int):∀(l:List PutT) (P:List φZ),mapG φ3k (φ1j P l b)=l.foldl (fun a p=>if p.2.1=true then φ1C a p.1 else insB (φ1C a p.1) (p.1,())) (mapG φ3k P)
 | [],P=>rfl
 | p::l,P=>by
  show mapG φ3k (φ1j (φ4Y b P p) l b)=l.foldl _ _
  rw[φDp b l]
  congr 1
  show mapG φ3k (φ4Y b P p)=if p.2.1=true then φ1C (mapG φ3k P) p.1 else insB (φ1C (mapG φ3k P) p.1) (p.1,())
  unfold φ4Y
  by_cases c:p.2.1=true
  ·rw[if_pos c,if_pos c,φ7I]
  ·rw[if_neg c,if_neg c,φCJ,φ7I]
theorem φLC {dir:List φD} {P:List φZ} (hk:dir.map (·.1)=P.map (·.1)) (l:List PutT) (b:Int):φ2s dir l=(φ1j P l b).length:=by
 have e0:mapG (φ3k (α:=Int×Int×Int×Int)) dir=mapG (φ3k (α:=List UInt8×Int)) P:=by
  have:∀(α:Type) (l:List (List UInt8×α)),mapG φ3k l=(l.map (·.1)).map fun k=>(k,()):=fun α l=>by
   unfold mapG;rw[List.map_map];rfl
  rw[this,this,hk]
 have h1:=φ6p (φ3k (α:=Int×Int×Int×Int)) (fun _=>()) (l.zip (l.map φ4E)) dir (fun p hp=>by
  rw[φI8] at hp
  obtain ⟨q,_,rfl⟩:=mM.1 hp
  exact ⟨rfl,fun _=>rfl⟩)
 have h2:=φDp b l P
 have hz:(l.zip (l.map φ4E)).map (·.1)=l:=by
  rw[φI8,List.map_map]
  exact List.map_id _
 rw[hz,e0] at h1
 have:mapG (φ3k (α:=Int×Int×Int×Int)) (dirW dir (l.zip (l.map φ4E)))=mapG φ3k (φ1j P l b):=h1.trans h2.symm
 have:=congrArg List.length this
 unfold mapG at this
 simpa [φ2s] using this
structure RM (N:Nat) (e:EngT) (m:ModT):Prop where
 up:e.1=m.1
 tx:e.2.2.2=m.2.2.2
 tk:TK e.2.2.2
 st:∃(k:Nat) (s:φ7),PR k N s e.2.2.1∧k+wait e.2.2.2≤N∧φW s e.2.2.1=(m.2.1,0)∧s.2.2.1=m.2.2.1∧(e.1=true→s=e.2.1)∧(e.1=false→e.2.1=((0,[]),[],0,0,0))
 bt:m.2.2.1≤1+N
theorem RM.ei {N:Nat} {e:EngT} {m:ModT} (h:RM N e m):EI e:=by
 obtain ⟨k,s,h1,_,_,_,h5,h6⟩:=h.st
 refine ⟨fun hu=>by rw[←h5 hu];exact h1.toJR,fun hu=>⟨⟨s,h1.toJR⟩,by rw[h6 hu];simp,by rw[h6 hu];simp⟩,h.tk.tb⟩
theorem RM.fit {N:Nat} {e:EngT} {m:ModT} (h:RM N e m):Fit e:=h.ei.fit
theorem φHg:RM 0 (newE 100000) newM:=by
 refine ⟨rfl,rfl,TK.new,⟨0,((2,[1]),[],1,0,0),φEm,by decide,?_,rfl,fun _=>rfl,fun c=>by simp at c⟩,by decide⟩
 rw[φ2n φEm.ok]
 rfl
theorem φEW {N:Nat} {e:EngT} {m:ModT} (h:RM N e m) (hN:N≤90) (s:φO) (h11:s.1≠11):RM (N+1) (stE e s).1 (stM m s).1∧(stE e s).2=(stM m s).2:=by
 obtain ⟨k,s0,h1,h2,h3,h4,h5,h6⟩:=h.st
 have hup:=h.up
 have c11:(s.1==11)=false:=by simpa using h11
 have hsame:RM (N+1) e m:=⟨h.up,h.tx,h.tk,⟨k,s0,h1.up (κ5 _) (by omega),by omega,h3,h4,h5,h6⟩,by have:=h.bt;omega⟩
 unfold stE stM
 rw[c11]
 cases c10:(s.1==10)
 rotate_left
 ·simp only[cT]
  rw[←hup]
  cases hu:e.1
  ·obtain ⟨t,y,ho,hj,hd,hb,hdm⟩:=φKP h1
   simp only[cF,ho]
   exact ⟨⟨rfl,rfl,TK.new,⟨k,t,hj.up (κ5 _) (by omega),by show k+0≤N+1;omega,hdm.trans h3,hb.trans h4,fun _=>rfl,fun c=>by simp at c⟩,by have:=h.bt;show m.2.2.1≤_;omega⟩,trivial⟩
  ·exact ⟨hsame,rfl⟩
 simp only[cF]
 rw[←hup]
 cases hu:e.1
 ·exact ⟨hsame,rfl⟩
 have hs:=h5 hu
 subst hs
 have hup2:m.1=true:=hup.symm.trans hu
 simp only[nZ,cF]
 cases c7:(s.1==7)
 rotate_left
 ·obtain ⟨m1,m2,m3,m4⟩:=φNV h1 (by omega) (by omega)
  simp only[cT,m1]
  exact ⟨⟨hup2.symm,h.tx,h.tk,⟨k,_,m2,by show k+wait e.2.2.2≤_;omega,m3.trans h3,m4.trans h4,fun _=>rfl,fun c=>by simp at c⟩,by have:=h.bt;omega⟩,trivial⟩
 simp only[cF]
 cases c8:(s.1==8)
 rotate_left
 ·simp only[cT,φH0 h1.ok h3]
  exact ⟨hsame,trivial⟩
 simp only[cF]
 cases c9:(s.1==9)
 rotate_left
 ·simp only[cT]
  exact ⟨⟨rfl,rfl,TK.new,⟨k,_,h1.up (κ5 _) (by omega),by show k+0≤N+1;omega,h3,h4,fun c=>by simp at c,fun _=>rfl⟩,by have:=h.bt;show m.2.2.1≤_;omega⟩,trivial⟩
 simp only[cF]
 unfold sesE
 have e1:getP e.2.1 e.2.2.1=φ1A m.2.1:=funext fun key=>φGS h1.ok h3 key
 have e2:(fun t=>φ3u t e.2.1.2.1)=valM m.2.1:=funext fun t=>φLo h1.ok h3 t
 rw[e1,e2,←h.tx]
 obtain ⟨g1,g2⟩:=φDA (φ1A m.2.1) (valM m.2.1) h.tk s
 generalize sesG (φ1A m.2.1) (valM m.2.1) e.2.2.2 s=g at g1 g2
 obtain ⟨l,a,w⟩:=g
 unfold comE comM
 cases w with
 | none=>
  simp only at g1 g2 ⊢
  exact ⟨⟨hup,rfl,g1,⟨k,_,h1.up (κ5 _) (by omega),by show k+wait l≤_;omega,h3,h4,fun _=>rfl,fun c=>by rw[hu] at c;simp at c⟩,by have:=h.bt;show m.2.2.1≤_;omega⟩,trivial⟩
 | some w=>
  obtain ⟨w1,w2,w3⟩:=g2
  simp only at g1 w3 ⊢
  have hb:=h.bt
  have hkp:φ2s e.2.1.2.1 w=(φ1j m.2.1 w m.2.2.1).length:=φLC (φH0 h1.ok h3) w m.2.2.1
  have hbb:e.2.1.2.2.1=m.2.2.1:=h4
  have hF:φ2T e.2.1 e.2.2.1 w=if w.length=0 then (e.2.1,e.2.2.1,0) else if 20<(φ1j m.2.1 w m.2.2.1).length∨m.2.2.1 > 1000000 then (e.2.1,e.2.2.1,5) else φ1P e.2.1 e.2.2.1 w:=by
   unfold φ2T
   rw[if_neg (by rw[h1.ok,w1];simp),hkp,hbb]
  have hdump:=(φGN h1.toJR w).2.2.1
  by_cases c0:w.length=0
  ·rw[if_pos c0] at hF
   rw[hF,if_pos c0]
   exact ⟨⟨hup,rfl,g1,⟨k,_,h1.up (κ5 _) (by omega),by show k+wait l≤_;omega,h3,h4,fun _=>rfl,fun c=>by rw[hu] at c;simp at c⟩,by show m.2.2.1≤_;omega⟩,rfl⟩
  rw[if_neg c0] at hF
  by_cases c5:20<(φ1j m.2.1 w m.2.2.1).length∨m.2.2.1 > 1000000
  ·rw[if_pos c5] at hF
   rw[hF,if_neg c0,if_pos c5]
   exact ⟨⟨hup,rfl,g1,⟨k,_,h1.up (κ5 _) (by omega),by show k+wait l≤_;omega,h3,h4,fun _=>rfl,fun c=>by rw[hu] at c;simp at c⟩,by show m.2.2.1≤_;omega⟩,rfl⟩
  rw[if_neg c5] at hF
  obtain ⟨p1,p2,p3⟩:=φM1 h1 w1 (by rw[hbb];omega) (by rw[hkp];omega) (by omega) (by omega)
  have hdump:=hdump (by rw[hF];exact p1)
  rw[hF] at hdump
  rw[hF,if_neg c0,if_neg c5,p1]
  refine ⟨⟨hup,rfl,g1,⟨k+(w.length+1),_,p2.up (κ5 _) (by omega),by show k+(w.length+1)+wait l≤_;omega,?_,?_,fun _=>rfl,fun c=>by rw[hu] at c;simp at c⟩,by show m.2.2.1+1≤_;omega⟩,rfl⟩
  ·show φW (φ1P e.2.1 e.2.2.1 w).1 (φ1P e.2.1 e.2.2.1 w).2.1=(φ1j m.2.1 w m.2.2.1,0)
   rw[hdump,h3,hbb]
  ·show (φ1P e.2.1 e.2.2.1 w).1.2.2.1=m.2.2.1+1
   rw[p3,hbb]
theorem φ92:∀(a b:List φO) (m:ModT),runM m (a++b)=((runM (runM m a).1 b).1,(runM m a).2++(runM (runM m a).1 b).2)
 | [],b,m=>rfl
 | s::a,b,m=>by
  show ((runM (stM m s).1 (a++b)).1,(stM m s).2::(runM (stM m s).1 (a++b)).2)=_
  rw[φ92 a b];rfl
theorem φ8h:∀(l:List φO) (m:ModT),(runM m l).2.length=l.length
 | [],_=>rfl
 | s::r,m=>by
  show (_::_).length=_
  rw[lC,φ8h r];rfl
theorem φDU:∀(l:List φO) (N:Nat) (e:EngT) (m:ModT),RM N e m→N+l.length≤90→(∀s∈l,s.1≠11)→(runE e l).2=(runM m l).2
 | [],_,_,_,_,_,_=>rfl
 | s::r,N,e,m,h,hN,h11=>by
  simp only[lC] at hN
  obtain ⟨h1,h2⟩:=φEW h (by omega) s (h11 s κ0)
  have:=φDU r (N+1) _ _ h1 (by omega) fun x hx=>h11 x (mC _ hx)
  show (stE e s).2::(runE (stE e s).1 r).2=(stM m s).2::(runM (stM m s).1 r).2
  rw[h2,this]
theorem φLe (l:List φO) (hl:l.length≤90) (h11:∀s∈l,s.1≠11):∃e acks,ψf.f (100000,-1,l)=some (e,(runM newM l).2,acks,[])∧RM l.length e (runM newM l).1:=by
 have h0:RM 0 (newE 100000) (runM newM (l.take 0)).1:=by rw[List.take_zero];exact φHg
 obtain ⟨acks,k1,k2⟩:=φNC (I:=fun n e=>n≤90∧RM n e (runM newM (l.take n)).1) (l:=l) (by omega) (fun n e h=>h.2.fit) (fun n hn e h=>by
  obtain ⟨h1,h2⟩:=h
  have hs:=h11 _ (gM hn)
  obtain ⟨a1,a2⟩:=φEW h2 h1 l[n] hs
  refine ⟨⟨by omega,?_⟩,(φMd h2.ei l[n]).2.1⟩
  rw[κ3 hn,φ92]
  exact a1) (e:=newE 100000) ⟨by omega,h0⟩
 have ha:=φDU l 0 (newE 100000) newM φHg (by omega) h11
 refine ⟨(runE (newE 100000) l).1,acks,?_,?_⟩
 ·rw[show ((100000:Int),(-1:Int),l)=(((100000:Nat):Int),(-1:Int),l) from rfl,φMC 100000 (by omega) (by omega) l,k1,ha]
 ·have:=k2.2
  rw[κW] at this
  exact this
theorem φIY (l:List Int) (hl:l.length<2 ^ 60):∃x,ψ2O.f l=some x∧x.length≤120∧(∀s∈x,s.1≠11)∧clOk x:=by
 obtain ⟨c,e0,h0⟩:=φJ2 l hl
 obtain ⟨x,c1,e1,h1,h2,h3,_⟩:=φMc h0 60 (by omega)
 have e1:ψ34.f c 60=some (x,c1):=e1
 unfold ψ2O.f
 simp only[e0,e1,bS]
 exact ⟨x,rfl,h1,h2,h3⟩
theorem φKO {x:List φO} (n:Nat) (hn:n≤90) (h1:x.length≤120) (h2:∀s∈x,s.1≠11) (h3:clOk x) :
  ∃l:List φO,(if (x.length:Int) > (n:Int) then x.take n else x)=l∧l.length≤n∧(∀s∈l,s.1≠11)∧∀i s t,l[i]?=some s→l[i+1]?=some t→s.1=9→t.1=10:=by
 by_cases c:(x.length:Int) > (n:Int)
 ·rw[if_pos c]
  refine ⟨_,rfl,by rw[lT];omega,fun s hs=>h2 s (κf hs),fun i s t hs ht e=>?_⟩
  refine φAq x h3 i s t ?_ ?_ e
  ·rw[List.getElem?_take] at hs
   split at hs
   ·exact hs
   ·simp at hs
  ·rw[List.getElem?_take] at ht
   split at ht
   ·exact ht
   ·simp at ht
 ·rw[if_neg c]
  exact ⟨x,rfl,by omega,h2,φAq x h3⟩
theorem φN8 (look:List UInt8→φZ×Int) (val:TxnT→Bool) (l:List TxnT) (s:φO):(sesG look val l s).2.1.2.2=[]:=by
 unfold sesG
 cases φ2X l s
 ·rfl
 cases (s.1==1)
 rotate_left
 ·rfl
 cases (s.1==6)
 rotate_left
 ·rfl
 cases (s.1==2)
 rotate_left
 ·show (getG look l s).2.2.2=[]
  unfold getG
  simp only
  cases φ18 s.2.2.1
  ·rfl
  cases (ownW (rdA zT l s.2.1).2.2 s.2.2.1).2
  ·simp only[nZ,cF]
   cases ((φ1D (rdA zT l s.2.1) s.2.2.1 (look s.2.2.1).1.2.2).2 != 0)<;>rfl
  ·simp only[nZ,cF,cT]
   unfold ownA
   cases (ownW (rdA zT l s.2.1).2.2 s.2.2.1).1.2.1<;>rfl
 cases (s.1==5)
 rotate_left
 ·rfl
 show (putG l s).2.2.2=[]
 unfold putG
 simp only
 cases φ2a (putS s)
 ·rfl
 ·cases (φ2M (rdA zT l s.2.1) (putS s)).2<;>rfl
theorem φNZ {m:ModT} (h:m.2.1.length≤20) (s:φO):(stM m s).1.2.1.length≤20∧(stM m s).2.2.2.length≤20:=by
 unfold stM
 cases (s.1==10)
 rotate_left
 ·cases m.1
  ·exact ⟨h,by simp⟩
  ·exact ⟨h,by simp⟩
 cases (s.1==11)
 rotate_left
 ·exact ⟨h,by simp⟩
 cases m.1
 ·exact ⟨h,by simp⟩
 cases (s.1==7)
 rotate_left
 ·exact ⟨h,by simp⟩
 cases (s.1==8)
 rotate_left
 ·exact ⟨h,by simpa using h⟩
 cases (s.1==9)
 rotate_left
 ·exact ⟨h,by simp⟩
 simp only[nZ,cF]
 have hk:=φN8 (φ1A m.2.1) (valM m.2.1) m.2.2.2 s
 generalize sesG (φ1A m.2.1) (valM m.2.1) m.2.2.2 s=g at hk
 obtain ⟨l,a,w⟩:=g
 simp only at hk
 unfold comM
 cases w with
 | none=>exact ⟨h,by simp[hk]⟩
 | some w=>
  simp only
  split
  ·exact ⟨h,by simp⟩
  ·split
   ·exact ⟨h,by simp⟩
   ·rename_i c
    refine ⟨?_,by simp⟩
    show (φ1j m.2.1 w m.2.2.1).length≤20
    omega
theorem φCl (m:ModT) (g:List TxnT×AnsT×Option (List PutT)):(comM m g).1.2.2.2=g.1∧m.2.2.1≤(comM m g).1.2.2.1∧(comM m g).1.2.2.1≤m.2.2.1+1:=by
 unfold comM
 split
 ·exact ⟨rfl,κH _,by show m.2.2.1≤_;omega⟩
 ·split
  ·exact ⟨rfl,κH _,by show m.2.2.1≤_;omega⟩
  ·split
   ·exact ⟨rfl,κH _,by show m.2.2.1≤_;omega⟩
   ·exact ⟨rfl,by show m.2.2.1≤m.2.2.1+1;omega,κH _⟩
theorem φIM {m:ModT} (h:TK m.2.2.2) (s:φO):TK (stM m s).1.2.2.2∧m.2.2.1≤(stM m s).1.2.2.1∧(stM m s).1.2.2.1≤m.2.2.1+1:=by
 have h0:TK m.2.2.2∧m.2.2.1≤m.2.2.1∧m.2.2.1≤m.2.2.1+1:=⟨h,κH _,by omega⟩
 have hz:TK zTx∧m.2.2.1≤m.2.2.1∧m.2.2.1≤m.2.2.1+1:=⟨TK.new,κH _,by omega⟩
 unfold stM
 cases (s.1==10)
 rotate_left
 ·cases m.1
  ·exact hz
  ·exact h0
 cases (s.1==11)
 rotate_left
 ·exact h0
 cases m.1
 ·exact h0
 cases (s.1==7)
 rotate_left
 ·exact h0
 cases (s.1==8)
 rotate_left
 ·exact h0
 cases (s.1==9)
 rotate_left
 ·exact hz
 simp only[nZ,cF]
 obtain ⟨k1,k2,k3⟩:=φCl m (sesG (φ1A m.2.1) (valM m.2.1) m.2.2.2 s)
 rw[k1]
 exact ⟨(φDA (φ1A m.2.1) (valM m.2.1) h s).1,k2,k3⟩
structure MI (N:Nat) (m:ModT):Prop where
 map:m.2.1.length≤20
 tk:TK m.2.2.2
 lo:1≤m.2.2.1
 hi:m.2.2.1≤1+N
theorem MI.new:MI 0 newM:=⟨by simp,TK.new,κH _,by decide⟩
theorem MI.step {N:Nat} {m:ModT} (h:MI N m) (s:φO):MI (N+1) (stM m s).1:=by
 obtain ⟨k1,k2,k3⟩:=φIM h.tk s
 have h1:=h.lo
 have h2:=h.hi
 exact ⟨(φNZ h.map s).1,k1,by omega,by omega⟩
theorem MI.run:∀(l:List φO) {N:Nat} {m:ModT},MI N m→MI (N+l.length) (runM m l).1
 | [],_,_,h=>h
 | s::r,N,m,h=>by
  have:=MI.run r (h.step s)
  rw[lC,show N+(r.length+1)=N+1+r.length by omega]
  exact this
theorem φ8y (l:List φZ) (key:List UInt8):(∃x∈l,x.1=key∧φ1A l key=(x,0))∨((∀x∈l,x.1≠key)∧φ1A l key=(([],[],0),8)):=by
 unfold φ1A
 cases h:l.find? (fun p=>p.1==key) with
 | none=>exact .inr ⟨fun x hx e=>by have:=List.find?_eq_none.1 h x hx;simp[e] at this,rfl⟩
 | some x=>exact .inl ⟨x,List.mem_of_find?_eq_some h,by simpa using List.find?_some h,rfl⟩
theorem φLU {l:List φZ} (h:srt l) {x y:φZ} (hx:x∈l) (hy:y∈l) (e:x.1=y.1):x=y:=by
 obtain ⟨i,hi,rfl⟩:=List.mem_iff_getElem.1 hx
 obtain ⟨j,hj,rfl⟩:=List.mem_iff_getElem.1 hy
 have:=φC4 h hi hj e
 subst this
 rfl
theorem φKd {l:List φZ} (h:srt l) {x:φZ} (hx:x∈l):φ1A l x.1=(x,0):=by
 rcases φ8y l x.1 with ⟨y,hy,e,k⟩ | ⟨k,_⟩
 ·rw[k,φLU h hy hx e]
 ·exact absurd rfl (k x hx)
theorem φJ1 {l:List φZ} (h:srt l) (w:List PutT) (b:Int) (key:List UInt8) :
  φ1A (φ1j l w b) key=φ1A l key∨(φ1A (φ1j l w b) key).1.2.2=b∨φ1A (φ1j l w b) key=(([],[],0),8):=by
 have hs:=φCD b w h
 rcases φ8y (φ1j l w b) key with ⟨x,hx,e,k⟩ | ⟨_,k⟩
 ·subst e
  have hm:=(φGT b l x w).1 hx
  cases hl:φ3J w x.1 with
  | none=>
   rw[hl] at hm
   exact .inl (by rw[k,φKd h hm])
  | some p=>
   rw[hl] at hm
   right;left
   rw[k]
   show x.2.2=b
   rw[hm.2]
 ·exact .inr (.inr k)
structure WM (m:ModT):Prop where
 srt:srt m.2.1
 lo:1≤m.2.2.1
 bat:∀p∈m.2.1,1≤p.2.2∧p.2.2<m.2.2.1
theorem WM.new:WM newM:=⟨List.Pairwise.nil,κH _,fun p hp=>by simp at hp⟩
def Went (key:List UInt8) (m m':ModT):Prop:=
 m.2.2.1≤m'.2.2.1∧(φ1A m'.2.1 key=φ1A m.2.1 key∨(φ1A m'.2.1 key).1.2.2≥m.2.2.1∨φ1A m'.2.1 key=(([],[],0),8))
theorem Went.refl (key:List UInt8) (m:ModT):Went key m m:=⟨κH _,.inl rfl⟩
theorem Went.trans {key:List UInt8} {m m' m'':ModT} (h:Went key m m') (k:Went key m' m''):Went key m m'':=by
 refine ⟨Int.le_trans h.1 k.1,?_⟩
 rcases k.2 with e | e | e
 ·rw[e];exact h.2
 ·exact .inr (.inl (Int.le_trans h.1 e))
 ·exact .inr (.inr e)
theorem Went.same {key:List UInt8} {m m':ModT} (hm:WM m) (h:Went key m m') (he:(φ1A m'.2.1 key).1.2.2=(φ1A m.2.1 key).1.2.2):φ1A m'.2.1 key=φ1A m.2.1 key:=by
 have hlo:=hm.lo
 rcases h.2 with e | e | e
 ·exact e
 ·exfalso
  rw[he] at e
  rcases φ8y m.2.1 key with ⟨x,hx,_,k⟩ | ⟨_,k⟩
  ·rw[k] at e
   have:=(hm.bat x hx).2
   have e:x.2.2≥m.2.2.1:=e
   omega
  ·rw[k] at e
   have e:(0:Int)≥m.2.2.1:=e
   omega
 ·rw[e] at he
  rcases φ8y m.2.1 key with ⟨x,hx,_,k⟩ | ⟨_,k⟩
  ·rw[k] at he
   have:=(hm.bat x hx).1
   have he:(0:Int)=x.2.2:=he
   omega
  ·rw[e,k]
theorem φAm {m:ModT} (h:WM m) (g:List TxnT×AnsT×Option (List PutT)) (key:List UInt8):WM (comM m g).1∧Went key m (comM m g).1∧(comM m g).1.1=m.1:=by
 have hlo:=h.lo
 unfold comM
 split
 ·exact ⟨⟨h.srt,h.lo,h.bat⟩,⟨κH _,.inl rfl⟩,rfl⟩
 ·rename_i w _
  split
  ·exact ⟨⟨h.srt,h.lo,h.bat⟩,⟨κH _,.inl rfl⟩,rfl⟩
  ·split
   ·exact ⟨⟨h.srt,h.lo,h.bat⟩,⟨κH _,.inl rfl⟩,rfl⟩
   ·refine ⟨⟨φCD _ _ h.srt,by show 1≤m.2.2.1+1;omega,fun p hp=>?_⟩,⟨by show m.2.2.1≤m.2.2.1+1;omega,?_⟩,rfl⟩
    ·have hm:=(φGT m.2.2.1 m.2.1 p w).1 hp
     show 1≤p.2.2∧p.2.2<m.2.2.1+1
     cases hl:φ3J w p.1 with
     | none=>
      rw[hl] at hm
      have:=h.bat p hm
      omega
     | some q=>
      rw[hl] at hm
      have:p.2.2=m.2.2.1:=by rw[hm.2]
      omega
    ·show φ1A (φ1j m.2.1 w m.2.2.1) key=_∨(φ1A (φ1j m.2.1 w m.2.2.1) key).1.2.2≥_∨φ1A (φ1j m.2.1 w m.2.2.1) key=_
     rcases φJ1 h.srt w m.2.2.1 key with e | e | e
     ·exact .inl e
     ·exact .inr (.inl (by rw[e];exact κH _))
     ·exact .inr (.inr e)
structure Kin (key:List UInt8) (t t':TxnT):Prop where
 op:t'.1=t.1
 rows:t'.2.1.filter (fun r=>r.1==key)=t.2.1.filter (fun r=>r.1==key)
 own:ownW t'.2.2 key=ownW t.2.2 key
 len:t.2.1.length≤t'.2.1.length
theorem Kin.refl (key:List UInt8) (t:TxnT):Kin key t t:=⟨rfl,rfl,rfl,κ5 _⟩
theorem Kin.trans {key:List UInt8} {t t' t'':TxnT} (h:Kin key t t') (k:Kin key t' t''):Kin key t t'':=⟨k.op.trans h.op,k.rows.trans h.rows,k.own.trans h.own,κZ h.len k.len⟩
theorem φMo {key k:List UInt8} (hk:k≠key) (t:TxnT) (b:Int):Kin key t (φ1D t k b).1:=by
 have h2:Kin key t (t.1,t.2.1++[(k,b)],t.2.2):=by
  refine ⟨rfl,?_,rfl,?_⟩
  ·show (t.2.1++[(k,b)]).filter _=_
   rw[List.filter_append]
   simp[hk]
  ·show t.2.1.length≤(t.2.1++[(k,b)]).length
   simp
 unfold φ1D
 repeat' split
 all_goals first
  | exact Kin.refl key t
  | exact h2
theorem φJg {key:List UInt8} {p:PutT} (hk:p.1≠key) (t:TxnT):Kin key t (φ2M t p).1:=by
 unfold φ2M
 split
 ·refine ⟨rfl,rfl,?_,κ5 _⟩
  show ownW (t.2.2++[p]) key=_
  rw[φ6e,if_neg hk]
 ·exact Kin.refl key t
def φCO (n:Nat) (key:List UInt8) (s:φO):Prop:=s.2.1≠(n:Int)∨s.1 > 6∨((s.1=2∨s.1=3∨s.1=4)∧s.2.2.1≠key)
theorem φN0 (look:List UInt8→φZ×Int) (val:TxnT→Bool) {l:List TxnT} (hl:l.length=3) (s:φO) {n:Nat} (hn:n<3) {key:List UInt8} (hq:φCO n key s):(sesG look val l s).1.length=3∧Kin key (l.getD n zT) ((sesG look val l s).1.getD n zT):=by
 unfold sesG
 cases hf:φ2X l s
 ·exact ⟨hl,Kin.refl _ _⟩
 obtain ⟨i,hi,h1,hin,hrd,hto,_,k1,k6⟩:=φ6W hl hf
 have hset:∀t:TxnT,(l.set i t).length=3:=fun t=>by rw[List.length_set];exact hl
 -- another session's step
 have other:i≠n→∀t:TxnT,Kin key (l.getD n zT) ((l.set i t).getD n zT):=fun hne t=>by
  rw[List.getD_eq_getElem?_getD,List.getD_eq_getElem?_getD,List.getElem?_set_ne hne]
  exact Kin.refl _ _
 have mine:i=n→∀t:TxnT,Kin key l[i] t→Kin key (l.getD n zT) ((l.set i t).getD n zT):=fun he t k=>by
  subst he
  rw[φB hi,φB (by rw[List.length_set];exact hi),List.getElem_set_self]
  exact k
 have hin2:i=n→(s.1=2∨s.1=3∨s.1=4)∧s.2.2.1≠key:=fun he=>by
  rcases hq with e | e | e
  ·exact absurd (by rw[h1,he]) e
  ·omega
  ·exact e
 have both:∀t:TxnT,(i=n→Kin key l[i] t)→Kin key (l.getD n zT) ((l.set i t).getD n zT):=fun t k=>by
  by_cases he:i=n
  ·exact mine he t (k he)
  ·exact other he t
 simp only[nZ,cF,hto]
 cases c1:(s.1==1)
 rotate_left
 ·have:s.1=1:=by simpa using c1
  exact ⟨hset _,both _ fun he=>by have:=(hin2 he).1;omega⟩
 cases c6:(s.1==6)
 rotate_left
 ·have:s.1=6:=by simpa using c6
  exact ⟨hset _,both _ fun he=>by have:=(hin2 he).1;omega⟩
 cases c2:(s.1==2)
 rotate_left
 ·simp only[cT,cF]
  unfold getG
  simp only[hrd,hto]
  cases φ18 s.2.2.1
  ·exact ⟨hl,Kin.refl _ _⟩
  cases (ownW l[i].2.2 s.2.2.1).2
  ·exact ⟨hset _,both _ fun he=>φMo (hin2 he).2 _ _⟩
  ·exact ⟨hl,Kin.refl _ _⟩
 cases c5:(s.1==5)
 rotate_left
 ·have:s.1=5:=by simpa using c5
  exact ⟨hset _,both _ fun he=>by have:=(hin2 he).1;omega⟩
 simp only[cF]
 unfold putG
 simp only[hrd,hto]
 exact ⟨hset _,both _ fun he=>φJg (p:=putS s) (hin2 he).2 _⟩
theorem φK5 {m:ModT} (hu:m.1=true) (hw:WM m) (hl:m.2.2.2.length=3) {s:φO} (h9:s.1≠9) {n:Nat} (hn:n<3) {key:List UInt8} (hq:φCO n key s) :
  (stM m s).1.1=true∧WM (stM m s).1∧(stM m s).1.2.2.2.length=3∧Went key m (stM m s).1∧Kin key (m.2.2.2.getD n zT) ((stM m s).1.2.2.2.getD n zT):=by
 have h0:m.1=true∧WM m∧m.2.2.2.length=3∧Went key m m∧Kin key (m.2.2.2.getD n zT) (m.2.2.2.getD n zT):=⟨hu,hw,hl,Went.refl _ _,Kin.refl _ _⟩
 have c9:(s.1==9)=false:=by simpa using h9
 unfold stM
 rw[hu,c9]
 cases (s.1==10)
 rotate_left
 ·exact h0
 cases (s.1==11)
 rotate_left
 ·exact h0
 cases (s.1==7)
 rotate_left
 ·exact h0
 cases (s.1==8)
 rotate_left
 ·exact h0
 simp only[nZ,cF]
 obtain ⟨g1,g2⟩:=φN0 (φ1A m.2.1) (valM m.2.1) hl s hn hq
 obtain ⟨a1,a2,a3⟩:=φAm hw (sesG (φ1A m.2.1) (valM m.2.1) m.2.2.2 s) key
 obtain ⟨b1,_,_⟩:=φCl m (sesG (φ1A m.2.1) (valM m.2.1) m.2.2.2 s)
 rw[b1]
 exact ⟨a3.trans hu,a1,g1,a2,g2⟩
theorem φAJ {m:ModT} (hu:m.1=true) {s:φO} (h2:s.1=2):stM m s=comM m (sesG (φ1A m.2.1) (valM m.2.1) m.2.2.2 s):=by
 unfold stM
 rw[hu,h2]
 rfl
theorem φAp {t:TxnT} (ho:t.1=true) {key:List UInt8} (hk:φ18 key=true) (b:Int) :
  φ1D t key b=if (t.2.1.filter fun r=>r.1==key).any (fun r=>!(r.2==b))=true then (t,7) else if (t.2.1.filter fun r=>r.1==key)≠[] then (t,0) else if 20≤t.2.1.length then (t,5) else ((t.1,t.2.1++[(key,b)],t.2.2),0):=by
 unfold φ1D
 rw[if_neg (by rw[ho,hk];simp)]
 have e1:t.2.1.any (fun r=>r.1==key && !(r.2==b))=(t.2.1.filter fun r=>r.1==key).any (fun r=>!(r.2==b)):=by
  rw[List.any_filter]
 have e2:(t.2.1.any (fun r=>r.1==key)=true)=((t.2.1.filter fun r=>r.1==key)≠[]):=by
  apply propext
  rw[List.any_eq_true,ne_eq,List.filter_eq_nil_iff]
  constructor
  ·rintro ⟨x,hx,e⟩ h
   exact h x hx e
  ·intro h
   exact Classical.byContradiction fun k=>h fun x hx e=>k ⟨x,hx,e⟩
 rw[e1]
 split
 ·rfl
 ·by_cases c:(t.2.1.filter fun r=>r.1==key)≠[]
  ·rw[if_pos c,if_pos (by rw[e2];exact c)]
  ·rw[if_neg c,if_neg (by rw[e2];exact c)]
def ansG (t:TxnT) (key:List UInt8) (p:φZ×Int):AnsT:=
 bif !t.1 then (4,[],[]) else bif !φ18 key then (4,[],[]) else bif (ownW t.2.2 key).2 then ownA (ownW t.2.2 key).1 else
 bif (φ1D t key p.1.2.2).2 != 0 then ((φ1D t key p.1.2.2).2,[],[]) else (p.2,p.1.2.1,[])
def φ8r (t:TxnT) (key:List UInt8) (p:φZ×Int):TxnT:=
 bif !t.1 then t else bif !φ18 key then t else bif (ownW t.2.2 key).2 then t else (φ1D t key p.1.2.2).1
theorem φGF {m:ModT} (hu:m.1=true) (hl:m.2.2.2.length=3) {s:φO} (h2:s.1=2) {n:Nat} (hn:n<3) (hs:s.2.1=(n:Int)) :
  (stM m s).2=ansG (m.2.2.2.getD n zT) s.2.2.1 (φ1A m.2.1 s.2.2.1)∧(stM m s).1.2.2.2.getD n zT=φ8r (m.2.2.2.getD n zT) s.2.2.1 (φ1A m.2.1 s.2.2.1):=by
 rw[φAJ hu h2]
 have c1:(s.1==1)=false:=by rw[h2];rfl
 have c6:(s.1==6)=false:=by rw[h2];rfl
 have c2:(s.1==2)=true:=by rw[h2];rfl
 have k1:(s.1 != 1)=true:=by rw[h2];rfl
 have hr:rdA zT m.2.2.2 s.2.1=m.2.2.2.getD n zT:=by rw[hs,φN]
 have g1:φ2X m.2.2.2 s=(m.2.2.2.getD n zT).1:=by
  unfold φ2X
  rw[k1,hr,h2,hs]
  have:decide ((0:Int)≤(n:Int)∧(n:Int)≤2)=true:=by simp;omega
  rw[this]
  simp
 have hto:s.2.1.toNat=n:=by omega
 have hset:∀t:TxnT,(m.2.2.2.set n t).getD n zT=t:=fun t=>by
  rw[φB (by rw[List.length_set];omega),List.getElem_set_self]
 unfold sesG ansG φ8r
 rw[g1]
 cases ho:(m.2.2.2.getD n zT).1
 ·exact ⟨rfl,rfl⟩
 simp only[nZ,cF,c1,c6,c2,cT]
 unfold getG
 rw[hr,hto]
 simp only
 cases φ18 s.2.2.1
 ·exact ⟨rfl,rfl⟩
 simp only[nZ,cF]
 cases (ownW (m.2.2.2.getD n zT).2.2 s.2.2.1).2
 ·simp only[cF,comM,hset,and_self]
 ·exact ⟨rfl,rfl⟩
theorem φFh {m:ModT} (hu:m.1=true) {s:φO} (h2:s.1=2) (hs:¬(0≤s.2.1∧s.2.1≤2)):(stM m s).2=(4,[],[]):=by
 rw[φAJ hu h2]
 have f1:φ2X m.2.2.2 s=false:=by unfold φ2X;simp[hs]
 unfold sesG
 rw[f1]
 rfl
theorem φIQ {t t':TxnT} {key:List UInt8} {p p':φZ×Int} (hp:p'.1.2.2=p.1.2.2→p'=p) (hk:Kin key (φ8r t key p) t') :
  (ansG t' key p').1=7∨(ansG t key p).1=7∨ansG t' key p'=ansG t key p:=by
 unfold ansG φ8r at *
 cases ho:t.1
 ·rw[ho] at hk
  have:t'.1=false:=hk.op.trans ho
  rw[this]
  exact .inr (.inr rfl)
 rw[ho] at hk
 simp only[nZ,cF] at hk ⊢
 cases hkey:φ18 key
 ·rw[hkey] at hk
  have:t'.1=true:=hk.op.trans ho
  rw[this]
  exact .inr (.inr rfl)
 rw[hkey] at hk
 simp only[nZ,cF] at hk ⊢
 cases hown:(ownW t.2.2 key).2
 rotate_left
 ·rw[hown] at hk
  have h1:t'.1=true:=hk.op.trans ho
  have h2:ownW t'.2.2 key=ownW t.2.2 key:=hk.own
  rw[h1,h2,hown]
  exact .inr (.inr rfl)
 rw[hown] at hk
 simp only[cF] at hk ⊢
 have hro:=φAp ho hkey p.1.2.2
 -- the second read
 have second:t'.1=true→(ownW t'.2.2 key).2=false→(φ1D t' key p'.1.2.2).2=7∨((φ1D t' key p'.1.2.2).2=0∧p'=p) →
   (bif !t'.1 then ((4,[],[]):AnsT) else bif (ownW t'.2.2 key).2 then ownA (ownW t'.2.2 key).1 else bif (φ1D t' key p'.1.2.2).2 != 0 then ((φ1D t' key p'.1.2.2).2,[],[]) else (p'.2,p'.1.2.1,[])).1=7 ∨
   (bif !t'.1 then ((4,[],[]):AnsT) else bif (ownW t'.2.2 key).2 then ownA (ownW t'.2.2 key).1 else bif (φ1D t' key p'.1.2.2).2 != 0 then ((φ1D t' key p'.1.2.2).2,[],[]) else (p'.2,p'.1.2.1,[]))=(p.2,p.1.2.1,[]):=by
  intro h1 h2 h3
  rw[h1,h2]
  rcases h3 with e | ⟨e,e2⟩
  ·rw[e];exact .inl rfl
  ·rw[e,e2];exact .inr rfl
 by_cases d1:(t.2.1.filter fun r=>r.1==key).any (fun r=>!(r.2==p.1.2.2))=true
 ·rw[if_pos d1] at hro
  right;left
  rw[hro];rfl
 rw[if_neg d1] at hro
 have hall:∀r∈t.2.1.filter (fun r=>r.1==key),r.2=p.1.2.2:=fun r hr=>by
  have:(t.2.1.filter fun r=>r.1==key).any (fun r=>!(r.2==p.1.2.2))=false:=by simpa using d1
  have:=List.any_eq_false.1 this r hr
  simpa using this
 -- rows of the key that all are of that batch
 have rows:(t'.2.1.filter fun r=>r.1==key)≠[]→(∀r∈t'.2.1.filter (fun r=>r.1==key),r.2=p.1.2.2)→t'.1=true→(φ1D t' key p'.1.2.2).2=7∨((φ1D t' key p'.1.2.2).2=0∧p'=p):=by
  intro hne ha h1
  have hr2:=φAp h1 hkey p'.1.2.2
  by_cases d2:p'.1.2.2=p.1.2.2
  ·have hany:¬(t'.2.1.filter fun r=>r.1==key).any (fun r=>!(r.2==p'.1.2.2))=true:=by
    intro h
    obtain ⟨r,hr,e⟩:=List.any_eq_true.1 h
    rw[ha r hr,d2] at e
    simp at e
   rw[if_neg hany,if_pos hne] at hr2
   exact .inr ⟨by rw[hr2],hp d2⟩
  ·have hany:(t'.2.1.filter fun r=>r.1==key).any (fun r=>!(r.2==p'.1.2.2))=true:=by
    obtain ⟨r,hr⟩:=List.exists_mem_of_ne_nil _ hne
    exact List.any_eq_true.2 ⟨r,hr,by rw[ha r hr];simpa using fun e:p.1.2.2=p'.1.2.2=>d2 e.symm⟩
   rw[if_pos hany] at hr2
   exact .inl (by rw[hr2])
 by_cases d2:(t.2.1.filter fun r=>r.1==key)≠[]
 ·rw[if_pos d2] at hro
  rw[hro] at hk ⊢
  simp only at hk ⊢
  have h1:t'.1=true:=hk.op.trans ho
  have hr:=hk.rows
  have e:=second h1 (by rw[hk.own];exact hown) (rows (by rw[hr];exact d2) (by rw[hr];exact hall) h1)
  exact e.imp id fun k=>.inr k
 rw[if_neg d2] at hro
 have d2:(t.2.1.filter fun r=>r.1==key)=[]:=Classical.not_not.1 d2
 by_cases d3:20≤t.2.1.length
 ·rw[if_pos d3] at hro
  rw[hro] at hk ⊢
  simp only at hk ⊢
  have h1:t'.1=true:=hk.op.trans ho
  have hr2:=φAp h1 hkey p'.1.2.2
  have hlen:=hk.len
  rw[hk.rows,d2,if_neg (by simp),if_neg (by simp),if_pos (by omega)] at hr2
  right;right
  rw[h1,hk.own,hown,hr2]
  rfl
 ·rw[if_neg d3] at hro
  rw[hro] at hk ⊢
  simp only at hk ⊢
  have h1:t'.1=true:=hk.op.trans ho
  have hr:=hk.rows
  have e0:((t.2.1++[(key,p.1.2.2)]).filter fun r=>r.1==key)=[(key,p.1.2.2)]:=by
   rw[List.filter_append,d2]
   simp
  have hr:(t'.2.1.filter fun r=>r.1==key)=[(key,p.1.2.2)]:=hr.trans e0
  have e:=second h1 (by rw[hk.own];exact hown) (rows (by rw[hr];simp) (by rw[hr];intro r hr;rw[mZ.1 hr]) h1)
  exact e.imp id fun k=>.inr k
theorem φKT {m:ModT} (h:WM m) (s:φO):WM (stM m s).1:=by
 have hz:∀b l,WM (b,m.2.1,m.2.2.1,l):=fun b l=>⟨h.srt,h.lo,h.bat⟩
 unfold stM
 cases (s.1==10)
 rotate_left
 ·cases m.1
  ·exact hz _ _
  ·exact h
 cases (s.1==11)
 rotate_left
 ·exact h
 cases m.1
 ·exact h
 cases (s.1==7)
 rotate_left
 ·exact h
 cases (s.1==8)
 rotate_left
 ·exact h
 cases (s.1==9)
 rotate_left
 ·exact hz _ _
 exact (φAm h _ []).1
theorem φEK {m:ModT} (hu:m.1=true) {s:φO} (h9:s.1≠9):(stM m s).1.1=true:=by
 have c9:(s.1==9)=false:=by simpa using h9
 unfold stM
 rw[hu,c9]
 cases (s.1==10)
 rotate_left
 ·exact hu
 cases (s.1==11)
 rotate_left
 ·exact hu
 cases (s.1==7)
 rotate_left
 ·exact hu
 cases (s.1==8)
 rotate_left
 ·exact hu
 simp only[nZ,cF]
 generalize sesG (φ1A m.2.1) (valM m.2.1) m.2.2.2 s=g
 unfold comM
 split
 ·exact hu
 ·split
  ·exact hu
  ·split
   ·exact hu
   ·exact hu
def mAt (l:List φO) (j:Nat):ModT:=(runM newM (l.take j)).1
theorem φ68 {l:List φO} {j:Nat} (h:j<l.length):mAt l (j+1)=(stM (mAt l j) l[j]).1:=by
 unfold mAt
 rw[κ3 h,φ92]
 rfl
theorem φ8X (l:List φO):∀j,j≤l.length→WM (mAt l j)
 | 0,_=>by unfold mAt;rw[List.take_zero];exact WM.new
 | j+1,h=>by rw[φ68 (by omega)];exact φKT (φ8X l j (by omega)) _
theorem φBA (l:List φO) (j:Nat):(mAt l j).2.2.2.length=3:=(MI.run (l.take j) MI.new).tk.1
theorem φDF {l:List φO} {j:Nat} (h:j<l.length) (h2:j<(runM newM l).2.length):(runM newM l).2[j]=(stM (mAt l j) l[j]).2:=by
 have e:l=l.take j++(l[j]::l.drop (j+1)):=by rw[←dG h,κE]
 have hr:(runM newM l).2=(runM newM (l.take j)).2++((stM (mAt l j) l[j]).2::(runM (stM (mAt l j) l[j]).1 (l.drop (j+1))).2):=by
  conv=>lhs;rw[e]
  rw[φ92]
  rfl
 have hlen:(runM newM (l.take j)).2.length=j:=by rw[φ8h,lT];omega
 have:(runM newM l).2[j]?=some (stM (mAt l j) l[j]).2:=by
  rw[hr,List.getElem?_append_right (by omega),hlen,Nat.sub_self]
  rfl
 rw[List.getElem?_eq_getElem h2] at this
 exact Option.some.inj this
def Alt (l:List φO):Prop:=∀i s t,l[i]?=some s→l[i+1]?=some t→s.1=9→t.1=10
theorem φDd {l:List φO} (hc:Alt l):∀j,j≤l.length→(mAt l j).1=true∨∃i,∃h:i<l.length,j=i+1∧l[i].1=9
 | 0,_=>.inl rfl
 | j+1,h=>by
  have hj:j<l.length:=by omega
  by_cases c9:l[j].1=9
  ·exact .inr ⟨j,hj,rfl,c9⟩
  rw[φ68 hj]
  rcases φDd hc j (by omega) with e | ⟨i,hi,e,k⟩
  ·exact .inl (φEK e c9)
  ·subst e
   have c10:=hc i l[i] l[i+1] (List.getElem?_eq_getElem hi) (List.getElem?_eq_getElem hj) k
   left
   unfold stM
   rw[show (l[i+1].1==10)=true by simpa using c10]
   cases hu:(mAt l (i+1)).1
   ·rfl
   ·exact hu
theorem φFs {l:List φO} (hc:Alt l) {j:Nat} (hj:j<l.length) (h2:l[j].1=2):(mAt l j).1=true:=by
 rcases φDd hc j (by omega) with e | ⟨i,hi,e,k⟩
 ·exact e
 ·exfalso
  subst e
  have:=hc i l[i] l[i+1] (List.getElem?_eq_getElem hi) (List.getElem?_eq_getElem hj) k
  omega
def φAA (s z:φO):Prop:=s.1≠9∧(s.2.1≠z.2.1∨s.1 > 6∨((s.1=2∨s.1=3∨s.1=4)∧s.2.2.1≠z.2.2.1))
theorem φNI {l:List φO} (hc:Alt l) {k i:Nat} (hki:k<i) (hi:i<l.length) (hk2:l[k].1=2) (hi2:l[i].1=2) (hs:l[k].2.1=l[i].2.1) (hkey:l[k].2.2.1=l[i].2.2.1)
  (hp:∀j (h:j<l.length),k<j→j<i→φAA l[j] l[i]) :
  (stM (mAt l i) l[i]).2.1=7∨(stM (mAt l k) l[k]).2.1=7∨(stM (mAt l i) l[i]).2=(stM (mAt l k) l[k]).2:=by
 have hk:k<l.length:=by omega
 have u1:=φFs hc hk hk2
 have u2:=φFs hc hi hi2
 by_cases hin:0≤l[i].2.1∧l[i].2.1≤2
 rotate_left
 ·rw[φFh u2 hi2 hin,φFh u1 hk2 (by rw[hs];exact hin)]
  exact .inr (.inr rfl)
 obtain ⟨n,hn⟩:∃n:Nat,l[i].2.1=(n:Int):=⟨l[i].2.1.toNat,by omega⟩
 have hn3:n<3:=by omega
 obtain ⟨a1,a2⟩:=φGF u1 (φBA l k) hk2 hn3 (hs.trans hn)
 obtain ⟨b1,_⟩:=φGF u2 (φBA l i) hi2 hn3 hn
 -- what lies between
 have run:∀d,k+1+d≤i→(mAt l (k+1+d)).1=true∧Went l[i].2.2.1 (mAt l k) (mAt l (k+1+d))∧Kin l[i].2.2.1 ((mAt l (k+1)).2.2.2.getD n zT) ((mAt l (k+1+d)).2.2.2.getD n zT):=by
  intro d
  induction d with
  | zero=>
   intro _
   refine ⟨?_,?_,Kin.refl _ _⟩
   ·show (mAt l (k+1)).1=true
    rw[φ68 hk]
    exact φEK u1 (by omega)
   ·show Went _ (mAt l k) (mAt l (k+1))
    rw[φ68 hk,φAJ u1 hk2]
    exact (φAm (φ8X l k (by omega)) _ _).2.1
  | succ d ih=>
   intro hd
   obtain ⟨q1,q2,q3⟩:=ih (by omega)
   have hj:k+1+d<l.length:=by omega
   obtain ⟨p1,p2⟩:=hp (k+1+d) hj (by omega) (by omega)
   have hq:φCO n l[i].2.2.1 l[k+1+d]:=by
    rcases p2 with e | e | e
    ·exact .inl (by rw[←hn];exact e)
    ·exact .inr (.inl e)
    ·exact .inr (.inr e)
   obtain ⟨z1,z2,z3,z4,z5⟩:=φK5 q1 (φ8X l _ (by omega)) (φBA l _) p1 hn3 hq
   have es:mAt l (k+1+(d+1))=(stM (mAt l (k+1+d)) l[k+1+d]).1:=φ68 hj
   rw[es]
   exact ⟨z1,q2.trans z4,q3.trans z5⟩
 obtain ⟨_,r2,r3⟩:=run (i - (k+1)) (by omega)
 rw[show k+1+(i - (k+1))=i by omega] at r2 r3
 rw[φ68 hk,a2,hkey] at r3
 rw[a1,b1,hkey]
 exact φIQ (fun e=>r2.same (φ8X l k (by omega)) e) r3
theorem φIb {l:List φO} (hc:Alt l) (hl:l.length<1000000) (r:EngT×φ2g) (hr:r.2.1=(runM newM l).2) {i:Nat} (hi:i<l.length) (hi2:l[i].1=2) :
  lp ψ2E.l2 ((l,r,(i:Int),(i:Int) - 1):List φO×(EngT×φ2g)×Int×Int)=some (Sum.inl (l,r,(i:Int))):=by
 have hrl:r.2.1.length=l.length:=by rw[hr,φ8h]
 have key:=φCA (step:=ψ2E.l2) (fun n (_:Unit)=>((l,r,(i:Int),(n:Int) - 1):List φO×(EngT×φ2g)×Int×Int)) (fun _ _=>Sum.inl (l,r,(i:Int))) (fun n _=>n≤i∧∀j (h:j<l.length),n≤j→j<i→φAA l[j] l[i])
  (fun rec n _ hinv ih=>by
   obtain ⟨hn,hp⟩:=hinv
   cases n with
   | zero=>
    have e0:¬(((0:Nat):Int) - 1≥0):=by decide
    simp only[ψ2E.l2,e0,dF,cF]
   | succ k=>
    have hk:k<l.length:=by omega
    have ek:((k+1:Nat):Int) - 1=(k:Int):=by omega
    have e0:(k:Int)≥0:=by omega
    have hw:w64 ((k:Int) - 1)=(k:Int) - 1:=φH (by omega) (by omega)
    have next:φAA l[k] l[i]→rec (l,r,(i:Int),(k:Int) - 1)=some (Sum.inl (l,r,(i:Int))):=fun h=>ih k () rfl ⟨by omega,fun j hj h1 h2=>by
     by_cases e:j=k
     ·subst e;exact h
     ·exact hp j hj (by omega) h2⟩
    rw[ek]
    simp only[ψ2E.l2,e0,dT,cT,φJ,hk,φN,φB hk,hi,φB hi]
    cases c9:(l[k].1==9)
    rotate_left
    ·simp only[cT,bS,φU]
    have n9:l[k].1≠9:=by simpa using c9
    simp only[cF]
    cases cs:(l[k].2.1 != l[i].2.1)
    rotate_left
    ·simp only[cT,bS,φU,hw]
     exact next ⟨n9,.inl (by simpa using cs)⟩
    have es:l[k].2.1=l[i].2.1:=by simpa using cs
    simp only[cF]
    by_cases c6:l[k].1 > 6
    ·simp only[c6,dT,cT,bS,φU,hw]
     exact next ⟨n9,.inr (.inl c6)⟩
    simp only[c6,dF,cF]
    cases c2:(l[k].1 != 2)
    ·-- a read
     have e2:l[k].1=2:=by simpa using c2
     have t2:(l[k].1==2)=true:=by simpa using c2
     simp only[cF,bS,φU,cT,φJ,hk,φN,φB hk,hi,φB hi,dT,t2]
     cases ck:(l[k].2.2.1==l[i].2.2.1)
     ·simp only[cF,bS,φU,hw]
      exact next ⟨n9,.inr (.inr ⟨.inl e2,by simpa using ck⟩)⟩
     ·have ekk:l[k].2.2.1=l[i].2.2.1:=by simpa using ck
      have hir:i<r.2.1.length:=by omega
      have hkr:k<r.2.1.length:=by omega
      have ai:r.2.1[i]=(stM (mAt l i) l[i]).2:=by
       have:=φDF hi (by rw[←hr];exact hir)
       rw[←this]
       congr 1
      have ak:r.2.1[k]=(stM (mAt l k) l[k]).2:=by
       have:=φDF hk (by rw[←hr];exact hkr)
       rw[←this]
       congr 1
      have htw:=φNI hc (show k<i by omega) hi e2 hi2 es ekk (fun j hj h1 h2=>hp j hj (by omega) h2)
      rw[←ai,←ak] at htw
      simp only[cT,hir,hkr,dT,φB hir,φB hkr,φJ,φN]
      cases n7:(r.2.1[i].1 != 7)
      ·simp only[cF,bS,φU]
      cases m7:(r.2.1[k].1 != 7)
      ·simp only[cT,cF,bS,φU]
      have n7:r.2.1[i].1≠7:=by simpa using n7
      have m7:r.2.1[k].1≠7:=by simpa using m7
      have hsame:r.2.1[i]=r.2.1[k]:=by
       rcases htw with e | e | e
       ·exact absurd e n7
       ·exact absurd e m7
       ·exact e
      have q1:(r.2.1[i].1 != r.2.1[k].1)=false:=by rw[hsame];simp
      have q2:(r.2.1[i].2.1==r.2.1[k].2.1)=true:=by rw[hsame];simp
      simp only[cT,q1,q2,nZ,cF,bS,φU]
    ·simp only[cT]
     have e2:(l[k].1==2)=false:=by simpa using c2
     cases c3:(l[k].1 != 3)
     ·have e3:l[k].1=3:=by simpa using c3
      simp only[cF]
      cases ck:(l[k].2.2.1==l[i].2.2.1)
      ·simp only[cF,cT,bS,φU,φJ,hk,φN,φB hk,hi,φB hi,dT,e2,hw]
       exact next ⟨n9,.inr (.inr ⟨.inr (.inl e3),by simpa using ck⟩)⟩
      ·simp only[cT,bS,φU]
     ·simp only[cT]
      cases c4:(l[k].1 != 4)
      ·have e4:l[k].1=4:=by simpa using c4
       simp only[cF]
       cases ck:(l[k].2.2.1==l[i].2.2.1)
       ·simp only[cF,cT,bS,φU,φJ,hk,φN,φB hk,hi,φB hi,dT,e2,hw]
        exact next ⟨n9,.inr (.inr ⟨.inr (.inr e4),by simpa using ck⟩)⟩
       ·simp only[cT,bS,φU]
      ·simp only[cT,bS,φU])
 exact key i () (by omega) ⟨κ5 _,fun j h h1 h2=>by omega⟩
theorem φM3 (x0:List Int) (w0:wfD (.sl false (.int .u8)) x0):ψ2E.f x0=some true:=by
 unfold ψ2E.f
 rw[φJE,bS]
 by_cases cb:(x0.length:Int) > 1048576
 ·simp[cb]
 simp only[cb,dF,cF]
 obtain ⟨x,ex,hx1,hx2,hx3⟩:=φIY x0 (by omega)
 obtain ⟨l,el,hl1,hl2,halt⟩:=φKO (x:=x) 80 (by omega) hx1 hx2 hx3
 have hsel:(bif decide ((x.length:Int) > 80) then bif (decide (0≤(80:Int)) && decide (80≤(x.length:Int))) then some (x.take 80:List φO) else none else some x)=some l:=by
  rw[←el]
  by_cases c:(x.length:Int) > 80
  ·have c2:(decide (0≤(80:Int)) && decide (80≤(x.length:Int)))=true:=by simp;omega
   have c3:(x.length:Int) > ((80:Nat):Int):=c
   rw[if_pos c3]
   simp only[c,dT,cT,c2]
  ·have c3:¬(x.length:Int) > ((80:Nat):Int):=c
   rw[if_neg c3]
   simp only[c,dF,cF]
 simp only[ex,bS]
 rw[hsel]
 obtain ⟨e,acks,p1,r1⟩:=φLe l (by omega) hl2
 have hlen:=φ8h l newM
 have hplain:ψ2G.f l=some (100000,-1,l):=rfl
 have hne:(((runM newM l).2.length:Int) != (l.length:Int))=false:=by rw[hlen];simp
 simp only[bS,hplain,p1,hne,cF]
 have key:=φBp (step:=ψ2E.l0) (fun n (_:Unit)=>((l,(e,(runM newM l).2,acks,[]),(n:Int)):List φO×(EngT×φ2g)×Int)) l.length (fun n _=>True) (fun b=>b=Sum.inl ())
  (fun rec _ _=>⟨_,by simp[ψ2E.l0],rfl⟩)
  (fun rec n _ hn _=>by
   have e0:(n:Int)<(l.length:Int):=by omega
   have hw:=φS (show n+1<9223372036854775808 by omega)
   have hw1:w64 ((n:Int) - 1)=(n:Int) - 1:=φH (by omega) (by omega)
   refine ⟨(),trivial,?_⟩
   simp only[ψ2E.l0,e0,dT,cT,φJ,hn,φN,φB hn,hw1]
   cases c2:(l[n].1 != 2)
   ·have e2:l[n].1=2:=by simpa using c2
    simp only[cF,φIb halt (by omega) (e,(runM newM l).2,acks,[]) rfl hn e2,bS,φU,hw]
   ·simp only[cT,bS,φU,hw])
  () trivial (by omega)
 obtain ⟨b,k,rfl⟩:=key
 have k:lp ψ2E.l0 ((l,(e,(runM newM l).2,acks,[]),0):List φO×(EngT×φ2g)×Int)=some (Sum.inl ()):=k
 rw[k]
 rfl
end Go.Rf.G
